/- Walks. -/
import Derived.Test.YtppnecgeboonbaaGreatDoorZ43
namespace Go.Proofs.YtppnecgeboonbaaGreatDoor
set_option maxRecDepth 100000
set_option linter.all false
set_option maxHeartbeats 100000000
open Go Go.RowKit Go.Maps
structure aEA (m:aQ) (star:Option ak) (x y:List Int) (FN:aAk->Except Nat Bs) (A3:Nat->aAk->Except Nat Bs) (A4:Nat->Nat->aAk->Except Nat Bs) (A5:Nat->Nat->Vec->Nat->aAk->Except Nat Bs):Prop where
 e3:∀i g,i<=x.length->A3 i g=A4 i 0 g
 d3:∀g,A3 (x.length+1) g=FN g
 e4:∀i j g,j<=y.length->A4 i j g=bi (uB m (gAt g i j) star) fun v=>A5 i j v 1 (aBS g i j v)
 d4:∀i g,A4 i (y.length+1) g=A3 (i+1) g
 e5:∀i j v k g,k<=3->A5 i j v k g=bi (aCZ m x y i j v k g) (A5 i j v (k+1))
 d5:∀i j v g,A5 i j v 4 g=A4 i (j+1) g
def aE9(m:aQ)(star:Option ak)(x y:List Int)(FN:aAk->Except Nat Bs) :
  ∃A3 A4 A5,aEA m star x y FN A3 A4 A5/\A3 0 (aC8 m x y)=bi (aCY m star x y (x.length+1) 0 (aC8 m x y)) FN:=by
 refine⟨fun i g=>bi (aCY m star x y (x.length+1-i) i g) FN,fun i j g=>bi (aC6 m star x y i (y.length+1-j) j g) fun g=>bi (aCY m star x y (x.length+1-(i+1)) (i+1) g) FN,
  fun i j v k g=>bi (aDe m x y i j v (4-k) k g) fun g=>bi (aC6 m star x y i (y.length+1-(j+1)) (j+1) g) fun g=>bi (aCY m star x y (x.length+1-(i+1)) (i+1) g) FN,⟨?_,?_,?_,?_,?_,?_⟩,rfl⟩
 ·intro i g hi
  show bi (aCY m star x y (x.length+1-i) i g) FN=_;rw[show x.length+1-i=(x.length+1-(i+1))+1 by omega,aCY,aC5]
  rfl
 ·intro g
  show bi (aCY m star x y (x.length+1-(x.length+1)) (x.length+1) g) FN=_;rw[abx];rfl
 ·intro i j g hj
  show bi (aC6 m star x y i (y.length+1-j) j g) _=_;rw[show y.length+1-j=(y.length+1-(j+1))+1 by omega,aC6,aC5];unfold aDx;rw[aC5]
 ·intro i g
  show bi (aC6 m star x y i (y.length+1-(y.length+1)) (y.length+1) g) _=_;rw[abx];rfl
 ·intro i j v k g hk
  show bi (aDe m x y i j v (4-k) k g) _=_;rw[show 4-k=(4-(k+1))+1 by omega,aDe,aC5]
 ·intro i j v g;rfl
def aDF(n:Nat)(R:Except Nat Vec)(V:Value)(f:Nat)(w':World):Prop:=(f=0/\∃bv l,V=.slice (some ⟨bv,0,none⟩) n n/\R=.ok l/\aZ w' bv l/\dK n l)\/(f≠0/\V=.slice none 0 0/\R=.error f)
def aDs{W w':World}{n:Nat}{R:Except Nat Vec}{e:Ending}(h:sP W n R e w'):Below W W w'/\∃(V:Value) (f:Nat),e=.returned (.tuple #[V,.int .i64 (f:Int)])/\aDF n R V f w':=by
 unfold sP at h;obtain⟨h1,h2⟩:=h;refine⟨h1,?_⟩
 cases R with
 |ok l=>obtain⟨b,h3,h4,-,h5⟩:=h2;exact⟨_,0,h3,aam ⟨rfl,b,l,rfl,rfl,h4,h5⟩⟩
 |error x=>exact⟨_,x,h2.1,aad ⟨h2.2,rfl,rfl⟩⟩
def aEY{W w':World}{n:Nat}{R:Except Nat Vec}{e:Ending}(h:zz W n R e w'):Below W W w'/\∃(V:Value) (f:Nat),e=.returned (.tuple #[V,.int .i64 (f:Int)])/\aDF n R V f w':=by
 unfold zz at h;obtain⟨h1,h2⟩:=h;refine⟨h1,?_⟩
 cases R with
 |ok l=>obtain⟨b,h3,h4,h5⟩:=h2;exact⟨_,0,h3,aam ⟨rfl,b,l,rfl,rfl,h4,h5⟩⟩
 |error x=>exact⟨_,x,h2.1,aad ⟨h2.2,rfl,rfl⟩⟩
def aE1{W w':World}{n:Nat}{R:Except Nat (Option ak)}{e:Ending}(h:ER W n R e w'):Below W W w'/\∃(V:Value) (f:Nat),e=.returned (.tuple #[V,.int .i64 (f:Int)])/\((f=0/\∃star,R=.ok star/\nH w' n V star)\/(f≠0/\R=.error f)):=by
 unfold ER at h;obtain⟨h1,h2⟩:=h;refine⟨h1,?_⟩
 cases R with
 |ok o=>obtain⟨V,h3,h4⟩:=MQ h2;exact⟨V,0,h3,aam ⟨rfl,o,rfl,h4⟩⟩
 |error x=>exact⟨_,x,h2.1,aad ⟨h2.2,rfl⟩⟩
def aDg{f:Nat}(h:f≠0):((f:Int) != 0)=true/\((f:Int)==0)=false:=by constructor<;>simp<;>omega
def aDh{f:Nat}(h:f=0):((f:Int) != 0)=false/\((f:Int)==0)=true:=by subst h;constructor<;>rfl
def c4x{W W':World}{B b:Nat}{x y z u:Value}(h:Below B W W')(hb:b<B)(q:W.cell? ⟨b,0,none⟩=some x/\W.cell? ⟨b,1,none⟩=some y/\W.cell? ⟨b,2,none⟩=some z/\W.cell? ⟨b,3,none⟩=some u):W'.cell? ⟨b,0,none⟩=some x/\W'.cell? ⟨b,1,none⟩=some y/\W'.cell? ⟨b,2,none⟩=some z/\W'.cell? ⟨b,3,none⟩=some u:=
 ⟨(h.cell hb).trans q.1,(h.cell hb).trans q.2.1,(h.cell hb).trans q.2.2.1,(h.cell hb).trans q.2.2.2⟩
section
variable {P:Program} {l r:List Oper} {o:Oper} {Q:Exit->Act->World->Prop} {R:World->Prop} {k:Nat} {fuel:Nat} {listed:Array Bool} {a:Act} {w:World}
def rdc(i:Nat)(h:∀K':Act->World->Prop,Shut (∀a w,((listed.setIfInBounds i true).getD k true=false->R w)->wpAnyS P .any l.toArray Q k R fuel (listed.setIfInBounds i true) a w->K' a w)->Oper.wp P o a w K' Q)
  (hr:Region.ready .any l.toArray listed=[i]:=by kernel_rfl) (hd:l.drop i=o::r:=by rfl) (hw:Region.wanted o (yielded l.toArray a.tmps)=true:=by rfl):wpAnyS P .any l.toArray Q k R (fuel+1) listed a w:=
 dw [i] hr (by simp) (bL i hd (fun K hK=>by rw[aaa hw];exact h K hK) bS.nil)
end
def aEB(R:Except Nat Bs)(e:Ending):Prop:=match R with
 |.ok x=>e=.returned (.tuple #[S x,.int .i64 0])/\x.length<=802
 |.error x=>e=.returned (.tuple #[.string ⟨#[]⟩,.int .i64 x])/\x≠0
def aFa{W w':World}{R:Except Nat Bs}{e:Ending}(h:qN W R e w'):Below W W w'/\∃(T:ByteArray) (f:Nat),e=.returned (.tuple #[.string T,.int .i64 (f:Int)])/\aEB R e:=by
 unfold qN at h;obtain⟨h1,h2⟩:=h
 cases R with
 |ok x=>exact⟨h1,⟨x.toArray⟩,0,h2.1,h2⟩
 |error x=>exact⟨h1,⟨#[]⟩,x,h2.1,h2⟩
abbrev WtS(bm ba I J b n r v:Nat)(k s:Int)(Ld:ByteArray)(A:Option Addr)(c:Nat)(w0 wx:World):Prop:=
 wx.cell? ⟨ba,I,none⟩=some (.slice (some ⟨r,0,none⟩) (b+1) (b+1))/\wx.cell? ⟨r,J,none⟩=some (.slice (some ⟨v,0,none⟩) n n)/\wx.cell? ⟨bm,0,none⟩=some (.int .i64 k)/\wx.cell? ⟨bm,1,none⟩=some (.int .i64 s)/\wx.cell? ⟨bm,2,none⟩=some (.string Ld)/\wx.cell? ⟨bm,3,none⟩=some (.slice A n c)/\Below w0 w0 wx
def aF5{bm ba I J b n r v:Nat}{k s:Int}{Ld:ByteArray}{A:Option Addr}{c:Nat}{w0 wx:World}(x:WtS bm ba I J b n r v k s Ld A c w0 w0)(h:Below w0 w0 wx):WtS bm ba I J b n r v k s Ld A c w0 wx:=
 have f {p:Addr} {u:Value} (e:w0.cell? p=some u):wx.cell? p=some u:=(h.cell (ax e)).trans e
 ⟨f x.1,f x.2.1,f x.2.2.1,f x.2.2.2.1,f x.2.2.2.2.1,f x.2.2.2.2.2.1,h⟩
def aEp(m:aQ)(A AX AY:Option Addr)(c cx cy:Nat)(x y:List Int)(w:World)(hV:dY w A m.states)(hl:m.states.length<=140737488355328)(Uu:m.lead.length<=9223372036854775807)(hsw:oH 9223372036854775807 m.states)(hX:ay w AX (x.map IV))(hY:ay w AY (y.map IV)) :
  Calls Tryz.prog 32 #[di m A c,.slice AX x.length cx,.slice AY y.length cy] w (qN w (aC9 m x y)):=by
 have pV:=fun W h=>yL m A c W h hl Uu hsw
 have pW:=fun W h=>DT AX cx x W h
 have pU:=fun W h=>DT AY cy y W h
 have HV:=Pd hV;have HX:=Pd hX;have HY:=Pd hY;obtain⟨FN,hFN⟩:∃FN:aAk->Except Nat Bs,FN=fun g=>lH m.kind m.states (gAt g x.length y.length) (aF m.kind):=⟨_,rfl⟩
 have HD:Hid (aC9 m x y=if bM m=true/\iY x=true/\iY y=true then bi (qy m false) fun star=>bi (aCY m star x y (x.length+1) 0 (aC8 m x y)) FN else .error 1):=by rw[hFN];rfl
 have pF:bM m=true->∀W bv v,dY W A m.states->aZ W bv v->dK m.states.length v->∀g,gAt g x.length y.length=v->Calls Tryz.prog 67 #[di m A c,.slice (some ⟨bv,0,none⟩) m.states.length m.states.length] W (qN W (FN g)):=fun hm W bv v h0 h1 h2 g hg=>by
  subst hg;rw[hFN];exact Lm m A c bv m.states.length _ W hm h0 h1 h2
 have pS:bM m=true->∀W,dY W A m.states->_:=fun hm W h=>L8 Rv m A c false W hm h fun _ _=>trivial
 have pZ:bM m=true->∀W,_:=fun hm W=>wu m A c W (kV.1 hm).2.1.1 (kV.1 hm).2.1.2.1
 have pR:bM m=true->∀W bv v sv star,aZ W bv v->dK m.states.length v->nH W m.states.length sv star->_:=fun hm W bv v sv star h1 h2 h3=>LX m A c bv v sv star W (kV.1 hm).2.1.1 (kV.1 hm).2.1.2.1 h1 h2 h3
 have pT:bM m=true->∀W bv v inn out,dY W A m.states->aZ W bv v->dK m.states.length v->_:=fun hm W bv v inn out h0 h1 h2=>Me m A c bv m.states.length v inn out false W hm h0 h1 h2
 have pQ:bM m=true->∀W B C a b,aZ W B a->aZ W C b->dK m.states.length a->dK m.states.length b->_:=fun hm W B C a b h1 h2 h3 h4=>aE0 m.kind B C m.states.length m.states.length m.states.length a b W h1 h2 h3 h4 (kV.1 hm).2.1.2.1
 have pM:=aE9 m;have hlead:bM m=true->m.lead.length<=802/\0<=m.start/\m.start<m.states.length/\1<=m.states.length/\m.states.length<=3000:=fun hm=>⟨wC (kV.1 hm).2.2.1,(kV.1 hm).2.1.2.2.1,(kV.1 hm).2.1.2.2.2,(kV.1 hm).2.1.1,(kV.1 hm).2.1.2.1⟩
 have hxl:iY x=true->x.length<=200:=fun h=>by unfold iY at h;simp at h;exact h.1
 have hyl:iY y=true->y.length<=200:=fun h=>by unfold iY at h;simp at h;exact h.1
 generalize aC9 m x y=R at*;clear hFN hV hX hY hsw hl Uu;by_cases WO:bM m=true/\iY x=true/\iY y=true
 ·have HD2:=Pd (HD.out.trans (aaa WO))
  obtain⟨gm,gx,gy⟩:=WO;rw[gm]at pV;rw[gx]at pW;rw[gy]at pU;have pF:=pF gm;have pS:=pS gm;have pZ:=pZ gm;have pR:=pR gm;have pT:=pT gm;have pQ:=pQ gm;obtain⟨hld,hs0,hs1,hn1,hn2⟩:=hlead gm;have hxl:=hxl gx;have hyl:=hyl gy;clear HD hlead gm gx gy;obtain⟨Ld,TJ⟩:∃Ld:ByteArray,S m.lead=.string Ld:=⟨_,rfl⟩;obtain⟨n,hn⟩:∃n,m.states.length=n:=⟨_,rfl⟩;have hmv:di m A c=.agg #[.int .i64 m.kind,.int .i64 m.start,.string Ld,.slice A n c]:=by unfold di;rw[TJ,hn]
  simp only[hmv,hn]at pV pF pS pZ pR pT pQ hs1 hn1 hn2;rw[hmv];have HN:=Pd hn;have HLD:=Pd TJ;clear hn TJ hmv;have z0:=az w #[.int .i64 m.kind,.int .i64 m.start,.string Ld,.slice A n c] 30 0 _ rfl;have z1:=az w #[.int .i64 m.kind,.int .i64 m.start,.string Ld,.slice A n c] 30 1 _ rfl;have z2:=az w #[.int .i64 m.kind,.int .i64 m.start,.string Ld,.slice A n c] 30 2 _ rfl;have z3:=az w #[.int .i64 m.kind,.int .i64 m.start,.string Ld,.slice A n c] 30 3 _ rfl;have hb0:Below w w (w.alloc (.cells #[.int .i64 m.kind,.int .i64 m.start,.string Ld,.slice A n c] 30)):=(aac _ _).alloc (Pe _) _;have hn0:w.heap.size<(w.alloc (.cells #[.int .i64 m.kind,.int .i64 m.start,.string Ld,.slice A n c] 30)).heap.size:=by simp
  have pV0:=pV _ (HV.out.below hb0);obtain⟨a,ha⟩:∃a,x.length=a:=⟨_,rfl⟩;obtain⟨b,hb⟩:∃b,y.length=b:=⟨_,rfl⟩;rw[ha]at hxl;rw[hb]at hyl;have a0:(0:Int)<=(a:Int):=by omega
  have a1:(a:Int)<=200:=by omega
  have b0:(0:Int)<=(b:Int):=by omega
  have b1:(b:Int)<=200:=by omega
  simp only[ha]at pW;simp only[hb]at pU;have HA:=Pd ha;have HB:=Pd hb;rw[ha,hb];clear ha hb pV;go_enter Tryz.func32,Tryz.ntmps32;go_upto_region 3 with(first|(go_at_call 28;refine pV0.mono ?_;rintro e w1 ⟨rfl,hb1⟩;have bB:=ae hb0 hb1)|(go_at_call_of 27 (Value.slice AX a cx);refine(pW _ (HX.out.below bB)).mono ?_;rintro e w2 ⟨rfl,rfl⟩)|(go_at_call 27;refine(pU _ (HY.out.below bB)).mono ?_;rintro e w3 ⟨rfl,rfl⟩;have r0:=(hb1.cell (p:=⟨w.heap.size,0,none⟩) hn0).trans z0;have r1:=(hb1.cell (p:=⟨w.heap.size,1,none⟩) hn0).trans z1;have r2:=(hb1.cell (p:=⟨w.heap.size,2,none⟩) hn0).trans z2;have r3:=(hb1.cell (p:=⟨w.heap.size,3,none⟩) hn0).trans z3;have hnw:=aah hn0 hb1.size;have pS1:=pS _ (HV.out.below bB)))
  clear z0 z1 z2 z3 pV0 pW pU hb0 hn0 hb1;go_upto_region 4 with(first|(go_at_call 62;refine pS1.mono ?_;intro e W hr;obtain⟨hbW,sv,f,rfl,hsv⟩:=aE1 hr))
  have hBW:=ae bB hbW;have q0:=(hbW.cell (p:=⟨w.heap.size,0,none⟩) hnw).trans r0;have q1:=(hbW.cell (p:=⟨w.heap.size,1,none⟩) hnw).trans r1;have q2:=(hbW.cell (p:=⟨w.heap.size,2,none⟩) hnw).trans r2;have q3:=(hbW.cell (p:=⟨w.heap.size,3,none⟩) hnw).trans r3;have hnW:=aah hnw hbW.size;clear r0 r1 r2 r3 pS1 pS hr bB hbW hnw;rcases hsv with⟨hf,star,hsl,hst⟩|⟨hf,hsl⟩
  rotate_left
  ·have HZ:Hid (R=.error f):=by rw[Hid,HD2.out,hsl];rfl
   obtain⟨f1,f2⟩:=aDg hf;have HF:=Pd hf;clear hsl HD2 hf pF pZ pR pT pQ pM;go_wp2_with fail;go_returns;refine⟨hBW,?_⟩;rw[HZ.out];exact⟨rfl,HF.out⟩
  obtain⟨A3,A4,A5,hT,hA3⟩:=pM star x y FN;have HT:=Pd hT;have HJ0:Hid (R=A3 0 (aC8 m x y)):=by rw[Hid,HD2.out,hsl,hA3];rfl
  have HST:=Pd hst;have HVW:=Pd (HV.out.below hBW);have HXW:=Pd (HX.out.below hBW);have HYW:=Pd (HY.out.below hBW);obtain⟨f1,f2⟩:=aDh hf;clear hsl HD2 hf pM hT hA3 hst HV HX HY;have hmk:=aEV (a+1) (by omega);have aFG:=BU (b+1) (by omega);have ea:((a:Int)+1)=((a+1:Nat):Int):=by push_cast;rfl
  have eb:((b:Int)+1)=((b+1:Nat):Int):=by push_cast;rfl
  rw[<-ea]at hmk;rw[<-eb]at aFG;clear ea eb;have a2:(0:Int)<=(a:Int)+1:=by omega
  have b2:(0:Int)<=(b:Int)+1:=by omega
  go_upto_region 7 with(fail)
  have hI0:=aCO.start (m:=m) (a:=a) (b:=b) W (fun _=>0) (fun _ _=>0) W.heap.size (Pe _);have hB0:Below W W (W.alloc (.cells (Array.replicate (a+1) (.slice none 0 0)) 108)):=(aac _ _).alloc (Pe _) _;obtain⟨ba,VK⟩:∃ba,ba=W.heap.size:=⟨_,rfl⟩;have hbaW:W.heap.size<=ba:=aeS VK.symm;have hnb:w.heap.size<ba:=by omega
  rw[<-VK]at hI0 ⊢;have HI0:=Pd hI0;clear hI0 hmk;generalize W.alloc (.cells (Array.replicate (a+1) (.slice none 0 0)) 108)=W1 at*;have hbs:∀wr,Below W W wr->ba<=wr.heap.size:=fun wr h=>by have:=h.size;omega
  have HBS:=Pd hbs;clear VK hbs;have d9:(1:Int)<=((b+1:Nat):Int):=by omega
  go_wp2_with fail
  go_loopw [11] (fun i wr=>∃(I:Nat) (rb:Nat->Nat) (vb:Nat->Nat->Nat),i=.int .i64 I/\I<=a+1/\Below W W wr/\Hid (aCO m ba a b ba I (b+1) rb vb wr)) (fun i _=>a+1-(intOf i).toNat)
  case atStart=>exact⟨0,_,_,rfl,by omega,hB0,HI0.out⟩
  case round=>
   clear hB0 HI0;obtain⟨I,rb,vb,rfl,hI,hBr,HG⟩:=hrel;by_cases hlt:I<=a
   ·have i0:(0:Int)<=(I:Int):=by omega
    have i1:(I:Int)<=(a:Int):=(by omega);have i2:(I:Int)<((a+1:Nat):Int):=(by omega);have i3:(I:Int)<(a:Int)+1:=by omega
    have aFv:=HG.out.base.lt;have n1:wr.cell? ⟨ba,I,none⟩=some (.slice none 0 0):=by
     have:=HG.out.base.cell (aC4 (show I<a+1 by omega));rwa[aab (Nat.lt_irrefl _)]at this
    have n2:=HG.out.base.free I;have hal:Below wr wr (wr.alloc (.cells (Array.replicate (b+1) (.slice none 0 0)) 22)):=(aac _ _).alloc (Pe _) _;have m1:=(hal.cell (p:=⟨ba,I,none⟩) aFv).trans n1;have m2:=(hal.frozen (p:=⟨ba,I,none⟩) aFv).trans n2;have hN:=HG.out.newrow hlt (HBS.out wr hBr);unfold RV at hN;rw[World.setCell_alloc_past _ _ _ _ aFv]at hN;have HN1:=Pd hN;have hB2:Below W W ((wr.alloc (.cells (Array.replicate (b+1) (.slice none 0 0)) 22)).setCell ⟨ba,I,none⟩ (.slice (some ⟨wr.heap.size,0,none⟩) (b+1) (b+1))):=(ae hBr hal).setCell (p:=⟨ba,I,none⟩) hbaW _;rw[World.setCell_alloc_past _ _ _ _ aFv]at hB2;clear hN n1 n2 hal;generalize (fun i=>if i=I then wr.heap.size else rb i)=rb2 at*;go_upto_region 11 with(fail)
    generalize (wr.setCell ⟨ba,I,none⟩ (.slice (some ⟨wr.heap.size,0,none⟩) (b+1) (b+1))).alloc (.cells (Array.replicate (b+1) (.slice none 0 0)) 22)=w4 at*;clear m1 m2 aFv aFG HG hBr;go_wp2_with fail
    go_loopw [12] (fun j wr=>∃(J:Nat) (vb2:Nat->Nat->Nat),j=.int .i64 J/\J<=b+1/\Below W W wr/\Hid (aCO m ba a b ba (I+1) J rb2 vb2 wr)) (fun j _=>b+1-(intOf j).toNat)
    case atStart=>exact⟨0,_,rfl,by omega,hB2,HN1.out⟩
    case round=>
     clear hB2 HN1;obtain⟨J,vb2,rfl,hJ,hBr,HG⟩:=hrel;by_cases aFp:J<=b
     ·have j0:(0:Int)<=(J:Int):=by omega
      have j1:(J:Int)<=(b:Int):=(by omega);have j2:(J:Int)<((b+1:Nat):Int):=(by omega);have j3:(J:Int)<(b:Int)+1:=by omega
      have c1:wr.cell? ⟨ba,I,none⟩=some (.slice (some ⟨rb2 I,0,none⟩) (b+1) (b+1)):=by
       have:=HG.out.base.cell (aC4 (show I<a+1 by omega));rwa[aaa (aci _)]at this
      have hrow:=HG.out.row I (aci _);rw[aaa rfl]at hrow;have n1:wr.cell? ⟨rb2 I,J,none⟩=some (.slice none 0 0):=by
       have:=hrow.cell (aC4 (show J<b+1 by omega));rwa[aab (Nat.lt_irrefl _)]at this
      have n2:=hrow.free J;have hrl:=hrow.lt;obtain⟨s0,s1,s2,s3⟩:=c4x hBr hnW ⟨q0,q1,q2,q3⟩;have hnr:=aah hnW hBr.size;have hbr:=HG.out.base.lt;have hlo:=(HG.out.lr I (aci _)).1;have aF9:=HBS.out wr hBr;clear hrow;go_wp2_with fail;refine zh 8 (fun w'=>w'.cell? ⟨ba,I,none⟩=some (.slice (some ⟨rb2 I,0,none⟩) (b+1) (b+1))/\w'.cell? ⟨w.heap.size,0,none⟩=some (.int .i64 m.kind)/\w'.cell? ⟨w.heap.size,1,none⟩=some (.int .i64 m.start)/\w'.cell? ⟨w.heap.size,2,none⟩=some (.string Ld)/\w'.cell? ⟨w.heap.size,3,none⟩=some (.slice A n c)) (by kernel_rfl) ?_;have hS:wr.drew.cell? ⟨ba,I,none⟩=some (.slice (some ⟨rb2 I,0,none⟩) (b+1) (b+1))/\wr.drew.cell? ⟨w.heap.size,0,none⟩=some (.int .i64 m.kind)/\wr.drew.cell? ⟨w.heap.size,1,none⟩=some (.int .i64 m.start)/\wr.drew.cell? ⟨w.heap.size,2,none⟩=some (.string Ld)/\wr.drew.cell? ⟨w.heap.size,3,none⟩=some (.slice A n c):=⟨c1,s0,s1,s2,s3⟩;have HG5:=Pd (HG.out.below ((aac _ wr).drew));have TS:Below W W wr.drew:=hBr.drew;have hd:wr.drew.heap.size=wr.heap.size:=rfl;rw[<-hd]at hrl hnr hbr aF9;change wr.drew.cell? ⟨rb2 I,J,none⟩=_ at n1;change wr.drew.frozen? ⟨rb2 I,J,none⟩=_ at n2;clear hd HG hBr c1 s0 s1 s2 s3;generalize wr.drew=w5 at*;refine takeC 0 ?_;(try simp only[qO]);refine takeC 1 ?_;(try simp only[qO]);refine takeC 2 ?_;(try simp only[qO]);refine takeC 3 ?_;(try simp only[qO]);refine takeC 4 ?_;(try simp only[qO]);refine takeC 5 ?_;(try simp only[qO]);refine rdc 6 fun K hK=>?_
      go_simp
      refine(pZ _).mono ?_;rintro e w6 ⟨vn,rfl,hv,hvl,hb6⟩;go_wp2_with fail;replace hS:w6.cell? ⟨ba,I,none⟩=some (.slice (some ⟨rb2 I,0,none⟩) (b+1) (b+1))/\w6.cell? ⟨w.heap.size,0,none⟩=some (.int .i64 m.kind)/\w6.cell? ⟨w.heap.size,1,none⟩=some (.int .i64 m.start)/\w6.cell? ⟨w.heap.size,2,none⟩=some (.string Ld)/\w6.cell? ⟨w.heap.size,3,none⟩=some (.slice A n c):=⟨(hb6.cell (p:=⟨ba,I,none⟩) hbr).trans hS.1,(hb6.cell (p:=⟨w.heap.size,0,none⟩) hnr).trans hS.2.1,(hb6.cell (p:=⟨w.heap.size,1,none⟩) hnr).trans hS.2.2.1,(hb6.cell (p:=⟨w.heap.size,2,none⟩) hnr).trans hS.2.2.2.1,(hb6.cell (p:=⟨w.heap.size,3,none⟩) hnr).trans hS.2.2.2.2⟩;refine hK.out _ _ (fun _=>hS) ?_;clear hK K
      try simp only[qO]
      refine takeC 7 ?_;(try simp only[qO]);have HG7:=Pd (HG5.out.put aFp hb6 hv hvl aF9);rw[HN.out]at HG7;unfold RV at HG7;have Vl:Below W W (w6.setCell ⟨rb2 I,J,none⟩ (.slice (some ⟨vn,0,none⟩) n n)):=(ae TS hb6).setCell (p:=⟨rb2 I,J,none⟩) (by show W.heap.size<=rb2 I;omega) _;have k1:=(hb6.cell (p:=⟨rb2 I,J,none⟩) hrl).trans n1;have k2:=(hb6.frozen (p:=⟨rb2 I,J,none⟩) hrl).trans n2;refine rdc 8 fun K hK=>?_
      go_simp
      refine hK.out _ _ (fun h=>by cases h) ?_;clear hK K;refine l8 (by kernel_rfl) ?_ _;clear n1 n2 k1 k2 hS HG5 TS hv;go_wp2_with fail;go_roundw
      case rel=>exact⟨J+1,_,by go_num,by omega,Vl,HG7.out⟩
      case measure=>simp[intOf];omega
     ·obtain rfl:J=b+1:=by omega
      have j1:(b:Int)<((b+1:Nat):Int):=(by omega);go_wp2_with fail;go_roundw
      case rel=>exact⟨I+1,rb2,vb2,by go_num,by omega,hBr,HG.out⟩
      case measure=>simp[intOf];omega
   ·obtain rfl:I=a+1:=by omega
    have i1:(a:Int)<((a+1:Nat):Int):=by omega
    have c1:wr.cell? ⟨ba,0,none⟩=some (.slice (some ⟨rb 0,0,none⟩) (b+1) (b+1)):=by
     have:=HG.out.base.cell (aC4 (show 0<a+1 by omega));rwa[aaa (aeU _)]at this
    have hrow:=HG.out.row 0 (aeU _);have e9:(if 0+1=a+1 then b+1 else b+1)=b+1:=by split<;>rfl
    rw[e9]at hrow;have c2:wr.cell? ⟨rb 0,0,none⟩=some (.slice (some ⟨vb 0 0,0,none⟩) n n):=by
     have:=hrow.cell (aC4 (show 0<b+1 by omega));rw[aaa (aeU _),HN.out]at this;exact this
    have hv0:=(HG.out.vec 0 0 (aeU _) (fun _=>aeU _) (aaS _));obtain⟨ov,ho⟩:∃ov,wr.cell? ⟨vb 0 0,m.start.toNat,none⟩=some ov:=⟨_,hv0.1.cell (j:=m.start.toNat) (by rw[(wR m).1,HN.out];omega)⟩;have hfz:=hv0.1.free m.start.toNat;have hvlo:=hv0.2.1;have HG4:=Pd (HG.out.lead HA.out HB.out hld);rw[HLD.out,HN.out]at HG4;have hB4:Below W W (wr.setCell ⟨vb 0 0,m.start.toNat,none⟩ (.string Ld)):=hBr.setCell (p:=⟨vb 0 0,m.start.toNat,none⟩) (by show W.heap.size<=vb 0 0;omega) _;have s1:=(hBr.cell (p:=⟨w.heap.size,1,none⟩) hnW).trans q1;have s2:=(hBr.cell (p:=⟨w.heap.size,2,none⟩) hnW).trans q2;have a5:(0:Int)<(a:Int)+1:=by omega
    have b5:(0:Int)<(b:Int)+1:=(by omega);clear hrow e9 hv0 HG hBr aFG;go_wp2_with fail;refine zh 10 (fun w'=>w'.cell? ⟨ba,0,none⟩=some (.slice (some ⟨rb 0,0,none⟩) (b+1) (b+1))/\w'.cell? ⟨rb 0,0,none⟩=some (.slice (some ⟨vb 0 0,0,none⟩) n n)/\w'.cell? ⟨w.heap.size,1,none⟩=some (.int .i64 m.start)/\w'.cell? ⟨w.heap.size,2,none⟩=some (.string Ld)) (by kernel_rfl) ?_;have hS:wr.drew.cell? ⟨ba,0,none⟩=some (.slice (some ⟨rb 0,0,none⟩) (b+1) (b+1))/\wr.drew.cell? ⟨rb 0,0,none⟩=some (.slice (some ⟨vb 0 0,0,none⟩) n n)/\wr.drew.cell? ⟨w.heap.size,1,none⟩=some (.int .i64 m.start)/\wr.drew.cell? ⟨w.heap.size,2,none⟩=some (.string Ld):=⟨c1,c2,s1,s2⟩;change wr.drew.cell? ⟨vb 0 0,m.start.toNat,none⟩=_ at ho;change wr.drew.frozen? ⟨vb 0 0,m.start.toNat,none⟩=_ at hfz;replace hB4:Below W W (wr.drew.setCell ⟨vb 0 0,m.start.toNat,none⟩ (.string Ld)):=hB4.drew;replace HG4:Hid (aB0 n ba a b ba rb vb (aC8 m x y) (wr.drew.setCell ⟨vb 0 0,m.start.toNat,none⟩ (.string Ld))):=Pd (HG4.out.below ((aac _ (wr.setCell ⟨vb 0 0,m.start.toNat,none⟩ (.string Ld))).drew));clear c1 c2 s1 s2;generalize wr.drew=w5 at*;refine takeC 0 ?_;(try simp only[qO]);refine takeC 1 ?_;(try simp only[qO]);refine takeC 2 ?_;(try simp only[qO]);refine takeC 3 ?_;(try simp only[qO]);refine takeC 4 ?_;(try simp only[qO]);refine takeC 5 ?_;(try simp only[qO]);refine takeC 6 ?_;(try simp only[qO]);refine takeC 7 ?_;(try simp only[qO]);refine takeC 8 ?_;(try simp only[qO]);refine takeC 9 ?_;(try simp only[qO]);refine rdc 10 fun K hK=>?_
    go_simp
    refine hK.out _ _ (fun h=>by cases h) ?_;clear hK K;refine l8 (by kernel_rfl) ?_ _;clear ho hfz hS a5 b5 i1 hvlo hlt hI;go_wp2_with fail;generalize w5.setCell ⟨vb 0 0,m.start.toNat,none⟩ (.string Ld)=w6 at*
    go_loopw [13] (fun i wr=>∃(I:Nat) (vb:Nat->Nat->Nat) (g:aAk),i=.int .i64 I/\I<=a+1/\Below W W wr/\Hid (aB0 n ba a b ba rb vb g wr)/\Hid (R=A3 I g)) (fun i _=>a+1-(intOf i).toNat)
    case atStart=>exact⟨0,_,_,rfl,by omega,hB4,HG4.out,HJ0.out⟩
    case round=>
     clear hB4 HG4 HJ0;obtain⟨I,vb,g,rfl,hI,hBr,HG,HJ⟩:=hrel;by_cases hlt:I<=a
     ·have i0:(0:Int)<=(I:Int):=by omega
      have i1:(I:Int)<=(a:Int):=(by omega);have i3:(I:Int)<(a:Int)+1:=(by omega);have HJ2:Hid (R=A4 I 0 g):=by rw[Hid,HJ.out];exact HT.out.e3 I g (by rw[HA.out];exact hlt)
      clear HJ;go_wp2_with fail
      go_loopw [14] (fun j wr=>∃(J:Nat) (vb:Nat->Nat->Nat) (g:aAk),j=.int .i64 J/\J<=b+1/\Below W W wr/\Hid (aB0 n ba a b ba rb vb g wr)/\Hid (R=A4 I J g)) (fun j _=>b+1-(intOf j).toNat)
      case atStart=>exact⟨0,vb,g,rfl,by omega,hBr,HG.out,HJ2.out⟩
      case round=>
       clear hBr HG HJ2;obtain⟨J,vb,g,rfl,hJ,hBr,HG,HJ⟩:=hrel;by_cases aFp:J<=b
       ·have j0:(0:Int)<=(J:Int):=by omega
        have j1:(J:Int)<=(b:Int):=(by omega);have j3:(J:Int)<(b:Int)+1:=(by omega);have HJ2:Hid (R=bi (uB m (gAt g I J) star) fun v=>A5 I J v 1 (aBS g I J v)):=by rw[Hid,HJ.out];exact HT.out.e4 I J g (by rw[HB.out];exact aFp)
        clear HJ;have c1:=HG.out.c1 hlt;have c2:=HG.out.c2 hlt aFp;obtain⟨s0,s1,s2,s3⟩:=c4x hBr hnW ⟨q0,q1,q2,q3⟩;have hnr:=aah hnW hBr.size;have hbr:=HG.out.base.lt;have hrl:=(HG.out.row I hlt).lt;have mk:∀wx,Below wr wr wx->WtS w.heap.size ba I J b n (rb I) (vb I J) m.kind m.start Ld A c wr wx:=fun wx h=>aF5 ⟨c1,c2,s0,s1,s2,s3,aac _ _⟩ h
        have z9:=mk _ ((aac _ wr).drew);have kC:∀wx wy,WtS w.heap.size ba I J b n (rb I) (vb I J) m.kind m.start Ld A c wr wx->Below wx wx wy->WtS w.heap.size ba I J b n (rb I) (vb I J) m.kind m.start Ld A c wr wy:=fun wx wy h hb=>mk _ (ae h.2.2.2.2.2.2 hb)
        have kD:∀wx,WtS w.heap.size ba I J b n (rb I) (vb I J) m.kind m.start Ld A c wr wx->WtS w.heap.size ba I J b n (rb I) (vb I J) m.kind m.start Ld A c wr wx.drew:=fun wx h=>mk _ h.2.2.2.2.2.2.drew
        have hvv:=HG.out.vec I J hlt aFp;have pq:∀wx,WtS w.heap.size ba I J b n (rb I) (vb I J) m.kind m.start Ld A c wr wx->Calls Tryz.prog 64 #[.agg #[.int .i64 m.kind,.int .i64 m.start,.string Ld,.slice A n c],.slice (some ⟨vb I J,0,none⟩) n n,sv] wx fun e w'=>Below wx wx w'/\∃(V:Value) (f:Nat),e=.returned (.tuple #[V,.int .i64 (f:Int)])/\aDF n (uB m (gAt g I J) star) V f w':=fun wx h=>
         (pR wx (vb I J) (gAt g I J) sv star (hvv.1.below h.2.2.2.2.2.2) hvv.2 (HST.out.below ((hBr.trans (h.2.2.2.2.2.2.mono hBr.size))))).mono fun e w' h=>aEY h
        clear mk hvv s0 s1 s2 s3 c1 c2;go_wp2_with fail
        go_region_held3 (fun wx=>WtS w.heap.size ba I J b n (rb I) (vb I J) m.kind m.start Ld A c wr wx)
         (first|assumption|exact z9|exact kC _ _ (by assumption) (by assumption)|exact kD _ (by assumption))
         (first|(go_at_call 64;refine(pq _ (by assumption)).mono ?_;rintro e wy ⟨hby,V,f,rfl,hU⟩))
        have hz:Below wr wr wy:=by
         have h:WtS w.heap.size ba I J b n (rb I) (vb I J) m.kind m.start Ld A c wr wy:=(by assumption);exact h.2.2.2.2.2.2
        have hBy:=ae hBr hz;clear kC kD pq z9;rcases hU with⟨hf,bv,l,rfl,hRl,hvl,hnl⟩|⟨hf,rfl,hRl⟩
        rotate_left
        ·have HZ:Hid (R=.error f):=by rw[Hid,HJ2.out,hRl];rfl
         obtain⟨f1,f2⟩:=aDg hf;have HF:=Pd hf;clear hRl HJ2 hf;go_wp2_with fail;go_returns;refine⟨ae hBW hBy,?_⟩;rw[HZ.out];exact⟨rfl,HF.out⟩
        have HJ3:Hid (R=A5 I J l 1 (aBS g I J l)):=by rw[Hid,HJ2.out,hRl];rfl
        obtain⟨f1,f2⟩:=aDh hf;have HGy:=HG.out.below hz;have k0:=HGy.c1 hlt;have k1:=HGy.c2 hlt aFp;have k2:=(HGy.row I hlt).free J;have hlo:=(HGy.lr I hlt).1;have HG8:=Pd (HGy.put hlt aFp hvl hnl);have hv8:aZ (wy.setCell ⟨rb I,J,none⟩ (.slice (some ⟨bv,0,none⟩) n n)) bv l:=hvl.upW ((df.of_below (aac _ _)).set J _) (fun e=>absurd ((e ▸ hvl).not_blk (HGy.row I hlt)) (by decide));have hB8:Below W W (wy.setCell ⟨rb I,J,none⟩ (.slice (some ⟨bv,0,none⟩) n n)):=hBy.setCell (p:=⟨rb I,J,none⟩) (by show W.heap.size<=rb I;omega) _;have HV8:=Pd hv8;clear hRl HJ2 hf HGy HG hBr hz hBy hvl hv8 hlo hrl hbr hnr;go_wp2_with fail;generalize wy.setCell ⟨rb I,J,none⟩ (.slice (some ⟨bv,0,none⟩) n n)=w8 at*;clear k0 k1 k2
        go_loopw [17] (fun k wr=>∃(K:Nat) (vb:Nat->Nat->Nat) (g:aAk),k=.int .i64 K/\1<=K/\K<=4/\Below W W wr/\Hid (aB0 n ba a b ba rb vb g wr)/\Hid (aZ wr bv l)/\Hid (R=A5 I J l K g)) (fun k _=>4-(intOf k).toNat)
        case atStart=>exact⟨1,_,_,rfl,by omega,by omega,hB8,HG8.out,HV8.out,HJ3.out⟩
        case round=>
         clear hB8 HG8 HV8 HJ3;obtain⟨K,vb,g,rfl,hK1,hK4,hBr,HG,HVL,HJ⟩:=hrel;by_cases hK:K<=3
         ·rcases(show K=1\/K=2\/K=3 by omega)with rfl|rfl|rfl
          ·as_aux_lemma=>
           have nb:bits BinOp.and IntKind.i64 1 1=1:=(by decide);have HE:Hid (R=bi (aCZ m x y I J l 1 g) (A5 I J l 2)):=by rw[Hid,HJ.out];exact HT.out.e5 I J l 1 g (by omega)
           clear HJ;by_cases hin:I+1<=a/\J+0<=b
           rotate_left
           ·have HS:Hid (R=A5 I J l 2 g):=by
             rw[Hid,HE.out];unfold aCZ;rw[aaa (by rw[HA.out,HB.out];omega)]
             rfl
            clear HE;have x1:(a:Int)<(I:Int)+1:=by omega
            go_wp2_with fail;go_roundw
            case rel=>exact⟨2,vb,g,by go_num,by omega,by omega,hBr,HG.out,HVL.out,HS.out⟩
            case measure=>simp[intOf]
           obtain⟨hin1,hin2⟩:=hin;have x1:decide ((a:Int)<(I:Int)+1)=false:=aai (by omega);have x2:decide ((b:Int)<(J:Int))=false:=aai (by omega);have x4:decide (b<J)=false:=aai (by omega);have HS:Hid (R=bi (rU m l (x.getD I 0) 0 false) fun s=>bi (aCs m.kind (gAt g (I+1) (J+0)) s) fun u=>A5 I J l 2 (aBS g (I+1) (J+0) u)):=by
            rw[Hid,HE.out];unfold aCZ;rw[aab (by rw[HA.out,HB.out];omega),aC5];congr 1;funext s;rw[aC5]
            rfl
           clear HE;have hIx:I<x.length:=by rw[HA.out];omega
           obtain⟨bx,ox,hAX,hbx,hcx⟩:=DI HXW.out hIx;subst hAX;have hgx:x.getD I 0=x[I]:=by rw[aaf,aak hIx];rfl
           rw[hgx]at HS;unfold IV at hcx;have y1:=(hBr.cell (p:=⟨bx,ox+I,none⟩) hbx).trans hcx;clear hgx hcx;generalize x[I]=sx at*;have x5:(I:Int)<(a:Int):=by omega
           obtain⟨Q,hQ⟩:∃Q,I+1=Q:=⟨_,rfl⟩;have HQ:=Pd hQ;rw[hQ]at HS;have wq:IntKind.i64.wrap ((I:Int)+1)=(Q:Int):=by rw[<-hQ,acY];omega
           have q5:(0:Int)<=(Q:Int):=(by omega);have q6:(Q:Int)<(a:Int)+1:=(by omega);have q7:Q<=a:=(by omega);clear hQ;have wp:IntKind.i64.wrap (J:Int)=(J:Int):=by rw[acY];omega
           have p7:J<=b:=aFp;simp only[abw]at HS;have c0:=(hBr.cell (p:=⟨w.heap.size,0,none⟩) hnW).trans q0;have c1:=(hBr.cell (p:=⟨w.heap.size,1,none⟩) hnW).trans q1;have c2:=(hBr.cell (p:=⟨w.heap.size,2,none⟩) hnW).trans q2;have c3:=(hBr.cell (p:=⟨w.heap.size,3,none⟩) hnW).trans q3;have pt:=(pT wr bv l sx 0 (HVW.out.below hBr) HVL.out hnl).mono fun e w' h=>aDs h
           go_upto_region 37 with(first|(go_at_call 65;refine pt.mono ?_;rintro e w9 ⟨Xv,V,f,rfl,hU⟩))
           clear c0 c1 c2 c3 pt x1 x2;rcases hU with⟨hf,b2,l2,rfl,hRl,hv2,hn2⟩|⟨hf,rfl,hRl⟩
           rotate_left
           ·have HZ:Hid (R=.error f):=by rw[Hid,HS.out,hRl];rfl
            obtain⟨f1,f2⟩:=aDg hf;have HF:=Pd hf;clear hRl HS hf;go_wp2_with fail;go_returns;refine⟨ae hBW (ae hBr Xv),?_⟩;rw[HZ.out];exact⟨rfl,HF.out⟩
           have HS2:Hid (R=bi (aCs m.kind (gAt g Q J) l2) fun u=>A5 I J l 2 (aBS g Q J u)):=by rw[Hid,HS.out,hRl];rfl
           obtain⟨f1,f2⟩:=aDh hf;have HG9:=Pd (HG.out.below Xv);have aFn:=Pd (HVL.out.below Xv);have V8:=ae hBr Xv;clear hRl HS hf HG HVL hBr Xv;have m0:=HG9.out.c1 q7;have m1:=HG9.out.c2 q7 p7;have m2:=(HG9.out.row Q q7).free J;have aFj:=HG9.out.base.lt;have hrl:=(HG9.out.row Q q7).lt;have hlo:=(HG9.out.lr Q q7).1;have hnr:=aah hnW V8.size;obtain⟨s0,s1,s2,s3⟩:=c4x V8 hnW ⟨q0,q1,q2,q3⟩;have hvv:=HG9.out.vec Q J q7 p7;go_upto_region 39 with(fail)
           go_cut [23] from 121 to 196 (fun e wx=>∃(f:Nat),e=.int .i64 f/\Below W W wx/\((f≠0/\Hid (R=.error f))\/(f=0/\∃(vb:Nat->Nat->Nat) (g:aAk),Hid (aB0 n ba a b ba rb vb g wx)/\Hid (aZ wx bv l)/\Hid (R=A5 I J l 2 g))))
           case first=>
            refine zh 28 (fun w'=>WtS w.heap.size ba Q J b n (rb Q) (vb Q J) m.kind m.start Ld A c w9 w') (by kernel_rfl) ?_;have mk:∀wx,Below w9 w9 wx->WtS w.heap.size ba Q J b n (rb Q) (vb Q J) m.kind m.start Ld A c w9 wx:=fun wx h=>aF5 ⟨m0,m1,s0,s1,s2,s3,aac _ _⟩ h
            have hS:=mk _ ((aac _ w9).drew);have hbd:Below w9 w9 w9.drew:=(aac _ w9).drew;clear s0 s1 s2 s3 aFj hnr;generalize hwd:w9.drew=wd at*;clear hwd;refine takeC 0 ?_;(try simp only[qO]);refine takeC 1 ?_;(try simp only[qO]);refine takeC 2 ?_;(try simp only[qO]);refine takeC 3 ?_;(try simp only[qO]);refine takeC 4 ?_;(try simp only[qO]);refine takeC 5 ?_;(try simp only[qO]);refine takeC 6 ?_;(try simp only[qO]);refine takeC 7 ?_;(try simp only[qO]);refine takeC 8 ?_;(try simp only[qO]);refine takeC 9 ?_;(try simp only[qO]);refine takeC 10 ?_;(try simp only[qO]);refine takeC 11 ?_;(try simp only[qO]);refine takeC 12 ?_;(try simp only[qO]);refine takeC 13 ?_;(try simp only[qO]);refine takeC 14 ?_;(try simp only[qO]);refine takeC 15 ?_;(try simp only[qO]);refine takeC 16 ?_;(try simp only[qO]);refine takeC 17 ?_;(try simp only[qO]);refine takeC 18 ?_;(try simp only[qO]);refine takeC 19 ?_;(try simp only[qO]);refine takeC 20 ?_;(try simp only[qO]);refine takeC 21 ?_;(try simp only[qO]);refine takeC 22 ?_;(try simp only[qO]);refine rdc 23 fun K hK=>?_
            go_simp
            refine(pQ wd (vb Q J) b2 (gAt g Q J) l2 (hvv.1.below hbd) (hv2.below hbd) hvv.2 hn2).mono ?_;intro e wy hq;obtain⟨aFo,V,f,rfl,hU⟩:=aDs hq;go_wp2_with fail;replace hS:=mk _ (ae hbd aFo);refine hK.out _ _ (fun _=>hS) ?_;clear hK K hq
            try simp only[qO]
            refine takeC 24 ?_;(try simp only[qO]);refine takeC 25 ?_;(try simp only[qO]);refine takeC 27 ?_;(try simp only[qO]);have hz:=ae hbd aFo;have hBy:=ae V8 hz;have k1:=(hz.cell (p:=⟨rb Q,J,none⟩) hrl).trans m1;have k2:=(hz.frozen (p:=⟨rb Q,J,none⟩) hrl).trans m2;have HGy:=HG9.out.below hz;have aFk:=aFn.out.below hz;have U8:∀v,Below W W (wy.setCell ⟨rb Q,J,none⟩ v):=fun v=>hBy.setCell (p:=⟨rb Q,J,none⟩) (by show W.heap.size<=rb Q;omega) _
            have aFm:Hid (∀v,V=v->((f≠0/\Hid (R=.error f))\/(f=0/\∃(vb:Nat->Nat->Nat) (g:aAk),Hid (aB0 n ba a b ba rb vb g (wy.setCell ⟨rb Q,J,none⟩ v))/\Hid (aZ (wy.setCell ⟨rb Q,J,none⟩ v) bv l)/\Hid (R=A5 I J l 2 g)))):=by
             intro v hv;subst hv;rcases hU with⟨hf,b3,l3,rfl,hRl,hv3,X9⟩|⟨hf,rfl,hRl⟩
             ·exact aad ⟨hf,_,_,HGy.put q7 p7 hv3 X9,aFk.upW ((df.of_below (aac _ _)).set J _) (fun e=>absurd ((e ▸ aFk).not_blk (HGy.row Q q7)) (by decide)),by rw[Hid,HS2.out,hRl];rfl⟩
             ·exact aam ⟨hf,by rw[Hid,HS2.out,hRl];rfl⟩
            have hVc:∃P n,V=.slice P n n:=by
             rcases hU with⟨hf,b3,l3,rfl,-⟩|⟨hf,rfl,-⟩
             ·exact⟨_,_,rfl⟩
             ·exact⟨_,0,rfl⟩
            obtain⟨PV,nV,rfl⟩:=hVc;clear hU HGy aFk HS2 m0 m1 m2 mk hbd hv2 hvv hz hrl hlo;refine dw [26,28] (by kernel_rfl) (by simp) (bL 26 rfl (fun K hK=>?_) (bL 28 rfl (fun K hK=>?_) bS.nil))
            all_goals
             rw[aaa (by rfl)]
             go_simp
             first
              |(refine hK.out _ _ (fun _=>hS) ?_;clear hK K;(try simp only[qO]);refine rdc 28 fun K hK=>?_)
              |(refine hK.out _ _ (fun h=>by cases h) ?_;clear hK K;(try simp only[qO]);refine rdc 26 fun K hK=>?_)
             go_simp
             refine hK.out _ _ (fun h=>by cases h) ?_;clear hK K
             try simp only[qO]
             refine rdc 29 fun K hK=>?_
             go_simp
             refine hK.out _ _ (fun h=>by cases h) ?_;clear hK K;refine l8 (by kernel_rfl) ?_ _;go_wp2_with fail
             go_meet
             exact⟨f,rfl,U8 _,aFm.out _ rfl⟩
           case rest=>
            obtain⟨f,rfl,U9,hres⟩:=hcut;clear m0 m1 m2 aFj hrl hlo hnr s0 s1 s2 s3 hvv hv2 HG9 aFn HS2 V8;rcases hres with⟨hf,HZ⟩|⟨hf,vb3,g3,HG3,aFt,HJ3⟩
            ·obtain⟨f1,f2⟩:=aDg hf
             have HF:=Pd hf;clear hf;go_wp2_with fail;go_returns;refine⟨ae hBW U9,?_⟩;rw[HZ.out];exact⟨rfl,HF.out⟩
            ·obtain⟨f1,f2⟩:=aDh hf
             clear hf;go_wp2_with fail;go_roundw
             case rel=>exact⟨2,vb3,g3,by go_num,by omega,by omega,U9,HG3.out,aFt.out,HJ3.out⟩
             case measure=>simp[intOf]
          ·as_aux_lemma=>
           have nb:bits BinOp.and IntKind.i64 2 1=0:=(by decide);have HE:Hid (R=bi (aCZ m x y I J l 2 g) (A5 I J l 3)):=by rw[Hid,HJ.out];exact HT.out.e5 I J l 2 g (by omega)
           clear HJ;by_cases hin:I+0<=a/\J+1<=b
           rotate_left
           ·have HS:Hid (R=A5 I J l 3 g):=by
             rw[Hid,HE.out];unfold aCZ;rw[aaa (by rw[HA.out,HB.out];omega)]
             rfl
            clear HE;have x1:decide ((a:Int)<(I:Int))=false:=aai (by omega);have x3:decide (a<I)=false:=aai (by omega);have x2:(b:Int)<(J:Int)+1:=by omega
            go_wp2_with fail;go_roundw
            case rel=>exact⟨3,vb,g,by go_num,by omega,by omega,hBr,HG.out,HVL.out,HS.out⟩
            case measure=>simp[intOf]
           obtain⟨hin1,hin2⟩:=hin;have x1:decide ((a:Int)<(I:Int))=false:=aai (by omega);have x3:decide (a<I)=false:=aai (by omega);have x2:decide ((b:Int)<(J:Int)+1)=false:=aai (by omega);have HS:Hid (R=bi (rU m l 0 (y.getD J 0) false) fun s=>bi (aCs m.kind (gAt g (I+0) (J+1)) s) fun u=>A5 I J l 3 (aBS g (I+0) (J+1) u)):=by
            rw[Hid,HE.out];unfold aCZ;rw[aab (by rw[HA.out,HB.out];omega),aC5];congr 1;funext s;rw[aC5]
            rfl
           clear HE;have wq:IntKind.i64.wrap (I:Int)=(I:Int):=by rw[acY];omega
           have q7:I<=a:=hlt;simp only[abw]at HS;have hJy:J<y.length:=by rw[HB.out];omega
           obtain⟨by_,oy,hAY,hby,hcy⟩:=DI HYW.out hJy;subst hAY;have hgy:y.getD J 0=y[J]:=by rw[aaf,aak hJy];rfl
           rw[hgy]at HS;unfold IV at hcy;have y2:=(hBr.cell (p:=⟨by_,oy+J,none⟩) hby).trans hcy;clear hgy hcy;generalize y[J]=sy at*;have x6:(J:Int)<(b:Int):=by omega
           obtain⟨P,hP⟩:∃P,J+1=P:=⟨_,rfl⟩;have HP:=Pd hP;rw[hP]at HS;have wp:IntKind.i64.wrap ((J:Int)+1)=(P:Int):=by rw[<-hP,acY];omega
           have p5:(0:Int)<=(P:Int):=(by omega);have p6:(P:Int)<(b:Int)+1:=(by omega);have p7:P<=b:=(by omega);clear hP;have c0:=(hBr.cell (p:=⟨w.heap.size,0,none⟩) hnW).trans q0;have c1:=(hBr.cell (p:=⟨w.heap.size,1,none⟩) hnW).trans q1;have c2:=(hBr.cell (p:=⟨w.heap.size,2,none⟩) hnW).trans q2;have c3:=(hBr.cell (p:=⟨w.heap.size,3,none⟩) hnW).trans q3;have pt:=(pT wr bv l 0 sy (HVW.out.below hBr) HVL.out hnl).mono fun e w' h=>aDs h
           go_upto_region 37 with(first|(go_at_call 65;refine pt.mono ?_;rintro e w9 ⟨Xv,V,f,rfl,hU⟩))
           clear c0 c1 c2 c3 pt x1 x2;rcases hU with⟨hf,b2,l2,rfl,hRl,hv2,hn2⟩|⟨hf,rfl,hRl⟩
           rotate_left
           ·have HZ:Hid (R=.error f):=by rw[Hid,HS.out,hRl];rfl
            obtain⟨f1,f2⟩:=aDg hf;have HF:=Pd hf;clear hRl HS hf;go_wp2_with fail;go_returns;refine⟨ae hBW (ae hBr Xv),?_⟩;rw[HZ.out];exact⟨rfl,HF.out⟩
           have HS2:Hid (R=bi (aCs m.kind (gAt g I P) l2) fun u=>A5 I J l 3 (aBS g I P u)):=by rw[Hid,HS.out,hRl];rfl
           obtain⟨f1,f2⟩:=aDh hf;have HG9:=Pd (HG.out.below Xv);have aFn:=Pd (HVL.out.below Xv);have V8:=ae hBr Xv;clear hRl HS hf HG HVL hBr Xv;have m0:=HG9.out.c1 q7;have m1:=HG9.out.c2 q7 p7;have m2:=(HG9.out.row I q7).free P;have aFj:=HG9.out.base.lt;have hrl:=(HG9.out.row I q7).lt;have hlo:=(HG9.out.lr I q7).1;have hnr:=aah hnW V8.size;obtain⟨s0,s1,s2,s3⟩:=c4x V8 hnW ⟨q0,q1,q2,q3⟩;have hvv:=HG9.out.vec I P q7 p7;go_upto_region 39 with(fail)
           go_cut [23] from 121 to 196 (fun e wx=>∃(f:Nat),e=.int .i64 f/\Below W W wx/\((f≠0/\Hid (R=.error f))\/(f=0/\∃(vb:Nat->Nat->Nat) (g:aAk),Hid (aB0 n ba a b ba rb vb g wx)/\Hid (aZ wx bv l)/\Hid (R=A5 I J l 3 g))))
           case first=>
            refine zh 28 (fun w'=>WtS w.heap.size ba I P b n (rb I) (vb I P) m.kind m.start Ld A c w9 w') (by kernel_rfl) ?_;have mk:∀wx,Below w9 w9 wx->WtS w.heap.size ba I P b n (rb I) (vb I P) m.kind m.start Ld A c w9 wx:=fun wx h=>aF5 ⟨m0,m1,s0,s1,s2,s3,aac _ _⟩ h
            have hS:=mk _ ((aac _ w9).drew);have hbd:Below w9 w9 w9.drew:=(aac _ w9).drew;clear s0 s1 s2 s3 aFj hnr;generalize hwd:w9.drew=wd at*;clear hwd;refine takeC 0 ?_;(try simp only[qO]);refine takeC 1 ?_;(try simp only[qO]);refine takeC 2 ?_;(try simp only[qO]);refine takeC 3 ?_;(try simp only[qO]);refine takeC 4 ?_;(try simp only[qO]);refine takeC 5 ?_;(try simp only[qO]);refine takeC 6 ?_;(try simp only[qO]);refine takeC 7 ?_;(try simp only[qO]);refine takeC 8 ?_;(try simp only[qO]);refine takeC 9 ?_;(try simp only[qO]);refine takeC 10 ?_;(try simp only[qO]);refine takeC 11 ?_;(try simp only[qO]);refine takeC 12 ?_;(try simp only[qO]);refine takeC 13 ?_;(try simp only[qO]);refine takeC 14 ?_;(try simp only[qO]);refine takeC 15 ?_;(try simp only[qO]);refine takeC 16 ?_;(try simp only[qO]);refine takeC 17 ?_;(try simp only[qO]);refine takeC 18 ?_;(try simp only[qO]);refine takeC 19 ?_;(try simp only[qO]);refine takeC 20 ?_;(try simp only[qO]);refine takeC 21 ?_;(try simp only[qO]);refine takeC 22 ?_;(try simp only[qO]);refine rdc 23 fun K hK=>?_
            go_simp
            refine(pQ wd (vb I P) b2 (gAt g I P) l2 (hvv.1.below hbd) (hv2.below hbd) hvv.2 hn2).mono ?_;intro e wy hq;obtain⟨aFo,V,f,rfl,hU⟩:=aDs hq;go_wp2_with fail;replace hS:=mk _ (ae hbd aFo);refine hK.out _ _ (fun _=>hS) ?_;clear hK K hq
            try simp only[qO]
            refine takeC 24 ?_;(try simp only[qO]);refine takeC 25 ?_;(try simp only[qO]);refine takeC 27 ?_;(try simp only[qO]);have hz:=ae hbd aFo;have hBy:=ae V8 hz;have k1:=(hz.cell (p:=⟨rb I,P,none⟩) hrl).trans m1;have k2:=(hz.frozen (p:=⟨rb I,P,none⟩) hrl).trans m2;have HGy:=HG9.out.below hz;have aFk:=aFn.out.below hz;have U8:∀v,Below W W (wy.setCell ⟨rb I,P,none⟩ v):=fun v=>hBy.setCell (p:=⟨rb I,P,none⟩) (by show W.heap.size<=rb I;omega) _
            have aFm:Hid (∀v,V=v->((f≠0/\Hid (R=.error f))\/(f=0/\∃(vb:Nat->Nat->Nat) (g:aAk),Hid (aB0 n ba a b ba rb vb g (wy.setCell ⟨rb I,P,none⟩ v))/\Hid (aZ (wy.setCell ⟨rb I,P,none⟩ v) bv l)/\Hid (R=A5 I J l 3 g)))):=by
             intro v hv;subst hv;rcases hU with⟨hf,b3,l3,rfl,hRl,hv3,X9⟩|⟨hf,rfl,hRl⟩
             ·exact aad ⟨hf,_,_,HGy.put q7 p7 hv3 X9,aFk.upW ((df.of_below (aac _ _)).set P _) (fun e=>absurd ((e ▸ aFk).not_blk (HGy.row I q7)) (by decide)),by rw[Hid,HS2.out,hRl];rfl⟩
             ·exact aam ⟨hf,by rw[Hid,HS2.out,hRl];rfl⟩
            have hVc:∃P n,V=.slice P n n:=by
             rcases hU with⟨hf,b3,l3,rfl,-⟩|⟨hf,rfl,-⟩
             ·exact⟨_,_,rfl⟩
             ·exact⟨_,0,rfl⟩
            obtain⟨PV,nV,rfl⟩:=hVc;clear hU HGy aFk HS2 m0 m1 m2 mk hbd hv2 hvv hz hrl hlo;refine dw [26,28] (by kernel_rfl) (by simp) (bL 26 rfl (fun K hK=>?_) (bL 28 rfl (fun K hK=>?_) bS.nil))
            all_goals
             rw[aaa (by rfl)]
             go_simp
             first
              |(refine hK.out _ _ (fun _=>hS) ?_;clear hK K;(try simp only[qO]);refine rdc 28 fun K hK=>?_)
              |(refine hK.out _ _ (fun h=>by cases h) ?_;clear hK K;(try simp only[qO]);refine rdc 26 fun K hK=>?_)
             go_simp
             refine hK.out _ _ (fun h=>by cases h) ?_;clear hK K
             try simp only[qO]
             refine rdc 29 fun K hK=>?_
             go_simp
             refine hK.out _ _ (fun h=>by cases h) ?_;clear hK K;refine l8 (by kernel_rfl) ?_ _;go_wp2_with fail
             go_meet
             exact⟨f,rfl,U8 _,aFm.out _ rfl⟩
           case rest=>
            obtain⟨f,rfl,U9,hres⟩:=hcut;clear m0 m1 m2 aFj hrl hlo hnr s0 s1 s2 s3 hvv hv2 HG9 aFn HS2 V8;rcases hres with⟨hf,HZ⟩|⟨hf,vb3,g3,HG3,aFt,HJ3⟩
            ·obtain⟨f1,f2⟩:=aDg hf
             have HF:=Pd hf;clear hf;go_wp2_with fail;go_returns;refine⟨ae hBW U9,?_⟩;rw[HZ.out];exact⟨rfl,HF.out⟩
            ·obtain⟨f1,f2⟩:=aDh hf
             clear hf;go_wp2_with fail;go_roundw
             case rel=>exact⟨3,vb3,g3,by go_num,by omega,by omega,U9,HG3.out,aFt.out,HJ3.out⟩
             case measure=>simp[intOf]
          ·as_aux_lemma=>
           have nb:bits BinOp.and IntKind.i64 3 1=1:=(by decide);have HE:Hid (R=bi (aCZ m x y I J l 3 g) (A5 I J l 4)):=by rw[Hid,HJ.out];exact HT.out.e5 I J l 3 g (by omega)
           clear HJ;by_cases hin:I+1<=a/\J+1<=b
           rotate_left
           ·have HS:Hid (R=A5 I J l 4 g):=by
             rw[Hid,HE.out];unfold aCZ;rw[aaa (by rw[HA.out,HB.out];omega)]
             rfl
            clear HE;by_cases h1:a<I+1
            ·have x1:decide ((a:Int)<(I:Int)+1)=true:=aaA (by omega)
             go_wp2_with fail;go_roundw
             case rel=>exact⟨4,vb,g,by go_num,by omega,by omega,hBr,HG.out,HVL.out,HS.out⟩
             case measure=>simp[intOf]
            ·have x1:decide ((a:Int)<(I:Int)+1)=false:=aai (by omega)
             have x2:decide ((b:Int)<(J:Int)+1)=true:=aaA (by omega);go_wp2_with fail;go_roundw
             case rel=>exact⟨4,vb,g,by go_num,by omega,by omega,hBr,HG.out,HVL.out,HS.out⟩
             case measure=>simp[intOf]
           obtain⟨hin1,hin2⟩:=hin;have x1:decide ((a:Int)<(I:Int)+1)=false:=aai (by omega);have x2:decide ((b:Int)<(J:Int)+1)=false:=aai (by omega);have HS:Hid (R=bi (rU m l (x.getD I 0) (y.getD J 0) false) fun s=>bi (aCs m.kind (gAt g (I+1) (J+1)) s) fun u=>A5 I J l 4 (aBS g (I+1) (J+1) u)):=by
            rw[Hid,HE.out];unfold aCZ;rw[aab (by rw[HA.out,HB.out];omega),aC5];congr 1;funext s;rw[aC5]
            rfl
           clear HE;have hIx:I<x.length:=by rw[HA.out];omega
           obtain⟨bx,ox,hAX,hbx,hcx⟩:=DI HXW.out hIx;subst hAX;have hgx:x.getD I 0=x[I]:=by rw[aaf,aak hIx];rfl
           rw[hgx]at HS;unfold IV at hcx;have y1:=(hBr.cell (p:=⟨bx,ox+I,none⟩) hbx).trans hcx;clear hgx hcx;generalize x[I]=sx at*;have x5:(I:Int)<(a:Int):=by omega
           obtain⟨Q,hQ⟩:∃Q,I+1=Q:=⟨_,rfl⟩;have HQ:=Pd hQ;rw[hQ]at HS;have wq:IntKind.i64.wrap ((I:Int)+1)=(Q:Int):=by rw[<-hQ,acY];omega
           have q5:(0:Int)<=(Q:Int):=(by omega);have q6:(Q:Int)<(a:Int)+1:=(by omega);have q7:Q<=a:=(by omega);clear hQ;have hJy:J<y.length:=by rw[HB.out];omega
           obtain⟨by_,oy,hAY,hby,hcy⟩:=DI HYW.out hJy;subst hAY;have hgy:y.getD J 0=y[J]:=by rw[aaf,aak hJy];rfl
           rw[hgy]at HS;unfold IV at hcy;have y2:=(hBr.cell (p:=⟨by_,oy+J,none⟩) hby).trans hcy;clear hgy hcy;generalize y[J]=sy at*;have x6:(J:Int)<(b:Int):=by omega
           obtain⟨P,hP⟩:∃P,J+1=P:=⟨_,rfl⟩;have HP:=Pd hP;rw[hP]at HS;have wp:IntKind.i64.wrap ((J:Int)+1)=(P:Int):=by rw[<-hP,acY];omega
           have p5:(0:Int)<=(P:Int):=(by omega);have p6:(P:Int)<(b:Int)+1:=(by omega);have p7:P<=b:=(by omega);clear hP;have c0:=(hBr.cell (p:=⟨w.heap.size,0,none⟩) hnW).trans q0;have c1:=(hBr.cell (p:=⟨w.heap.size,1,none⟩) hnW).trans q1;have c2:=(hBr.cell (p:=⟨w.heap.size,2,none⟩) hnW).trans q2;have c3:=(hBr.cell (p:=⟨w.heap.size,3,none⟩) hnW).trans q3;have pt:=(pT wr bv l sx sy (HVW.out.below hBr) HVL.out hnl).mono fun e w' h=>aDs h
           go_upto_region 37 with(first|(go_at_call 65;refine pt.mono ?_;rintro e w9 ⟨Xv,V,f,rfl,hU⟩))
           clear c0 c1 c2 c3 pt x1 x2;rcases hU with⟨hf,b2,l2,rfl,hRl,hv2,hn2⟩|⟨hf,rfl,hRl⟩
           rotate_left
           ·have HZ:Hid (R=.error f):=by rw[Hid,HS.out,hRl];rfl
            obtain⟨f1,f2⟩:=aDg hf;have HF:=Pd hf;clear hRl HS hf;go_wp2_with fail;go_returns;refine⟨ae hBW (ae hBr Xv),?_⟩;rw[HZ.out];exact⟨rfl,HF.out⟩
           have HS2:Hid (R=bi (aCs m.kind (gAt g Q P) l2) fun u=>A5 I J l 4 (aBS g Q P u)):=by rw[Hid,HS.out,hRl];rfl
           obtain⟨f1,f2⟩:=aDh hf;have HG9:=Pd (HG.out.below Xv);have aFn:=Pd (HVL.out.below Xv);have V8:=ae hBr Xv;clear hRl HS hf HG HVL hBr Xv;have m0:=HG9.out.c1 q7;have m1:=HG9.out.c2 q7 p7;have m2:=(HG9.out.row Q q7).free P;have aFj:=HG9.out.base.lt;have hrl:=(HG9.out.row Q q7).lt;have hlo:=(HG9.out.lr Q q7).1;have hnr:=aah hnW V8.size;obtain⟨s0,s1,s2,s3⟩:=c4x V8 hnW ⟨q0,q1,q2,q3⟩;have hvv:=HG9.out.vec Q P q7 p7;go_upto_region 39 with(fail)
           go_cut [23] from 121 to 196 (fun e wx=>∃(f:Nat),e=.int .i64 f/\Below W W wx/\((f≠0/\Hid (R=.error f))\/(f=0/\∃(vb:Nat->Nat->Nat) (g:aAk),Hid (aB0 n ba a b ba rb vb g wx)/\Hid (aZ wx bv l)/\Hid (R=A5 I J l 4 g))))
           case first=>
            refine zh 28 (fun w'=>WtS w.heap.size ba Q P b n (rb Q) (vb Q P) m.kind m.start Ld A c w9 w') (by kernel_rfl) ?_;have mk:∀wx,Below w9 w9 wx->WtS w.heap.size ba Q P b n (rb Q) (vb Q P) m.kind m.start Ld A c w9 wx:=fun wx h=>aF5 ⟨m0,m1,s0,s1,s2,s3,aac _ _⟩ h
            have hS:=mk _ ((aac _ w9).drew);have hbd:Below w9 w9 w9.drew:=(aac _ w9).drew;clear s0 s1 s2 s3 aFj hnr;generalize hwd:w9.drew=wd at*;clear hwd;refine takeC 0 ?_;(try simp only[qO]);refine takeC 1 ?_;(try simp only[qO]);refine takeC 2 ?_;(try simp only[qO]);refine takeC 3 ?_;(try simp only[qO]);refine takeC 4 ?_;(try simp only[qO]);refine takeC 5 ?_;(try simp only[qO]);refine takeC 6 ?_;(try simp only[qO]);refine takeC 7 ?_;(try simp only[qO]);refine takeC 8 ?_;(try simp only[qO]);refine takeC 9 ?_;(try simp only[qO]);refine takeC 10 ?_;(try simp only[qO]);refine takeC 11 ?_;(try simp only[qO]);refine takeC 12 ?_;(try simp only[qO]);refine takeC 13 ?_;(try simp only[qO]);refine takeC 14 ?_;(try simp only[qO]);refine takeC 15 ?_;(try simp only[qO]);refine takeC 16 ?_;(try simp only[qO]);refine takeC 17 ?_;(try simp only[qO]);refine takeC 18 ?_;(try simp only[qO]);refine takeC 19 ?_;(try simp only[qO]);refine takeC 20 ?_;(try simp only[qO]);refine takeC 21 ?_;(try simp only[qO]);refine takeC 22 ?_;(try simp only[qO]);refine rdc 23 fun K hK=>?_
            go_simp
            refine(pQ wd (vb Q P) b2 (gAt g Q P) l2 (hvv.1.below hbd) (hv2.below hbd) hvv.2 hn2).mono ?_;intro e wy hq;obtain⟨aFo,V,f,rfl,hU⟩:=aDs hq;go_wp2_with fail;replace hS:=mk _ (ae hbd aFo);refine hK.out _ _ (fun _=>hS) ?_;clear hK K hq
            try simp only[qO]
            refine takeC 24 ?_;(try simp only[qO]);refine takeC 25 ?_;(try simp only[qO]);refine takeC 27 ?_;(try simp only[qO]);have hz:=ae hbd aFo;have hBy:=ae V8 hz;have k1:=(hz.cell (p:=⟨rb Q,P,none⟩) hrl).trans m1;have k2:=(hz.frozen (p:=⟨rb Q,P,none⟩) hrl).trans m2;have HGy:=HG9.out.below hz;have aFk:=aFn.out.below hz;have U8:∀v,Below W W (wy.setCell ⟨rb Q,P,none⟩ v):=fun v=>hBy.setCell (p:=⟨rb Q,P,none⟩) (by show W.heap.size<=rb Q;omega) _
            have aFm:Hid (∀v,V=v->((f≠0/\Hid (R=.error f))\/(f=0/\∃(vb:Nat->Nat->Nat) (g:aAk),Hid (aB0 n ba a b ba rb vb g (wy.setCell ⟨rb Q,P,none⟩ v))/\Hid (aZ (wy.setCell ⟨rb Q,P,none⟩ v) bv l)/\Hid (R=A5 I J l 4 g)))):=by
             intro v hv;subst hv;rcases hU with⟨hf,b3,l3,rfl,hRl,hv3,X9⟩|⟨hf,rfl,hRl⟩
             ·exact aad ⟨hf,_,_,HGy.put q7 p7 hv3 X9,aFk.upW ((df.of_below (aac _ _)).set P _) (fun e=>absurd ((e ▸ aFk).not_blk (HGy.row Q q7)) (by decide)),by rw[Hid,HS2.out,hRl];rfl⟩
             ·exact aam ⟨hf,by rw[Hid,HS2.out,hRl];rfl⟩
            have hVc:∃P n,V=.slice P n n:=by
             rcases hU with⟨hf,b3,l3,rfl,-⟩|⟨hf,rfl,-⟩
             ·exact⟨_,_,rfl⟩
             ·exact⟨_,0,rfl⟩
            obtain⟨PV,nV,rfl⟩:=hVc;clear hU HGy aFk HS2 m0 m1 m2 mk hbd hv2 hvv hz hrl hlo;refine dw [26,28] (by kernel_rfl) (by simp) (bL 26 rfl (fun K hK=>?_) (bL 28 rfl (fun K hK=>?_) bS.nil))
            all_goals
             rw[aaa (by rfl)]
             go_simp
             first
              |(refine hK.out _ _ (fun _=>hS) ?_;clear hK K;(try simp only[qO]);refine rdc 28 fun K hK=>?_)
              |(refine hK.out _ _ (fun h=>by cases h) ?_;clear hK K;(try simp only[qO]);refine rdc 26 fun K hK=>?_)
             go_simp
             refine hK.out _ _ (fun h=>by cases h) ?_;clear hK K
             try simp only[qO]
             refine rdc 29 fun K hK=>?_
             go_simp
             refine hK.out _ _ (fun h=>by cases h) ?_;clear hK K;refine l8 (by kernel_rfl) ?_ _;go_wp2_with fail
             go_meet
             exact⟨f,rfl,U8 _,aFm.out _ rfl⟩
           case rest=>
            obtain⟨f,rfl,U9,hres⟩:=hcut;clear m0 m1 m2 aFj hrl hlo hnr s0 s1 s2 s3 hvv hv2 HG9 aFn HS2 V8;rcases hres with⟨hf,HZ⟩|⟨hf,vb3,g3,HG3,aFt,HJ3⟩
            ·obtain⟨f1,f2⟩:=aDg hf
             have HF:=Pd hf;clear hf;go_wp2_with fail;go_returns;refine⟨ae hBW U9,?_⟩;rw[HZ.out];exact⟨rfl,HF.out⟩
            ·obtain⟨f1,f2⟩:=aDh hf
             clear hf;go_wp2_with fail;go_roundw
             case rel=>exact⟨4,vb3,g3,by go_num,by omega,by omega,U9,HG3.out,aFt.out,HJ3.out⟩
             case measure=>simp[intOf]
         ·obtain rfl:K=4:=by omega
          have HJ4:Hid (R=A4 I (J+1) g):=by rw[Hid,HJ.out];exact HT.out.d5 I J l g
          clear HJ;go_wp2_with fail;go_roundw
          case rel=>exact⟨J+1,vb,g,by go_num,by omega,hBr,HG.out,HJ4.out⟩
          case measure=>simp[intOf];omega
       ·obtain rfl:J=b+1:=by omega
        have j1:(b:Int)<((b+1:Nat):Int):=(by omega);have HJ4:Hid (R=A3 (I+1) g):=by rw[Hid,HJ.out,<-HB.out];exact HT.out.d4 I g
        clear HJ;go_wp2_with fail;go_roundw
        case rel=>exact⟨I+1,vb,g,by go_num,by omega,hBr,HG.out,HJ4.out⟩
        case measure=>simp[intOf];omega
     ·obtain rfl:I=a+1:=by omega
      have i1:(a:Int)<((a+1:Nat):Int):=(by omega);have HJ4:Hid (R=FN g):=by rw[Hid,HJ.out,<-HA.out];exact HT.out.d3 g
      clear HJ;have X9:n<=3000:=hn2;have c1:=HG.out.c1 (Pe a);have c2:=HG.out.c2 (Pe a) (Pe b);obtain⟨s0,s1,s2,s3⟩:=c4x hBr hnW ⟨q0,q1,q2,q3⟩;have hnr:=aah hnW hBr.size;have hbr:=HG.out.base.lt;have hrl:=(HG.out.row a (Pe a)).lt;have mk:∀wx,Below wr wr wx->WtS w.heap.size ba a b b n (rb a) (vb a b) m.kind m.start Ld A c wr wx:=fun wx h=>aF5 ⟨c1,c2,s0,s1,s2,s3,aac _ _⟩ h
      have z9:=mk _ ((aac _ wr).drew);have kC:∀wx wy,WtS w.heap.size ba a b b n (rb a) (vb a b) m.kind m.start Ld A c wr wx->Below wx wx wy->WtS w.heap.size ba a b b n (rb a) (vb a b) m.kind m.start Ld A c wr wy:=fun wx wy h hb=>mk _ (ae h.2.2.2.2.2.2 hb)
      have kD:∀wx,WtS w.heap.size ba a b b n (rb a) (vb a b) m.kind m.start Ld A c wr wx->WtS w.heap.size ba a b b n (rb a) (vb a b) m.kind m.start Ld A c wr wx.drew:=fun wx h=>mk _ h.2.2.2.2.2.2.drew
      have hvv:=HG.out.vec a b (Pe a) (Pe b);have pq:∀wx,WtS w.heap.size ba a b b n (rb a) (vb a b) m.kind m.start Ld A c wr wx->Calls Tryz.prog 67 #[.agg #[.int .i64 m.kind,.int .i64 m.start,.string Ld,.slice A n c],.slice (some ⟨vb a b,0,none⟩) n n] wx (qN wx (FN g)):=fun wx h=>
       pF wx (vb a b) (gAt g a b) (HVW.out.below (hBr.trans (h.2.2.2.2.2.2.mono hBr.size))) (hvv.1.below h.2.2.2.2.2.2) hvv.2 g (by rw[HA.out,HB.out])
      have i5:(a:Int)<(a:Int)+1:=(by omega);have j5:(b:Int)<(b:Int)+1:=(by omega);clear mk hvv s0 s1 s2 s3 c1 c2;go_wp2_with fail
      go_region_held3 (fun wx=>WtS w.heap.size ba a b b n (rb a) (vb a b) m.kind m.start Ld A c wr wx)
       (first|assumption|exact z9|exact kC _ _ (by assumption) (by assumption)|exact kD _ (by assumption))
       (first|(go_at_call 67;refine(pq _ (by assumption)).mono ?_;intro e wy hq;obtain⟨hby,T,f,rfl,hq2⟩:=aFa hq))
      have hz:Below wr wr wy:=by
       have h:WtS w.heap.size ba a b b n (rb a) (vb a b) m.kind m.start Ld A c wr wy:=(by assumption);exact h.2.2.2.2.2.2
      have HQ2:=Pd hq2;clear kC kD pq z9 hq2;go_wp2_with fail;go_returns;refine⟨ae hBW (ae hBr hz),?_⟩;rw[HJ4.out];exact HQ2.out
 ·have HD2:=Pd (HD.out.trans (aab WO))
  have hg:bM m=false\/(bM m=true/\iY x=false)\/(bM m=true/\iY x=true/\iY y=false):=by
   cases h1:bM m with
   |false=>exact aam rfl
   |true=>
    cases h2:iY x with
    |false=>exact aad (aam ⟨rfl,rfl⟩)
    |true=>
     cases h3:iY y with
     |false=>exact aad (aad ⟨rfl,rfl,rfl⟩)
     |true=>exact absurd ⟨h1,h2,h3⟩ WO
  clear WO HD pF pS pZ pR pT pQ pM hlead hxl hyl;generalize bM m=mo at*;generalize iY x=wx at*;generalize iY y=wy at*;unfold di S at*;obtain⟨kd,st,ld,ss⟩:=m;simp only at*;generalize (⟨ld.toArray⟩:ByteArray)=Ld at*;have hb0:Below w w (w.alloc (.cells #[.int .i64 kd,.int .i64 st,.string Ld,.slice A ss.length c] 30)):=(aac _ _).alloc (Pe _) _;go_enter Tryz.func32,Tryz.ntmps32;have pV0:=pV _ (HV.out.below hb0);rcases hg with rfl|⟨rfl,rfl⟩|⟨rfl,rfl,rfl⟩
  all_goals
   go_wp2_with (first|(go_at_call 28;refine pV0.mono ?_;rintro e w1 ⟨rfl,b1⟩;have bB:=ae hb0 b1)|(go_at_call_of 27 (Value.slice AX x.length cx);refine(pW _ (HX.out.below bB)).mono ?_;rintro e w2 ⟨rfl,rfl⟩)|(go_at_call 27;refine(pU _ (HY.out.below bB)).mono ?_;rintro e w3 ⟨rfl,rfl⟩));go_returns;refine⟨bB,?_⟩;rw[HD2.out];exact⟨rfl,by decide⟩
def aEw(R:Except Nat Bs):∃(v:Bs) (f:Nat),(∀W e w',qN W R e w'->e=.returned (.tuple #[S v,.int .i64 (f:Int)])/\Below W W w')/\(f=0->R=.ok v):=by
 cases R with
 |ok v=>exact⟨v,0,fun W e w' h=>⟨h.2.1,h.1⟩,fun _=>rfl⟩
 |error z=>
  by_cases hz:z=0
  ·exact⟨[],1,fun W e w' h=>absurd hz h.2.2,fun h=>by omega⟩
  ·exact⟨[],z,fun W e w' h=>⟨h.2.1,h.1⟩,fun h=>absurd h hz⟩
def aEL{m:aQ}{t:List Bs} :
  (bM m=true/\l7 t=true/\∃xs,lC m t (fG t m.states []) 3001 0 [(m.start,dE (fG t m.states []) [])] [] 0=some xs/\jd m t=(⟨m.kind,0,m.lead,xs⟩,0)/\bM ⟨m.kind,0,m.lead,xs⟩=true) ∨
   ∃z:Nat,jd m t=(rz,z)/\z≠0/\PG m t (z:Int)=true:=by
 by_cases hm:bM m=true
 ·rcases Sa (t:=t) hm with⟨h1,h2⟩|h
  ·exact aam ⟨hm,h1,h2⟩
  ·exact aad h
 ·refine aad ⟨1,?_,by omega,?_⟩
  ·unfold jd;rw[aab (fun h=>hm h.1)]
  ·unfold PG;rw[aab (fun h=>hm h.1)];simp
end Go.Proofs.YtppnecgeboonbaaGreatDoor
