/- Walks. -/
import Derived.Test.YtppnecgeboonbaaGreatDoorZ23
import Derived.StillTailTactics
namespace Go.Proofs.YtppnecgeboonbaaGreatDoor
set_option maxRecDepth 100000
set_option linter.all false
set_option maxHeartbeats 8000000
open Go.RowKit
def lh{B:Nat}{a w:World}(h:Below B a w)(n:Nat):Below B a (w.drewN n):=⟨h.os,h.tape,h.output,h.size,h.block⟩
def xg{l:List bI}{s:bI}(h:s∈l):s.arcs.length<=dh l:=by
 unfold dh
 induction l with
 |nil=>cases h
 |cons a r ih=>
  rw[aa5,ac8];rcases aay.1 h with rfl|h
  ·omega
  ·have:=ih h;omega
def dK(n:Nat)(l:Vec):Prop:=l.length=n/\∀x∈l,x.length<=802
def wR(m:aQ):dK m.states.length (eT m):=⟨by simp[eT],fun x hx=>by unfold eT at hx;rw[ab5 hx];exact rR _⟩
def dK.get{n:Nat}{l:Vec}(h:dK n l)(i:Nat):(l.getD i []).length<=802:=by
 rw[aaf]
 cases hi:l[i]? with
 |none=>simp
 |some x=>exact h.2 x (abC hi)
def dK.set{n:Nat}{l:Vec}(h:dK n l)(i:Nat){x:Bs}(hx:x.length<=802):dK n (l.set i x):=
 ⟨by rw[abh];exact h.1,fun y hy=>by
  rcases ab0 hy with hy|rfl
  ·exact h.2 y hy
  ·exact hx⟩
def uX{n:Nat}{k:Int}{l l':Vec}{i:Nat}{a b:Bs}(h:dK n l)(e:fK k l i a b=.ok l'):dK n l':=by
 unfold fK at e
 split at e
 ·cases e
 ·split at e
  ·cases e
  ·cases e
   exact h.set i (yP (h.get i) (DW _ _ _))
def Nq{k inn out:Int}{loose:Bool}{ss:List bI}{v l:Vec}{q:Nat}(hq:q<ss.length)(hv:q<v.length) :
  nu k inn out loose (ss.drop q) (v.drop q) l=if v[q]=aF k then nu k inn out loose (ss.drop (q+1)) (v.drop (q+1)) l else bi (lZ k inn out loose v[q] ss[q].arcs l) (nu k inn out loose (ss.drop (q+1)) (v.drop (q+1))):=by
 rw[aat hq,aat hv]
 rfl
def Nb{k inn out:Int}{loose:Bool}{x:Bs}{l:Vec}{arcs:List aO}{j:Nat}(hj:j<arcs.length) :
  lZ k inn out loose x (arcs.drop j) l=if arcs[j].inn≠inn\/(arcs[j].out≠out/\loose=false) then lZ k inn out loose x (arcs.drop (j+1)) l else bi (fK k l arcs[j].to.toNat x arcs[j].w) (lZ k inn out loose x (arcs.drop (j+1))):=by
 rw[aat hj]
 rfl
def xu{α β:Type}{x:Except Nat α}{a:α}{f:α->Except Nat β}(h:x=.ok a):bi x f=f a:=by rw[h];rfl
def xq{α β:Type}{x:Except Nat α}{e:Nat}{f:α->Except Nat β}(h:x=.error e):bi x f=.error e:=by rw[h];rfl
def aC5{α β γ:Type}(x:Except Nat α)(f:α->Except Nat β)(g:β->Except Nat γ):bi (bi x f) g=bi x fun a=>bi (f a) g:=by cases x<;>rfl
def sP(w:World)(n:Nat)(R:Except Nat Vec)(e:Ending)(w':World):Prop:=Below w w w'/\match R with
 |.ok l=>∃b,e=.returned (.tuple #[.slice (some ⟨b,0,none⟩) n n,.int .i64 0])/\aZ w' b l/\w.heap.size<=b/\dK n l
 |.error x=>e=.returned (.tuple #[.slice none 0 0,.int .i64 x])/\x≠0
def Me(m:aQ)(A:Option Addr)(c bv cv:Nat)(v:Vec)(inn out:Int)(loose:Bool)(w:World)(hm:bM m=true)(hV:dY w A m.states)(hv:aZ w bv v)(UH:dK m.states.length v) :
  Calls Tryz.prog 65 #[di m A c,.slice (some ⟨bv,0,none⟩) m.states.length cv,.int .i64 inn,.int .i64 out,.bool loose] w (sP w m.states.length (rU m v inn out loose)):=by
 obtain⟨hk,⟨hn1,hn2,hs1,hs2⟩,hld,hst,har⟩:=kV.1 hm;have Yc:Hid (∀s∈m.states,s.arcs.length<=30000):=fun s hs=>aaB (xg hs) har
 clear har;have pZ:=fun W=>wu m A c W hn1 hn2
 have hzn:=wR m;have HR:Hid (rU m v inn out loose=nu m.kind inn out loose m.states v (eT m)):=rfl;generalize rU m v inn out loose=R at*;generalize eT m=Z at*;have HV:=Pd hV;have Ug:Hid (∀s∈m.states,aBP m.kind m.states.length s=true):=hst;unfold di S at*;obtain⟨kd,st,ld,ss⟩:=m;simp only at*;obtain⟨Ld,TJ⟩:∃Ld:ByteArray,(⟨ld.toArray⟩:ByteArray)=Ld:=⟨_,rfl⟩;rw[TJ]at pZ ⊢;have hbv:=hv.lt;have Z8:=Pd hv;obtain⟨n,hn⟩:∃n,n=ss.length:=⟨_,rfl⟩;rw[<-hn]at pZ UH hn1 hn2 hzn Ug ⊢;have HN:=Pd hn.symm;clear TJ hld hm hV hst hs1 hs2 hk hn hv;have z0:=az w #[.int .i64 kd,.int .i64 st,.string Ld,.slice A n c] 30 0 _ rfl;have z1:=az w #[.int .i64 kd,.int .i64 st,.string Ld,.slice A n c] 30 1 _ rfl;have z2:=az w #[.int .i64 kd,.int .i64 st,.string Ld,.slice A n c] 30 2 _ rfl;have z3:=az w #[.int .i64 kd,.int .i64 st,.string Ld,.slice A n c] 30 3 _ rfl;have hb0:Below w w (w.alloc (.cells #[.int .i64 kd,.int .i64 st,.string Ld,.slice A n c] 30)):=(aac _ _).alloc (Pe _) _;have hn0:w.heap.size<(w.alloc (.cells #[.int .i64 kd,.int .i64 st,.string Ld,.slice A n c] 30)).heap.size:=by simp
 go_enter Tryz.func65,Tryz.ntmps65;go_wp2_with fail;generalize w.alloc (.cells #[.int .i64 kd,.int .i64 st,.string Ld,.slice A n c] 30)=w0 at*;refine(pZ _).mono ?_;rintro e w1 ⟨bl,rfl,Vq,hbl,hb1⟩;have q0:=(hb1.cell (p:=⟨w.heap.size,0,none⟩) hn0).trans z0;have q3:=(hb1.cell (p:=⟨w.heap.size,3,none⟩) hn0).trans z3;have hnb:w.heap.size<bl:=aah hn0 hbl;have hbw:=ae hb0 hb1;clear z0 z1 z2 z3 pZ;go_wp2_with fail
 go_loopw [13] (fun i wr=>∃(q:Nat) (l:Vec),i=.int .i64 q/\q<=n/\Below bl w1 wr/\aZ wr bl l/\dK n l/\Hid (R=nu kd inn out loose (ss.drop q) (v.drop q) l)) (fun i _=>n-(intOf i).toNat)
 case atStart=>exact⟨0,Z,rfl,by omega,aac _ _,Vq,hzn,HR.out⟩
 case round=>
  obtain⟨q,l,rfl,hq,hBr,Vp,hlr,VQ⟩:=hrel;have m3:=(hBr.cell (p:=⟨w.heap.size,3,none⟩) hnb).trans q3;by_cases hlt:q<n
  ·have VX:q<ss.length:=by rw[HN.out];exact hlt
   have U4:q<v.length:=by rw[UH.1];exact hlt
   obtain⟨b,o,rfl,Vb,hc0,A',c',hc1,TK⟩:=HV.out q VX;have VH:=Pd TK;have HD:=Pd (VQ.out.trans (Nq VX U4));have hso:=Ug.out _ (aag VX);have hal:=Yc.out _ (aag VX);have hxl:=UH.2 _ (aag U4);have Vo:=Z8.out.cell U4;have hBw:Below w w wr:=hbw.trans (hBr.mono (aa0 hnb));generalize ss[q]=s at*;obtain⟨fin,arcs⟩:=s;simp only at*;obtain⟨X,hX⟩:∃X:ByteArray,(⟨v[q].toArray⟩:ByteArray)=X:=⟨_,rfl⟩;have UB:v[q]=X.data.toList:=by rw[<-hX]
   unfold S at Vo;rw[hX]at Vo;rw[UB]at HD hxl;have Vm:X.size<=802:=by rw[aae];exact hxl
   clear hX UB hxl;have m0:=(hBr.cell (p:=⟨w.heap.size,0,none⟩) hnb).trans q0;have mv:=(hBw.cell (p:=⟨bv,q,none⟩) hbv).trans Vo;have i0:(0:Int)<=(q:Int):=by omega
   have il:(q:Int)<(n:Int):=(by omega);have ms:=(hBw.cell (p:=⟨b,o+q*2+1,none⟩) Vb).trans hc1;obtain⟨zk,U5⟩:∃zk:ByteArray,(⟨(aF kd).toArray⟩:ByteArray)=zk:=⟨_,rfl⟩;have Ua:aF kd=zk.data.toList:=by rw[<-U5]
   have p0:=fun(W:World)=>(o9 kd W).mono (fun e w' (h:e=.returned (S (aF kd))/\W=w')=>(⟨h.1,h.2.symm⟩:e=.returned (S (aF kd))/\w'=W))
   unfold S at p0;rw[U5]at p0;rw[Ua]at HD;clear U5 Ua;by_cases hz:X.data.toList=zk.data.toList
   ·have HX:=Pd (HD.out.trans (aaa hz))
    have t0:=str_eq hz;clear hz HD VH TK;go_wp2_with fail
    go_quiet (first|(go_at_call 34;with_reducible exact ab1 (p0 _)))
    go_wp2_with fail;go_roundw
    case rel=>exact⟨q+1,l,by go_num,by omega,lh hBr _,Vp,hlr,HX.out⟩
    case measure=>simp[intOf];omega
   ·have HX:=Pd (HD.out.trans (aab hz))
    have t0:=qB hz;clear hz HD TK;go_wp2_with fail
    go_quiet (first|(go_at_call 34;with_reducible exact ab1 (p0 _)))
    go_wp2_with fail;have hB4:Below bl w1 (wr.drewN nq):=lh hBr _;have hv4:aZ (wr.drewN nq) bl l:=Vp;have m0':(wr.drewN nq).cell? ⟨w.heap.size,0,none⟩=_:=m0;generalize wr.drewN nq=w4 at*;obtain⟨F,hF⟩:∃F,nu kd inn out loose (ss.drop (q+1)) (v.drop (q+1))=F:=⟨_,rfl⟩;have HF:=Pd hF;rw[hF]at HX;have HX0:Hid (R=bi (lZ kd inn out loose X.data.toList (arcs.drop 0) l) F):=HX;clear hF HX hBr Vp m0 m0' m3 mv ms VQ hBw
    go_loopw [14] (fun i wr=>∃(j:Nat) (l:Vec),i=.int .i64 j/\j<=arcs.length/\Below bl w1 wr/\aZ wr bl l/\dK n l/\Hid (R=bi (lZ kd inn out loose X.data.toList (arcs.drop j) l) F)) (fun i _=>arcs.length-(intOf i).toNat)
    case atStart=>exact⟨0,l,rfl,by omega,hB4,hv4,hlr,HX0.out⟩
    case round=>
     clear hlr HX0 hB4 hv4;obtain⟨j,l,rfl,hj,T9,XG,hln,HJ⟩:=hrel;have hBw:Below w w wr:=hbw.trans (T9.mono (aa0 hnb));have m3:=(T9.cell (p:=⟨w.heap.size,3,none⟩) hnb).trans q3;have ms:=(hBw.cell (p:=⟨b,o+q*2+1,none⟩) Vb).trans hc1;by_cases hjl:j<arcs.length
     ·obtain⟨b',o',rfl,TH,ha0,ha1,ha2,UJ⟩:=VH.out j hjl
      have hao:=(pg.1 hso).2 _ (aag hjl);have HD:=Pd (HJ.out.trans (aaw (fun z=>bi z F) (Nb hjl)));generalize arcs[j]=a at*;obtain⟨x,y,wt',tg⟩:=a;simp only at*;obtain⟨ho1,ho2,⟨d0,d1⟩,ho3⟩:=mh.1 hao;simp only at d0 d1 ho3;have hwl:=wC ho3;obtain⟨Wt,Ue⟩:∃Wt:ByteArray,(⟨wt'.toArray⟩:ByteArray)=Wt:=⟨_,rfl⟩;have UA:wt'=Wt.data.toList:=by rw[<-Ue]
      unfold S at ha2;rw[Ue]at ha2;subst UA;have hWs:Wt.size<=802:=by rw[aae];exact hwl
      clear hao ho1 ho2 ho3 hwl Ue;have pA:∀W,aZ W bl l->Calls Tryz.prog 88 #[.int .i64 kd,.slice (some ⟨bl,0,none⟩) n n,.int .i64 tg,.string X,.string Wt] W (aDk W bl (fK kd l tg.toNat X.data.toList Wt.data.toList)):=by
       intro W hW;have:=uy kd bl n l tg X Wt W hW d0 (by rw[hln.1];exact d1) Vm hWs (hln.get _);rw[hln.1]at this;exact this
      have HE:Hid (¬ (x≠inn\/(y≠out/\loose=false))->∀e,fK kd l tg.toNat X.data.toList Wt.data.toList=.error e->R=.error e):=fun hc e he=>by
       rw[HD.out,aab hc,xq he];rfl
      have HK:Hid (¬ (x≠inn\/(y≠out/\loose=false))->∀l',fK kd l tg.toNat X.data.toList Wt.data.toList=.ok l'->R=bi (lZ kd inn out loose X.data.toList (arcs.drop (j+1)) l') F):=fun hc l' he=>by
       rw[HD.out,aab hc,xu he]
      have HS:Hid ((x≠inn\/(y≠out/\loose=false))->R=bi (lZ kd inn out loose X.data.toList (arcs.drop (j+1)) l) F):=fun hc=>by
       rw[HD.out,aaa hc]
      clear HD HJ;have u0:=(hBw.cell (p:=⟨b',o'+j*4,none⟩) TH).trans ha0;have u1:=(hBw.cell (p:=⟨b',o'+j*4+1,none⟩) TH).trans ha1;have u2:=(hBw.cell (p:=⟨b',o'+j*4+2,none⟩) TH).trans ha2;have u3:=(hBw.cell (p:=⟨b',o'+j*4+3,none⟩) TH).trans UJ;have TS:=T9.alloc (aa0 XG.lt) (.cells #[.int .i64 x,.int .i64 y,.string Wt,.int .i64 tg] 77);have aAe:Below w w _:=hbw.trans (TS.mono (aa0 hnb));have hv5:=XG.below ((aac _ _).alloc (Pe _) (.cells #[.int .i64 x,.int .i64 y,.string Wt,.int .i64 tg] 77));have g0:=az wr #[.int .i64 x,.int .i64 y,.string Wt,.int .i64 tg] 77 0 _ rfl;have g1:=az wr #[.int .i64 x,.int .i64 y,.string Wt,.int .i64 tg] 77 1 _ rfl;have g2:=az wr #[.int .i64 x,.int .i64 y,.string Wt,.int .i64 tg] 77 2 _ rfl;have g3:=az wr #[.int .i64 x,.int .i64 y,.string Wt,.int .i64 tg] 77 3 _ rfl;have n0:=(TS.cell (p:=⟨w.heap.size,0,none⟩) hnb).trans q0;have nv:=(aAe.cell (p:=⟨bv,q,none⟩) hbv).trans Vo;have ij0:(0:Int)<=(j:Int):=by omega
      have ijl:(j:Int)<(arcs.length:Int):=(by omega);clear ha0 ha1 ha2 UJ aAe;by_cases hx:x=inn
      ·have t1:=qY hx
       have t1':=ko hx;by_cases hy:y=out
       ·have t2:=qY hy
        have t2':=ko hy;have hc:¬ (x≠inn\/(y≠out/\loose=false)):=by rintro(h|h);exact h hx;exact h.1 hy
        replace HE:=Pd (HE.out hc);replace HK:=Pd (HK.out hc);clear HS hc hx hy;go_wp2_with fail;generalize wr.alloc (.cells #[.int .i64 x,.int .i64 y,.string Wt,.int .i64 tg] 77)=w5 at*
        go_still_tail 11,(by kernel_rfl)
        change wpList _ _ _ _ _ w5.drew;go_wp2_with fail;have Y2:aZ w5.drew bl l:=hv5;refine(pA _ Y2).mono ?_;rintro e w6 ⟨hu,hr⟩;have hb6:Below bl w1 w6:=TS.drew.trans (hu.low bl (Pe _) (aa0 hv5.lt))
        cases hadd:fK kd l tg.toNat X.data.toList Wt.data.toList with
        |error e'=>
         rw[hadd]at hr;obtain⟨rfl,hne⟩:=hr;have HX:=Pd (HE.out e' hadd);have t9:((e':Int) != 0)=true:=by simpa using hne
         have U6:=Pd hne;clear hadd hne;go_wp2_with fail;go_returns;refine⟨hbw.trans (hb6.mono (aa0 hnb)),?_⟩;rw[HX.out];exact⟨rfl,U6.out⟩
        |ok l'=>
         rw[hadd]at hr;obtain⟨rfl,hv6⟩:=hr;have HX:=Pd (HK.out l' hadd);have hl6:=uX hln hadd;clear hadd;go_wp2_with fail;go_roundw
         case rel=>exact⟨j+1,l',by go_num,by omega,hb6,hv6,hl6,HX.out⟩
         case measure=>simp[intOf];omega
       ·have t2:=ry hy
        have t2':=jU hy
        cases loose with
        |false=>
         replace HS:=Pd (HS.out (aad ⟨hy,rfl⟩));clear HE HK hx hy pA;go_wp2_with fail;go_roundw
         case rel=>exact⟨j+1,l,by go_num,by omega,TS,hv5,hln,HS.out⟩
         case measure=>simp[intOf];omega
        |true=>
         have hc:¬ (x≠inn\/(y≠out/\true=false)):=by rintro(h|h);exact h hx;exact absurd h.2 (by simp)
         replace HE:=Pd (HE.out hc);replace HK:=Pd (HK.out hc);clear HS hc hx hy;go_wp2_with fail;generalize wr.alloc (.cells #[.int .i64 x,.int .i64 y,.string Wt,.int .i64 tg] 77)=w5 at*
         go_still_tail 11,(by kernel_rfl)
         change wpList _ _ _ _ _ w5.drew;go_wp2_with fail;have Y2:aZ w5.drew bl l:=hv5;refine(pA _ Y2).mono ?_;rintro e w6 ⟨hu,hr⟩;have hb6:Below bl w1 w6:=TS.drew.trans (hu.low bl (Pe _) (aa0 hv5.lt))
         cases hadd:fK kd l tg.toNat X.data.toList Wt.data.toList with
         |error e'=>
          rw[hadd]at hr;obtain⟨rfl,hne⟩:=hr;have HX:=Pd (HE.out e' hadd);have t9:((e':Int) != 0)=true:=by simpa using hne
          have U6:=Pd hne;clear hadd hne;go_wp2_with fail;go_returns;refine⟨hbw.trans (hb6.mono (aa0 hnb)),?_⟩;rw[HX.out];exact⟨rfl,U6.out⟩
         |ok l'=>
          rw[hadd]at hr;obtain⟨rfl,hv6⟩:=hr;have HX:=Pd (HK.out l' hadd);have hl6:=uX hln hadd;clear hadd;go_wp2_with fail;go_roundw
          case rel=>exact⟨j+1,l',by go_num,by omega,hb6,hv6,hl6,HX.out⟩
          case measure=>simp[intOf];omega
      ·have t1:=ry hx
       have t1':=jU hx;replace HS:=Pd (HS.out (aam hx));clear HE HK hx pA;go_wp2_with fail;go_roundw
       case rel=>exact⟨j+1,l,by go_num,by omega,TS,hv5,hln,HS.out⟩
       case measure=>simp[intOf];omega
     ·obtain rfl:j=arcs.length:=by omega
      have HX:Hid (R=nu kd inn out loose (ss.drop (q+1)) (v.drop (q+1)) l):=by
       have:=HJ.out;rw[acZ]at this;rw[Hid,HF.out,this];rfl
      go_wp2_with fail;go_roundw
      case rel=>exact⟨q+1,l,by go_num,by omega,T9,XG,hln,HX.out⟩
      case measure=>simp[intOf];omega
  ·obtain rfl:q=n:=by omega
   have HX:Hid (R=.ok l):=by
    have:=VQ.out;rw[abo (by rw[HN.out];exact Pe _)]at this;exact this
   go_wp2_with fail;go_returns;refine⟨hbw.trans (hBr.mono (aa0 hnb)),?_⟩;rw[HX.out];exact⟨bl,rfl,Vp,aa0 hnb,hlr⟩
open Go.RowKit Go.Maps
def xP(w:World)(b:Nat)(t:List Bs)(h:ji w b (dW t 0 []))(ht:t.length<=500)(s:Int)(h0:0<=s)(h1:s<=500) :
  (Instr.lookup 66 (.map (some b)) (.int .i64 s) true).run Tryz.prog w=.ok (.tuple #[kR ((dD t s).getD dX),.bool (dD t s).isSome]) w:=by
 obtain⟨n,rfl⟩:∃n:Nat,s=n:=⟨s.toNat,by omega⟩;have hf:=Hr t (n:Int);rw[aaa h0,abT]at hf;rw[<-hf];exact Ic w b _ h (vH t 0 [] (fun p hp=>absurd hp aaK) (by omega)) n (by unfold j6;omega)
def Ep(b:Nat)(t:List Bs)(w:World)(h:ji w b (dW t 0 []))(ht:t.length<=500)(s:Int)(h0:0<=s)(h1:s<=500) :
  Calls Tryz.prog 46 #[.map (some b),.int .i64 s] w fun e w'=>e=.returned (.int .i64 (fE t s))/\Below w w w':=by
 have l0:=xP w b t h ht s h0 h1;obtain⟨F,V,hf,-,-⟩:=lI ((dD t s).getD dX);rw[hf]at l0;have hB:fE t s=if (dD t s).isSome=true then 0 else s:=rfl;have HB:=Pd hB;generalize fE t s=r at*;generalize (dD t s).isSome=q at*;generalize ((dD t s).getD dX).op=oo at*;clear hf hB
 cases q with
 |true=>
  go_enter Tryz.func46,Tryz.ntmps46;go_wp2_with fail;go_returns;exact⟨by rw[HB.out];rfl,(aac _ _).alloc (Pe _) _⟩
 |false=>
  go_enter Tryz.func46,Tryz.ntmps46;go_wp2_with fail;go_returns;exact⟨by rw[HB.out];rfl,(aac _ _).alloc (Pe _) _⟩
def qR(a:aO):Value:=.agg #[.int .i64 a.inn,.int .i64 a.out,S a.w,.int .i64 a.to]
def qD(w0:World)(n:Nat)(hn:w0.heap.size=n)(A B:Array Value)(T U:TypeId)(o:Nat)(v:Value)(h:A[o]? = some v):((w0.alloc (.cells A T)).alloc (.cells B U)).cell? ⟨n,o,none⟩=some v:=by
 subst hn;exact(((aac _ (w0.alloc (.cells A T))).alloc (Pe _) (.cells B U)).cell (p:=⟨w0.heap.size,o,none⟩) (by simp)).trans (az w0 A T o v h)
abbrev vS(w:World)(x y:Int)(W:ByteArray)(tg:Int)(oo:UInt8)(F V:ByteArray):World:=((w.alloc (.cells #[.int .i64 x,.int .i64 y,.string W,.int .i64 tg] 77)).alloc (.cells #[.int .u8 oo.toNat,.string F,.string V] 24)).alloc (.cells #[.int .u8 oo.toNat,.string F,.string V] 24)
def Cr(b:Nat)(t:List Bs)(w:World)(h:ji w b (dW t 0 []))(ht:t.length<=500)(x y:Int)(W:ByteArray)(tg:Int)(hx0:0<=x)(hx1:x<=500)(hy0:0<=y)(hy1:y<=500) :
  Calls Tryz.prog 42 #[.map (some b),.agg #[.int .i64 x,.int .i64 y,.string W,.int .i64 tg]] w fun e w'=>e=.returned (.tuple #[kR ((eO t ⟨x,y,W.data.toList,tg⟩).getD dX),.bool (eO t ⟨x,y,W.data.toList,tg⟩).isSome])/\w'=vS w x y W tg ((eO t ⟨x,y,W.data.toList,tg⟩).getD dX).op ⟨((eO t ⟨x,y,W.data.toList,tg⟩).getD dX).feat.toArray⟩ ⟨((eO t ⟨x,y,W.data.toList,tg⟩).getD dX).val.toArray⟩:=by
 have hlk:∀W',Below w w W'->∀s:Int,0<=s->s<=500->(Instr.lookup 66 (.map (some b)) (.int .i64 s) true).run Tryz.prog W'=.ok (.tuple #[kR ((dD t s).getD dX),.bool (dD t s).isSome]) W':=fun W' hW s h0 h1=>xP W' b t (h.below hW) ht s h0 h1
 obtain⟨F1,V1,hf1,hF1,hV1⟩:=lI ((dD t x).getD dX);obtain⟨F2,V2,hf2,hF2,hV2⟩:=lI ((dD t y).getD dX);have l1:=fun W' hW=>hlk W' hW x hx0 hx1
 have l2:=fun W' hW=>hlk W' hW y hy0 hy1
 rw[hf1]at l1;rw[hf2]at l2;have z0:=az w #[.int .i64 x,.int .i64 y,.string W,.int .i64 tg] 77 0 _ rfl;have z1:=az w #[.int .i64 x,.int .i64 y,.string W,.int .i64 tg] 77 1 _ rfl;have hb0:Below w w (w.alloc (.cells #[.int .i64 x,.int .i64 y,.string W,.int .i64 tg] 77)):=(aac _ _).alloc (Pe _) _;have hn0:w.heap.size<(w.alloc (.cells #[.int .i64 x,.int .i64 y,.string W,.int .i64 tg] 77)).heap.size:=by simp
 have hsz:(w.alloc (.cells #[.int .i64 x,.int .i64 y,.string W,.int .i64 tg] 77)).heap.size=w.heap.size+1:=by simp
 have ZH:=Pd (And.intro hF1 hV1);have ZI:=Pd (And.intro hF2 hV2);clear hlk hF1 hV1 hF2 hV2;obtain⟨r,hr⟩:∃r,r=eO t ⟨x,y,W.data.toList,tg⟩:=⟨_,rfl⟩;rw[<-hr];have HR:=Pd hr;clear hr;go_enter Tryz.func42,Tryz.ntmps42;go_upto_region 1 with(fail)
 generalize hw0:w.alloc (.cells #[.int .i64 x,.int .i64 y,.string W,.int .i64 tg] 77)=w0 at*;have HW:=Pd hw0;clear hw0;have hb1:Below w w (w0.alloc (.cells #[.int .u8 0,.string ⟨#[]⟩,.string ⟨#[]⟩] 24)):=hb0.alloc (by omega) _;have bA:=(aac w0.heap.size w0).alloc (Pe _) (.cells #[.int .u8 0,.string ⟨#[]⟩,.string ⟨#[]⟩] 24);have y0:=(bA.cell (p:=⟨w.heap.size,0,none⟩) hn0).trans z0;have y1:=(bA.cell (p:=⟨w.heap.size,1,none⟩) hn0).trans z1;have k1:=l1 _ hb1;have yb:=z1;clear z0 z1 bA;have HF:=Pd hf1;have HG:=Pd hf2;obtain⟨oo,Ve⟩:∃oo,((dD t x).getD dX).op=oo:=⟨_,rfl⟩;obtain⟨pp,Vf⟩:∃oo,((dD t y).getD dX).op=oo:=⟨_,rfl⟩;rw[Ve]at k1 HF l1;rw[Vf]at HG l2;have WZ:=Pd Ve;have ZQ:=Pd Vf;clear hf1 hf2 Ve Vf;obtain⟨q,hq⟩:∃q,(dD t x).isSome=q:=⟨_,rfl⟩;rw[hq]at k1 l1
 cases q with
 |true=>
  have HX:Hid (r=dD t x):=by
   obtain⟨f,hf⟩:=adp.1 hq;rw[Hid,HR.out];unfold eO;rw[hf]
  have HQ:=Pd hq;have e0:=qD w0 _ hsz #[.int .u8 oo.toNat,.string F1,.string V1] #[.int .u8 oo.toNat,.string F1,.string V1] 24 24 0 (.int .u8 oo.toNat) rfl;have e1:=qD w0 _ hsz #[.int .u8 oo.toNat,.string F1,.string V1] #[.int .u8 oo.toNat,.string F1,.string V1] 24 24 1 (.string F1) rfl;have e2:=qD w0 _ hsz #[.int .u8 oo.toNat,.string F1,.string V1] #[.int .u8 oo.toNat,.string F1,.string V1] 24 24 2 (.string V1) rfl;clear l1 l2 hq HG;go_wp2_with fail;refine aaD (by simp[results,Tryz.results42,go_sem,e0,e1,e2];try rfl) rfl ?_;exact⟨by rw[HX.out,HF.out,HQ.out],by rw[HX.out,WZ.out,ZH.out.1,ZH.out.2,<-HW.out,acg,acg]⟩
 |false=>
  have HX:Hid (r=dD t y):=by
   rw[Hid,HR.out];unfold eO
   cases hf:dD t x with
   |none=>rfl
   |some f=>rw[hf]at hq;cases hq
  obtain⟨q2,hq2⟩:∃q,(dD t y).isSome=q:=⟨_,rfl⟩;rw[hq2]at l2;have HQ:=Pd hq2;clear l1 hq hq2 HF;have e0:=qD w0 _ hsz #[.int .u8 pp.toNat,.string F2,.string V2] #[.int .u8 pp.toNat,.string F2,.string V2] 24 24 0 (.int .u8 pp.toNat) rfl;have e1:=qD w0 _ hsz #[.int .u8 pp.toNat,.string F2,.string V2] #[.int .u8 pp.toNat,.string F2,.string V2] 24 24 1 (.string F2) rfl;have e2:=qD w0 _ hsz #[.int .u8 pp.toNat,.string F2,.string V2] #[.int .u8 pp.toNat,.string F2,.string V2] 24 24 2 (.string V2) rfl;have hb2:Below w w ((w0.alloc (.cells #[.int .u8 0,.string ⟨#[]⟩,.string ⟨#[]⟩] 24)).alloc (.cells #[.int .u8 oo.toNat,.string F1,.string V1] 24)):=hb1.alloc (by simp;omega) _;have k2:=l2 _ hb2;have y2:=qD w0 _ hsz #[.int .u8 0,.string ⟨#[]⟩,.string ⟨#[]⟩] #[.int .u8 oo.toNat,.string F1,.string V1] 24 24 0 (.int .u8 0) rfl;have bB:=((aac w0.heap.size w0).alloc (Pe _) (.cells #[.int .u8 0,.string ⟨#[]⟩,.string ⟨#[]⟩] 24)).alloc (by simp) (.cells #[.int .u8 oo.toNat,.string F1,.string V1] 24);have y3:=(bB.cell (p:=⟨w.heap.size,1,none⟩) hn0).trans yb;go_wp2_with fail;refine aaD (by simp[results,Tryz.results42,go_sem,e0,e1,e2];try rfl) rfl ?_;exact⟨by rw[HX.out,HG.out,HQ.out],by rw[HX.out,ZQ.out,ZI.out.1,ZI.out.2,<-HW.out,acg,acg]⟩
open Go Go.RowKit Go.Maps
def Rk(m:aQ)(A:Option Addr)(c:Nat)(w:World)(hV:dY w A m.states)(hl:m.states.length<=3000)(hb:∀s∈m.states,s.arcs.length<=140737488355328) :
  Calls Tryz.prog 53 #[di m A c] w fun e w'=>e=.returned (.int .i64 (dh m.states))/\Below w w w':=by
 have HV:=Pd hV;have HB:=Pd hb;clear hV hb;unfold di S at*;obtain⟨kd,st,ld,ss⟩:=m;simp only at*;generalize (⟨ld.toArray⟩:ByteArray)=Ld at*;have z3:=az w #[.int .i64 kd,.int .i64 st,.string Ld,.slice A ss.length c] 30 3 _ rfl;have hb0:Below w w (w.alloc (.cells #[.int .i64 kd,.int .i64 st,.string Ld,.slice A ss.length c] 30)):=(aac _ _).alloc (Pe _) _;have hn0:w.heap.size<(w.alloc (.cells #[.int .i64 kd,.int .i64 st,.string Ld,.slice A ss.length c] 30)).heap.size:=by simp
 go_enter Tryz.func53,Tryz.ntmps53;go_wp2_with fail;generalize w.alloc (.cells #[.int .i64 kd,.int .i64 st,.string Ld,.slice A ss.length c] 30)=w0 at*
 go_loopw [3,4] (fun n i wr=>∃(q:Nat),i=.int .i64 q/\q<=ss.length/\n=.int .i64 (dh (ss.take q):Nat)/\dh (ss.take q)<=q*140737488355328/\wr=w0) (fun _ i _=>ss.length-(intOf i).toNat)
 case atStart=>exact⟨0,rfl,by omega,rfl,by simp[dh],rfl⟩
 case round=>
  obtain⟨q,rfl,hq,rfl,hle,rfl⟩:=hrel;by_cases hlt:q<ss.length
  ·obtain⟨b,o,rfl,Vb,hc0,A',c',hc1,TK⟩:=HV.out q hlt
   have hal:=HB.out _ (aag hlt);have HT:=Pd (sW hlt);have k1:=(hb0.cell (p:=⟨b,o+q*2+1,none⟩) Vb).trans hc1;generalize dh (ss.take q)=N at*;generalize ss[q]=s at*;obtain⟨fin,arcs⟩:=s;simp only at*;have i0:(0:Int)<=(q:Int):=by omega
   have il:(q:Int)<(ss.length:Int):=(by omega);have hs1:(N:Int)+(arcs.length:Int)<=9223372036854775807:=(by omega);have hs0:(0:Int)<=(N:Int)+(arcs.length:Int):=(by omega);clear TK hc0 hc1;go_wp2_with fail;go_roundw
   case rel=>exact⟨q+1,by go_num,by omega,by rw[HT.out];go_num,by rw[HT.out];omega,by first|trivial|rfl⟩
   case measure=>simp[intOf];omega
  ·obtain rfl:q=ss.length:=by omega
   rw[aaJ];go_wp2_with fail;go_returns;exact⟨rfl,hb0⟩
def OO{W:World}{b:Nat}{x y z u:Value}{T:TypeId}(h:W.heap[b]? = some (.cells #[x,y,z,u] T (0,0))):W.cell? ⟨b,0,none⟩=some x/\W.cell? ⟨b,1,none⟩=some y/\W.cell? ⟨b,2,none⟩=some z/\W.cell? ⟨b,3,none⟩=some u:=
 ⟨by rw[aap W b _ _ _ _ h];rfl,by rw[aap W b _ _ _ _ h];rfl,by rw[aap W b _ _ _ _ h];rfl,by rw[aap W b _ _ _ _ h];rfl⟩
def PD{W:World}{b:Nat}{A:Array Value}{T:TypeId}(h:W.heap[b]? = some (.cells A T (0,0)))(o:Nat):W.frozen? ⟨b,o,none⟩=false:=by
 unfold World.frozen?;rw[h];simp
def PK(s:Int):Prop:=-9223372036854775808<=s/\s<=9223372036854775807
def SY(A:Option Addr)(c:Nat)(t:List Bs)(a:aO)(w:World)(hV:ay w A (t.map S))(hl:t.length<=1000000)(h1:PK a.inn)(h2:PK a.out) :
  Calls Tryz.prog 59 #[.slice A t.length c,qR a] w (ma w (eO t a)):=by
 have HV:=Pd hV;have p1:=fun W (h:Below w w W)=>aBs A c t a.inn W (HV.out.below h) hl h1.1 h1.2
 have p2:=fun W (h:Below w w W)=>aBs A c t a.out W (HV.out.below h) hl h2.1 h2.2
 have HD:Hid (eO t a=match dD t a.inn with|some f=>some f|none=>dD t a.out):=rfl;generalize eO t a=R at*;obtain⟨r1,hr1⟩:∃r,dD t a.inn=r:=⟨_,rfl⟩;obtain⟨r2,hr2⟩:∃r,dD t a.out=r:=⟨_,rfl⟩;rw[hr1]at p1;rw[hr2]at p2;rw[hr1,hr2]at HD;obtain⟨x,y,wt,tg⟩:=a;unfold qR S at*;unfold ma at p1 p2;simp only at*;generalize (⟨wt.toArray⟩:ByteArray)=Wt at*;obtain⟨F1,V1,hf1,-,-⟩:=lI (r1.getD dX);obtain⟨F2,V2,hf2,-,-⟩:=lI (r2.getD dX);rw[hf1]at p1;rw[hf2]at p2;have HF1:=Pd hf1;have Uw:=Pd hf2;generalize (r1.getD dX).op=o1 at*;generalize (r2.getD dX).op=o2 at*;obtain⟨i1,hi1⟩:∃q,r1.isSome=q:=⟨_,rfl⟩;obtain⟨i2,hi2⟩:∃q,r2.isSome=q:=⟨_,rfl⟩;rw[hi1]at p1;rw[hi2]at p2;have HI1:=Pd hi1;have HI2:=Pd hi2;clear hV hl h1 h2 hr1 hr2 hf1 hf2 hi1 hi2;obtain⟨W1,hW1⟩:∃W1,W1=w.alloc (.cells #[.int .i64 x,.int .i64 y,.string Wt,.int .i64 tg] 77):=⟨_,rfl⟩;have g3:=aaq w (.cells #[.int .i64 x,.int .i64 y,.string Wt,.int .i64 tg] 77);rw[<-hW1]at g3;have hn1:W1.heap.size=w.heap.size+1:=by rw[hW1];simp
 have b1:Below w w W1:=by rw[hW1];exact(aac _ _).alloc (Pe _) _
 have g4:=aaq W1 (.cells #[.int .u8 0,.string ⟨#[]⟩,.string ⟨#[]⟩] 24);have b2:Below W1 W1 (W1.alloc (.cells #[.int .u8 0,.string ⟨#[]⟩,.string ⟨#[]⟩] 24)):=(aac _ _).alloc (Pe _) _;have g3:=(b2.block _ (by omega)).trans g3;obtain⟨W2,hW2⟩:∃W2,W2=W1.alloc (.cells #[.int .u8 0,.string ⟨#[]⟩,.string ⟨#[]⟩] 24):=⟨_,rfl⟩;rw[<-hW2]at g3 g4 b2;have b12:=ae b1 b2;obtain⟨b4,hb4⟩:∃b4,b4=W1.heap.size:=⟨_,rfl⟩;rw[<-hb4]at g4;have aB7:w.heap.size<=b4:=by omega
 have HB4:Hid (w.heap.size+1=b4):=by rw[Hid];omega
 go_enter Tryz.func59,Tryz.ntmps59;go_upto_region 1 with(fail)
 rw[<-hW1,<-hW2,HB4.out];clear hW1 hW2 hb4 hn1 b1 b2;have pA:=p1 W2 b12;clear p1;obtain⟨q0,q1,q2,q3⟩:=OO g3;obtain⟨d0,d1,d2⟩:=aAN g4;go_upto_region 2 with(first|(go_at_call 52;refine pA.mono ?_;rintro e w3 ⟨rfl,hb3⟩))
 have Xr:=hb3.alloc hb3.size (.cells #[.int .u8 o1.toNat,.string F1,.string V1] 24);have g5:=aaq w3 (.cells #[.int .u8 o1.toNat,.string F1,.string V1] 24);have g3:=(Xr.block _ (lt_of_block g3)).trans g3;have g4:=(Xr.block _ (lt_of_block g4)).trans g4;have bB:=ae b12 Xr;obtain⟨W4,Yw⟩:∃W4,W4=w3.alloc (.cells #[.int .u8 o1.toNat,.string F1,.string V1] 24):=⟨_,rfl⟩;obtain⟨b5,hb5⟩:∃b5,b5=w3.heap.size:=⟨_,rfl⟩;rw[<-Yw]at g3 g4 g5 bB;rw[<-hb5]at g5;rw[<-Yw,<-hb5];clear Yw hb5 hb3 Xr q0 q1 q2 q3 d0 d1 d2 pA b12;obtain⟨q0,q1,q2,q3⟩:=OO g3;obtain⟨d0,d1,d2⟩:=aAN g4;obtain⟨e0,e1,e2⟩:=aAN g5;have f0:W4.frozen? ⟨b4,0,none⟩=false:=PD g4 0;have f1:W4.frozen? ⟨b4,1,none⟩=false:=PD g4 1;have f2:W4.frozen? ⟨b4,2,none⟩=false:=PD g4 2
 cases r1 with
 |some f=>
  obtain rfl:i1=true:=HI1.out.symm;have HX:Hid (R=some f):=HD.out;have HF:=Pd HF1.out;clear p2 HD HI2 Uw;go_wp2_with fail;refine aaD (by simp[results,Tryz.results59,go_sem,d0,d1,d2];try rfl) rfl ?_;rw[HX.out];refine⟨?_,jm bB _ aB7 _ _ _⟩;rw[HF.out]
  rfl
 |none=>
  obtain rfl:i1=false:=HI1.out.symm;have HX:Hid (R=r2):=HD.out;have pB:=p2 W4 bB;clear p2 HD HF1 HI1 e0 e1 e2;go_wp2_with fail;refine pB.mono ?_;rintro e w6 ⟨rfl,hb6⟩;have g4:=(hb6.block _ (lt_of_block g4)).trans g4;clear d0 d1 d2 f0 f1 f2 pB;obtain⟨d0,d1,d2⟩:=aAN g4;have f0:w6.frozen? ⟨b4,0,none⟩=false:=PD g4 0;have f1:w6.frozen? ⟨b4,1,none⟩=false:=PD g4 1;have f2:w6.frozen? ⟨b4,2,none⟩=false:=PD g4 2;go_wp2_with fail;refine aaD (by simp[results,Tryz.results59,go_sem,d0,d1,d2];try rfl) rfl ?_;rw[HX.out];refine⟨?_,jm (ae bB hb6) _ aB7 _ _ _⟩;rw[Uw.out,HI2.out]
open Rat3
abbrev wF:=List (Bs×List Bs)
def wV:wF->Bs->Bs->wF
 |[],f,v=>[(f,if v=[] then [] else [v])]
 |(k,vs)::r,f,v=>if k=f then (k,if v=[]\/v∈vs then vs else vs++[v])::r else (k,vs)::wV r f v
def OT(t:List Bs):List aO->wF->wF
 |[],l=>l
 |a::r,l=>match eO t a with|some f=>OT t r (wV l f.feat f.val)|none=>OT t r l
def OL(t:List Bs):List bI->wF->wF
 |[],l=>l
 |s::r,l=>OL t r (OT t s.arcs l)
def OW(most:Nat):wF->Nat->Nat
 |[],k=>k
 |x::r,k=>if k<=most then OW most r (k*(2*x.2.length+1)) else k
def O1(m:aQ)(t:List Bs):Nat:=OW 30000 (OL t m.states []) 1
def Pn(l:wF):Nat:=(l.map fun x=>2*x.2.length+1).foldr (· * ·) 1
theorem Rf(most:Nat):∀(l:wF) (k:Nat),1<=k->OW most l k=k*Pn l\/most<OW most l k
 |[],k,_=>aam (by show k=k*1;omega)
 |x::r,k,hk=>by
  unfold OW;by_cases h:k<=most
  ·rw[aaa h]
   rcases Rf most r (k*(2*x.2.length+1)) (aaB hk (aen _ (by omega)))with e|e
   ·left;rw[e,aa6];rfl
   ·right;exact e
  ·rw[aab h];right;omega
theorem QF{γ:Type}[DecidableEq γ](w:γ->Nat):∀ {l k:List γ},l.Nodup->(∀x∈l,x∈k)->(l.map w).sum<=(k.map w).sum
 |[],k,_,_=>aaS _
 |x::l,k,hn,hs=>by
  rw[aa8]at hn;have hx:=hs x aal;have ih:=QF w (l:=l) (k:=k.erase x) hn.2 (fun y hy=>by
   have hne:y≠x:=fun e=>hn.1 (e ▸ hy)
   exact(List.mem_erase_of_ne hne).2 (hs y (aaj _ hy)))
  have hp:=(List.perm_cons_erase hx).map w;have:=hp.sum_nat;rw[aa5,ac8]at this;rw[aa5,ac8];omega
def PM(vs:List Bs):List Bs:=[]::(vs.map (fun v=>61::v)++vs.map (fun v=>94::v))
def PO:wF->List Bs
 |[]=>[[]]
 |x::r=>(PM x.2).flatMap fun p=>(PO r).map fun q=>p++[46]++q
def SG(vs:List Bs):(PM vs).length=2*vs.length+1:=by unfold PM;simp;omega
theorem Qn{α β:Type}{f:α->List β}{n:Nat}:∀ {l:List α},(∀x∈l,(f x).length=n)->(l.flatMap f).length=l.length*n
 |[],_=>by simp
 |x::r,h=>by
  rw[adb,aas,h x aal,Qn (fun y hy=>h y (aaj _ hy)),aaF,Nat.succ_mul];omega
theorem QG:∀l:wF,(PO l).length=Pn l
 |[]=>rfl
 |x::r=>by
  show((PM x.2).flatMap _).length=(2*x.2.length+1)*Pn r;rw[Qn (n:=Pn r) (fun p _=>by rw[aaC,QG r]),SG]
def within(l:wF)(m:aBK):Prop:=∀x∈l,aP m x.1=iF\/(((aP m x.1).kind=1\/(aP m x.1).kind=2)/\(aP m x.1).of∈x.2)
theorem RS{m:aBK}:∀ {l:wF},within l m->dE (l.map Prod.fst) m∈PO l
 |[],_=>by simp[dE,PO]
 |x::r,h=>by
  have ih:=RS (l:=r) (fun y hy=>h y (aaj _ hy));have hx:=h x aal;show memT (aP m x.1)++dE (r.map Prod.fst) m∈_;refine List.mem_flatMap.2 ⟨kE (aP m x.1),?_,abk.2 ⟨_,ih,rfl⟩⟩;unfold PM kE;rcases hx with e|⟨e|e,hm⟩
  ·rw[e];exact aal
  ·rw[e]
   exact aaj _ (abB _ (abk.2 ⟨_,hm,rfl⟩))
  ·rw[e]
   exact aaj _ (ab6 _ (abk.2 ⟨_,hm,rfl⟩))
theorem PT:∀(l:wF) (f v:Bs),(wV l f v).map Prod.fst=if f∈l.map Prod.fst then l.map Prod.fst else l.map Prod.fst++[f]
 |[],f,v=>by simp[wV]
 |(k,vs)::r,f,v=>by
  unfold wV;by_cases h:k=f
  ·have hm:f∈List.map Prod.fst ((k,vs)::r):=by rw[<-h];simp
   rw[aaa h,aaa hm];rfl
  ·rw[aab h,aa5,PT r f v]
   have h':(f∈List.map Prod.fst ((k,vs)::r))↔f∈r.map Prod.fst:=by
    rw[aa5,aay];exact⟨fun e=>e.resolve_left (fun e=>h e.symm),aad⟩
   by_cases h2:f∈r.map Prod.fst
   ·rw[aaa h2,aaa (h'.2 h2)];rfl
   ·rw[aab h2,aab (fun e=>h2 (h'.1 e))];rfl
theorem Qe(t:List Bs):∀(arcs:List aO) (l:wF),(OT t arcs l).map Prod.fst=dR t arcs (l.map Prod.fst)
 |[],l=>rfl
 |a::r,l=>by
  unfold OT dR
  cases h:eO t a with
  |none=>exact Qe t r l
  |some f=>
   simp only[];rw[Qe t r,PT]
   split<;>rfl
theorem QW(t:List Bs):∀(ss:List bI) (l:wF),(OL t ss l).map Prod.fst=fG t ss (l.map Prod.fst)
 |[],l=>rfl
 |s::r,l=>by
  unfold OL fG;rw[QW t r,Qe]
def OQ:wF->Bs->List Bs
 |[],_=>[]
 |(k,vs)::r,f=>if k=f then vs else OQ r f
theorem Qj:∀(l:wF) (f v g u:Bs),(u∈OQ l g->u∈OQ (wV l f v) g)/\(v=[]\/v∈OQ (wV l f v) f)
 |[],f,v,g,u=>by
  refine⟨fun h=>(by cases h),?_⟩;by_cases hv:v=[]
  ·exact aam hv
  ·right
   unfold wV OQ;rw[aaa rfl,aab hv];simp
 |(k,vs)::r,f,v,g,u=>by
  obtain⟨h1,h2⟩:=Qj r f v g u;unfold wV;by_cases h:k=f
  ·subst h
   rw[aaa rfl,OQ,OQ,OQ,aaa rfl];refine⟨fun hu=>?_,?_⟩
   ·by_cases hg:k=g
    ·rw[aaa hg]at hu ⊢
     by_cases hc:v=[]\/v∈vs
     ·rw[aaa hc];exact hu
     ·rw[aab hc];exact abB _ hu
    ·rw[aab hg]at hu ⊢
     exact hu
   ·by_cases hc:v=[]\/v∈vs
    ·rw[aaa hc];exact hc
    ·rw[aab hc];right;simp
  ·rw[aab h,OQ,OQ,OQ,aab h]
   refine⟨fun hu=>?_,h2⟩;by_cases hg:k=g
   ·rw[aaa hg]at hu ⊢;exact hu
   ·rw[aab hg]at hu ⊢;exact h1 hu
theorem Qg(t:List Bs):∀(arcs:List aO) (l:wF),(∀g u,u∈OQ l g->u∈OQ (OT t arcs l) g)/\∀a∈arcs,∀f,eO t a=some f->f.val=[]\/f.val∈OQ (OT t arcs l) f.feat
 |[],l=>⟨fun _ _ h=>h,fun a ha=>by cases ha⟩
 |a::r,l=>by
  unfold OT
  cases h:eO t a with
  |none=>
   obtain⟨h1,h2⟩:=Qg t r l;refine⟨h1,fun b hb f hf=>?_⟩;rcases aay.1 hb with rfl|hb
   ·rw[h]at hf;cases hf
   ·exact h2 b hb f hf
  |some f=>
   obtain⟨h1,h2⟩:=Qg t r (wV l f.feat f.val);refine⟨fun g u hu=>h1 g u ((Qj l f.feat f.val g u).1 hu),fun b hb g hg=>?_⟩;rcases aay.1 hb with rfl|hb
   ·rw[h]at hg;cases hg
    rcases(Qj l f.feat f.val [] []).2 with e|e
    ·exact aam e
    ·exact aad (h1 _ _ e)
   ·exact h2 b hb g hg
theorem QY(t:List Bs):∀(ss:List bI) (l:wF),(∀g u,u∈OQ l g->u∈OQ (OL t ss l) g)/\∀s∈ss,∀a∈s.arcs,∀f,eO t a=some f->f.val=[]\/f.val∈OQ (OL t ss l) f.feat
 |[],l=>⟨fun _ _ h=>h,fun a ha=>by cases ha⟩
 |s::r,l=>by
  unfold OL;obtain⟨h1,h2⟩:=Qg t s.arcs l;obtain⟨k1,k2⟩:=QY t r (OT t s.arcs l);refine⟨fun g u hu=>k1 g u (h1 g u hu),fun q hq a ha f hf=>?_⟩;rcases aay.1 hq with rfl|hq
  ·rcases h2 a ha f hf with e|e
   ·exact aam e
   ·exact aad (k1 _ _ e)
  ·exact k2 q hq a ha f hf
theorem RP:∀ {l:wF} {x:Bs×List Bs},(l.map Prod.fst).Nodup->x∈l->OQ l x.1=x.2
 |(k,vs)::r,x,hn,hx=>by
  rw[aa5,aa8]at hn;unfold OQ;rcases aay.1 hx with rfl|hx
  ·rw[aaa rfl]
  ·rw[aab (fun e=>hn.1 (abk.2 ⟨x,hx,e.symm⟩))]
   exact RP hn.2 hx
def Pj(N:Nat)(fac:wF)(p:aR):Prop:=(0<=p.1/\p.1<N)/\∃m,p.2=dE (fac.map Prod.fst) m/\(∀g,oU (aP m g))/\(∀g,g∉fac.map Prod.fst->aP m g=iF)/\within fac m
def Py(N:Nat)(fac:wF):List aR:=(List.range N).flatMap fun(q:Nat)=>(PO fac).map fun x=>((q:Int),x)
def Su{N:Nat}{fac:wF}{p:aR}(h:Pj N fac p):p∈Py N fac:=by
 obtain⟨⟨h1,h2⟩,m,e,_,_,hw⟩:=h;refine List.mem_flatMap.2 ⟨p.1.toNat,List.mem_range.2 (by omega),List.mem_map.2 ⟨p.2,by rw[e];exact RS hw,?_⟩⟩;obtain⟨a,b⟩:=p;show((a.toNat:Int),b)=(a,b);rw[show((a.toNat:Nat):Int)=a by dsimp only at h1;omega]
def SA{N:Nat}{t:List Bs}{fac:wF}(hn:(fac.map Prod.fst).Nodup){p:aR}(h:Pj N fac p){a:aO}(hf:∀f,eO t a=some f->f.feat∈fac.map Prod.fst/\(f.val=[]\/f.val∈OQ fac f.feat))(ha:0<=a.to/\a.to<N){x:Bs}
  (hx:jy t (fac.map Prod.fst) p.2 a=some x):Pj N fac (a.to,x):=by
 obtain⟨_,m,e,ft,ou,hw⟩:=h;unfold jy at hx
 cases hf':eO t a with
 |none=>
  rw[hf']at hx;simp only[aao]at hx;subst hx;exact⟨ha,m,e,ft,ou,hw⟩
 |some f=>
  rw[hf']at hx;simp only[]at hx;have hv:=vT hf';have hg:∀g,aP (jg (fac.map Prod.fst) p.2) g=aP m g:=fun g=>by rw[e];exact Jb hn ft ou g
  obtain⟨g1,g2⟩:=hf f hf';unfold fT at hx;rw[hg]at hx
  cases hs:jZ (aP m f.feat) f.op f.val with
  |none=>rw[hs]at hx;cases hx
  |some y=>
   rw[hs]at hx;simp only[aba,aao]at hx;have hget:∀g,aP (iW (jg (fac.map Prod.fst) p.2) f.feat y) g=if f.feat=g then y else aP m g:=fun g=>by rw[vK,hg]
   have hfit:=Nl (ft f.feat) hv hs;refine⟨ha,_,hx.symm,fun g=>?_,fun g hg'=>?_,fun z hz=>?_⟩
   ·rw[hget];split
    ·exact hfit
    ·exact ft g
   ·rw[hget,aab (fun e:f.feat=g=>hg' (e ▸ g1))]
    exact ou g hg'
   ·rw[hget]
    by_cases hc:f.feat=z.1
    ·rw[aaa hc]
     have hz2:=RP hn hz;have hold:=hw z hz;rw[<-hc]at hold hz2;have hval:f.val≠[]->f.val∈z.2:=fun hne=>by rw[<-hz2];exact g2.resolve_left hne
     rcases H9 hv with⟨e1,v⟩|⟨e1,v⟩|⟨e1,v⟩|⟨e1,v⟩|e1|e1
     all_goals (unfold jZ at hs;rw[e1]at hs)
     ·simp only[acf,aao]at hs;subst hs;exact aad ⟨aam rfl,hval v⟩
     ·simp (decide:=true) only[ac0,acf,aao]at hs;subst hs;exact aad ⟨aad rfl,hval v⟩
     ·simp (decide:=true) only[ac0]at hs
      split at hs
      ·simp only[aao]at hs;subst hs;exact aad ⟨aam rfl,hval v⟩
      ·cases hs
     ·simp (decide:=true) only[ac0,acf,aao]at hs;subst hs;exact aam rfl
     ·simp (decide:=true) only[ac0,acf]at hs
      split at hs<;>split at hs
      ·simp only[aao]at hs;subst hs;exact hold
      ·cases hs
      ·simp only[aao]at hs;subst hs;exact hold
      ·cases hs
     ·simp (decide:=true) only[ac0,acf]at hs
      split at hs<;>split at hs
      ·simp only[aao]at hs;subst hs;exact hold
      ·cases hs
      ·simp only[aao]at hs;subst hs;exact hold
      ·cases hs
    ·rw[aab hc];exact hw z hz
theorem Q0{γ:Type}[DecidableEq γ]:∀ {l:List γ} {p:γ},jr l p=none->p∉l
 |[],p,_=>by simp
 |q::r,p,h=>by
  unfold jr at h
  split at h
  ·cases h
  ·rename_i hq
   cases hf:jr r p with
   |some k=>rw[hf]at h;cases h
   |none=>
    intro hm;rcases aay.1 hm with e|hm
    ·exact hq e.symm
    ·exact Q0 hf hm
def Tz{γ:Type}[DecidableEq γ]{l:List γ}{p:γ}(h:l.Nodup):(dG l p).2.Nodup/\∃r,(dG l p).2=l++r:=by
 unfold dG
 cases hf:jr l p with
 |some n=>exact⟨h,[],by simp⟩
 |none=>
  refine⟨?_,[p],rfl⟩;rw[adD];refine⟨h,by simp,fun x hx y hy e=>?_⟩;simp only[aar]at hy;subst hy;subst e;exact Q0 hf hx
theorem Qb{N:Nat}{t:List Bs}{fac:wF}(hn:(fac.map Prod.fst).Nodup){p:aR}(h:Pj N fac p):∀(arcs:List aO) (l:List aR) (out:List aO),
  (∀a∈arcs,(0<=a.to/\a.to<N)/\∀f,eO t a=some f->f.feat∈fac.map Prod.fst/\(f.val=[]\/f.val∈OQ fac f.feat))->l.Nodup->(∀q∈l,Pj N fac q) ->
  (iO t (fac.map Prod.fst) p.2 arcs l out).2.Nodup/\(∀q∈(iO t (fac.map Prod.fst) p.2 arcs l out).2,Pj N fac q)/\(∃r,(iO t (fac.map Prod.fst) p.2 arcs l out).2=l++r)/\(iO t (fac.map Prod.fst) p.2 arcs l out).1.length<=out.length+arcs.length
 |[],l,out,_,h2,h3=>⟨h2,h3,⟨[],by simp[iO]⟩,by simp[iO]⟩
 |a::r,l,out,h1,h2,h3=>by
  obtain⟨ha1,ha2⟩:=h1 a aal;have hr:=fun b hb=>h1 b (aaj a hb)
  unfold iO
  cases hx:jy t (fac.map Prod.fst) p.2 a with
  |none=>
   simp only[];obtain⟨e1,e2,e3,e4⟩:=Qb hn h r l out hr h2 h3;exact⟨e1,e2,e3,by rw[aaF];omega⟩
  |some tz=>
   simp only[];obtain⟨v1,s,v2⟩:=Tz (p:=(a.to,tz)) h2;obtain⟨e1,e2,⟨s2,e3⟩,e4⟩:=Qb hn h r (dG l (a.to,tz)).2 (out++[⟨fE t a.inn,fE t a.out,a.w,(dG l (a.to,tz)).1⟩]) hr v1 (fun q hq=>by
    rcases(Om l (a.to,tz)).2.2.1 q hq with h'|rfl
    ·exact h3 q h'
    ·exact SA hn h ha2 ha1 hx)
   refine⟨e1,e2,⟨s++s2,by rw[e3,v2,aaZ]⟩,?_⟩;rw[aas,aeL]at e4;rw[aaF];omega
def Pq(m:aQ)(l:List aR)(i:Nat):Nat:=((l.take i).map fun p=>(wL m p.1).arcs.length).sum
theorem QS{m:aQ}{t:List Bs}{fac:wF}(hm:bM m=true)(hn:(fac.map Prod.fst).Nodup)(hf:∀s∈m.states,∀a∈s.arcs,∀f,eO t a=some f->f.feat∈fac.map Prod.fst/\(f.val=[]\/f.val∈OQ fac f.feat)) :
  ∀(n i:Nat) (l:List aR) (out:List bI) (c:Nat),l.Nodup->(∀q∈l,Pj m.states.length fac q)->l.length<=3000->i<=l.length->3001<=n+i->c<=Pq m l i->lC m t (fac.map Prod.fst) n i l out c=none ->
   ∃k:List aR,k.Nodup/\(∀q∈k,Pj m.states.length fac q)/\(3000<k.length\/30000<(k.map fun p=>(wL m p.1).arcs.length).sum)
 |0,i,l,out,c,_,_,h3,h4,h5,_,_=>by omega
 |n+1,i,l,out,c,h1,h2,h3,h4,h5,h6,h=>by
  unfold lC at h;by_cases hi:i<l.length
  ·rw[afd hi]at h
   simp only[]at h;have hl:=h2 _ (aag hi);obtain⟨m1,m2,m3,m4,m5⟩:=kV.1 hm;have hst:=RB hm hl.1;obtain⟨s1,s2⟩:=pg.1 (m4 _ hst);obtain⟨e1,e2,⟨r,e3⟩,e4⟩:=Qb (t:=t) hn hl (wL m l[i].1).arcs l [] (fun a ha=>⟨(mh.1 (s2 a ha)).2.2.1,hf _ hst a ha⟩) h1 h2;have hto:Pq m (iO t (fac.map Prod.fst) l[i].2 (wL m l[i].1).arcs l []).2 (i+1)=Pq m l i+(wL m l[i].1).arcs.length:=by
    unfold Pq;rw[e3,List.take_append_of_le_length (by omega),aau hi,aa3,ady];simp
   have hle:Pq m (iO t (fac.map Prod.fst) l[i].2 (wL m l[i].1).arcs l []).2 (i+1)<=((iO t (fac.map Prod.fst) l[i].2 (wL m l[i].1).arcs l []).2.map fun p=>(wL m p.1).arcs.length).sum:=by
    unfold Pq
    conv=>rhs;rw[<-aaY (i+1) (iO t (fac.map Prod.fst) l[i].2 (wL m l[i].1).arcs l []).2]
    rw[aa3,ady];omega
   simp only[abG,aaP]at e4
   split at h
   ·rename_i hc
    refine⟨_,e1,e2,?_⟩;rcases hc with hc|hc
    ·exact aam hc
    ·right;omega
   ·rename_i hc
    have el:=aaw List.length e3;rw[aas]at el;exact QS hm hn hf n (i+1) _ _ _ e1 e2 (by omega) (by omega) (by omega) (by omega) h
  ·rw[aek hi]at h;cases h
theorem RH{α:Type}(f:α->List Nat):∀l:List α,(l.flatMap f).sum=(l.map fun x=>(f x).sum).sum
 |[]=>rfl
 |x::r=>by rw[adb,ady,RH f r,aa5,ac8]
theorem RG{α:Type}(g:α->Nat)(k:Nat):∀l:List α,(l.map fun x=>k*g x).sum=k*(l.map g).sum
 |[]=>rfl
 |x::r=>by rw[aa5,ac8,RG g k r,aa5,ac8,aaL]
def Tu(m:aQ):((List.range m.states.length).map fun(q:Nat)=>(wL m (q:Int)).arcs.length).sum=dh m.states:=by
 unfold dh;congr 1;apply adm
 ·simp
 ·intro i h1 h2
  simp only[acr,ad4];unfold wL;rw[aaf,show((i:Int)).toNat=i by omega,aak (by simpa using h2)]
  rfl
def RZ(N:Nat)(fac:wF):(Py N fac).length=N*Pn fac:=by
 unfold Py;rw[Qn (n:=Pn fac) (fun p _=>by rw[aaC,QG]),List.length_range]
def RY(m:aQ)(fac:wF):((Py m.states.length fac).map fun p=>(wL m p.1).arcs.length).sum=Pn fac*dh m.states:=by
 unfold Py;rw[List.map_flatMap,RH,<-Tu,<-RG];congr 2;funext q;rw[List.map_map];have:((fun p:aR=>(wL m p.1).arcs.length) ∘ fun x=>((q:Int),x))=fun _=>(wL m (q:Int)).arcs.length:=rfl
 rw[this,afY,aeu,QG]
def Sb{m:aQ}{t:List Bs}(hm:bM m=true)(h:lC m t (fG t m.states []) 3001 0 [(m.start,dE (fG t m.states []) [])] [] 0=none) :
  3000<O1 m t*m.states.length\/30000<O1 m t*dh m.states:=by
 obtain⟨m1,m2,m3,m4,m5⟩:=kV.1 hm;have hk:=QW t m.states [];rw[afL]at hk;obtain⟨f1,f2,f3⟩:=xN t m.states [] abq;obtain⟨g1,g2⟩:=QY t m.states [];rw[<-hk]at h f1 f3;obtain⟨k,k1,k2,k3⟩:=QS hm f1 (fun s hs a ha f hf=>⟨f3 s hs a ha f hf,g2 s hs a ha f hf⟩) 3001 0 _ [] 0 (by simp) (fun q hq=>by
  rw[aar]at hq;subst hq;exact⟨⟨m2.2.2.1,m2.2.2.2⟩,[],rfl,fun g=>I7,fun g _=>rfl,fun x _=>aam rfl⟩) (by simp) (by simp) (by omega) (by simp[Pq]) h
 have hsub:∀q∈k,q∈Py m.states.length (OL t m.states []):=fun q hq=>Su (k2 q hq)
 unfold O1;rcases Rf 30000 (OL t m.states []) 1 (Pe _)with e|e
 ·rw[e,acA]
  rcases k3 with h'|h'
  ·left
   have:=QF (fun _=>1) k1 hsub;rw[afY,afY,aeu,aeu,acN,acN,RZ,aaR]at this;omega
  ·right
   have:=QF (fun p:aR=>(wL m p.1).arcs.length) k1 hsub;rw[RY]at this;omega
 ·left
  have:OW 30000 (OL t m.states []) 1<=OW 30000 (OL t m.states []) 1*m.states.length:=aen _ (by omega);omega
end Go.Proofs.YtppnecgeboonbaaGreatDoor
