/- Walks. -/
import Derived.Test.YtppnecgeboonbaaGreatDoorZ13
namespace Go.Proofs.YtppnecgeboonbaaGreatDoor
set_option maxRecDepth 100000
set_option linter.all false
set_option maxHeartbeats 4000000
open Go.RowKit Go.Maps
def pX(op:UInt8)(g:Nat)(d:Bool):Prop:=∀(t v:ByteArray) (b k0:Nat) (T0:ByteArray) (k':Nat) (T':ByteArray) (bb:Bool) (R:World->Prop) (w:World),b<w.heap.size ->
  (∀W,W.heap[b]? = w.heap[b]?->(Instr.lookup 89 (.map (some b)) (.string t) false).run Tryz.prog W=.ok (au k0 T0) W) ->
  (∀W,Calls Tryz.prog g #[au k0 T0,.string v] W fun e w'=>e=.returned (.tuple #[au k' T',.bool bb])/\w'=if d=true then (two W k0 T0 k' T').drew else two W k0 T0 k' T') ->
  (∀W,W.heap[b]? = w.heap[b]?->∃o,(Instr.mapUpdate 89 (.map (some b)) (.string t) (au k' T')).run Tryz.prog W=.ok () (aU W b o)/\R (aU W b o)) ->
  Calls Tryz.prog 50 #[.map (some b),.agg #[.int .u8 op.toNat,.string t,.string v]] w (pY w b bb R)
def Nc:pX 80 92 false:=fun t v b k0 T0 k' T' bb R w hb h1 h2 h3=>stepG 92 (fun _ _=>rfl) false 80 rfl t v b k0 T0 k' T' bb R w hb h1 h2 h3
def Nf:pX 78 93 false:=fun t v b k0 T0 k' T' bb R w hb h1 h2 h3=>stepG 93 (fun _ _=>rfl) false 78 rfl t v b k0 T0 k' T' bb R w hb h1 h2 h3
def Ng:pX 67 94 false:=fun t v b k0 T0 k' T' bb R w hb h1 h2 h3=>stepG 94 (fun _ _=>rfl) false 67 rfl t v b k0 T0 k' T' bb R w hb h1 h2 h3
def Nh:pX 82 95 true:=fun t v b k0 T0 k' T' bb R w hb h1 h2 h3=>stepG 95 (fun _ _=>rfl) true 82 rfl t v b k0 T0 k' T' bb R w hb h1 h2 h3
def Ni:pX 68 96 true:=fun t v b k0 T0 k' T' bb R w hb h1 h2 h3=>stepG 96 (fun _ _=>rfl) true 68 rfl t v b k0 T0 k' T' bb R w hb h1 h2 h3
def Nj:pX 85 97 false:=fun t v b k0 T0 k' T' bb R w hb h1 h2 h3=>stepG 97 (fun _ _=>rfl) false 85 rfl t v b k0 T0 k' T' bb R w hb h1 h2 h3
abbrev qM(op:UInt8)(t v:ByteArray)(L:aBK)(b:Nat)(w:World)(e:Ending)(w':World):Prop:=
 e=.returned (.bool (fT L (aD op t v)).isSome)/\iN b w w'/\∀L',fT L (aD op t v)=some L'->jC w' b L'
def rV{op:UInt8}{g:Nat}{d:Bool}(hS:pX op g d)(hD:pJ op g d)(t v:ByteArray)(ht:bz t.data.toList)(L:aBK)(hL:∀p∈L,bz p.1)(b:Nat)(w:World)(hM:jC w b L) :
  Calls Tryz.prog 50 #[.map (some b),.agg #[.int .u8 op.toNat,.string t,.string v]] w (qM op t v L b w):=by
 have hSt:S t.data.toList=.string t:=eX t;refine(hS t v b (aP L t.data.toList).kind ⟨(aP L t.data.toList).of.toArray⟩ (eu (aP L t.data.toList) op v.data.toList).1.kind ⟨(eu (aP L t.data.toList) op v.data.toList).1.of.toArray⟩ (eu (aP L t.data.toList) op v.data.toList).2 (fun W=>jC W b (iW L t.data.toList (eu (aP L t.data.toList) op v.data.toList).1)) w hM.lt ?_ (fun W=>hD _ v W) ?_).mono ?_
 ·intro W hW
  have:=BP W b L (hM.same hW) hL t.data.toList ht;rw[hSt]at this;exact this
 ·intro W hW
  have:=BQ W b L (hM.same hW) hL t.data.toList ht (eu (aP L t.data.toList) op v.data.toList).1;rw[hSt]at this;exact this
 ·rintro e w' ⟨rfl,hu,hR⟩
  have hs:fT L (aD op t v)=if (eu (aP L t.data.toList) op v.data.toList).2=true then some (iW L t.data.toList (eu (aP L t.data.toList) op v.data.toList).1) else none:=by
   unfold fT;show(jZ (aP L t.data.toList) op v.data.toList).map (iW L t.data.toList)=_;rw[Nk]
   split<;>rfl
  cases hb:(eu (aP L t.data.toList) op v.data.toList).2 with
  |true=>
   rw[hb,aaa rfl]at hs;refine⟨by rw[hs];rfl,hu,fun L' hL'=>?_⟩;rw[hs]at hL'
   cases hL'
   exact hR hb
  |false=>
   rw[hb,aab (by decide)]at hs;refine⟨by rw[hs];rfl,hu,fun L' hL'=>?_⟩;rw[hs]at hL'
   cases hL'
def IJ{op:UInt8}(h:eD op=true):op=80\/op=78\/op=85\/op=82\/op=68\/op=67:=by
 unfold eD at h;exact abp h
def Eh(op:UInt8)(hk:eD op=true)(t v:ByteArray)(ht:bz t.data.toList)(L:aBK)(hL:∀p∈L,bz p.1)(b:Nat)(w:World)(hM:jC w b L) :
  Calls Tryz.prog 50 #[.map (some b),.agg #[.int .u8 op.toNat,.string t,.string v]] w (qM op t v L b w):=by
 rcases IJ hk with rfl|rfl|rfl|rfl|rfl|rfl
 ·exact rV Nc GD t v ht L hL b w hM
 ·exact rV Nf GG t v ht L hL b w hM
 ·exact rV Nj GK t v ht L hL b w hM
 ·exact rV Nh GI t v ht L hL b w hM
 ·exact rV Ni GJ t v ht L hL b w hM
 ·exact rV Ng GH t v ht L hL b w hM
def zu(w:World)(A:Option Addr)(l:List aH):Prop:=∀k,(h:k<l.length)->∃b o,A=some ⟨b,o,none⟩/\b<w.heap.size/\w.cell? ⟨b,o+k*3,none⟩=some (.int .u8 l[k].op.toNat)/\w.cell? ⟨b,o+k*3+1,none⟩=some (S l[k].feat)/\w.cell? ⟨b,o+k*3+2,none⟩=some (S l[k].val)
def xQ{α:Type}{p:α->Bool}{l:List α}{k:Nat}(hk:k<l.length)(h:∀x∈l.take k,p x=true)(hp:p l[k]=true):∀x∈l.take (k+1),p x=true:=by
 intro x hx;rw[aau hk]at hx;rcases aaG.1 hx with hx|hx
 ·exact h x hx
 ·simp only[aar]at hx;subst hx;exact hp
def Ie{α:Type}{p:α->Bool}{l:List α}{k:Nat}(hk:k<l.length)(hp:p l[k]=false):l.all p=false:=by
 cases h:l.all p with
 |false=>rfl
 |true=>rw[aaT]at h;rw[h _ (aag hk)]at hp;cases hp
def IL{l:List aH}(h:l.all aN=false):jH l=false:=by unfold jH;rw[h];rfl
def Bq{l:List aH}(h:∀x∈l,aN x=true):jH l=(jL [] l).isSome:=by unfold jH;rw[aaT.2 h];rfl
theorem yN:∀(a b:List aH) (m:aBK),jL m (a++b)=match jL m a with|some m'=>jL m' b|none=>none
 |[],b,m=>rfl
 |f::a,b,m=>by
  show(match fT m f with|some m'=>jL m' (a++b)|none=>none)=match (match fT m f with|some m'=>jL m' a|none=>none) with|some m'=>jL m' b|none=>none
  cases fT m f with
  |none=>rfl
  |some m'=>exact yN a b m'
def DR{l:List aH}{k:Nat}(hk:k<l.length){L:aBK}(h:jL [] (l.take k)=some L):jL [] (l.take (k+1))=fT L l[k]:=by
 rw[aau hk,yN,h];show(match fT L l[k] with|some m'=>some m'|none=>none)=_
 cases fT L l[k]<;>rfl
def Mh{l:List aH}{k:Nat}(hk:k<l.length){L:aBK}(h:jL [] (l.take k)=some L)(hs:fT L l[k]=none):jL [] l=none:=by
 have:=DR hk h;rw[hs]at this;rw[<-aaY (k+1) l,yN,this]
def Og{f:aH}(h:aN f=true):eD f.op=true/\bz f.feat:=by
 unfold aN at h;rw[aaE,aax]at h;have:=qf f;exact⟨(qd h.1).1,by unfold bz;omega⟩
def Ns{L L':aBK}{f:aH}(hf:bz f.feat)(hL:∀p∈L,bz p.1)(h:fT L f=some L'):∀p∈L',bz p.1:=by
 unfold fT at h
 cases hs:jZ (aP L f.feat) f.op f.val with
 |none=>rw[hs]at h;cases h
 |some x=>
  rw[hs]at h
  cases h
  rw[uK];exact rC hf hL
def Jv(f:aH):(fH f).2=aN f:=by
 unfold fH
 split
 ·rename_i h;exact h.symm
 ·rename_i h
  cases hf:aN f
  ·rfl
  ·exact absurd hf h
def Bp(A:Option Addr)(c:Nat)(l:List aH)(w:World)(hT:bK w)(hV:zu w A l)(hl:l.length<=1000000) :
  Calls Tryz.prog 21 #[.slice A l.length c] w fun e w'=>e=.returned (.bool (jH l))/\Below w w w':=by
 have HV:=Pd hV;clear hV;have hmk:∀W,(Instr.makeMap 89 none).run Tryz.prog W=.ok (.map (some W.heap.size)) (W.alloc (.map #[] 0)):=fun _=>rfl
 go_enter Tryz.func21,Tryz.ntmps21;go_wp2_with fail
 go_loopw [12] (fun i wr=>∃(k:Nat),i=.int .i64 k/\k<=l.length/\Below w w wr/\Hid (∀x∈l.take k,aN x=true)) (fun i _=>l.length-(intOf i).toNat)
 case atStart=>exact⟨0,rfl,by omega,aac _ _,by simp[Hid]⟩
 case round=>
  obtain⟨k,rfl,hk,hB,HN⟩:=hrel;by_cases hlt:k<l.length
  ·obtain⟨b,o,rfl,hbl,hc0,hc1,hc2⟩:=HV.out k hlt
   have HF:Hid (aN l[k]=false->jH l=false):=fun h=>IL (Ie hlt h)
   have HT:Hid (aN l[k]=true->∀x∈l.take (k+1),aN x=true):=xQ hlt HN.out;generalize l[k]=cc at*;obtain⟨F,hF⟩:∃F:ByteArray,(⟨cc.feat.toArray⟩:ByteArray)=F:=⟨_,rfl⟩;obtain⟨V,Yv⟩:∃V:ByteArray,(⟨cc.val.toArray⟩:ByteArray)=V:=⟨_,rfl⟩;have TN:cc.feat=F.data.toList:=by rw[<-hF]
   have Ub:cc.val=V.data.toList:=(by rw[<-Yv]);have k0:wr.cell? ⟨b,o+k*3,none⟩=some (.int .u8 cc.op.toNat):=(hB.cell (p:=⟨b,o+k*3,none⟩) hbl).trans hc0;have k1:wr.cell? ⟨b,o+k*3+1,none⟩=some (.string F):=(hB.cell (p:=⟨b,o+k*3+1,none⟩) hbl).trans (by rw[hc1,S,hF]);have k2:wr.cell? ⟨b,o+k*3+2,none⟩=some (.string V):=(hB.cell (p:=⟨b,o+k*3+2,none⟩) hbl).trans (by rw[hc2,S,Yv]);have p1:=fun W hW=>vQ cc.op F V W hW
   have hcc:aD cc.op F V=cc:=by cases cc;simp only at TN Ub;subst TN;subst Ub;rfl
   rw[hcc]at p1;have hq:=Jv cc;obtain⟨N1,hN1⟩:∃x:ByteArray,(⟨(fH cc).1.toArray⟩:ByteArray)=x:=⟨_,rfl⟩;rw[hN1,hq]at p1;obtain⟨op,hop⟩:∃x,cc.op=x:=⟨_,rfl⟩;rw[hop]at p1 k0;have i0:(0:Int)<=(k:Int):=by omega
   have il:(k:Int)<(l.length:Int):=(by omega);have bC:Below wr wr (wr.alloc (.cells #[.int .u8 op.toNat,.string F,.string V] 24)):=(aac _ _).alloc (Pe _) _;clear hF Yv TN Ub hc0 hc1 hc2 hcc hq hN1 hop
   cases hq:aN cc with
   |false=>
    have HX:=Pd (HF.out hq);rw[hq]at p1;clear hq;go_wp2_with fail;refine(p1 _ (hT.below (ae hB bC))).mono ?_;rintro e W3 ⟨rfl,b3⟩;go_wp2_with fail;go_returns;exact⟨by rw[HX.out];(try rfl),ae (ae hB bC) b3⟩
   |true=>
    have HX:=Pd (HT.out hq);rw[hq]at p1;clear hq;go_wp2_with fail;refine(p1 _ (hT.below (ae hB bC))).mono ?_;rintro e W3 ⟨rfl,b3⟩;go_wp2_with fail;go_roundw
    case rel=>exact⟨k+1,by go_num,by omega,ae (ae hB bC) b3,HX.out⟩
    case measure=>simp[intOf];omega
  ·obtain rfl:k=l.length:=by omega
   have HA:Hid (∀x∈l,aN x=true):=by have:=HN.out;rwa[aaJ]at this
   rename World=>w1
   have hM0:jC (w1.alloc (.map #[] 0)) w1.heap.size []:=bN.new w1;have hB0:=hB.alloc (hB.size) (.map #[] 0);have hB1:=hB.size;clear HN hk hB;go_wp2_with fail
   go_loopw [27] (fun i w2=>∃(m:Nat) (L:aBK),i=.int .i64 m/\m<=l.length/\Below w w w2/\Below w1 w1 w2/\w1.heap.size<w2.heap.size/\jC w2 w1.heap.size L/\(∀p∈L,bz p.1)/\Hid (jL [] (l.take m)=some L)) (fun i _=>l.length-(intOf i).toNat)
   case atStart=>exact⟨0,[],rfl,by omega,hB0,(aac _ _).alloc (Pe _) _,by simp,hM0,(fun p hp=>absurd hp aaK),rfl⟩
   case round=>
    obtain⟨m,L,rfl,hm,hBw,hBr,hgt,hM,hLk,HR⟩:=hrel;by_cases hlt2:m<l.length
    ·obtain⟨b,o,rfl,hbl,hc0,hc1,hc2⟩:=HV.out m hlt2
     have Xa:=Og (HA.out _ (aag hlt2));have HF:Hid (fT L l[m]=none->jH l=false):=fun h=>by rw[Bq HA.out,Mh hlt2 HR.out h];rfl
     have HT:Hid (∀L',fT L l[m]=some L'->jL [] (l.take (m+1))=some L'/\∀p∈L',bz p.1):=fun L' h=>⟨(DR hlt2 HR.out).trans h,Ns Xa.2 hLk h⟩
     generalize l[m]=cc at*;obtain⟨F,hF⟩:∃F:ByteArray,(⟨cc.feat.toArray⟩:ByteArray)=F:=⟨_,rfl⟩;obtain⟨V,Yv⟩:∃V:ByteArray,(⟨cc.val.toArray⟩:ByteArray)=V:=⟨_,rfl⟩;have TN:cc.feat=F.data.toList:=by rw[<-hF]
     have Ub:cc.val=V.data.toList:=(by rw[<-Yv]);have k0:wr.cell? ⟨b,o+m*3,none⟩=some (.int .u8 cc.op.toNat):=(hBw.cell (p:=⟨b,o+m*3,none⟩) hbl).trans hc0;have k1:wr.cell? ⟨b,o+m*3+1,none⟩=some (.string F):=(hBw.cell (p:=⟨b,o+m*3+1,none⟩) hbl).trans (by rw[hc1,S,hF]);have k2:wr.cell? ⟨b,o+m*3+2,none⟩=some (.string V):=(hBw.cell (p:=⟨b,o+m*3+2,none⟩) hbl).trans (by rw[hc2,S,Yv]);have hcc:aD cc.op F V=cc:=by cases cc;simp only at TN Ub;subst TN;subst Ub;rfl
     have bA:Below w1 w1 (wr.alloc (.cells #[.int .u8 cc.op.toNat,.string F,.string V] 24)):=hBr.alloc hBr.size _;have bW:Below w w (wr.alloc (.cells #[.int .u8 cc.op.toNat,.string F,.string V] 24)):=hBw.alloc hBw.size _;have hM2:jC (wr.alloc (.cells #[.int .u8 cc.op.toNat,.string F,.string V] 24)) w1.heap.size L:=hM.below ((aac _ _).alloc (Pe _) _);have p2:=Eh cc.op Xa.1 F V (by rw[<-TN];exact Xa.2) L hLk w1.heap.size _ hM2;unfold qM at p2;rw[hcc]at p2;have hsz:w1.heap.size<(wr.alloc (.cells #[.int .u8 cc.op.toNat,.string F,.string V] 24)).heap.size:=by simp;omega
     obtain⟨op,hop⟩:∃x,cc.op=x:=⟨_,rfl⟩;rw[hop]at p2 k0 bA bW hsz;have i0:(0:Int)<=(m:Int):=by omega
     have il:(m:Int)<(l.length:Int):=(by omega);clear hF Yv TN Ub hc0 hc1 hc2 hcc hop Xa hM2 hM hM0 hLk HR
     cases hs:fT L cc with
     |none=>
      have HX:=Pd (HF.out hs);simp only[hs]at p2;clear hs;go_wp2_with fail;refine p2.mono ?_;rintro e W3 ⟨rfl,hu,-⟩;go_wp2_with fail;go_returns;exact⟨by rw[HX.out];(try rfl),bW.trans (hu.low _ hB1 bW.size)⟩
     |some L'=>
      have HX:=Pd (HT.out L' hs);simp only[hs]at p2;clear hs;go_wp2_with fail;refine p2.mono ?_;rintro e W3 ⟨rfl,hu,hm3⟩;have hlow:=hu.low w1.heap.size (Pe _) bA.size;go_wp2_with fail;go_roundw
      case rel=>exact⟨m+1,L',by go_num,by omega,bW.trans (hu.low _ hB1 bW.size),bA.trans hlow,aah hsz (hu.low 0 (aaS _) (aaS _)).size,hm3 L' rfl,HX.out.2,HX.out.1⟩
      case measure=>simp[intOf];omega
    ·obtain rfl:m=l.length:=by omega
     have HX:Hid (jH l=true):=by
      have:=HR.out;rw[aaJ]at this;rw[Hid,Bq HA.out,this];rfl
     go_wp2_with fail;go_returns;exact⟨by rw[HX.out];(try rfl),hBw⟩
end Go.Proofs.YtppnecgeboonbaaGreatDoor
namespace Go.Proofs.YtppnecgeboonbaaGreatDoor.Rat3
set_option maxRecDepth 100000
set_option linter.all false
set_option maxHeartbeats 4000000
open Go.RowKit
def Ct{s:ByteArray}(h:s.size=0):aj s.data.toList=false:=by rw[fF h];rfl
def Cv{l:Bs}(h:1000<l.length):aj l=false:=by
 cases hh:aj l with
 |false=>rfl
 |true=>have:=((iG l).1 hh).2;omega
def Cw{s:ByteArray}(h:1<s.size)(h0:s[0]'(by omega)=48):aj s.data.toList=false:=by
 cases hh:aj s.data.toList with
 |false=>rfl
 |true=>
  obtain⟨⟨h1,h2,h3⟩,h4⟩:=(iG _).1 hh;exfalso;apply h3 (by rw[<-aae];exact h);have:=drop_byte s 0 (by omega);rw[abj]at this;rw[this,adZ,h0]
def Cs{s:ByteArray}{k:Nat}(hk:k<s.size)(h:cz s[k]=false):aj s.data.toList=false:=by
 cases hh:aj s.data.toList with
 |false=>rfl
 |true=>
  obtain⟨⟨h1,h2,h3⟩,h4⟩:=(iG _).1 hh;have:=h2 s[k] (by
   have:=drop_byte s k hk;exact abV (i:=k) (by rw[this];exact aal))
  rw[h]at this;cases this
def Cu{s:ByteArray}(h0:0<s.size)(h1:s.size<=1000)(h2:s.size<=1\/s[0]'h0≠48)(h3:∀c∈s.data.toList,cz c=true):aj s.data.toList=true:=by
 rw[iG];have hs:=aae s;have hne:s.data.toList≠[]:=by
  intro e;have:s.data.toList.length=0:=by rw[e];rfl
  omega
 refine⟨⟨hne,h3,fun hl=>?_⟩,by omega⟩;have:=drop_byte s 0 (by omega);rw[abj]at this;rw[this,adZ];intro e;injection e with e
 rcases h2 with h2|h2
 ·omega
 ·exact h2 e
def Az{s:ByteArray}{k:Nat}(hk:k<s.size)(h:∀c∈s.data.toList.take k,cz c=true)(hd:cz s[k]=true):∀c∈s.data.toList.take (k+1),cz c=true:=by
 intro c hc;have hlt:k<s.data.toList.length:=by rw[<-aae];exact hk
 rw[aau hlt]at hc;rcases aaG.1 hc with hc|hc
 ·exact h c hc
 ·rw[aar.1 hc];exact hd
def gI(s:ByteArray)(w:World)(hs:s.size<=9223372036854775807) :
  Calls Tryz.prog 192 #[.string s] w fun e w'=>e=.returned (.bool (aj s.data.toList))/\w=w':=by
 by_cases h0:s.size=0
 ·have hemp:=jF h0
  have HK:=Pd (Ct h0);go_enter Tryz.func192,afx;go_wp2_with fail;go_returns;exact⟨by rw[HK.out];rfl,rfl⟩
 have hemp:=jI h0;rcases aaz 1000 s.size with h1|h1
 ·have HK:=Pd (Cv (l:=s.data.toList) (by rw[<-aae];exact h1))
  go_enter Tryz.func192,afx;go_wp2_with fail;go_returns;exact⟨by rw[HK.out];rfl,rfl⟩
 have hx0:0<s.size:=by omega
 by_cases h2:1<s.size/\s[0]=48
 ·obtain⟨h2,h3⟩:=h2
  have HK:=Pd (Cw h2 h3);have f0:(((s[0].toNat:Nat):Int)==48)=true:=by rw[h3];rfl
  clear h3;go_enter Tryz.func192,afx;go_wp2_with fail;go_returns;exact⟨by rw[HK.out];rfl,rfl⟩
 have HG:Hid ((∀c∈s.data.toList,cz c=true)->aj s.data.toList=true):=fun h3=>Cu hx0 h1 (by
  rcases aaz 1 s.size with h|h
  ·exact aad fun e=>h2 ⟨h,e⟩
  ·exact aam h) h3
 have hc:(s.size=1/\(((s[0].toNat:Nat):Int)==48)=true)\/(s.size=1/\(((s[0].toNat:Nat):Int)==48)=false)\/1<s.size/\(((s[0].toNat:Nat):Int)==48)=false:=by
  by_cases e:s[0]=48
  ·exact aam ⟨by rcases aaz 1 s.size with h|h;exact absurd ⟨h,e⟩ h2;omega,by rw[e];rfl⟩
  ·have:s[0].toNat≠48:=fun hh=>e (abz.1 hh)
   have hf:(((s[0].toNat:Nat):Int)==48)=false:=by simp;omega
   rcases aaz 1 s.size with h|h
   ·exact aad (aad ⟨h,hf⟩)
   ·exact aad (aam ⟨by omega,hf⟩)
 clear h2;rcases hc with⟨hc,f0⟩|⟨hc,f0⟩|⟨hc,f0⟩
 all_goals
  go_enter Tryz.func192,afx;go_wp2_with fail
  go_loopw [2,23] (fun _ i wr=>∃(k:Nat),i=.int .i64 k/\k<=s.size/\wr=w/\Hid (∀c∈s.data.toList.take k,cz c=true)) (fun _ i _=>s.size-(intOf i).toNat)
  case atStart=>exact⟨0,rfl,by omega,rfl,by simp[Hid]⟩
  case round=>
   obtain⟨k,rfl,hk,rfl,H⟩:=hrel;by_cases hlt:k<s.size
   ·obtain⟨n,hn⟩:∃n,s[k].toNat=n:=⟨_,rfl⟩
    have hx:=s[k].toNat_lt;by_cases hd:cz s[k]=true
    ·have HN:=Pd (Az hlt H.out hd)
     rw[lJ,hn]at hd;obtain⟨d1,d2⟩:=hd;go_wp2_with fail;go_roundw
     case rel=>exact⟨k+1,by go_num,by omega,trivial,HN⟩
     case measure=>simp[intOf];omega
    ·have hd':cz s[k]=false:=by simpa using hd
     have HK:=Pd (Cs hlt hd');rw[lJ,hn]at hd;have hdd:n<48\/57<n:=by omega
     clear hd hd';rcases hdd with hd|hd
     all_goals
      go_wp2_with fail;go_returns;exact⟨by rw[HK.out];rfl,rfl⟩
   ·obtain rfl:k=s.size:=by omega
    have HK:Hid (aj s.data.toList=true):=HG.out (by
     have:=H.out;rwa[aav (by rw[<-aae];exact Pe _)]at this)
    go_wp2_with fail;go_returns;exact⟨by rw[HK.out];rfl,rfl⟩
def eG(s:ByteArray)(w:World)(hs:s.size<=9223372036854775807) :
  Calls Tryz.prog 159 #[.string s] w fun e w'=>e=.returned (.bool (aj s.data.toList))/\w=w':=by
 by_cases h0:s.size=0
 ·have hemp:=jF h0
  have HK:=Pd (Ct h0);go_enter Tryz.func159,afu;go_wp2_with fail;go_returns;exact⟨by rw[HK.out];rfl,rfl⟩
 have hemp:=jI h0;rcases aaz 1000 s.size with h1|h1
 ·have HK:=Pd (Cv (l:=s.data.toList) (by rw[<-aae];exact h1))
  go_enter Tryz.func159,afu;go_wp2_with fail;go_returns;exact⟨by rw[HK.out];rfl,rfl⟩
 have hx0:0<s.size:=by omega
 by_cases h2:1<s.size/\s[0]=48
 ·obtain⟨h2,h3⟩:=h2
  have HK:=Pd (Cw h2 h3);have f0:(((s[0].toNat:Nat):Int)==48)=true:=by rw[h3];rfl
  clear h3;go_enter Tryz.func159,afu;go_wp2_with fail;go_returns;exact⟨by rw[HK.out];rfl,rfl⟩
 have HG:Hid ((∀c∈s.data.toList,cz c=true)->aj s.data.toList=true):=fun h3=>Cu hx0 h1 (by
  rcases aaz 1 s.size with h|h
  ·exact aad fun e=>h2 ⟨h,e⟩
  ·exact aam h) h3
 have hc:(s.size=1/\(((s[0].toNat:Nat):Int)==48)=true)\/(s.size=1/\(((s[0].toNat:Nat):Int)==48)=false)\/1<s.size/\(((s[0].toNat:Nat):Int)==48)=false:=by
  by_cases e:s[0]=48
  ·exact aam ⟨by rcases aaz 1 s.size with h|h;exact absurd ⟨h,e⟩ h2;omega,by rw[e];rfl⟩
  ·have:s[0].toNat≠48:=fun hh=>e (abz.1 hh)
   have hf:(((s[0].toNat:Nat):Int)==48)=false:=by simp;omega
   rcases aaz 1 s.size with h|h
   ·exact aad (aad ⟨h,hf⟩)
   ·exact aad (aam ⟨by omega,hf⟩)
 clear h2;rcases hc with⟨hc,f0⟩|⟨hc,f0⟩|⟨hc,f0⟩
 all_goals
  go_enter Tryz.func159,afu;go_wp2_with fail
  go_loopw [2,3] (fun _ i wr=>∃(k:Nat),i=.int .i64 k/\k<=s.size/\wr=w/\Hid (∀c∈s.data.toList.take k,cz c=true)) (fun _ i _=>s.size-(intOf i).toNat)
  case atStart=>exact⟨0,rfl,by omega,rfl,by simp[Hid]⟩
  case round=>
   obtain⟨k,rfl,hk,rfl,H⟩:=hrel;by_cases hlt:k<s.size
   ·obtain⟨n,hn⟩:∃n,s[k].toNat=n:=⟨_,rfl⟩
    have hx:=s[k].toNat_lt;by_cases hd:cz s[k]=true
    ·have HN:=Pd (Az hlt H.out hd)
     rw[lJ,hn]at hd;obtain⟨d1,d2⟩:=hd;go_wp2_with fail;go_roundw
     case rel=>exact⟨k+1,by go_num,by omega,trivial,HN⟩
     case measure=>simp[intOf];omega
    ·have hd':cz s[k]=false:=by simpa using hd
     have HK:=Pd (Cs hlt hd');rw[lJ,hn]at hd;have hdd:n<48\/57<n:=by omega
     clear hd hd';rcases hdd with hd|hd
     all_goals
      go_wp2_with fail;go_returns;exact⟨by rw[HK.out];rfl,rfl⟩
   ·obtain rfl:k=s.size:=by omega
    have HK:Hid (aj s.data.toList=true):=HG.out (by
     have:=H.out;rwa[aav (by rw[<-aae];exact Pe _)]at this)
    go_wp2_with fail;go_returns;exact⟨by rw[HK.out];rfl,rfl⟩
def aA(w:World)(r:Bs×Nat)(e:Ending)(w':World):Prop:=
 e=.returned (.tuple #[.string ⟨r.1.toArray⟩,.int .i64 r.2])/\Below w w w'
def kz{s:ByteArray}(h:aj s.data.toList=true):s.size<=1000:=by rw[aae];exact((iG _).1 h).2
def kW{s:ByteArray}(h:aj s.data.toList=true):∀c∈s.data.toList,cz c=true:=((iG _).1 h).1.2.1
def mP(s:ByteArray)(w:World)(h:aj s.data.toList=true) :
  Calls Tryz.prog 193 #[.string s] w (sw w (blk (ag s.data.toList))):=
 FM s w (kW h) (by have:=kz h;omega)
def Bu(A:Option Addr)(c n:Nat)(w:World)(hT:bK w)(hA:ay w A ((blk n).map U))(hm:(blk n).length<=10000) :
  Calls Tryz.prog 194 #[.slice A (blk n).length c] w (aA w (jv n)):=by
 have ht:=yT A c n w hT hA hm;have hlen:(af n).length<=9*(blk n).length+1:=by
  have h1:=(iD dN n (blk n).length).1 (Pe _);rw[zo]at h1;exact(kg n _ (by omega)).2 (aah h1 (acj (by omega) (by omega)))
 obtain⟨F,hF⟩:∃F:ByteArray,(⟨(af n).toArray⟩:ByteArray)=F:=⟨_,rfl⟩;have Uy:F.size=(af n).length:=by rw[<-hF,aae]
 rw[hF]at ht;have HF:=Pd hF;generalize (blk n).length=N at*;by_cases hl:1000<(af n).length
 ·have HK:Hid (jv n=([],2)):=by unfold Hid jv;rw[aaa hl]
  rw[<-Uy]at hl;clear hF Uy hlen;go_enter Tryz.func194,Tryz.ntmps194;go_wp2_with (first|(go_at_call 207;refine ht.mono ?_;rintro e w2 ⟨rfl,hb2⟩));go_returns;unfold aA;rw[HK.out];exact⟨rfl,hb2⟩
 ·have HK:Hid (jv n=(af n,0)):=by unfold Hid jv;rw[aab hl]
  rw[<-Uy]at hl;clear hF Uy hlen;go_enter Tryz.func194,Tryz.ntmps194;go_wp2_with (first|(go_at_call 207;refine ht.mono ?_;rintro e w2 ⟨rfl,hb2⟩));go_returns;unfold aA;rw[HK.out,<-HF.out];exact⟨rfl,hb2⟩
def zL{m n:Nat}(h:m<=n):(blk m).length<=(blk n).length:=by
 have h1:=(iD dN n (blk n).length).1 (Pe _);exact(iD dN m _).2 (by omega)
def FI{m n k:Nat}(hm:(blk m).length<=k)(hn:(blk n).length<=k):(blk (m+n)).length<=k+1:=by
 have h1:=(iD dN m k).1 hm;have h2:=(iD dN n k).1 hn;apply (iD dN (m+n) (k+1)).2;rw[abl];have:=abn (BB ^ k) dN;omega
def FJ{m n i j:Nat}(hm:(blk m).length<=i)(hn:(blk n).length<=j):(blk (m*n)).length<=i+j:=by
 have h1:=(iD dN m i).1 hm;have h2:=(iD dN n j).1 hn;apply (iD dN (m*n) (i+j)).2;rw[afg];exact afQ h1 h2
def Jt(a b:ByteArray)(w:World)(ha:a.size<=9223372036854775807)(hb:b.size<=9223372036854775807)(h:¬ (aj a.data.toList=true/\aj b.data.toList=true)) :
  Calls Tryz.prog 189 #[.string a,.string b] w fun e w'=>e=.returned (.tuple #[.string ⟨#[]⟩,.int .i64 1])/\w=w':=by
 have va:=fun W=>gI a W ha
 have vb:=fun W=>gI b W hb
 cases hoa:aj a.data.toList with
 |false=>
  rw[hoa]at va;clear h hoa;go_enter Tryz.func189,Tryz.ntmps189;go_wp2_with (first|(go_at_call_of 192 (Value.string a);refine(va _).mono ?_;rintro e w2 ⟨rfl,rfl⟩));go_returns;exact⟨rfl,rfl⟩
 |true=>
  cases TF:aj b.data.toList with
  |false=>
   rw[hoa]at va;rw[TF]at vb;clear h hoa TF;go_enter Tryz.func189,Tryz.ntmps189;go_wp2_with (first|(go_at_call_of 192 (Value.string a);refine(va _).mono ?_;rintro e w2 ⟨rfl,rfl⟩)|(go_at_call_of 192 (Value.string b);refine(vb _).mono ?_;rintro e w2 ⟨rfl,rfl⟩));go_returns;exact⟨rfl,rfl⟩
  |true=>exact absurd ⟨hoa,TF⟩ h
def JK(a b:ByteArray)(w:World)(ha:a.size<=9223372036854775807)(hb:b.size<=9223372036854775807)(h:¬ (aj a.data.toList=true/\aj b.data.toList=true)) :
  Calls Tryz.prog 191 #[.string a,.string b] w fun e w'=>e=.returned (.tuple #[.string ⟨#[]⟩,.int .i64 1])/\w=w':=by
 have va:=fun W=>gI a W ha
 have vb:=fun W=>gI b W hb
 cases hoa:aj a.data.toList with
 |false=>
  rw[hoa]at va;clear h hoa;go_enter Tryz.func191,Tryz.ntmps191;go_wp2_with (first|(go_at_call_of 192 (Value.string a);refine(va _).mono ?_;rintro e w2 ⟨rfl,rfl⟩));go_returns;exact⟨rfl,rfl⟩
 |true=>
  cases TF:aj b.data.toList with
  |false=>
   rw[hoa]at va;rw[TF]at vb;clear h hoa TF;go_enter Tryz.func191,Tryz.ntmps191;go_wp2_with (first|(go_at_call_of 192 (Value.string a);refine(va _).mono ?_;rintro e w2 ⟨rfl,rfl⟩)|(go_at_call_of 192 (Value.string b);refine(vb _).mono ?_;rintro e w2 ⟨rfl,rfl⟩));go_returns;exact⟨rfl,rfl⟩
  |true=>exact absurd ⟨hoa,TF⟩ h
def JI(a b:ByteArray)(w:World)(ha:a.size<=9223372036854775807)(hb:b.size<=9223372036854775807)(h:¬ (aj a.data.toList=true/\aj b.data.toList=true)) :
  Calls Tryz.prog 172 #[.string a,.string b] w fun e w'=>e=.returned (.tuple #[.string ⟨#[]⟩,.int .i64 1])/\w=w':=by
 have va:=fun W=>gI a W ha
 have vb:=fun W=>gI b W hb
 cases hoa:aj a.data.toList with
 |false=>
  rw[hoa]at va;clear h hoa;go_enter Tryz.func172,Tryz.ntmps172;go_wp2_with (first|(go_at_call_of 192 (Value.string a);refine(va _).mono ?_;rintro e w2 ⟨rfl,rfl⟩));go_returns;exact⟨rfl,rfl⟩
 |true=>
  cases TF:aj b.data.toList with
  |false=>
   rw[hoa]at va;rw[TF]at vb;clear h hoa TF;go_enter Tryz.func172,Tryz.ntmps172;go_wp2_with (first|(go_at_call_of 192 (Value.string a);refine(va _).mono ?_;rintro e w2 ⟨rfl,rfl⟩)|(go_at_call_of 192 (Value.string b);refine(vb _).mono ?_;rintro e w2 ⟨rfl,rfl⟩));go_returns;exact⟨rfl,rfl⟩
  |true=>exact absurd ⟨hoa,TF⟩ h
def JG(a b:ByteArray)(w:World)(ha:a.size<=9223372036854775807)(hb:b.size<=9223372036854775807)(h:¬ (aj a.data.toList=true/\aj b.data.toList=true)) :
  Calls Tryz.prog 196 #[.string a,.string b] w fun e w'=>e=.returned (.tuple #[.string ⟨#[]⟩,.int .i64 1])/\w=w':=by
 have va:=fun W=>gI a W ha
 have vb:=fun W=>gI b W hb
 cases hoa:aj a.data.toList with
 |false=>
  rw[hoa]at va;clear h hoa;go_enter Tryz.func196,Tryz.ntmps196;go_wp2_with (first|(go_at_call_of 192 (Value.string a);refine(va _).mono ?_;rintro e w2 ⟨rfl,rfl⟩));go_returns;exact⟨rfl,rfl⟩
 |true=>
  cases TF:aj b.data.toList with
  |false=>
   rw[hoa]at va;rw[TF]at vb;clear h hoa TF;go_enter Tryz.func196,Tryz.ntmps196;go_wp2_with (first|(go_at_call_of 192 (Value.string a);refine(va _).mono ?_;rintro e w2 ⟨rfl,rfl⟩)|(go_at_call_of 192 (Value.string b);refine(vb _).mono ?_;rintro e w2 ⟨rfl,rfl⟩));go_returns;exact⟨rfl,rfl⟩
  |true=>exact absurd ⟨hoa,TF⟩ h
def JD(a b:ByteArray)(w:World)(ha:a.size<=9223372036854775807)(hb:b.size<=9223372036854775807)(h:¬ (aj a.data.toList=true/\aj b.data.toList=true)) :
  Calls Tryz.prog 190 #[.string a,.string b] w fun e w'=>e=.returned (.int .i64 0)/\w=w':=by
 have va:=fun W=>gI a W ha
 have vb:=fun W=>gI b W hb
 cases hoa:aj a.data.toList with
 |false=>
  rw[hoa]at va;clear h hoa;go_enter Tryz.func190,Tryz.ntmps190;go_wp2_with (first|(go_at_call_of 192 (Value.string a);refine(va _).mono ?_;rintro e w2 ⟨rfl,rfl⟩));go_returns;exact⟨rfl,rfl⟩
 |true=>
  cases TF:aj b.data.toList with
  |false=>
   rw[hoa]at va;rw[TF]at vb;clear h hoa TF;go_enter Tryz.func190,Tryz.ntmps190;go_wp2_with (first|(go_at_call_of 192 (Value.string a);refine(va _).mono ?_;rintro e w2 ⟨rfl,rfl⟩)|(go_at_call_of 192 (Value.string b);refine(vb _).mono ?_;rintro e w2 ⟨rfl,rfl⟩));go_returns;exact⟨rfl,rfl⟩
  |true=>exact absurd ⟨hoa,TF⟩ h
def KM(a b:ByteArray)(w:World)(ha:a.size<=9223372036854775807)(hb:b.size<=9223372036854775807)(h:¬ (aj a.data.toList=true/\aj b.data.toList=true)) :
  Calls Tryz.prog 153 #[.string a,.string b] w fun e w'=>e=.returned (.tuple #[.string ⟨#[]⟩,.int .i64 1])/\w=w':=by
 have va:=fun W=>eG a W ha
 have vb:=fun W=>eG b W hb
 cases hoa:aj a.data.toList with
 |false=>
  rw[hoa]at va;clear h hoa;go_enter Tryz.func153,Tryz.ntmps153;go_wp2_with (first|(go_at_call_of 159 (Value.string a);refine(va _).mono ?_;rintro e w2 ⟨rfl,rfl⟩));go_returns;exact⟨rfl,rfl⟩
 |true=>
  cases TF:aj b.data.toList with
  |false=>
   rw[hoa]at va;rw[TF]at vb;clear h hoa TF;go_enter Tryz.func153,Tryz.ntmps153;go_wp2_with (first|(go_at_call_of 159 (Value.string a);refine(va _).mono ?_;rintro e w2 ⟨rfl,rfl⟩)|(go_at_call_of 159 (Value.string b);refine(vb _).mono ?_;rintro e w2 ⟨rfl,rfl⟩));go_returns;exact⟨rfl,rfl⟩
  |true=>exact absurd ⟨hoa,TF⟩ h
def Mf(a b:ByteArray)(w:World)(ha:a.size<=9223372036854775807)(hb:b.size<=9223372036854775807)(h:¬ (aj a.data.toList=true/\aj b.data.toList=true)) :
  Calls Tryz.prog 155 #[.string a,.string b] w fun e w'=>e=.returned (.tuple #[.string ⟨#[]⟩,.int .i64 1])/\w=w':=by
 have va:=fun W=>eG a W ha
 have vb:=fun W=>eG b W hb
 cases hoa:aj a.data.toList with
 |false=>
  rw[hoa]at va;clear h hoa;go_enter Tryz.func155,aft;go_wp2_with (first|(go_at_call_of 159 (Value.string a);refine(va _).mono ?_;rintro e w2 ⟨rfl,rfl⟩));go_returns;exact⟨rfl,rfl⟩
 |true=>
  cases TF:aj b.data.toList with
  |false=>
   rw[hoa]at va;rw[TF]at vb;clear h hoa TF;go_enter Tryz.func155,aft;go_wp2_with (first|(go_at_call_of 159 (Value.string a);refine(va _).mono ?_;rintro e w2 ⟨rfl,rfl⟩)|(go_at_call_of 159 (Value.string b);refine(vb _).mono ?_;rintro e w2 ⟨rfl,rfl⟩));go_returns;exact⟨rfl,rfl⟩
  |true=>exact absurd ⟨hoa,TF⟩ h
def LG(a b:ByteArray)(w:World)(ha:a.size<=9223372036854775807)(hb:b.size<=9223372036854775807)(h:¬ (aj a.data.toList=true/\aj b.data.toList=true)) :
  Calls Tryz.prog 156 #[.string a,.string b] w fun e w'=>e=.returned (.tuple #[.string ⟨#[]⟩,.int .i64 1])/\w=w':=by
 have va:=fun W=>eG a W ha
 have vb:=fun W=>eG b W hb
 cases hoa:aj a.data.toList with
 |false=>
  rw[hoa]at va;clear h hoa;go_enter Tryz.func156,Tryz.ntmps156;go_wp2_with (first|(go_at_call_of 159 (Value.string a);refine(va _).mono ?_;rintro e w2 ⟨rfl,rfl⟩));go_returns;exact⟨rfl,rfl⟩
 |true=>
  cases TF:aj b.data.toList with
  |false=>
   rw[hoa]at va;rw[TF]at vb;clear h hoa TF;go_enter Tryz.func156,Tryz.ntmps156;go_wp2_with (first|(go_at_call_of 159 (Value.string a);refine(va _).mono ?_;rintro e w2 ⟨rfl,rfl⟩)|(go_at_call_of 159 (Value.string b);refine(vb _).mono ?_;rintro e w2 ⟨rfl,rfl⟩));go_returns;exact⟨rfl,rfl⟩
  |true=>exact absurd ⟨hoa,TF⟩ h
def Lp(a b:ByteArray)(w:World)(ha:a.size<=9223372036854775807)(hb:b.size<=9223372036854775807)(h:¬ (aj a.data.toList=true/\aj b.data.toList=true)) :
  Calls Tryz.prog 152 #[.string a,.string b] w fun e w'=>e=.returned (.tuple #[.string ⟨#[]⟩,.int .i64 1])/\w=w':=by
 have va:=fun W=>eG a W ha
 have vb:=fun W=>eG b W hb
 cases hoa:aj a.data.toList with
 |false=>
  rw[hoa]at va;clear h hoa;go_enter Tryz.func152,Tryz.ntmps152;go_wp2_with (first|(go_at_call_of 159 (Value.string a);refine(va _).mono ?_;rintro e w2 ⟨rfl,rfl⟩));go_returns;exact⟨rfl,rfl⟩
 |true=>
  cases TF:aj b.data.toList with
  |false=>
   rw[hoa]at va;rw[TF]at vb;clear h hoa TF;go_enter Tryz.func152,Tryz.ntmps152;go_wp2_with (first|(go_at_call_of 159 (Value.string a);refine(va _).mono ?_;rintro e w2 ⟨rfl,rfl⟩)|(go_at_call_of 159 (Value.string b);refine(vb _).mono ?_;rintro e w2 ⟨rfl,rfl⟩));go_returns;exact⟨rfl,rfl⟩
  |true=>exact absurd ⟨hoa,TF⟩ h
def K7(a b:ByteArray)(w:World)(ha:a.size<=9223372036854775807)(hb:b.size<=9223372036854775807)(h:¬ (aj a.data.toList=true/\aj b.data.toList=true)) :
  Calls Tryz.prog 160 #[.string a,.string b] w fun e w'=>e=.returned (.tuple #[.string ⟨#[]⟩,.string ⟨#[]⟩,.int .i64 1])/\w=w':=by
 have va:=fun W=>eG a W ha
 have vb:=fun W=>eG b W hb
 cases hoa:aj a.data.toList with
 |false=>
  rw[hoa]at va;clear h hoa;go_enter Tryz.func160,afv;go_wp2_with (first|(go_at_call_of 159 (Value.string a);refine(va _).mono ?_;rintro e w2 ⟨rfl,rfl⟩));go_returns;exact⟨rfl,rfl⟩
 |true=>
  cases TF:aj b.data.toList with
  |false=>
   rw[hoa]at va;rw[TF]at vb;clear h hoa TF;go_enter Tryz.func160,afv;go_wp2_with (first|(go_at_call_of 159 (Value.string a);refine(va _).mono ?_;rintro e w2 ⟨rfl,rfl⟩)|(go_at_call_of 159 (Value.string b);refine(vb _).mono ?_;rintro e w2 ⟨rfl,rfl⟩));go_returns;exact⟨rfl,rfl⟩
  |true=>exact absurd ⟨hoa,TF⟩ h
def K6(a b:ByteArray)(w:World)(ha:a.size<=9223372036854775807)(hb:b.size<=9223372036854775807)(h:¬ (aj a.data.toList=true/\aj b.data.toList=true)) :
  Calls Tryz.prog 154 #[.string a,.string b] w fun e w'=>e=.returned (.int .i64 0)/\w=w':=by
 have va:=fun W=>eG a W ha
 have vb:=fun W=>eG b W hb
 cases hoa:aj a.data.toList with
 |false=>
  rw[hoa]at va;clear h hoa;go_enter Tryz.func154,Tryz.ntmps154;go_wp2_with (first|(go_at_call_of 159 (Value.string a);refine(va _).mono ?_;rintro e w2 ⟨rfl,rfl⟩));go_returns;exact⟨rfl,rfl⟩
 |true=>
  cases TF:aj b.data.toList with
  |false=>
   rw[hoa]at va;rw[TF]at vb;clear h hoa TF;go_enter Tryz.func154,Tryz.ntmps154;go_wp2_with (first|(go_at_call_of 159 (Value.string a);refine(va _).mono ?_;rintro e w2 ⟨rfl,rfl⟩)|(go_at_call_of 159 (Value.string b);refine(vb _).mono ?_;rintro e w2 ⟨rfl,rfl⟩));go_returns;exact⟨rfl,rfl⟩
  |true=>exact absurd ⟨hoa,TF⟩ h
def Js(a b:ByteArray)(w:World)(hT:bK w)(ha:a.size<=9223372036854775807)(hb:b.size<=9223372036854775807) :
  Calls Tryz.prog 189 #[.string a,.string b] w (aA w (mK a.data.toList b.data.toList)):=by
 by_cases hok:aj a.data.toList=true/\aj b.data.toList=true
 ·obtain⟨hoa,TF⟩:=hok
  have HK:Hid (mK a.data.toList b.data.toList=jv (ag a.data.toList+ag b.data.toList)):=by unfold Hid mK;rw[aaa ⟨hoa,TF⟩]
  have va:=fun W=>gI a W ha
  have vb:=fun W=>gI b W hb
  rw[hoa]at va;rw[TF]at vb;have ba:=fun W=>mP a W hoa
  have bb:=fun W=>mP b W TF
  have la:=mR hoa;have lb:=mR TF;generalize ag a.data.toList=m at*;generalize ag b.data.toList=n at*;clear hoa TF;have hA:Below w w w:=aac _ _;go_enter Tryz.func189,Tryz.ntmps189;go_wp2_with (first|(go_at_call_of 192 (Value.string a);refine(va _).mono ?_;rintro e w2 ⟨rfl,rfl⟩)|(go_at_call_of 192 (Value.string b);refine(vb _).mono ?_;rintro e w2 ⟨rfl,rfl⟩));refine(ba _).mono ?_;rintro e w1 ⟨A1,c1,rfl,h1,r1,b1⟩;have hA1:=ae hA b1;go_wp2_with fail;refine(bb _).mono ?_;rintro e w2 ⟨A2,c2,rfl,h2,r2,b2⟩;have hA2:=ae hA1 b2;go_wp2_with fail;refine(Km A1 A2 c1 c2 m n _ (r1.below b2) r2 (by omega) (by omega)).mono ?_;rintro e w3 ⟨A3,c3,rfl,h3,r3,b3⟩;have hA3:=ae hA2 b3;have l3:=FI la lb;go_wp2_with fail;refine(Bu A3 c3 (m+n) _ (hT.below hA3) r3 (by omega)).mono ?_;rintro e w4 ⟨rfl,b4⟩;have VJ:=ae hA3 b4;go_wp2_with fail;go_returns;unfold aA;rw[HK.out];exact⟨rfl,VJ⟩
 ·refine(Jt a b w ha hb hok).mono ?_
  rintro e w' ⟨rfl,rfl⟩;unfold aA mK;rw[aab hok];exact⟨rfl,aac _ _⟩
def JC(a b:ByteArray)(w:World)(ha:a.size<=9223372036854775807)(hb:b.size<=9223372036854775807) :
  Calls Tryz.prog 190 #[.string a,.string b] w fun e w'=>e=.returned (.int .i64 (mM a.data.toList b.data.toList))/\Below w w w':=by
 by_cases hok:aj a.data.toList=true/\aj b.data.toList=true
 ·obtain⟨hoa,TF⟩:=hok
  have HK:Hid (mM a.data.toList b.data.toList=bZ (ag a.data.toList) (ag b.data.toList)):=by unfold Hid mM;rw[aaa ⟨hoa,TF⟩]
  have va:=fun W=>gI a W ha
  have vb:=fun W=>gI b W hb
  rw[hoa]at va;rw[TF]at vb;have ba:=fun W=>mP a W hoa
  have bb:=fun W=>mP b W TF
  have la:=mR hoa;have lb:=mR TF;generalize ag a.data.toList=m at*;generalize ag b.data.toList=n at*;clear hoa TF;have hA:Below w w w:=aac _ _;go_enter Tryz.func190,Tryz.ntmps190;go_wp2_with (first|(go_at_call_of 192 (Value.string a);refine(va _).mono ?_;rintro e w2 ⟨rfl,rfl⟩)|(go_at_call_of 192 (Value.string b);refine(vb _).mono ?_;rintro e w2 ⟨rfl,rfl⟩));refine(ba _).mono ?_;rintro e w1 ⟨A1,c1,rfl,h1,r1,b1⟩;have hA1:=ae hA b1;go_wp2_with fail;refine(bb _).mono ?_;rintro e w2 ⟨A2,c2,rfl,h2,r2,b2⟩;have hA2:=ae hA1 b2;go_wp2_with fail;refine(vo A1 A2 c1 c2 m n _ (r1.below b2) r2 (by omega) (by omega)).mono ?_;rintro e w3 ⟨rfl,b3⟩;have hA3:=ae hA2 b3;go_wp2_with fail;go_returns;exact⟨by rw[HK.out];rfl,hA3⟩
 ·refine(JD a b w ha hb hok).mono ?_
  rintro e w' ⟨rfl,rfl⟩;unfold mM;rw[aab hok];exact⟨rfl,aac _ _⟩
def Ci(a b:ByteArray)(w:World)(hT:bK w)(ha:a.size<=9223372036854775807)(hb:b.size<=9223372036854775807) :
  Calls Tryz.prog 191 #[.string a,.string b] w (aA w (jT a.data.toList b.data.toList)):=by
 by_cases hok:aj a.data.toList=true/\aj b.data.toList=true
 ·obtain⟨hoa,TF⟩:=hok
  have HK:Hid (jT a.data.toList b.data.toList=if ag a.data.toList<ag b.data.toList then ([],4) else (af (ag a.data.toList-ag b.data.toList),0)):=by unfold Hid jT;rw[aaa ⟨hoa,TF⟩]
  have va:=fun W=>gI a W ha
  have vb:=fun W=>gI b W hb
  rw[hoa]at va;rw[TF]at vb;have ba:=fun W=>mP a W hoa
  have bb:=fun W=>mP b W TF
  have la:=mR hoa;have lb:=mR TF;generalize ag a.data.toList=m at*;generalize ag b.data.toList=n at*;clear hoa TF;have hA:Below w w w:=aac _ _;go_enter Tryz.func191,Tryz.ntmps191;go_wp2_with (first|(go_at_call_of 192 (Value.string a);refine(va _).mono ?_;rintro e w2 ⟨rfl,rfl⟩)|(go_at_call_of 192 (Value.string b);refine(vb _).mono ?_;rintro e w2 ⟨rfl,rfl⟩));refine(ba _).mono ?_;rintro e w1 ⟨A1,c1,rfl,h1,r1,b1⟩;have hA1:=ae hA b1;go_wp2_with fail;refine(bb _).mono ?_;rintro e w2 ⟨A2,c2,rfl,h2,r2,b2⟩;have hA2:=ae hA1 b2;go_wp2_with fail;refine(vo A1 A2 c1 c2 m n _ (r1.below b2) r2 (by omega) (by omega)).mono ?_;rintro e w3 ⟨rfl,b3⟩;have hA3:=ae hA2 b3;by_cases hlt:m<n
  ·have Vk:Hid (jT a.data.toList b.data.toList=([],4)):=by rw[Hid,HK.out,aaa hlt]
   rw[lu hlt];clear hlt HK;go_wp2_with fail;go_returns;unfold aA;rw[Vk.out];exact⟨rfl,hA3⟩
  ·have Vk:Hid (jT a.data.toList b.data.toList=(af (m-n),0)):=by rw[Hid,HK.out,aab hlt]
   have hge:¬ bZ m n<0:=by rw[nL];exact hlt
   obtain⟨cc,hcc⟩:∃cc,bZ m n=cc:=⟨_,rfl⟩;rw[hcc]at hge ⊢;have hge0:0<=cc:=by omega
   have VF:n<=m:=(by omega);have l3:(blk (m-n)).length<=112:=aaB (zL (Nat.sub_le _ _)) la;clear hlt HK hcc hge;go_wp2_with fail;refine(Jd A1 A2 c1 c2 m n _ VF ((r1.below b2).below b3) (r2.below b3) (by omega) (by omega)).mono ?_;rintro e w4 ⟨A4,c4,rfl,h4,r4,b4⟩;have VJ:=ae hA3 b4;go_wp2_with fail;refine(yT A4 c4 (m-n) _ (hT.below VJ) r4 (by omega)).mono ?_;rintro e w5 ⟨rfl,b5⟩;have Vx:=ae VJ b5;go_wp2_with fail;go_returns;unfold aA;rw[Vk.out];exact⟨rfl,Vx⟩
 ·refine(JK a b w ha hb hok).mono ?_
  rintro e w' ⟨rfl,rfl⟩;unfold aA jT;rw[aab hok];exact⟨rfl,aac _ _⟩
end Go.Proofs.YtppnecgeboonbaaGreatDoor.Rat3
