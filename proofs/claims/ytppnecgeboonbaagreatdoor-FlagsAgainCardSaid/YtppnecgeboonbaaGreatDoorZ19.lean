/- Walks. -/
import Derived.Test.YtppnecgeboonbaaGreatDoorZ18
import Derived.Test.YtppnecgeboonbaaGreatDoorZ03
namespace Go.Proofs.YtppnecgeboonbaaGreatDoor.Rat3
set_option maxRecDepth 100000
set_option linter.all false
set_option maxHeartbeats 2000000
open Go.RowKit
def JE(y:Rat):(-y).num.natAbs=y.num.natAbs/\(-y).den=y.den:=⟨by rw[Rat.neg_num,Int.natAbs_neg],Rat.neg_den y⟩
def KS{l:Bs}{y:Rat}(h:aK l=some y):aDc l=(iU (-y),0)/\aK (iU (-y))=some (-y)/\(iU (-y)).length<=802:=by
 obtain⟨h1,h2,h3,h4⟩:=uz h;obtain⟨e1,e2⟩:=JE y;have k1:(af (-y).num.natAbs).length<=400:=by rw[e1];exact h2
 have k2:(af (-y).den).length<=400:=by rw[e2];exact h3
 refine⟨?_,Dr k1 k2,?_⟩
 ·unfold aDc gV fZ
  rw[nW,h];show ik (0-y)=_;rw[ad6,Rat.zero_add];unfold ik;rw[aab (by omega)]
 ·unfold iU
  rw[aas,aas];have a1:(if (-y).num<0 then [45] else ([]:Bs)).length<=1:=by split<;>simp
  have a2:(if (-y).den=1 then ([]:Bs) else 47::af (-y).den).length<=401:=by split<;>simp;omega
  omega
def KD(a b:ByteArray)(w:World)(ha:a.size<=9223372036854775807)(hb:b.size<=9223372036854775807) :
  Calls Tryz.prog 185 #[.string a,.string b] w (aA w (gV a.data.toList b.data.toList)):=by
 have hn:=Kr b w hb;have hv:=fun W=>Di a W ha
 cases hv2:aK b.data.toList with
 |none=>
  have e1:aDc b.data.toList=([],1):=by unfold aDc gV fZ;rw[nW,hv2]
  have HK:Hid (gV a.data.toList b.data.toList=([],1)):=by unfold Hid gV fZ;rw[hv2];cases aK a.data.toList<;>rfl
  rw[e1]at hn;unfold aA at hn;clear e1 hv2;go_enter Tryz.func185,Tryz.ntmps185;go_wp2_with (go_at_call 202;refine hn.mono ?_;rintro e w1 ⟨rfl,b1⟩);go_returns;unfold aA;rw[HK.out];exact⟨rfl,b1⟩
 |some y=>
  obtain⟨e1,e2,e3⟩:=KS hv2;rw[e1]at hn;unfold aA at hn;obtain⟨C,hC⟩:∃C:ByteArray,(⟨(iU (-y)).toArray⟩:ByteArray)=C:=⟨_,rfl⟩;have hCd:C.data.toList=iU (-y):=by rw[<-hC]
  have sC:C.size<=9223372036854775807:=by rw[aae,hCd];omega
  simp only[hC]at hn;have pa:=fun W=>yB a C W ha sC
  rw[hCd]at pa
  cases hu:aK a.data.toList with
  |none=>
   have HK:Hid (gV a.data.toList b.data.toList=([],1)):=by unfold Hid gV fZ;rw[hu]
   rw[hu]at hv;clear e1 e2 e3 hC hCd hv2 hu pa;go_enter Tryz.func185,Tryz.ntmps185
   go_wp2_with (first
    |(go_at_call 202;refine hn.mono ?_;rintro e w1 ⟨rfl,b1⟩)
    |(go_at_call 102;refine(hv _).mono ?_;rintro e w2 ⟨rfl,b2⟩;have hA2:=ae b1 b2))
   go_returns;unfold aA;rw[HK.out];exact⟨rfl,hA2⟩
  |some x=>
   have HK:Hid (gV a.data.toList b.data.toList=jW a.data.toList (iU (-y))):=by
    unfold Hid gV jW fZ;rw[hu,hv2,e2];show ik (x-y)=ik (x + -y);rw[ad6]
   rw[<-HK.out]at pa;rw[hu]at hv;unfold aA at pa;clear e1 e2 e3 hC hCd hv2 hu;go_enter Tryz.func185,Tryz.ntmps185
   go_wp2_with (first
    |(go_at_call 202;refine hn.mono ?_;rintro e w1 ⟨rfl,b1⟩)
    |(go_at_call 102;refine(hv _).mono ?_;rintro e w2 ⟨rfl,b2⟩;have hA2:=ae b1 b2)
    |(go_at_call 107;refine(pa _).mono ?_;rintro e w3 ⟨rfl,b3⟩;have hA3:=ae hA2 b3))
   go_returns;unfold aA;exact⟨rfl,hA3⟩
end Go.Proofs.YtppnecgeboonbaaGreatDoor.Rat3
namespace Go.Proofs.YtppnecgeboonbaaGreatDoor
set_option maxRecDepth 100000
set_option linter.all false
set_option maxHeartbeats 2000000
open Go.RowKit
def az(w:World)(A:Array Value)(t:TypeId)(o:Nat)(v:Value)(h:A[o]? = some v):(w.alloc (.cells A t)).cell? ⟨w.heap.size,o,none⟩=some v:=by
 rw[aap (w.alloc _) w.heap.size o A t (0,0) (aaq w _)];exact h
def nO(w:World)(A:Array Value)(t:TypeId)(o:Nat):(w.alloc (.cells A t)).frozen? ⟨w.heap.size,o,none⟩=false:=by
 unfold World.frozen?;rw[aaq];simp
def allT{α:Type}{p:α->Bool}{l:List α}{k:Nat}(hk:k<l.length)(h:∀x∈l.take k,p x=true)(hp:p l[k]=true):∀x∈l.take (k+1),p x=true:=by
 intro x hx;rw[aau hk]at hx;rcases aaG.1 hx with hx|hx
 ·exact h x hx
 ·simp only[aar]at hx;subst hx;exact hp
def p8{α:Type}{p:α->Bool}{l:List α}{k:Nat}(hk:k<l.length)(hp:p l[k]=false):l.all p=false:=by
 cases h:l.all p with
 |false=>rfl
 |true=>rw[aaT]at h;rw[h _ (aag hk)]at hp;cases hp
def oG(w:World)(A:Option Addr)(l:List aO):Prop:=∀k,(h:k<l.length)->∃b o,A=some ⟨b,o,none⟩/\b<w.heap.size/\w.cell? ⟨b,o+k*4,none⟩=some (.int .i64 l[k].inn)/\w.cell? ⟨b,o+k*4+1,none⟩=some (.int .i64 l[k].out)/\w.cell? ⟨b,o+k*4+2,none⟩=some (S l[k].w)/\w.cell? ⟨b,o+k*4+3,none⟩=some (.int .i64 l[k].to)
def dY(w:World)(A:Option Addr)(l:List bI):Prop:=∀k,(h:k<l.length)->∃b o,A=some ⟨b,o,none⟩/\b<w.heap.size/\w.cell? ⟨b,o+k*2,none⟩=some (S l[k].fin)/\∃A' c',w.cell? ⟨b,o+k*2+1,none⟩=some (.slice A' l[k].arcs.length c')/\oG w A' l[k].arcs
def oG.below{w w':World}{A:Option Addr}{l:List aO}(h:oG w A l)(hb:Below w w w'):oG w' A l:=by
 intro k hk;obtain⟨b,o,hA,hlt,h0,h1,h2,h3⟩:=h k hk;exact⟨b,o,hA,aah hlt hb.size,(hb.cell (p:=⟨b,_,none⟩) hlt).trans h0,(hb.cell (p:=⟨b,_,none⟩) hlt).trans h1,(hb.cell (p:=⟨b,_,none⟩) hlt).trans h2,(hb.cell (p:=⟨b,_,none⟩) hlt).trans h3⟩
def dY.below{w w':World}{A:Option Addr}{l:List bI}(h:dY w A l)(hb:Below w w w'):dY w' A l:=by
 intro k hk;obtain⟨b,o,hA,hlt,h0,A',c',h1,h2⟩:=h k hk;exact⟨b,o,hA,aah hlt hb.size,(hb.cell (p:=⟨b,_,none⟩) hlt).trans h0,A',c',(hb.cell (p:=⟨b,_,none⟩) hlt).trans h1,h2.below hb⟩
def di(m:aQ)(A:Option Addr)(c:Nat):Value:=.agg #[.int .i64 m.kind,.int .i64 m.start,S m.lead,.slice A m.states.length c]
def EL(n:Nat)(l:List aO):Prop:=∀a∈l,a.w.length<=n
def oH(n:Nat)(l:List bI):Prop:=∀s∈l,s.fin.length<=n/\EL n s.arcs/\s.arcs.length<=1000000
def sW{l:List bI}{k:Nat}(hk:k<l.length):dh (l.take (k+1))=dh (l.take k)+l[k].arcs.length:=by
 unfold dh;rw[aau hk,aa3,ady];simp
def PS(l:List bI)(k:Nat):dh (l.take k)<=dh l:=by
 unfold dh
 conv=>rhs;rw[<-aaY k l]
 rw[aa3,ady];omega
def jB(m:aQ)(i:Nat):Prop:=(∀s∈m.states.take i,aBP m.kind m.states.length s=true)/\dh (m.states.take i)<=30000
def l9(m:aQ):Prop:=kindOk m.kind=true/\(1<=m.states.length/\m.states.length<=3000/\0<=m.start/\m.start<m.states.length)/\bg m.kind m.lead=true
def BD{m:aQ}(h:¬ l9 m):bM m=false:=by
 cases hm:bM m with
 |false=>rfl
 |true=>
  obtain⟨h1,h2,h3,-⟩:=kV.1 hm;exact absurd ⟨h1,h2,h3⟩ h
def BC{m:aQ}{i:Nat}(h:30000<dh (m.states.take i)):bM m=false:=by
 cases hm:bM m with
 |false=>rfl
 |true=>
  obtain⟨-,-,-,-,h5⟩:=kV.1 hm;have:=PS m.states i;omega
def BF{m:aQ}{i:Nat}(hi:i<m.states.length)(h:aBP m.kind m.states.length m.states[i]=false):bM m=false:=by
 cases hm:bM m with
 |false=>rfl
 |true=>
  obtain⟨-,-,-,h4,-⟩:=kV.1 hm;rw[h4 _ (aag hi)]at h;cases h
def Bz{m:aQ}(h:l9 m)(ht:jB m m.states.length):bM m=true:=by
 rw[kV];obtain⟨h1,h2,h3⟩:=h;unfold jB at ht;rw[aaJ]at ht;exact⟨h1,h2,h3,ht.1,ht.2⟩
def BH(m:aQ):jB m 0:=⟨by simp,by simp[dh]⟩
def BG{m:aQ}{i:Nat}(hi:i<m.states.length)(h:jB m i)(hs:aBP m.kind m.states.length m.states[i]=true)(hn:dh (m.states.take (i+1))<=30000):jB m (i+1):=
 ⟨allT hi h.1 hs,hn⟩
def Eg{k:Int}{n:Nat}{s:bI}(h1:s.fin≠[])(h2:bg k s.fin=false):aBP k n s=false:=by
 unfold aBP;rw[h2,aai h1];rfl
def wO{k:Int}{n:Nat}{s:bI}{i:Nat}(hi:i<s.arcs.length)(h:dZ k n s.arcs[i]=false):aBP k n s=false:=by
 unfold aBP;rw[p8 hi h,Bool.and_false]
def wM{k:Int}{n:Nat}{s:bI}(h1:s.fin=[]\/bg k s.fin=true)(h:∀a∈s.arcs.take s.arcs.length,dZ k n a=true):aBP k n s=true:=by
 rw[aaJ]at h;rw[pg];exact⟨h1,h⟩
open Rat3
def nW:aK [48]=some 0:=by decide +kernel
def Qw:aK [49]=some 1:=by decide +kernel
def Qv:aK bD=none:=by decide +kernel
def Rm:aK dC=none:=by decide +kernel
def KW{a b:Bs}{q:Rat}(ha:aK a=some q)(hb:aK b=some q):a=b:=by rw[(uz ha).1,(uz hb).1]
def Iw{a:Bs}{q:Rat}(h:aK a=some q):a=[48]↔q=0:=by
 constructor
 ·rintro rfl
  rw[nW]at h;cases h;rfl
 ·rintro rfl
  exact KW h nW
def Dk{a b:Bs}{p q:Rat}(ha:aK a=some p)(hb:aK b=some q):fB a b=if p=q then 0 else if p<q then -1 else 1:=by
 unfold fB;rw[ha,hb]
def PW{q:Rat}(h:(ik q).2=0):aK (ik q).1=some q:=by
 unfold ik at h ⊢
 split at h
 ·cases h
 ·rename_i hc
  rw[aab hc];exact Dr (by omega) (by omega)
def Rl{a b:Bs}{p q:Rat}(ha:aK a=some p)(hb:aK b=some q)(h:(jW a b).2=0):aK (jW a b).1=some (p+q):=by
 unfold jW fZ at h ⊢;rw[ha,hb]at h ⊢;exact PW h
def SI{a b:Bs}{p q:Rat}(ha:aK a=some p)(hb:aK b=some q)(h:(mV a b).2=0):aK (mV a b).1=some (p*q):=by
 unfold mV fZ at h ⊢;rw[ha,hb]at h ⊢;exact PW h
def SK{a b:Bs}{p q:Rat}(ha:aK a=some p)(hb:aK b=some q)(h:(gV a b).2=0):aK (gV a b).1=some (p-q):=by
 unfold gV fZ at h ⊢;rw[ha,hb]at h ⊢;exact PW h
def SH{a b:Bs}{p q:Rat}(ha:aK a=some p)(hb:aK b=some q)(h:(lS a b).2=0):q≠0/\aK (lS a b).1=some (p/q):=by
 unfold lS fZ at h ⊢;rw[ha,hb]at h ⊢;by_cases hq:q=0
 ·simp only[hq,acf]at h;cases h
 ·simp only[aab hq]at h ⊢
  exact⟨hq,PW h⟩
def Oe{k:Int}{a:Bs}(h:aT k a=true):kindOk k=true/\(a=bD\/(k=1/\a=dC)\/∃q,aK a=some q/\a≠bD/\a≠dC/\(k=1\/0<=q)):=by
 unfold aT at h;rw[aaE]at h;refine⟨h.1,?_⟩;have h2:=h.2;by_cases hc:a=bD\/a=dC
 ·rw[aaa hc,aax]at h2
  rcases hc with e|e
  ·exact aam e
  ·rcases h2 with e'|e'
   ·exact aam e'
   ·exact aad (aam ⟨e',e⟩)
 ·rw[aab hc,aaE,aax]at h2
  cases hv:aK a with
  |none=>rw[hv]at h2;cases h2.1
  |some q=>
   refine aad (aad ⟨q,rfl,fun e=>hc (aam e),fun e=>hc (aad e),?_⟩);rcases h2.2 with e|e
   ·exact aam e
   ·right
    rw[Dk hv nW]at e;by_cases h0:q=0
    ·rw[h0];exact af6
    ·rw[aab h0]at e
     by_cases hl:q<0
     ·rw[aaa hl]at e;omega
     ·exact aeV.1 hl
def PZ{k:Int}{a:Bs}{q:Rat}(hk:kindOk k=true)(h:aK a=some q)(hq:k=1\/0<=q):aT k a=true:=by
 unfold aT;have h1:a≠bD:=fun e=>by rw[e,Qv]at h;cases h
 have h2:a≠dC:=fun e=>by rw[e,Rm]at h;cases h
 rw[hk,aab (fun e=>e.elim h1 h2),h];simp only[acL,aeD,aax];rcases hq with e|e
 ·exact aam e
 ·right
  rw[Dk h nW]
  split
  ·omega
  ·rw[aab (fun h'=>aeV.2 e h')];omega
def PY{k:Int}(hk:kindOk k=true):aT k bD=true:=by unfold aT;rw[hk,aaa (aam rfl)];simp
def RO:aT 1 dC=true:=by decide +kernel
def PE{k:Int}(h:kindOk k=true):k=1\/k=2\/k=3:=by
 unfold kindOk at h;simp only[aaE,aax]at h;omega
def PH{k:Int}(hk:kindOk k=true):aT k (aF k)=true:=by
 rcases PE hk with rfl|rfl|rfl<;>decide +kernel
def PN{a:Bs}(h:a≠bD):gJ bD a=1/\gJ a bD=-1:=by
 unfold gJ;refine⟨?_,?_⟩
 ·rw[aab (fun e=>h e.symm),aab (fun e=>e.elim (fun e=>by revert e;decide) h),aaa (aam rfl)]
 ·rw[aab h,aaa (aad rfl)]
def QA{a b:Bs}{p q:Rat}(ha:aK a=some p)(hb:aK b=some q):gJ a b=if p=q then 0 else if p<q then -1 else 1:=by
 have h1:∀ {x:Bs} {r:Rat},aK x=some r->x≠bD/\x≠dC:=fun {x r} h=>⟨(fun e=>by rw[e,Qv]at h;cases h),(fun e=>by rw[e,Rm]at h;cases h)⟩
 unfold gJ;by_cases e:a=b
 ·subst e
  rw[ha]at hb;cases hb;rw[aaa rfl,aaa rfl]
 ·rw[aab e,aab (fun x=>x.elim (h1 ha).2 (h1 hb).1),aab (fun x=>x.elim (h1 ha).1 (h1 hb).2),Dk ha hb]
def Qu{k:Int}{a b:Bs}(ha:aT k a=true)(hb:aT k b=true)(h:(fI k a b).2=0) :
  aT k (fI k a b).1=true/\((fI k a b).1≠aF k↔a≠aF k\/b≠aF k):=by
 obtain⟨hk,ca⟩:=Oe ha;obtain⟨_,cb⟩:=Oe hb;unfold fI at h ⊢;rw[aaa ⟨ha,hb⟩]at h ⊢;rcases PE hk with rfl|rfl|rfl
 ·rw[aaa (by decide)]at h ⊢
  have hz:aF 1=bD:=rfl;have YH:og 1 b a=gJ b a:=by unfold og;rw[aaa ⟨hb,ha⟩,aaa rfl]
  rw[hz,YH];by_cases hc:gJ b a<0
  ·rw[aaa hc]
   have hbi:b≠bD:=by
    rintro rfl;by_cases e:a=bD
    ·subst e;simp[gJ]at hc
    ·rw[(PN e).1]at hc;omega
   exact⟨hb,fun _=>aad hbi,fun _=>hbi⟩
  ·rw[aab hc]
   refine⟨ha,fun e=>aam e,fun e=>?_⟩;rcases e with e|e
   ·exact e
   ·rintro rfl
    rw[(PN e).2]at hc;omega
 ·rw[aab (by decide)]at h ⊢
  have hz:aF 2=[48]:=rfl;rw[hz];have hi:bD≠[48]:=by decide
  by_cases hc:a=bD\/b=bD
  ·rw[aaa hc]
   refine⟨PY hk,fun _=>?_,fun _=>hi⟩;rcases hc with rfl|rfl
   ·exact aam hi
   ·exact aad hi
  ·rw[aab hc]at h ⊢
   obtain⟨p,hp,_,_,p0⟩:=(ca.resolve_left (fun e=>hc (aam e))).resolve_left (fun e=>by omega);obtain⟨q,hq,_,_,q0⟩:=(cb.resolve_left (fun e=>hc (aad e))).resolve_left (fun e=>by omega);have p0':=p0.resolve_left (by decide);have q0':=q0.resolve_left (by decide);have hs:=Rl hp hq h;refine⟨PZ hk hs (aad (Rat.add_nonneg p0' q0')),?_⟩;rw[Ne,Iw hs,Ne,Iw hp,Ne,Iw hq];constructor
   ·intro e
    by_cases hp0:p=0
    ·right;rintro rfl;exact e (by rw[hp0,Rat.add_zero])
    ·exact aam hp0
   ·intro e hs0
    have e1:p=-q:=by
     have:=aaw (fun x=>x + -q) hs0;simp only[Rat.add_assoc,Rat.add_neg_cancel,Rat.add_zero,Rat.zero_add]at this;exact this
    have hq1:q<=0:=by
     rw[e1]at p0';have:=Rat.neg_le_neg p0'
     simpa using this
    have hq2:q=0:=Rat.le_antisymm hq1 q0';rw[hq2]at e1;rcases e with e|e
    ·exact e (by rw[e1];rfl)
    ·exact e hq2
 ·rw[aaa (by decide)]at h ⊢
  have hz:aF 3=[48]:=rfl;have YH:og 3 b a=gJ a b:=by unfold og;rw[aaa ⟨hb,ha⟩,aab (by decide)]
  have hi:bD≠[48]:=by decide
  rw[hz,YH];by_cases hc:gJ a b<0
  ·rw[aaa hc]
   have hb0:b≠[48]:=by
    rintro rfl;rcases ca with rfl|⟨e,_⟩|⟨p,hp,_,_,p0⟩
    ·rw[(PN (by decide)).1]at hc;omega
    ·omega
    ·rw[QA hp nW]at hc
     by_cases hp0:p=0
     ·rw[aaa hp0]at hc;omega
     ·rw[aab hp0,aab (fun h'=>aeV.2 (p0.resolve_left (by decide)) h')]at hc;omega
   exact⟨hb,fun _=>aad hb0,fun _=>hb0⟩
  ·rw[aab hc]
   refine⟨ha,fun e=>aam e,fun e=>?_⟩;rcases e with e|e
   ·exact e
   ·rintro rfl
    rcases cb with rfl|⟨e',_⟩|⟨q,hq,_,_,q0⟩
    ·rw[(PN (by decide)).2]at hc;omega
    ·omega
    ·rw[QA nW hq]at hc
     have hq0:q≠0:=fun e'=>e ((Iw hq).2 e')
     rw[aab (fun e'=>hq0 e'.symm),aaa]at hc
     ·omega
     ·rcases Rat.le_iff_lt_or_eq.1 (q0.resolve_left (by decide))with h'|h'
      ·exact h'
      ·exact absurd h'.symm hq0
def RL{k:Int}{a b:Bs}(ha:aT k a=true)(hb:aT k b=true)(h:(iV k a b).2=0) :
  aT k (iV k a b).1=true/\((iV k a b).1≠aF k↔a≠aF k/\b≠aF k):=by
 obtain⟨hk,ca⟩:=Oe ha;obtain⟨_,cb⟩:=Oe hb;unfold iV at h ⊢;rw[aaa ⟨ha,hb⟩]at h ⊢;by_cases hz:a=aF k\/b=aF k
 ·rw[aaa hz]
  refine⟨PH hk,fun e=>absurd rfl e,fun e=>?_⟩;rcases hz with e'|e'
  ·exact absurd e' e.1
  ·exact absurd e' e.2
 ·rw[aab hz]at h ⊢
  have hnz:a≠aF k/\b≠aF k:=⟨fun e=>hz (aam e),fun e=>hz (aad e)⟩;have key:∀x:Bs,aT k x=true->x≠aF k->aT k x=true/\(x≠aF k↔a≠aF k/\b≠aF k):=fun x h1 h2=>⟨h1,fun _=>hnz,fun _=>h2⟩
  by_cases hi:a=bD\/b=bD
  ·rw[aaa hi]
   refine key _ (PY hk) (fun e=>?_);rcases hi with e'|e'
   ·exact hnz.1 (e'.trans e)
   ·exact hnz.2 (e'.trans e)
  ·rw[aab hi]at h ⊢
   by_cases hd:a=dC\/b=dC
   ·rw[aaa hd]
    have hk1:k=1:=by
     rcases hd with rfl|rfl
     ·rcases ca with e|⟨e,_⟩|⟨p,_,_,e,_⟩
      ·exact absurd e (by decide)
      ·exact e
      ·exact absurd rfl e
     ·rcases cb with e|⟨e,_⟩|⟨p,_,_,e,_⟩
      ·exact absurd e (by decide)
      ·exact e
      ·exact absurd rfl e
    subst hk1;exact key _ RO (by decide)
   ·rw[aab hd]at h ⊢
    obtain⟨p,hp,_,_,p0⟩:=(ca.resolve_left (fun e=>hi (aam e))).resolve_left (fun e=>hd (aam e.2));obtain⟨q,hq,_,_,q0⟩:=(cb.resolve_left (fun e=>hi (aad e))).resolve_left (fun e=>hd (aad e.2));by_cases hk1:k=1
    ·rw[aaa hk1]at h ⊢
     have hs:=Rl hp hq h;refine key _ (PZ hk hs (aam hk1)) (fun e=>?_);subst hk1;rw[e]at hs;have:aK bD=some (p+q):=hs;rw[Qv]at this;cases this
    ·rw[aab hk1]at h ⊢
     have hs:=SI hp hq h;have hz0:aF k=[48]:=by rcases PE hk with rfl|rfl|rfl<;>first|rfl|exact absurd rfl hk1
     refine key _ (PZ hk hs (aad (Rat.mul_nonneg (p0.resolve_left hk1) (q0.resolve_left hk1)))) (fun e=>?_);rw[hz0]at e hnz;rw[Iw hs]at e;rcases Rat.mul_eq_zero.1 e with e|e
     ·exact hnz.1 ((Iw hp).2 e)
     ·exact hnz.2 ((Iw hq).2 e)
def Tt{k:Int}{a:Bs}(ha:aT k a=true)(h:(oh k a).2=0):aT k (oh k a).1=true/\(oh k a).1≠aF k:=by
 obtain⟨hk,ca⟩:=Oe ha;unfold oh at h ⊢;rw[aaa ha]at h ⊢;rcases PE hk with rfl|rfl|rfl
 ·rw[aaa rfl]at h ⊢
  by_cases hc:0<=gJ a [48]
  ·rw[aaa hc];exact⟨by decide +kernel,by decide⟩
  ·rw[aab hc];exact⟨RO,by decide⟩
 ·rw[aab (by decide),aab (by decide)]at h ⊢
  by_cases hc:0<=gJ a [49]
  ·rw[aaa hc];exact⟨PY hk,by decide⟩
  ·rw[aab hc]at h ⊢
   by_cases hs:(gV [49] a).2≠0
   ·rw[aaa hs]at h;exact absurd h hs
   ·rw[aab hs]at h ⊢
    simp only[abb]at hs;have hai:a≠bD:=by rintro rfl;rw[(PN (by decide)).1]at hc;omega
    obtain⟨p,hp,_,_,p0⟩:=(ca.resolve_left hai).resolve_left (fun e=>by omega);have h1:=SK Qw hp hs;obtain⟨d0,h2⟩:=SH Qw h1 h;have hp1:p<1:=by
     rw[QA hp Qw]at hc;by_cases e:p=1
     ·rw[aaa e]at hc;omega
     ·rw[aab e]at hc
      by_cases hl:p<1
      ·exact hl
      ·rw[aab hl]at hc;omega
    have hd:0<1-p:=by
     rw[ad6];have:=Rat.add_lt_add_right (c:=-p) |>.2 hp1
     rwa[Rat.add_neg_cancel]at this
    have hpos:0<1/(1-p):=by
     rw[Rat.div_def,Rat.one_mul];exact Rat.inv_pos.2 hd
    refine⟨PZ hk h2 (aad (Rat.le_of_lt hpos)),fun e=>?_⟩;rw[show aF 2=[48] from rfl,Iw h2]at e;rw[e]at hpos;exact absurd hpos (af9)
 ·rw[aab (by decide),aaa rfl]at h ⊢
  by_cases hc:gJ a [49]<=0
  ·rw[aaa hc];exact⟨by decide +kernel,by decide⟩
  ·rw[aab hc];exact⟨PY hk,by decide⟩
def Ex{q:Rat}(h1:(af q.num.natAbs).length<=400)(h2:(af q.den).length<=400):(iU q).length<=802:=by
 unfold iU;rw[aas,aas];have a1:(if q.num<0 then [45] else ([]:Bs)).length<=1:=by split<;>simp
 have a2:(if q.den=1 then ([]:Bs) else 47::af q.den).length<=401:=by split<;>simp;omega
 omega
def yX(q:Rat):(ik q).1.length<=802:=by
 unfold ik
 split
 ·simp
 ·exact Ex (by omega) (by omega)
def yY{f:Rat->Rat->Bs×Nat}(h:∀p q,(f p q).1.length<=802)(a b:Bs):(fZ f a b).1.length<=802:=by
 unfold fZ
 split
 ·exact h _ _
 ·simp
def Ew(a b:Bs):(jW a b).1.length<=802:=yY (fun _ _=>yX _) a b
def Ob(a b:Bs):(gV a b).1.length<=802:=yY (fun _ _=>yX _) a b
def N9(a b:Bs):(mV a b).1.length<=802:=yY (fun _ _=>yX _) a b
def Tx(a b:Bs):(lS a b).1.length<=802:=yY (fun _ _=>by split;simp;exact yX _) a b
def Oa{a:Bs}{q:Rat}(h:aK a=some q):a.length<=802:=by
 obtain⟨e,h1,h2,_⟩:=uz h;rw[e];exact Ex h1 h2
def Mr{k:Int}{a:Bs}(h:aT k a=true):a.length<=802:=by
 obtain⟨_,h⟩:=Oe h;rcases h with h|h|⟨q,h,_⟩
 ·rw[h];decide
 ·rw[h.2];decide
 ·exact Oa h
def rR(k:Int):(aF k).length<=802:=by unfold aF;split;split<;>decide;decide
def Mq(k:Int):(fQ k).length<=802:=by unfold fQ;split;split<;>decide;decide
def yP{k:Int}{a b:Bs}(ha:a.length<=802)(hb:b.length<=802):(fI k a b).1.length<=802:=by
 unfold fI
 split
 ·split
  ·split
   ·exact hb
   ·exact ha
  ·split
   ·show bD.length<=802;decide
   ·exact Ew _ _
 ·simp
def DW(k:Int)(a b:Bs):(iV k a b).1.length<=802:=by
 unfold iV
 split
 ·split
  ·exact rR k
  ·split
   ·show bD.length<=802;decide
   ·split
    ·show dC.length<=802;decide
    ·split
     ·exact Ew _ _
     ·exact N9 _ _
 ·simp
def Ti(k:Int)(a:Bs):(oh k a).1.length<=802:=by
 unfold oh
 split
 ·split
  ·split
   ·exact Mq k
   ·show dC.length<=802;decide
  ·split
   ·split
    ·exact Mq k
    ·show bD.length<=802;decide
   ·split
    ·show bD.length<=802;decide
    ·split
     ·simp
     ·exact Tx _ _
 ·simp
def wC{k:Int}{a:Bs}(h:bg k a=true):a.length<=802:=Mr (Ms h).1
def PL{k:Int}(h:kindOk k=true):1<=k/\k<=3:=by
 unfold kindOk at h;simpa using h
def IG{k:Int}(h:kindOk k=false):¬ (1<=k/\k<=3):=by
 unfold kindOk at h;intro hh;simp[hh.1,hh.2]at h
def uJ(k:Int)(w:World):Calls Tryz.prog 54 #[.int .i64 k] w fun e w'=>e=.returned (.bool (kindOk k))/\w=w':=by
 have HX:Hid (kindOk k=(decide (1<=k)&&decide (k<=3))):=rfl;go_enter Tryz.func54,Tryz.ntmps54;by_cases h1:1<=k
 ·by_cases h3:k<=3
  ·have HY:Hid (kindOk k=true):=by rw[Hid,HX.out];simp[h1,h3]
   go_wp2_with fail;go_returns;exact⟨by rw[HY.out];(try rfl),rfl⟩
  ·have HY:Hid (kindOk k=false):=by rw[Hid,HX.out];simp[h3]
   have g3:3<k:=(by omega);go_wp2_with fail;go_returns;exact⟨by rw[HY.out];(try rfl),rfl⟩
 ·have HY:Hid (kindOk k=false):=by rw[Hid,HX.out];simp[h1]
  have g1:k<1:=by omega
  go_wp2_with fail;go_returns;exact⟨by rw[HY.out];(try rfl),rfl⟩
def ko{k c:Int}(h:k=c):(k==c)=true:=by simpa using h
def jU{k c:Int}(h:k≠c):(k==c)=false:=by simpa using h
def ry{k c:Int}(h:k≠c):(k != c)=true:=by simpa using h
def qY{k c:Int}(h:k=c):(k != c)=false:=by simpa using h
def o9(k:Int)(w:World):Calls Tryz.prog 34 #[.int .i64 k] w fun e w'=>e=.returned (S (aF k))/\w=w':=by
 have p1:=fun W=>uJ k W
 cases hk:kindOk k with
 |false=>
  have HY:Hid (aF k=[]):=by unfold Hid aF;rw[hk];rfl
  rw[hk]at p1;clear hk;go_enter Tryz.func34,Tryz.ntmps34;go_wp2_with fail;refine(p1 _).mono ?_;rintro e w1 ⟨rfl,rfl⟩;go_wp2_with fail;go_returns;exact⟨by rw[HY.out];(try rfl),rfl⟩
 |true=>
  rw[hk]at p1;by_cases h1:k=1
  ·have HY:Hid (aF k=bD):=by unfold Hid aF;rw[hk,aaa rfl,aaa h1]
   have t1:=ko h1;clear hk h1;go_enter Tryz.func34,Tryz.ntmps34;go_wp2_with fail;refine(p1 _).mono ?_;rintro e w1 ⟨rfl,rfl⟩;go_wp2_with fail;go_returns;exact⟨by rw[HY.out];(try rfl),rfl⟩
  ·have HY:Hid (aF k=[48]):=by unfold Hid aF;rw[hk,aaa rfl,aab h1]
   have t1:=jU h1;clear hk h1;go_enter Tryz.func34,Tryz.ntmps34;go_wp2_with fail;refine(p1 _).mono ?_;rintro e w1 ⟨rfl,rfl⟩;go_wp2_with fail;go_returns;exact⟨by rw[HY.out];(try rfl),rfl⟩
def DU(k:Int)(w:World):Calls Tryz.prog 129 #[.int .i64 k] w fun e w'=>e=.returned (S (fQ k))/\w=w':=by
 have p1:=fun W=>uJ k W
 cases hk:kindOk k with
 |false=>
  have HY:Hid (fQ k=[]):=by unfold Hid fQ;rw[hk];rfl
  rw[hk]at p1;clear hk;go_enter Tryz.func129,Tryz.ntmps129;go_wp2_with fail;refine(p1 _).mono ?_;rintro e w1 ⟨rfl,rfl⟩;go_wp2_with fail;go_returns;exact⟨by rw[HY.out];(try rfl),rfl⟩
 |true=>
  rw[hk]at p1;by_cases h1:k=1
  ·have HY:Hid (fQ k=[48]):=by unfold Hid fQ;rw[hk,aaa rfl,aaa h1]
   have t1:=ko h1;clear hk h1;go_enter Tryz.func129,Tryz.ntmps129;go_wp2_with fail;refine(p1 _).mono ?_;rintro e w1 ⟨rfl,rfl⟩;go_wp2_with fail;go_returns;exact⟨by rw[HY.out];(try rfl),rfl⟩
  ·have HY:Hid (fQ k=[49]):=by unfold Hid fQ;rw[hk,aaa rfl,aab h1]
   have t1:=jU h1;clear hk h1;go_enter Tryz.func129,Tryz.ntmps129;go_wp2_with fail;refine(p1 _).mono ?_;rintro e w1 ⟨rfl,rfl⟩;go_wp2_with fail;go_returns;exact⟨by rw[HY.out];(try rfl),rfl⟩
def iR{a:ByteArray}{l:Bs}(h:a.data.toList=l):(a.toList==l)=true:=by rw[aan,h,ack]
def iT{a:ByteArray}{l:Bs}(h:a.data.toList≠l):(a.toList==l)=false:=by rw[aan];simpa using h
def rq{a:ByteArray}{l:Bs}(h:a.data.toList≠l):(a.toList != l)=true:=by rw[aan];simpa using h
def rf{a:ByteArray}{l:Bs}(h:a.data.toList=l):(a.toList != l)=false:=by rw[aan,h];simp
def zm:((⟨#[48]⟩:ByteArray).data.toList)=[48]:=rfl
def nZ(k:Int)(a:ByteArray)(w:World)(ha:a.size<=9223372036854775807):Calls Tryz.prog 84 #[.int .i64 k,.string a] w fun e w'=>e=.returned (.bool (aT k a.data.toList))/\Below w w w':=by
 have p1:=fun W=>uJ k W
 cases hk:kindOk k with
 |false=>
  have HY:Hid (aT k a.data.toList=false):=by unfold Hid aT;rw[hk];rfl
  rw[hk]at p1;clear hk;go_enter aez,aea;go_wp2_with fail;refine(p1 _).mono ?_;rintro e w1 ⟨rfl,rfl⟩;go_wp2_with fail;go_returns;exact⟨by rw[HY.out];(try rfl),aac _ _⟩
 |true=>
  rw[hk]at p1;by_cases hi:a.data.toList=bD
  ·have HY:Hid (aT k a.data.toList=true):=by unfold Hid aT;rw[hk,hi];rfl
   have t1:(a.toList==[105,110,102])=true:=iR hi;clear hk hi;go_enter aez,aea;go_wp2_with fail;refine(p1 _).mono ?_;rintro e w1 ⟨rfl,rfl⟩;go_wp2_with fail;go_returns;exact⟨by rw[HY.out];(try rfl),aac _ _⟩
  ·have t1:(a.toList==[105,110,102])=false:=iT hi
   by_cases hd:a.data.toList=dC
   ·have HY:Hid (aT k a.data.toList=(k==1)):=by
     unfold Hid aT;rw[hk,hd];show(true&&if dC=bD\/dC=dC then decide (dC=bD\/k=1) else _)=_;rw[aaa (aad rfl)];by_cases h:k=1
     ·subst h;rfl
     ·rw[jU h,aai (by rintro(h'|h');exact absurd h' (by decide);exact h h')];rfl
    have t2:(a.toList==[45,105,110,102])=true:=iR hd;clear hk hi hd;go_enter aez,aea;go_wp2_with fail;refine(p1 _).mono ?_;rintro e w1 ⟨rfl,rfl⟩;go_wp2_with fail;go_returns;exact⟨by rw[HY.out];(try rfl),aac _ _⟩
   ·have t2:(a.toList==[45,105,110,102])=false:=iT hd
    have HV:Hid (aT k a.data.toList=((Rat3.aK a.data.toList).isSome&&decide (k=1\/0<=Rat3.fB a.data.toList [48]))):=by
     unfold Hid aT;rw[hk,aab (by rintro(h|h)<;>contradiction)];rfl
    have p2:=fun W=>Rat3.Di a W ha
    have p3:=fun W=>Rat3.CR a ⟨#[48]⟩ W ha (by decide)
    rw[zm]at p3;generalize Rat3.fB a.data.toList [48]=z at*;clear hk hi hd
    cases hv:(Rat3.aK a.data.toList).isSome with
    |false=>
     have HY:Hid (aT k a.data.toList=false):=by rw[Hid,HV.out,hv];rfl
     rw[hv]at p2;clear hv;go_enter aez,aea;go_wp2_with fail;refine(p1 _).mono ?_;rintro e w1 ⟨rfl,rfl⟩;go_wp2_with fail;refine(p2 _).mono ?_;rintro e w2 ⟨rfl,b2⟩;go_wp2_with fail;go_returns;exact⟨by rw[HY.out];(try rfl),b2⟩
    |true=>
     rw[hv]at p2 HV;clear hv;by_cases h1:k=1
     ·have HY:Hid (aT k a.data.toList=true):=by rw[Hid,HV.out,aaA (aam h1)];rfl
      have t3:=ko h1;clear h1;go_enter aez,aea;go_wp2_with fail;refine(p1 _).mono ?_;rintro e w1 ⟨rfl,rfl⟩;go_wp2_with fail;refine(p2 _).mono ?_;rintro e w2 ⟨rfl,b2⟩;go_wp2_with fail;go_returns;exact⟨by rw[HY.out];(try rfl),b2⟩
     ·have HY:Hid (aT k a.data.toList=decide (0<=z)):=by
       rw[Hid,HV.out];simp[h1]
      have t3:=jU h1;clear h1;go_enter aez,aea;go_wp2_with fail;refine(p1 _).mono ?_;rintro e w1 ⟨rfl,rfl⟩;go_wp2_with fail;refine(p2 _).mono ?_;rintro e w2 ⟨rfl,b2⟩;go_wp2_with fail;refine(p3 _).mono ?_;rintro e w3 ⟨rfl,b3⟩;go_wp2_with fail;go_returns;exact⟨by rw[HY.out];(try rfl),ae b2 b3⟩
def wB(k:Int)(a:ByteArray)(w:World)(ha:a.size<=9223372036854775807):Calls Tryz.prog 55 #[.int .i64 k,.string a] w fun e w'=>e=.returned (.bool (bg k a.data.toList))/\Below w w w':=by
 have p1:=fun W=>nZ k a W ha
 cases hv:aT k a.data.toList with
 |false=>
  have HY:Hid (bg k a.data.toList=false):=by unfold Hid bg;rw[hv];rfl
  rw[hv]at p1;clear hv;go_enter aey,ad9;go_wp2_with fail;refine(p1 _).mono ?_;rintro e w1 ⟨rfl,b1⟩;go_wp2_with fail;go_returns;exact⟨by rw[HY.out];(try rfl),b1⟩
 |true=>
  have HV:Hid (bg k a.data.toList=decide (a.data.toList≠bD/\a.data.toList≠dC/\(k=1\/a.data.toList≠[48]))):=by unfold Hid bg;rw[hv];rfl
  rw[hv]at p1;clear hv;by_cases hi:a.data.toList=bD
  ·have HY:Hid (bg k a.data.toList=false):=by rw[Hid,HV.out];simp[hi]
   have t1:(a.toList != [105,110,102])=false:=rf hi;have t1':(a.toList==[105,110,102])=true:=iR hi;clear HV hi;go_enter aey,ad9;go_wp2_with fail;refine(p1 _).mono ?_;rintro e w1 ⟨rfl,b1⟩;go_wp2_with fail;go_returns;exact⟨by rw[HY.out];(try rfl),b1⟩
  have t1:(a.toList != [105,110,102])=true:=rq hi;have t1':(a.toList==[105,110,102])=false:=iT hi;by_cases hd:a.data.toList=dC
  ·have HY:Hid (bg k a.data.toList=false):=by rw[Hid,HV.out];simp[hd]
   have t2:(a.toList != [45,105,110,102])=false:=rf hd;have t2':(a.toList==[45,105,110,102])=true:=iR hd;clear HV hi hd;go_enter aey,ad9;go_wp2_with fail;refine(p1 _).mono ?_;rintro e w1 ⟨rfl,b1⟩;go_wp2_with fail;go_returns;exact⟨by rw[HY.out];(try rfl),b1⟩
  have t2:(a.toList != [45,105,110,102])=true:=rq hd;have t2':(a.toList==[45,105,110,102])=false:=iT hd;by_cases h1:k=1
  ·have HY:Hid (bg k a.data.toList=true):=by rw[Hid,HV.out];simp[hi,hd,h1]
   have t3:=ko h1;clear HV hi hd h1;go_enter aey,ad9;go_wp2_with fail;refine(p1 _).mono ?_;rintro e w1 ⟨rfl,b1⟩;go_wp2_with fail;go_returns;exact⟨by rw[HY.out];(try rfl),b1⟩
  have t3:=jU h1;by_cases h0:a.data.toList=[48]
  ·have HY:Hid (bg k a.data.toList=false):=by rw[Hid,HV.out];simp[h0,h1]
   have t4:(a.toList != [48])=false:=rf h0;have t4':(a.toList==[48])=true:=iR h0;clear HV hi hd h1 h0;go_enter aey,ad9;go_wp2_with fail;refine(p1 _).mono ?_;rintro e w1 ⟨rfl,b1⟩;go_wp2_with fail;go_returns;exact⟨by rw[HY.out];(try rfl),b1⟩
  ·have HY:Hid (bg k a.data.toList=true):=by rw[Hid,HV.out];simp[hi,hd,h0]
   have t4:(a.toList != [48])=true:=rq h0;have t4':(a.toList==[48])=false:=iT h0;clear HV hi hd h1 h0;go_enter aey,ad9;go_wp2_with fail;refine(p1 _).mono ?_;rintro e w1 ⟨rfl,b1⟩;go_wp2_with fail;go_returns;exact⟨by rw[HY.out];(try rfl),b1⟩
def str_eq{a b:ByteArray}(h:a.data.toList=b.data.toList):(a.toList==b.toList)=true:=by rw[aan,aan,h,ack]
def qB{a b:ByteArray}(h:a.data.toList≠b.data.toList):(a.toList==b.toList)=false:=by rw[aan,aan];simpa using h
def Em{a b:ByteArray}(h:a.data.toList=b.data.toList):(a.toList != b.toList)=false:=by rw[aan,aan,h];simp
def Ny{a b:ByteArray}(h:a.data.toList≠b.data.toList):(a.toList != b.toList)=true:=by rw[aan,aan];simpa using h
def ww(a b:ByteArray)(w:World)(ha:a.size<=9223372036854775807)(hb:b.size<=9223372036854775807):Calls Tryz.prog 123 #[.string a,.string b] w fun e w'=>e=.returned (.int .i64 (gJ a.data.toList b.data.toList))/\Below w w w':=by
 have p1:=fun W=>Rat3.CR a b W ha hb
 have HV:Hid (gJ a.data.toList b.data.toList=if a.data.toList=b.data.toList then 0 else if a.data.toList=dC\/b.data.toList=bD then -1 else if a.data.toList=bD\/b.data.toList=dC then 1 else Rat3.fB a.data.toList b.data.toList):=rfl;generalize Rat3.fB a.data.toList b.data.toList=z at*;by_cases h0:a.data.toList=b.data.toList
 ·have HY:Hid (gJ a.data.toList b.data.toList=0):=by rw[Hid,HV.out,aaa h0]
  have t0:=str_eq h0;clear HV h0;go_enter ad7,adT;go_wp2_with fail;go_returns;exact⟨by rw[HY.out];(try rfl),aac _ _⟩
 have t0:=qB h0;by_cases h1:a.data.toList=dC
 ·have HY:Hid (gJ a.data.toList b.data.toList=-1):=by rw[Hid,HV.out,aab h0,aaa (aam h1)]
  have t1:(a.toList==[45,105,110,102])=true:=iR h1;clear HV h0 h1;go_enter ad7,adT;go_wp2_with fail;go_returns;exact⟨by rw[HY.out];(try rfl),aac _ _⟩
 have t1:(a.toList==[45,105,110,102])=false:=iT h1;by_cases h2:b.data.toList=bD
 ·have HY:Hid (gJ a.data.toList b.data.toList=-1):=by rw[Hid,HV.out,aab h0,aaa (aad h2)]
  have t2:(b.toList==[105,110,102])=true:=iR h2;clear HV h0 h1 h2;go_enter ad7,adT;go_wp2_with fail;go_returns;exact⟨by rw[HY.out];(try rfl),aac _ _⟩
 have t2:(b.toList==[105,110,102])=false:=iT h2;by_cases h3:a.data.toList=bD
 ·have HY:Hid (gJ a.data.toList b.data.toList=1):=by rw[Hid,HV.out,aab h0,aab (by rintro(h|h)<;>contradiction),aaa (aam h3)]
  have t3:(a.toList==[105,110,102])=true:=iR h3;clear HV h0 h1 h2 h3;go_enter ad7,adT;go_wp2_with fail;go_returns;exact⟨by rw[HY.out];(try rfl),aac _ _⟩
 have t3:(a.toList==[105,110,102])=false:=iT h3;by_cases h4:b.data.toList=dC
 ·have HY:Hid (gJ a.data.toList b.data.toList=1):=by rw[Hid,HV.out,aab h0,aab (by rintro(h|h)<;>contradiction),aaa (aad h4)]
  have t4:(b.toList==[45,105,110,102])=true:=iR h4;clear HV h0 h1 h2 h3 h4;go_enter ad7,adT;go_wp2_with fail;go_returns;exact⟨by rw[HY.out];(try rfl),aac _ _⟩
 have t4:(b.toList==[45,105,110,102])=false:=iT h4;have HY:Hid (gJ a.data.toList b.data.toList=z):=by rw[Hid,HV.out,aab h0,aab (by rintro(h|h)<;>contradiction),aab (by rintro(h|h)<;>contradiction)]
 clear HV h0 h1 h2 h3 h4;go_enter ad7,adT;go_wp2_with fail;refine(p1 _).mono ?_;rintro e w1 ⟨rfl,b1⟩;go_wp2_with fail;go_returns;exact⟨by rw[HY.out];(try rfl),b1⟩
def Ml(k:Int)(a b:ByteArray)(w:World)(ha:a.size<=9223372036854775807)(hb:b.size<=9223372036854775807):Calls Tryz.prog 106 #[.int .i64 k,.string a,.string b] w fun e w'=>e=.returned (.int .i64 (og k a.data.toList b.data.toList))/\Below w w w':=by
 have p1:=fun W=>nZ k a W ha
 have p2:=fun W=>nZ k b W hb
 have p3:=fun W=>ww a b W ha hb
 have p4:=fun W=>ww b a W hb ha
 have HV:Hid (og k a.data.toList b.data.toList=if aT k a.data.toList=true/\aT k b.data.toList=true then (if k=1 then gJ a.data.toList b.data.toList else gJ b.data.toList a.data.toList) else 0):=rfl;generalize gJ a.data.toList b.data.toList=z at*;generalize gJ b.data.toList a.data.toList=y at*
 cases hva:aT k a.data.toList with
 |false=>
  have HY:Hid (og k a.data.toList b.data.toList=0):=by rw[Hid,HV.out,hva,aab (by simp)]
  rw[hva]at p1;clear HV hva;go_enter Tryz.func106,afs;go_wp2_with fail;refine(p1 _).mono ?_;rintro e w1 ⟨rfl,b1⟩;go_wp2_with fail;go_returns;exact⟨by rw[HY.out];(try rfl),b1⟩
 |true=>
  rw[hva]at p1 HV
  cases hvb:aT k b.data.toList with
  |false=>
   have HY:Hid (og k a.data.toList b.data.toList=0):=(by rw[Hid,HV.out,hvb,aab (by simp)]);rw[hvb]at p2;clear HV hva hvb;go_enter Tryz.func106,afs;go_wp2_with fail;refine(p1 _).mono ?_;rintro e w1 ⟨rfl,b1⟩;go_wp2_with fail;refine(p2 _).mono ?_;rintro e w2 ⟨rfl,b2⟩;go_wp2_with fail;go_returns;exact⟨by rw[HY.out];(try rfl),ae b1 b2⟩
  |true=>
   rw[hvb]at p2 HV;by_cases h1:k=1
   ·have HY:Hid (og k a.data.toList b.data.toList=z):=by rw[Hid,HV.out,aaa (by simp),aaa h1]
    have t3:=ko h1;clear HV hva hvb h1 p4;go_enter Tryz.func106,afs;go_wp2_with fail;refine(p1 _).mono ?_;rintro e w1 ⟨rfl,b1⟩;go_wp2_with fail;refine(p2 _).mono ?_;rintro e w2 ⟨rfl,b2⟩;go_wp2_with fail;refine(p3 _).mono ?_;rintro e w3 ⟨rfl,b3⟩;go_wp2_with fail;go_returns;exact⟨by rw[HY.out];(try rfl),ae (ae b1 b2) b3⟩
   ·have HY:Hid (og k a.data.toList b.data.toList=y):=by rw[Hid,HV.out,aaa (by simp),aab h1]
    have t3:=jU h1;clear HV hva hvb h1 p3;go_enter Tryz.func106,afs;go_wp2_with fail;refine(p1 _).mono ?_;rintro e w1 ⟨rfl,b1⟩;go_wp2_with fail;refine(p2 _).mono ?_;rintro e w2 ⟨rfl,b2⟩;go_wp2_with fail;refine(p4 _).mono ?_;rintro e w3 ⟨rfl,b3⟩;go_wp2_with fail;go_returns;exact⟨by rw[HY.out];(try rfl),ae (ae b1 b2) b3⟩
end Go.Proofs.YtppnecgeboonbaaGreatDoor
