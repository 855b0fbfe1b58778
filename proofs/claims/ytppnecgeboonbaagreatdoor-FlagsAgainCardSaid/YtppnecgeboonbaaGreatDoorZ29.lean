/- Walks. -/
import Derived.Test.YtppnecgeboonbaaGreatDoorZ28
namespace Go.Proofs.YtppnecgeboonbaaGreatDoor
set_option maxRecDepth 100000
set_option linter.all false
set_option maxHeartbeats 4000000
open Go.RowKit
def aBl{s:Bs}(h:40<s.length):gT s=false:=by unfold gT;rw[aai (show ¬ s.length<=40 by omega)];simp
def aBm{s:Bs}(h0:s≠[])(h:s.length<=40):gT s=decide (eQ s=0):=by
 unfold gT;rw[aaA h]
 cases s with
 |nil=>exact absurd rfl h0
 |cons a r=>simp
theorem aAO{γ:Type}[DecidableEq γ]:∀ {l:List γ} {p:γ} {k:Nat} (hk:k<l.length),(∀x∈l.take k,x≠p)->l[k]=p->jr l p=some k
 |q::r,p,0,_,_,h=>by
  unfold jr;rw[aaa (show q=p from h)]
 |q::r,p,k+1,hk,hn,h=>by
  unfold jr;rw[aab (hn q (by rw[aa1];exact aal)),aAO (k:=k) (by simpa using hk) (fun x hx=>hn x (by rw[aa1];exact aaj _ hx)) (by simpa using h)]
  rfl
theorem aAP{γ:Type}[DecidableEq γ]:∀ {l:List γ} {p:γ},(∀x∈l,x≠p)->jr l p=none
 |[],_,_=>rfl
 |q::r,p,hn=>by
  unfold jr;rw[aab (hn q aal),aAP fun x hx=>hn x (aaj _ hx)];rfl
theorem aAD{γ:Type}[DecidableEq γ]:∀ {l:List γ} {p:γ} {n:Nat},jr l p=some n->∃h:n<l.length,l[n]=p/\∀j,(hj:j<l.length)->l[j]=p->n<=j
 |q::r,p,n,h=>by
  unfold jr at h;by_cases e:q=p
  ·rw[aaa e]at h
   cases h
   exact⟨by simp,e,fun j _ _=>aaS _⟩
  ·rw[aab e]at h
   cases hf:jr r p with
   |none=>rw[hf]at h;cases h
   |some m=>
    rw[hf]at h
    cases h
    obtain⟨h1,h2,h3⟩:=aAD hf;refine⟨by simpa using h1,by simpa using h2,fun j hj hjp=>?_⟩
    cases j with
    |zero=>exact absurd (by simpa using hjp) e
    |succ j=>exact Nat.succ_le_succ (h3 j (by simpa using hj) (by simpa using hjp))
def aAs(t:List Bs)(s:Bs):Int:=match jr t s with|some n=>(n:Int)|none=>-1
def aBo{t:List Bs}{s:Bs}{k:Nat}(hk:k<t.length)(hn:∀x∈t.take k,x≠s)(h:t[k]=s):aAs t s=(k:Int):=by unfold aAs;rw[aAO hk hn h]
def aBp{t:List Bs}{s:Bs}(hn:∀x∈t.take t.length,x≠s):aAs t s=-1:=by rw[aaJ]at hn;unfold aAs;rw[aAP hn]
def aAT{t:List Bs}{k:Nat}(hk:k<t.length):∃n:Nat,aAs t t[k]=(n:Int)/\jr t t[k]=some n/\n<=k:=by
 cases hf:jr t t[k] with
 |none=>
  exfalso;have key:∀ {l:List Bs} {p:Bs},jr l p=none->p∉l:=by
   intro l
   induction l with
   |nil=>intro p _ h;cases h
   |cons q r ih=>
    intro p h hm;unfold jr at h;by_cases e:q=p
    ·rw[aaa e]at h;cases h
    ·rw[aab e]at h
     cases hr:jr r p with
     |some n=>rw[hr]at h;cases h
     |none=>
      rcases aay.1 hm with e'|hm
      ·exact e e'.symm
      ·exact ih hr hm
  exact key hf (aag hk)
 |some n=>
  obtain⟨h1,h2,h3⟩:=aAD hf;exact⟨n,by unfold aAs;rw[hf],rfl,h3 k hk rfl⟩
def aBD{t:List Bs}(h:¬ t.length<=500):l7 t=false:=by unfold l7;rw[aai h];rfl
def aBE{t:List Bs}{k:Nat}(hk:k<t.length)(h:gT t[k]=false):l7 t=false:=by unfold l7;rw[p8 hk h];simp
def aBC{t:List Bs}{k:Nat}(hk:k<t.length)(h:aAs t t[k]≠(k:Int)):l7 t=false:=by
 obtain⟨n,h1,h2,h3⟩:=aAT hk;obtain⟨h4,h5,h6⟩:=aAD h2;have hnk:n<k:=by
  have:n≠k:=fun e=>h (by rw[h1,e])
  omega
 unfold l7;rw[aai (show ¬ t.Nodup from fun hd=>by
  have:=adk.1 hd n k h4 hk hnk;exact this h5)]
 simp
def aBB{t:List Bs}(h:t.length<=500)(h1:∀s∈t.take t.length,gT s=true)(h2:∀i,(hi:i<t.length)->aAs t t[i]=(i:Int)):l7 t=true:=by
 rw[aaJ]at h1;unfold l7;rw[aaA h,aaT.2 h1,aaA]
 ·rfl
 ·refine adk.2 fun i j hi hj hij e=>?_
  have h3:=h2 j hj;obtain⟨n,h4,h5,_⟩:=aAT hj;obtain⟨_,_,h6⟩:=aAD h5;have:=h6 i hi e;omega
def aBv(s:ByteArray)(w:World):Calls Tryz.prog 85 #[.string s] w (qL w (H6 s.data.toList) (kY s.data.toList) (eQ s.data.toList)):=by
 by_cases h:s.size<=16384
 ·exact L9 s w h
 ·have d1:(16384:Int)<(s.size:Int):=by omega
  have HX:Hid (H6 s.data.toList=[]/\kY s.data.toList=0/\eQ s.data.toList=2):=by
   unfold Hid H6 kY eQ iC;rw[aaa (by rw[<-aae];omega)];exact⟨rfl,rfl,rfl⟩
  clear h;go_enter Tryz.func85,Tryz.ntmps85;go_wp2_with fail;go_returns;rw[HX.out.1,HX.out.2.1,HX.out.2.2];exact⟨none,0,rfl,Pe _,fun hne=>absurd rfl hne,aac _ _⟩
def aBr(s:ByteArray)(w:World):Calls Tryz.prog 56 #[.string s] w fun e w'=>e=.returned (.bool (gT s.data.toList))/\Below w w w':=by
 have c1:=aBv s w;unfold qL at c1;by_cases h0:s.size=0
 ·have HX:Hid (gT s.data.toList=false):=by rw[Hid,fF h0];rfl
  have d1:(s.size:Int)<1:=by omega
  generalize H6 s.data.toList=l at*;generalize kY s.data.toList=at' at*;generalize eQ s.data.toList=e' at*;clear h0;go_enter Tryz.func56,Tryz.ntmps56;go_wp2_with fail;refine c1.mono ?_;rintro e w1 ⟨A,c,rfl,_,_,b1⟩;go_wp2_with fail;go_returns;exact⟨by rw[HX.out];(try rfl),b1⟩
 have d1:(1:Int)<=(s.size:Int):=by omega
 by_cases h4:40<s.size
 ·have HX:Hid (gT s.data.toList=false):=aBl (by rw[<-aae];exact h4)
  have d4:40<(s.size:Int):=by omega
  generalize H6 s.data.toList=l at*;generalize kY s.data.toList=at' at*;generalize eQ s.data.toList=e' at*;clear h0 h4;go_enter Tryz.func56,Tryz.ntmps56;go_wp2_with fail;refine c1.mono ?_;rintro e w1 ⟨A,c,rfl,_,_,b1⟩;go_wp2_with fail;go_returns;exact⟨by rw[HX.out];(try rfl),b1⟩
 have HX:=Pd (aBm (gB h0) (show s.data.toList.length<=40 by rw[<-aae];omega));have d4:(s.size:Int)<=40:=by omega
 generalize H6 s.data.toList=l at*;generalize kY s.data.toList=at' at*;generalize eQ s.data.toList=e' at*;clear h0 h4;have HY:Hid (gT s.data.toList=(((e':Nat):Int)==0)):=by
  rw[Hid,HX.out];by_cases he:e'=0
  ·subst he;rfl
  ·rw[aai he];symm;simpa using he
 clear HX;go_enter Tryz.func56,Tryz.ntmps56;go_wp2_with fail;refine c1.mono ?_;rintro e w1 ⟨A,c,rfl,_,_,b1⟩;go_wp2_with fail;go_returns;exact⟨by rw[HY.out];(try rfl),b1⟩
def aBt(A:Option Addr)(c:Nat)(t:List Bs)(s:ByteArray)(w:World)(hV:ay w A (t.map S))(hl:t.length<=1000000):Calls Tryz.prog 57 #[.slice A t.length c,.string s] w fun e w'=>e=.returned (.int .i64 (aAs t s.data.toList))/\w=w':=by
 have HV:=Pd hV;clear hV;go_enter Tryz.func57,Tryz.ntmps57;go_wp2_with fail
 go_loopw [5] (fun i wr=>∃(k:Nat),i=.int .i64 k/\k<=t.length/\w=wr/\Hid (∀x∈t.take k,decide (x≠s.data.toList)=true)) (fun i _=>t.length-(intOf i).toNat)
 case atStart=>exact⟨0,rfl,by omega,rfl,by simp[Hid]⟩
 case round=>
  obtain⟨k,rfl,hk,rfl,HN⟩:=hrel;by_cases hlt:k<t.length
  ·obtain⟨b,o,rfl,hbl,hc0⟩:=DI HV.out hlt
   have HF:Hid (t[k]=s.data.toList->aAs t s.data.toList=(k:Int)):=aBo hlt (fun x hx=>abp (HN.out x hx));have HT:Hid (decide (t[k]≠s.data.toList)=true->∀x∈t.take (k+1),decide (x≠s.data.toList)=true):=allT hlt HN.out;generalize t[k]=z at*;obtain⟨Z,hZ⟩:∃Z:ByteArray,(⟨z.toArray⟩:ByteArray)=Z:=⟨_,rfl⟩;have Un:z=Z.data.toList:=by rw[<-hZ]
   unfold S at hc0;rw[hZ]at hc0;subst Un;have i0:(0:Int)<=(k:Int):=by omega
   have il:(k:Int)<(t.length:Int):=(by omega);clear hZ;by_cases he:Z.data.toList=s.data.toList
   ·have t1:=str_eq he
    have HX:=Pd (HF.out he);clear he HT HF;go_wp2_with fail;go_returns;exact⟨by rw[HX.out];(try rfl),rfl⟩
   ·have t1:=qB he
    have HX:=Pd (HT.out (aaA he));clear he HT HF;go_wp2_with fail;go_roundw
    case rel=>exact⟨k+1,by go_num,by omega,by trivial,HX.out⟩
    case measure=>simp[intOf];omega
  ·obtain rfl:k=t.length:=by omega
   have HX:Hid (aAs t s.data.toList=-1):=aBp (fun x hx=>abp (HN.out x hx));go_wp2_with fail;go_returns;exact⟨by rw[HX.out];(try rfl),rfl⟩
def aBx(A:Option Addr)(c:Nat)(t:List Bs)(w:World)(hV:ay w A (t.map S)):Calls Tryz.prog 29 #[.slice A t.length c] w fun e w'=>e=.returned (.bool (l7 t))/\Below w w w':=by
 have HV:=Pd hV;by_cases hl:t.length<=500
 ·have d1:(t.length:Int)<=500:=by omega
  clear hV;go_enter Tryz.func29,Tryz.ntmps29;go_wp2_with fail
  go_loopw [3] (fun i wr=>∃(k:Nat),i=.int .i64 k/\k<=t.length/\Below w w wr/\Hid ((∀x∈t.take k,gT x=true)/\∀i,(hi:i<t.length)->i<k->aAs t t[i]=(i:Int))) (fun i _=>t.length-(intOf i).toNat)
  case atStart=>exact⟨0,rfl,by omega,aac _ _,by simp,fun i _ h=>absurd h (abW _)⟩
  case round=>
   obtain⟨k,rfl,hk,hB,HN⟩:=hrel;by_cases hlt:k<t.length
   ·obtain⟨b,o,rfl,hbl,hc0⟩:=DI HV.out hlt
    have HF:Hid (gT t[k]=false->l7 t=false):=aBE hlt;have Uw:Hid (aAs t t[k]≠(k:Int)->l7 t=false):=aBC hlt;have HT:Hid (gT t[k]=true->aAs t t[k]=(k:Int)->(∀x∈t.take (k+1),gT x=true)/\∀i,(hi:i<t.length)->i<k+1->aAs t t[i]=(i:Int)):=fun h1 h2=>⟨allT hlt HN.out.1 h1,fun i hi hik=>by
     rcases aaz i k with h|h
     ·exact HN.out.2 i hi h
     ·obtain rfl:i=k:=by omega
      exact h2⟩
    have p2:=fun W (hW:ay W (some ⟨b,o,none⟩) (t.map S)) (Z:ByteArray)=>aBt (some ⟨b,o,none⟩) c t Z W hW (by omega)
    generalize t[k]=z at*;obtain⟨Z,hZ⟩:∃Z:ByteArray,(⟨z.toArray⟩:ByteArray)=Z:=⟨_,rfl⟩;have Un:z=Z.data.toList:=by rw[<-hZ]
    have k0:=(hB.cell (p:=⟨b,o+k,none⟩) hbl).trans (hc0.trans (by rw[S,hZ]));subst Un;have i0:(0:Int)<=(k:Int):=by omega
    have il:(k:Int)<(t.length:Int):=(by omega);have p1:=fun W=>aBr Z W
    clear hZ hc0
    cases hq:gT Z.data.toList with
    |false=>
     have HX:=Pd (HF.out hq);rw[hq]at p1;clear hq HT HF Uw;go_wp2_with fail;refine(p1 _).mono ?_;rintro e w2 ⟨rfl,b2⟩;go_wp2_with fail;go_returns;exact⟨by rw[HX.out];(try rfl),ae hB b2⟩
    |true=>
     rw[hq]at p1;have U1:b<wr.heap.size:=aah hbl hB.size;by_cases hp:aAs t Z.data.toList=(k:Int)
     ·have HX:=Pd (HT.out hq hp)
      have p3:∀W,ay W (some ⟨b,o,none⟩) (t.map S)->Calls _ _ _ W _:=fun W hW=>p2 W hW Z
      simp only[hp]at p3;clear hq HT HF Uw hp p2;go_wp2_with fail;refine(p1 _).mono ?_;rintro e w2 ⟨rfl,b2⟩;have k2:=(b2.cell (p:=⟨b,o+k,none⟩) U1).trans k0;go_wp2_with fail;refine(p3 _ (HV.out.below (ae hB b2))).mono ?_;rintro e w3 ⟨rfl,rfl⟩;go_wp2_with fail;go_roundw
      case rel=>exact⟨k+1,by go_num,by omega,ae hB b2,HX.out⟩
      case measure=>simp[intOf];omega
     ·have HX:=Pd (Uw.out hp)
      have p3:∀W,ay W (some ⟨b,o,none⟩) (t.map S)->Calls _ _ _ W _:=fun W hW=>p2 W hW Z
      have t1:=ry hp;have t1':=jU hp;generalize aAs t Z.data.toList=q at*;clear hq HT HF Uw hp p2;go_wp2_with fail;refine(p1 _).mono ?_;rintro e w2 ⟨rfl,b2⟩;have k2:=(b2.cell (p:=⟨b,o+k,none⟩) U1).trans k0;go_wp2_with fail;refine(p3 _ (HV.out.below (ae hB b2))).mono ?_;rintro e w3 ⟨rfl,rfl⟩;go_wp2_with fail;go_returns;exact⟨by rw[HX.out];(try rfl),ae hB b2⟩
   ·obtain rfl:k=t.length:=by omega
    have HX:Hid (l7 t=true):=aBB hl HN.out.1 (fun i hi=>HN.out.2 i hi hi);go_wp2_with fail;go_returns;exact⟨by rw[HX.out];(try rfl),hB⟩
 ·have d1:500<(t.length:Int):=by omega
  have HX:=Pd (aBD hl);clear hl;go_enter Tryz.func29,Tryz.ntmps29;go_wp2_with fail;go_returns;exact⟨by rw[HX.out];(try rfl),aac _ _⟩
open Go Go.RowKit Go.Maps
def O0.mono{n n':Nat}{l:wF}(h:O0 n l)(hn:n<=n'):O0 n' l:=⟨aaB h.1 hn,fun x hx=>aaB (h.2 x hx) hn⟩
theorem Qf{t:List Bs}:∀(xs:List aO) {n:Nat} {l:wF},O0 n l->O0 (n+xs.length) (OT t xs l)
 |[],n,l,h=>h
 |a::r,n,l,h=>by
  unfold OT;have hl:n+(a::r).length=n+1+r.length:=by simp;omega
  rw[hl]
  split
  ·exact Qf r (QV h)
  ·exact(Qf r h).mono (by omega)
theorem QX{t:List Bs}:∀(ss:List bI) {n:Nat} {l:wF},O0 n l->O0 (n+(ss.map fun s=>s.arcs.length).sum) (OL t ss l)
 |[],n,l,h=>h
 |s::r,n,l,h=>by
  unfold OL;have:=QX (t:=t) r (Qf (t:=t) s.arcs h);simp only[aa5,ac8];rw[<-acV];exact this
theorem RI:∀(ss:List bI),(∀s∈ss,s.arcs.length<=1000)->(ss.map fun s=>s.arcs.length).sum<=ss.length*1000
 |[],_=>by simp
 |s::r,h=>by
  have h1:=h s aal;have h2:=RI r fun x hx=>h x (aaj _ hx)
  simp only[aa5,ac8,aaF];omega
theorem Rh:∀(l:wF) (k:Nat),(∀x∈l,x.2.length<=100000)->k<=6000030000->OW 30000 l k<=6000030000
 |[],k,_,hk=>hk
 |x::r,k,h,hk=>by
  unfold OW
  split
  ·refine Rh r _ (fun y hy=>h y (aaj _ hy)) ?_
   have:=h x aal
   calc k*(2*x.2.length+1)<=30000*200001:=ab8 (by assumption) (by omega)
    _=6000030000:=by decide
  ·exact hk
def Sj{m:aQ}{t:List Bs}(h1:m.states.length<=100)(h2:∀s∈m.states,s.arcs.length<=1000):O1 m t<=6000030000:=by
 refine Rh _ _ (fun x hx=>?_) (by decide);have h:=(QX (t:=t) m.states (n:=0) (l:=[]) (by simp[O0])).2 x hx;have:=RI m.states h2;omega
def PG(m:aQ)(t:List Bs)(e:Int):Bool:=
 if bM m=true/\l7 t=true then decide (e=2)&&(decide (3000<O1 m t*m.states.length)||decide (30000<O1 m t*dh m.states)) else decide (e=1)
def SQ(m:aQ)(A At:Option Addr)(c ct:Nat)(t:List Bs)(z:Int)(w:World)(hV:dY w A m.states)(hT:ay w At (t.map S))(hl:m.states.length<=5)(Uu:m.lead.length<=9223372036854775807)(hsw:oH 9223372036854775807 m.states)(hb:∀s∈m.states,s.arcs.length<=20)(hn:dh m.states<=20)(ht:t.length<=30) :
  Calls Tryz.prog 30 #[di m A c,.slice At t.length ct,.int .i64 z] w fun e w'=>e=.returned (.bool (PG m t z))/\Below w w w':=by
 have pm:∀W,Below w w W->Calls Tryz.prog 28 #[di m A c] W fun e w'=>e=.returned (.bool (bM m))/\Below W W w':=fun W hB=>yL m A c W (hV.below hB) (by omega) Uu hsw
 have pt:∀W,Below w w W->Calls Tryz.prog 29 #[.slice At t.length ct] W fun e w'=>e=.returned (.bool (l7 t))/\Below W W w':=fun W hB=>aBx At ct t W (hT.below hB)
 have pa:∀W,Below w w W->Calls Tryz.prog 53 #[di m A c] W fun e w'=>e=.returned (.int .i64 (dh m.states))/\Below W W w':=fun W hB=>Rk m A c W (hV.below hB) (by omega) (fun s hs=>by have:=hb s hs;omega)
 have pf:bM m=true->∀W,Below w w W->Calls Tryz.prog 58 #[di m A c,.slice At t.length ct,.int .i64 30000] W fun e w'=>e=.returned (.int .i64 (O1 m t:Nat))/\Below W W w':=fun h W hB=>by
  refine SX m A At c ct t W (hV.below hB) (hT.below hB) (by omega) (by omega) fun s hs=>⟨by have:=hb s hs;omega,fun a ha=>?_⟩
  have h1:=mh.1 ((pg.1 ((kV.1 h).2.2.2.1 s hs)).2 a ha);have h2:=OI.1 h1.1;have h3:=OI.1 h1.2.1;unfold PK;omega
 have hfl:O1 m t<=6000030000:=Sj (by omega) (fun s hs=>by have:=hb s hs;omega);have HD:Hid (PG m t z=if bM m=true/\l7 t=true then decide (z=2)&&(decide (3000<O1 m t*m.states.length)||decide (30000<O1 m t*dh m.states)) else decide (z=1)):=rfl;generalize PG m t z=R at*;generalize l7 t=tb at*;generalize bM m=mb at*;generalize O1 m t=k at*;clear hV hT hb hsw Uu;unfold di S at*;obtain⟨kd,st,ld,ss⟩:=m;simp only at*;generalize (⟨ld.toArray⟩:ByteArray)=Ld at*;generalize dh ss=N at*;have g0:=aaq w (.cells #[.int .i64 kd,.int .i64 st,.string Ld,.slice A ss.length c] 30);have hb0:Below w w (w.alloc (.cells #[.int .i64 kd,.int .i64 st,.string Ld,.slice A ss.length c] 30)):=(aac _ _).alloc (Pe _) _;obtain⟨W1,hW1⟩:∃W1,W1=w.alloc (.cells #[.int .i64 kd,.int .i64 st,.string Ld,.slice A ss.length c] 30):=⟨_,rfl⟩;rw[<-hW1]at g0 hb0;obtain⟨q0,q1,q2,q3⟩:=OO g0;go_enter Tryz.func30,Tryz.ntmps30;go_upto_region 1 with(fail)
 rw[<-hW1];clear hW1;have pM:=pm W1 hb0;clear pm
 cases mb with
 |false=>
  have HR:Hid (R=decide (z=1)):=by rw[Hid,HD.out];simp
  clear HD pa pf pt;go_wp2_with (first|(go_at_call 28;refine pM.mono ?_;rintro e w3 ⟨rfl,hb3⟩));go_returns;rw[HR.out];exact⟨by first|rfl|simp,ae hb0 hb3⟩
 |true=>
  cases tb with
  |false=>
   have HR:Hid (R=decide (z=1)):=by rw[Hid,HD.out];simp
   clear HD pa pf;go_wp2_with (first|(go_at_call 28;refine pM.mono ?_;rintro e w3 ⟨rfl,hb3⟩;have pT:=pt w3 (ae hb0 hb3))|(go_at_call 29;refine pT.mono ?_;rintro e w4 ⟨rfl,hb4⟩));go_returns;rw[HR.out];exact⟨by first|rfl|simp,ae (ae hb0 hb3) hb4⟩
  |true=>
   have HR:Hid (R=(decide (z=2)&&(decide (3000<k*ss.length)||decide (30000<k*N)))):=by rw[Hid,HD.out];simp
   clear HD;have pF:=pf rfl;clear pf;have m1:k*ss.length<=6000030000*5:=ab8 hfl hl;have m2:k*N<=6000030000*20:=ab8 hfl hn;have e1:(k:Int)*(ss.length:Int)=((k*ss.length:Nat):Int):=by push_cast;rfl
   have e2:(k:Int)*(N:Int)=((k*N:Nat):Int):=by push_cast;rfl
   have n0:(0:Int)<=(k:Int)*(ss.length:Int):=by rw[e1];omega
   have n1:(k:Int)*(ss.length:Int)<=30000150000:=by rw[e1];omega
   have n2:(0:Int)<=(k:Int)*(N:Int):=by rw[e2];omega
   have n3:(k:Int)*(N:Int)<=120000600000:=by rw[e2];omega
   have hd1:decide ((3000:Int)<(k:Int)*(ss.length:Int))=decide (3000<k*ss.length):=by rw[afR,e1];omega
   have hd2:decide ((30000:Int)<(k:Int)*(N:Int))=decide (30000<k*N):=by rw[afR,e2];omega
   have HR2:Hid (R=(decide (z=2)&&(decide ((3000:Int)<(k:Int)*(ss.length:Int))||decide ((30000:Int)<(k:Int)*(N:Int))))):=(by rw[Hid,HR.out,hd1,hd2]);clear HR e1 e2 m1 m2 hd1 hd2;by_cases hz:z=2
   ·subst hz
    by_cases h5:(3000:Int)<(k:Int)*(ss.length:Int)
    ·have HR3:Hid (R=true):=by rw[Hid,HR2.out,aaA h5];rfl
     go_wp2_with (first|(go_at_call 28;refine pM.mono ?_;rintro e w3 ⟨rfl,hb3⟩;have pT:=pt w3 (ae hb0 hb3))|(go_at_call 29;refine pT.mono ?_;rintro e w4 ⟨rfl,hb4⟩;have hB4:=ae (ae hb0 hb3) hb4;have pG:=pF w4 hB4;have g4:=(hb4.block _ (lt_of_block ((hb3.block _ (lt_of_block g0)).trans g0))).trans ((hb3.block _ (lt_of_block g0)).trans g0);obtain⟨q40,q41,q42,q43⟩:=OO g4)|(go_at_call 58;refine pG.mono ?_;rintro e w5 ⟨rfl,hb5⟩;have TS:=ae hB4 hb5;have g5:=(hb5.block _ (lt_of_block g4)).trans g4;obtain⟨q50,q51,q52,q53⟩:=OO g5)|(go_at_call 53;refine(pa _ TS).mono ?_;rintro e w6 ⟨rfl,hb6⟩;have TV:=ae TS hb6));go_returns;rw[HR3.out];exact⟨by first|rfl|(simp;done)|(simp;intro h;exact absurd h (afD.2 h5)),by assumption⟩
    ·have HR3:Hid (R=decide ((30000:Int)<(k:Int)*(N:Int))):=by rw[Hid,HR2.out,aai h5];rfl
     go_wp2_with (first|(go_at_call 28;refine pM.mono ?_;rintro e w3 ⟨rfl,hb3⟩;have pT:=pt w3 (ae hb0 hb3))|(go_at_call 29;refine pT.mono ?_;rintro e w4 ⟨rfl,hb4⟩;have hB4:=ae (ae hb0 hb3) hb4;have pG:=pF w4 hB4;have g4:=(hb4.block _ (lt_of_block ((hb3.block _ (lt_of_block g0)).trans g0))).trans ((hb3.block _ (lt_of_block g0)).trans g0);obtain⟨q40,q41,q42,q43⟩:=OO g4)|(go_at_call 58;refine pG.mono ?_;rintro e w5 ⟨rfl,hb5⟩;have TS:=ae hB4 hb5;have g5:=(hb5.block _ (lt_of_block g4)).trans g4;obtain⟨q50,q51,q52,q53⟩:=OO g5)|(go_at_call 53;refine(pa _ TS).mono ?_;rintro e w6 ⟨rfl,hb6⟩;have TV:=ae TS hb6));go_returns;rw[HR3.out];exact⟨by first|rfl|(simp;done)|(simp;intro h;exact absurd h (afD.2 h5)),by assumption⟩
   ·have HR3:Hid (R=false):=by rw[Hid,HR2.out,aai hz];rfl
    go_wp2_with (first|(go_at_call 28;refine pM.mono ?_;rintro e w3 ⟨rfl,hb3⟩;have pT:=pt w3 (ae hb0 hb3))|(go_at_call 29;refine pT.mono ?_;rintro e w4 ⟨rfl,hb4⟩;have hB4:=ae (ae hb0 hb3) hb4;have pG:=pF w4 hB4;have g4:=(hb4.block _ (lt_of_block ((hb3.block _ (lt_of_block g0)).trans g0))).trans ((hb3.block _ (lt_of_block g0)).trans g0);obtain⟨q40,q41,q42,q43⟩:=OO g4)|(go_at_call 58;refine pG.mono ?_;rintro e w5 ⟨rfl,hb5⟩;have TS:=ae hB4 hb5;have g5:=(hb5.block _ (lt_of_block g4)).trans g4;obtain⟨q50,q51,q52,q53⟩:=OO g5)|(go_at_call 53;refine(pa _ TS).mono ?_;rintro e w6 ⟨rfl,hb6⟩;have TV:=ae TS hb6));go_returns;rw[HR3.out];exact⟨by first|rfl|(simp;done)|(simp;intro h;exact absurd h (afD.2 h5)),by assumption⟩
end Go.Proofs.YtppnecgeboonbaaGreatDoor
