/- The reference of layer 22: Of (the flag of a symbol). -/
import Derived.Test.YtppnecgeboonbaaGreatDoorZ47
import Derived.Test.YtppnecgeboonbaaGreatDoorY03
import Derived.Test.YtppnecgeboonbaaGreatDoorZ45
namespace Go.Proofs.YtppnecgeboonbaaGreatDoor
set_option maxRecDepth 100000
set_option linter.unusedVariables false
set_option maxHeartbeats 8000000
open Go Go.RowKit Go.Maps
theorem aBs (A:Option Addr) (c:Nat) (t:List Bs) (s:Int) (w:World) (hV:ay w A (t.map S)) (hl:t.length<=1000000) (h1:-9223372036854775808<=s) (h2:s<=9223372036854775807) :
  Calls Tryz.prog 52 #[.slice A t.length c,.int .i64 s] w (ma w (dD t s)):=by
 have HV:=Lib.hid hV;clear hV;have hb0:Below w.heap.size w (w.alloc (.cells #[.int .u8 0,.string ⟨#[]⟩,.string ⟨#[]⟩] 24)):=(Below.refl _ _).alloc (Nat.le_refl _) _;have c0:=aJ w #[.int .u8 0,.string ⟨#[]⟩,.string ⟨#[]⟩] 24 0 _ rfl;have c1:=aJ w #[.int .u8 0,.string ⟨#[]⟩,.string ⟨#[]⟩] 24 1 _ rfl;have c2:=aJ w #[.int .u8 0,.string ⟨#[]⟩,.string ⟨#[]⟩] 24 2 _ rfl;by_cases q1:s<1
 ·have HX:Hid (dD t s=none):=by unfold Hid dD;rw [if_neg (by omega)]
  clear h1 h2 hl;go_enter Tryz.func52,Tryz.ntmps52;go_wp2_with fail;refine bodyPost_ret (by simp [results,Tryz.results52,go_sem,c0,c1,c2];try rfl) rfl ?_;rw [HX.out];exact⟨rfl,hb0⟩
 by_cases q2:(t.length:Int)<s
 ·have HX:Hid (dD t s=none):=by unfold Hid dD;rw [if_neg (by omega)]
  have d1:(1:Int)<=s:=by omega
  clear h1 h2 hl q1;go_enter Tryz.func52,Tryz.ntmps52;go_wp2_with fail;refine bodyPost_ret (by simp [results,Tryz.results52,go_sem,c0,c1,c2];try rfl) rfl ?_;rw [HX.out];exact⟨rfl,hb0⟩
 obtain⟨k,rfl⟩:∃ k:Nat,s=((k+1:Nat):Int):=⟨(s-1).toNat,by omega⟩;have hk:k<t.length:=by omega
 have hd:dD t ((k+1:Nat):Int)=bR t[k]:=by
  unfold dD;rw [if_pos (by omega),show (((k+1:Nat):Int)-1).toNat=k by omega,List.getD_eq_getElem?_getD,List.getElem?_eq_getElem hk]
  rfl
 obtain⟨b,o,rfl,hbl,hc0⟩:=DI HV.out hk;rw [hd];generalize t[k]=z at *;obtain⟨Z,hZ⟩:∃ Z:ByteArray,(⟨z.toArray⟩:ByteArray)=Z:=⟨_,rfl⟩;have hZd:z=Z.data.toList:=by rw [<-hZ]
 have k0:(w.alloc (.cells #[.int .u8 0,.string ⟨#[]⟩,.string ⟨#[]⟩] 24)).cell? ⟨b,o+k,none⟩=some (.string Z):=(hb0.cell (p:=⟨b,o+k,none⟩) hbl).trans (hc0.trans (by rw [S,hZ]));subst hZd;have p1:=fun W=>LQ Z W
 rw [J8] at p1;obtain⟨F,V,hfc,-,-⟩:=lI ((bR Z.data.toList).getD dX);obtain⟨r,hr⟩:∃ r,bR Z.data.toList=r:=⟨_,rfl⟩;unfold ma at p1;rw [hr] at p1 hfc;rw [hfc] at p1;have HF:=Lib.hid hfc;have HR:=Lib.hid hr;obtain⟨is,his⟩:∃ is,r.isSome=is:=⟨_,rfl⟩;rw [his] at p1;have HI:=Lib.hid his;generalize (r.getD dX).op=oo at *;have f0:=kU w #[.int .u8 0,.string ⟨#[]⟩,.string ⟨#[]⟩] 24 0;have f1:=kU w #[.int .u8 0,.string ⟨#[]⟩,.string ⟨#[]⟩] 24 1;have f2:=kU w #[.int .u8 0,.string ⟨#[]⟩,.string ⟨#[]⟩] 24 2;have e0:(0:Int)<=(k:Int):=by omega
 have e1:(k:Int)<(t.length:Int):=by omega
 have e2:((k+1:Nat):Int)=(k:Int)+1:=by omega
 have e3:(k:Int)+1-1=(k:Int):=by omega
 have hlt:w.heap.size<(w.alloc (.cells #[.int .u8 0,.string ⟨#[]⟩,.string ⟨#[]⟩] 24)).heap.size:=by simp
 rw [e2];clear hZ hc0 hr his hfc q1 q2 h1 h2 hd hk e2;go_enter Tryz.func52,Tryz.ntmps52;go_wp2_with fail;generalize w.alloc (.cells #[.int .u8 0,.string ⟨#[]⟩,.string ⟨#[]⟩] 24)=w0 at *;refine (p1 _).mono ?_;rintro e w3 ⟨rfl,b3⟩;have r0:=(b3.cell (p:=⟨w.heap.size,0,none⟩) hlt).trans c0;have r1:=(b3.cell (p:=⟨w.heap.size,1,none⟩) hlt).trans c1;have r2:=(b3.cell (p:=⟨w.heap.size,2,none⟩) hlt).trans c2;have g0:=(b3.frozen (p:=⟨w.heap.size,0,none⟩) hlt).trans f0;have g1:=(b3.frozen (p:=⟨w.heap.size,1,none⟩) hlt).trans f1;have g2:=(b3.frozen (p:=⟨w.heap.size,2,none⟩) hlt).trans f2;have hB:=ae hb0 b3;clear c0 c1 c2 f0 f1 f2 b3 p1 k0;go_wp2_with fail;refine bodyPost_ret (by simp [results,Tryz.results52,go_sem,r0,r1,r2];try rfl) rfl ?_;rw [HR.out];refine⟨?_,jm hB _ (Nat.le_refl _) _ _ _⟩;rw [HF.out,HI.out]
open Go.RowKit
theorem aBl {s:Bs} (h:40<s.length):gT s=false:=by unfold gT;rw [decide_eq_false (show ¬ s.length<=40 by omega)];simp
theorem aBm {s:Bs} (h0:s≠[]) (h:s.length<=40):gT s=decide (eQ s=0):=by
 unfold gT;rw [decide_eq_true h]
 cases s with
 | nil=>exact absurd rfl h0
 | cons a r=>simp
theorem aAO {γ:Type} [DecidableEq γ]:∀ {l:List γ} {p:γ} {k:Nat} (hk:k<l.length),(∀ x∈l.take k,x≠p)->l[k]=p->jr l p=some k
 | q::r,p,0,_,_,h=>by
  unfold jr;rw [if_pos (show q=p from h)]
 | q::r,p,k+1,hk,hn,h=>by
  unfold jr;rw [if_neg (hn q (by rw [List.take_succ_cons];exact List.mem_cons_self)),aAO (k:=k) (by simpa using hk) (fun x hx=>hn x (by rw [List.take_succ_cons];exact List.mem_cons_of_mem _ hx)) (by simpa using h)]
  rfl
theorem aAP {γ:Type} [DecidableEq γ]:∀ {l:List γ} {p:γ},(∀ x∈l,x≠p)->jr l p=none
 | [],_,_=>rfl
 | q::r,p,hn=>by
  unfold jr;rw [if_neg (hn q List.mem_cons_self),aAP fun x hx=>hn x (List.mem_cons_of_mem _ hx)];rfl
theorem aAD {γ:Type} [DecidableEq γ]:∀ {l:List γ} {p:γ} {n:Nat},jr l p=some n->∃ h:n<l.length,l[n]=p/\∀ j,(hj:j<l.length)->l[j]=p->n<=j
 | q::r,p,n,h=>by
  unfold jr at h;by_cases e:q=p
  ·rw [if_pos e] at h
   cases h
   exact⟨by simp,e,fun j _ _=>Nat.zero_le _⟩
  ·rw [if_neg e] at h
   cases hf:jr r p with
   | none=>rw [hf] at h;cases h
   | some m =>
    rw [hf] at h
    cases h
    obtain⟨h1,h2,h3⟩:=aAD hf;refine⟨by simpa using h1,by simpa using h2,fun j hj hjp=>?_⟩
    cases j with
    | zero=>exact absurd (by simpa using hjp) e
    | succ j=>exact Nat.succ_le_succ (h3 j (by simpa using hj) (by simpa using hjp))
def aAs (t:List Bs) (s:Bs):Int:=match jr t s with|some n=>(n:Int)|none=>-1
theorem aBo {t:List Bs} {s:Bs} {k:Nat} (hk:k<t.length) (hn:∀ x∈t.take k,x≠s) (h:t[k]=s):aAs t s=(k:Int):=by unfold aAs;rw [aAO hk hn h]
theorem aBp {t:List Bs} {s:Bs} (hn:∀ x∈t.take t.length,x≠s):aAs t s=-1:=by rw [List.take_length] at hn;unfold aAs;rw [aAP hn]
theorem aAT {t:List Bs} {k:Nat} (hk:k<t.length):∃ n:Nat,aAs t t[k]=(n:Int)/\jr t t[k]=some n/\n<=k:=by
 cases hf:jr t t[k] with
 | none =>
  exfalso;have key:∀ {l:List Bs} {p:Bs},jr l p=none->p ∉ l:=by
   intro l
   induction l with
   | nil=>intro p _ h;cases h
   | cons q r ih =>
    intro p h hm;unfold jr at h;by_cases e:q=p
    ·rw [if_pos e] at h;cases h
    ·rw [if_neg e] at h
     cases hr:jr r p with
     | some n=>rw [hr] at h;cases h
     | none =>
      rcases List.mem_cons.1 hm with e'|hm
      ·exact e e'.symm
      ·exact ih hr hm
  exact key hf (List.getElem_mem hk)
 | some n =>
  obtain⟨h1,h2,h3⟩:=aAD hf;exact⟨n,by unfold aAs;rw [hf],rfl,h3 k hk rfl⟩
theorem aBD {t:List Bs} (h:¬ t.length<=500):l7 t=false:=by unfold l7;rw [decide_eq_false h];rfl
theorem aBE {t:List Bs} {k:Nat} (hk:k<t.length) (h:gT t[k]=false):l7 t=false:=by unfold l7;rw [p8 hk h];simp
theorem aBC {t:List Bs} {k:Nat} (hk:k<t.length) (h:aAs t t[k]≠(k:Int)):l7 t=false:=by
 obtain⟨n,h1,h2,h3⟩:=aAT hk;obtain⟨h4,h5,h6⟩:=aAD h2;have hnk:n<k:=by
  have:n≠k:=fun e=>h (by rw [h1,e])
  omega
 unfold l7;rw [decide_eq_false (show ¬ t.Nodup from fun hd=>by
  have:=List.pairwise_iff_getElem.1 hd n k h4 hk hnk;exact this h5)]
 simp
theorem aBB {t:List Bs} (h:t.length<=500) (h1:∀ s∈t.take t.length,gT s=true) (h2:∀ i,(hi:i<t.length)->aAs t t[i]=(i:Int)):l7 t=true:=by
 rw [List.take_length] at h1;unfold l7;rw [decide_eq_true h,List.all_eq_true.2 h1,decide_eq_true]
 ·rfl
 ·refine List.pairwise_iff_getElem.2 fun i j hi hj hij e=>?_
  have h3:=h2 j hj;obtain⟨n,h4,h5,_⟩:=aAT hj;obtain⟨_,_,h6⟩:=aAD h5;have:=h6 i hi e;omega
theorem aBv (s:ByteArray) (w:World):Calls Tryz.prog 85 #[.string s] w (qL w (gW s.data.toList) (kY s.data.toList) (eQ s.data.toList)):=by
 by_cases h:s.size<=16384
 ·exact L9 s w h
 ·have d1:(16384:Int)<(s.size:Int):=by omega
  have HX:Hid (gW s.data.toList=[]/\kY s.data.toList=0/\eQ s.data.toList=2):=by
   unfold Hid gW kY eQ iC;rw [if_pos (by rw [<-Lib.size_eq];omega)];exact⟨rfl,rfl,rfl⟩
  clear h;go_enter Tryz.func85,Tryz.ntmps85;go_wp2_with fail;go_returns;rw [HX.out.1,HX.out.2.1,HX.out.2.2];exact⟨none,0,rfl,Nat.le_refl _,fun hne=>absurd rfl hne,Below.refl _ _⟩
theorem aBr (s:ByteArray) (w:World):Calls Tryz.prog 56 #[.string s] w fun e w'=>e=.returned (.bool (gT s.data.toList))/\Below w.heap.size w w':=by
 have c1:=aBv s w;unfold qL at c1;by_cases h0:s.size=0
 ·have HX:Hid (gT s.data.toList=false):=by rw [Hid,fF h0];rfl
  have d1:(s.size:Int)<1:=by omega
  generalize gW s.data.toList=l at *;generalize kY s.data.toList=at' at *;generalize eQ s.data.toList=e' at *;clear h0;go_enter Tryz.func56,Tryz.ntmps56;go_wp2_with fail;refine c1.mono ?_;rintro e w1 ⟨A,c,rfl,_,_,b1⟩;go_wp2_with fail;go_returns;exact⟨by rw [HX.out];(try rfl),b1⟩
 have d1:(1:Int)<=(s.size:Int):=by omega
 by_cases h4:40<s.size
 ·have HX:Hid (gT s.data.toList=false):=aBl (by rw [<-Lib.size_eq];exact h4)
  have d4:40<(s.size:Int):=by omega
  generalize gW s.data.toList=l at *;generalize kY s.data.toList=at' at *;generalize eQ s.data.toList=e' at *;clear h0 h4;go_enter Tryz.func56,Tryz.ntmps56;go_wp2_with fail;refine c1.mono ?_;rintro e w1 ⟨A,c,rfl,_,_,b1⟩;go_wp2_with fail;go_returns;exact⟨by rw [HX.out];(try rfl),b1⟩
 have HX:=Lib.hid (aBm (gB h0) (show s.data.toList.length<=40 by rw [<-Lib.size_eq];omega));have d4:(s.size:Int)<=40:=by omega
 generalize gW s.data.toList=l at *;generalize kY s.data.toList=at' at *;generalize eQ s.data.toList=e' at *;clear h0 h4;have HY:Hid (gT s.data.toList=(((e':Nat):Int) == 0)):=by
  rw [Hid,HX.out];by_cases he:e'=0
  ·subst he;rfl
  ·rw [decide_eq_false he];symm;simpa using he
 clear HX;go_enter Tryz.func56,Tryz.ntmps56;go_wp2_with fail;refine c1.mono ?_;rintro e w1 ⟨A,c,rfl,_,_,b1⟩;go_wp2_with fail;go_returns;exact⟨by rw [HY.out];(try rfl),b1⟩
theorem aBt (A:Option Addr) (c:Nat) (t:List Bs) (s:ByteArray) (w:World) (hV:ay w A (t.map S)) (hl:t.length<=1000000):Calls Tryz.prog 57 #[.slice A t.length c,.string s] w fun e w'=>e=.returned (.int .i64 (aAs t s.data.toList))/\w=w':=by
 have HV:=Lib.hid hV;clear hV;go_enter Tryz.func57,Tryz.ntmps57;go_wp2_with fail
 go_loopw [5] (fun i wr=>∃ (k:Nat),i=.int .i64 k/\k<=t.length/\w=wr/\Hid (∀ x∈t.take k,decide (x≠s.data.toList)=true)) (fun i _=>t.length-(intOf i).toNat)
 case atStart=>exact⟨0,rfl,by omega,rfl,by simp [Hid]⟩
 case round =>
  obtain⟨k,rfl,hk,rfl,HN⟩:=hrel;by_cases hlt:k<t.length
  ·obtain⟨b,o,rfl,hbl,hc0⟩:=DI HV.out hlt
   have HF:Hid (t[k]=s.data.toList->aAs t s.data.toList=(k:Int)):=aBo hlt (fun x hx=>of_decide_eq_true (HN.out x hx));have HT:Hid (decide (t[k]≠s.data.toList)=true->∀ x∈t.take (k+1),decide (x≠s.data.toList)=true):=allT hlt HN.out;generalize t[k]=z at *;obtain⟨Z,hZ⟩:∃ Z:ByteArray,(⟨z.toArray⟩:ByteArray)=Z:=⟨_,rfl⟩;have hZd:z=Z.data.toList:=by rw [<-hZ]
   unfold S at hc0;rw [hZ] at hc0;subst hZd;have i0:(0:Int)<=(k:Int):=by omega
   have il:(k:Int)<(t.length:Int):=by omega
   clear hZ;by_cases he:Z.data.toList=s.data.toList
   ·have t1:=str_eq he
    have HX:=Lib.hid (HF.out he);clear he HT HF;go_wp2_with fail;go_returns;exact⟨by rw [HX.out];(try rfl),rfl⟩
   ·have t1:=qB he
    have HX:=Lib.hid (HT.out (decide_eq_true he));clear he HT HF;go_wp2_with fail;go_roundw
    case rel=>exact⟨k+1,by go_num,by omega,by trivial,HX.out⟩
    case measure=>simp [intOf];omega
  ·obtain rfl:k=t.length:=by omega
   have HX:Hid (aAs t s.data.toList=-1):=aBp (fun x hx=>of_decide_eq_true (HN.out x hx));go_wp2_with fail;go_returns;exact⟨by rw [HX.out];(try rfl),rfl⟩
theorem aBx (A:Option Addr) (c:Nat) (t:List Bs) (w:World) (hV:ay w A (t.map S)):Calls Tryz.prog 29 #[.slice A t.length c] w fun e w'=>e=.returned (.bool (l7 t))/\Below w.heap.size w w':=by
 have HV:=Lib.hid hV;by_cases hl:t.length<=500
 ·have d1:(t.length:Int)<=500:=by omega
  clear hV;go_enter Tryz.func29,Tryz.ntmps29;go_wp2_with fail
  go_loopw [3] (fun i wr=>∃ (k:Nat),i=.int .i64 k/\k<=t.length/\Below w.heap.size w wr/\Hid ((∀ x∈t.take k,gT x=true)/\∀ i,(hi:i<t.length)->i<k->aAs t t[i]=(i:Int))) (fun i _=>t.length-(intOf i).toNat)
  case atStart=>exact⟨0,rfl,by omega,Below.refl _ _,by simp,fun i _ h=>absurd h (Nat.not_lt_zero _)⟩
  case round =>
   obtain⟨k,rfl,hk,hB,HN⟩:=hrel;by_cases hlt:k<t.length
   ·obtain⟨b,o,rfl,hbl,hc0⟩:=DI HV.out hlt
    have HF:Hid (gT t[k]=false->l7 t=false):=aBE hlt;have HF2:Hid (aAs t t[k]≠(k:Int)->l7 t=false):=aBC hlt;have HT:Hid (gT t[k]=true->aAs t t[k]=(k:Int)->(∀ x∈t.take (k+1),gT x=true)/\∀ i,(hi:i<t.length)->i<k+1->aAs t t[i]=(i:Int)):=fun h1 h2=>⟨allT hlt HN.out.1 h1,fun i hi hik=>by
     rcases Nat.lt_or_ge i k with h|h
     ·exact HN.out.2 i hi h
     ·obtain rfl:i=k:=by omega
      exact h2⟩
    have p2:=fun W (hW:ay W (some ⟨b,o,none⟩) (t.map S)) (Z:ByteArray)=>aBt (some ⟨b,o,none⟩) c t Z W hW (by omega)
    generalize t[k]=z at *;obtain⟨Z,hZ⟩:∃ Z:ByteArray,(⟨z.toArray⟩:ByteArray)=Z:=⟨_,rfl⟩;have hZd:z=Z.data.toList:=by rw [<-hZ]
    have k0:=(hB.cell (p:=⟨b,o+k,none⟩) hbl).trans (hc0.trans (by rw [S,hZ]));subst hZd;have i0:(0:Int)<=(k:Int):=by omega
    have il:(k:Int)<(t.length:Int):=by omega
    have p1:=fun W=>aBr Z W
    clear hZ hc0
    cases hq:gT Z.data.toList with
    | false =>
     have HX:=Lib.hid (HF.out hq);rw [hq] at p1;clear hq HT HF HF2;go_wp2_with fail;refine (p1 _).mono ?_;rintro e w2 ⟨rfl,b2⟩;go_wp2_with fail;go_returns;exact⟨by rw [HX.out];(try rfl),ae hB b2⟩
    | true =>
     rw [hq] at p1;have hbl2:b<wr.heap.size:=Nat.lt_of_lt_of_le hbl hB.size;by_cases hp:aAs t Z.data.toList=(k:Int)
     ·have HX:=Lib.hid (HT.out hq hp)
      have p3:∀ W,ay W (some ⟨b,o,none⟩) (t.map S)->Calls _ _ _ W _:=fun W hW=>p2 W hW Z
      simp only [hp] at p3;clear hq HT HF HF2 hp p2;go_wp2_with fail;refine (p1 _).mono ?_;rintro e w2 ⟨rfl,b2⟩;have k2:=(b2.cell (p:=⟨b,o+k,none⟩) hbl2).trans k0;go_wp2_with fail;refine (p3 _ (HV.out.below (ae hB b2))).mono ?_;rintro e w3 ⟨rfl,rfl⟩;go_wp2_with fail;go_roundw
      case rel=>exact⟨k+1,by go_num,by omega,ae hB b2,HX.out⟩
      case measure=>simp [intOf];omega
     ·have HX:=Lib.hid (HF2.out hp)
      have p3:∀ W,ay W (some ⟨b,o,none⟩) (t.map S)->Calls _ _ _ W _:=fun W hW=>p2 W hW Z
      have t1:=ry hp;have t1':=jU hp;generalize aAs t Z.data.toList=q at *;clear hq HT HF HF2 hp p2;go_wp2_with fail;refine (p1 _).mono ?_;rintro e w2 ⟨rfl,b2⟩;have k2:=(b2.cell (p:=⟨b,o+k,none⟩) hbl2).trans k0;go_wp2_with fail;refine (p3 _ (HV.out.below (ae hB b2))).mono ?_;rintro e w3 ⟨rfl,rfl⟩;go_wp2_with fail;go_returns;exact⟨by rw [HX.out];(try rfl),ae hB b2⟩
   ·obtain rfl:k=t.length:=by omega
    have HX:Hid (l7 t=true):=aBB hl HN.out.1 (fun i hi=>HN.out.2 i hi hi);go_wp2_with fail;go_returns;exact⟨by rw [HX.out];(try rfl),hB⟩
 ·have d1:500<(t.length:Int):=by omega
  have HX:=Lib.hid (aBD hl);clear hl;go_enter Tryz.func29,Tryz.ntmps29;go_wp2_with fail;go_returns;exact⟨by rw [HX.out];(try rfl),Below.refl _ _⟩
theorem aBf {t:List Bs} {s:Int} {f:aH} (h:dD t s=some f):f.feat.length<=40/\f.val.length<=40:=by
 unfold dD at h
 split at h
 ·have hv:=((uu _ f).1 h).1
  unfold aN at hv;rw [Bool.and_eq_true,decide_eq_true_eq] at hv;have h1:=qf f;have h2:f.val.length<=(gZ f.val).length:=by unfold gZ;split <;> simp_all
  omega
 ·cases h
theorem aBw (Ax At:Option Addr) (cx ct:Nat) (x:List Int) (t:List Bs) (w:World) (hX:ay w Ax (x.map IV)) (hV:ay w At (t.map S)) (hlx:x.length<=140737488355328) (hN:∀ s∈x,-9223372036854775808<=s/\s<=9223372036854775807) :
  Calls Tryz.prog 24 #[.slice Ax x.length cx,.slice At t.length ct] w (ET w (stripL x t)):=by
 have HX:=Lib.hid hX;have HV:=Lib.hid hV;have HNN:=Lib.hid hN;have pW:=DT Ax cx x w hX;have pT:=aBx At ct t w hV;clear hX hV hN
 cases hw:iY x with
 | false =>
  have HR:Hid (stripL x t=([],false)):=by
   unfold Hid stripL;rw [if_neg];rintro⟨h1,-,h3⟩;unfold iY at hw;rw [decide_eq_true h1,h3] at hw
   cases hw
  rw [hw] at pW;clear hw pT;go_enter Tryz.func24,Tryz.ntmps24;go_wp2_with fail;refine pW.mono ?_;rintro e w2 ⟨rfl,rfl⟩;go_wp2_with fail;go_returns;rw [HR.out];exact⟨none,0,rfl,fun hne=>absurd rfl hne,Below.refl _ _⟩
 | true =>
  have hl:x.length<=200/\(x.all fun s=>decide (1<=s/\s<=500))=true:=by
   unfold iY at hw;rw [Bool.and_eq_true,decide_eq_true_eq] at hw;exact hw
  rw [hw] at pW
  cases htk:l7 t with
  | false =>
   have HR:Hid (stripL x t=([],false)):=by unfold Hid stripL;rw [htk,if_neg (by simp)]
   rw [htk] at pT;clear htk hw;go_enter Tryz.func24,Tryz.ntmps24;go_wp2_with fail;refine pW.mono ?_;rintro e w2 ⟨rfl,rfl⟩;go_wp2_with fail;refine pT.mono ?_;rintro e w3 ⟨rfl,hb3⟩;go_wp2_with fail;go_returns;rw [HR.out];exact⟨none,0,rfl,fun hne=>absurd rfl hne,hb3⟩
  | true =>
   have ht5:t.length<=500:=by unfold l7 at htk;simp at htk;exact htk.1.1
   have HR:Hid (stripL x t=(x.filter fun s=>(dD t s).isNone,jH (x.filterMap (dD t)))):=by unfold Hid stripL;rw [if_pos ⟨hl.1,htk,hl.2⟩]
   have HOKA:Hid (∀ s∈x,1<=s/\s<=500):=fun s hs=>of_decide_eq_true (List.all_eq_true.1 hl.2 s hs)
   have hl2:=hl.1;have HLN:Hid (∀ s∈x.filterMap (dD t),s.feat.length<=16384/\s.val.length<=16384):=by
    intro f hf;obtain⟨s,-,hs⟩:=List.mem_filterMap.1 hf;have:=aBf hs;omega
   rw [htk] at pT;obtain⟨ii,ci,ci0,ci1,ci2⟩:=info_parts Ir;obtain⟨jf,cf,cf0,cf1,cf2⟩:=info_parts A9;clear htk hw hl;go_enter Tryz.func24,Tryz.ntmps24;go_wp2_with fail;refine pW.mono ?_;rintro e w2 ⟨rfl,rfl⟩;go_wp2_with fail;refine pT.mono ?_;rintro e w3 ⟨rfl,hb03⟩;clear pW pT;go_wp2_with fail
   go_loopw [6,7,8] (fun yv lv i wr=>∃ (k:Nat) (y:List Int) (l:List aH),i=.int .i64 k/\nI t x w3 wr 0 k yv lv y l) (fun _ _ i _=>x.length-(intOf i).toNat)
   case atStart=>exact⟨0,[],[],rfl,⟨Nat.zero_le _,by simp,by simp,by simp,World.ownsRow_nil _ _ _ _,World.ownsRow_nil _ _ _ _,fun g hg=>by simp [Value.ownBlock] at hg,Below.refl _ _⟩⟩
   case round =>
    obtain⟨k,y,l,rfl,hS⟩:=hrel;have hlen:=hS.lens;have hlow:=hb03.trans (hS.bl.mono hb03.size);by_cases hlt:k<x.length
    ·obtain⟨bx,ox,rfl,hbx,hc0⟩:=DI HX.out hlt
     have hmem:=List.getElem_mem hlt;have htk:=List.take_succ_eq_append_getElem hlt;have hbd:=HNN.out _ hmem;have hok:∀ s'∈x.take (k+1),1<=s'/\s'<=500:=fun s' hs'=>HOKA.out s' (List.mem_of_mem_take hs')
     have HTK:=Lib.hid htk;have HOK:=Lib.hid hok;have HS:=Lib.hid hS;clear htk hmem hS hok;generalize x[k]=s at *;have k0:=(hlow.cell (p:=⟨bx,ox+k,none⟩) hbx).trans hc0;unfold IV at k0;clear hc0;have hbx':bx<wr.heap.size:=Nat.lt_of_lt_of_le hbx hlow.size;have i0:(0:Int)<=(k:Int):=by omega
     have il:(k:Int)<(x.length:Int):=by omega
     have pO:=aBs At ct t s wr (HV.out.below hlow) (by omega) hbd.1 hbd.2;unfold ma at pO;obtain⟨F,V,hfc,hFd,hVd⟩:=lI ((dD t s).getD dX);rw [hfc] at pO;obtain⟨r,hr⟩:∃ r,dD t s=r:=⟨_,rfl⟩;rw [hr] at pO hFd hVd;obtain⟨oo,hoo⟩:∃ oo,(r.getD dX).op=oo:=⟨_,rfl⟩;rw [hoo] at pO;have HRR:=Lib.hid hr;have hFD:=Lib.hid hFd;have hVD:=Lib.hid hVd;have hOO:=Lib.hid hoo;clear hfc hr hFd hVd hoo
     cases r with
     | none =>
      simp only [Option.isSome_none] at pO;go_upto_region 9 with (first|(go_at_call 52;refine pO.mono ?_;rintro e w4 ⟨rfl,hb4⟩))
      have bA:Below wr.heap.size wr (w4.alloc (.cells #[.int .u8 oo.toNat,.string F,.string V] 24)):=hb4.alloc hb4.size _;have k4:=(bA.cell (p:=⟨bx,ox+k,none⟩) hbx').trans k0;have HO1:=Lib.hid (eP HS.out.oy (aB.of_new (X:=fun _=>False) bA) (fun _ _ e=>e));have hB1:Below w3.heap.size w3 (w4.alloc (.cells #[.int .u8 oo.toNat,.string F,.string V] 24)):=HS.out.bl.trans (bA.mono HS.out.bl.size);have HL1:=Lib.hid (eP HS.out.ol (aB.of_new (X:=fun _=>False) bA) (fun _ _ e=>e));have hny:y.length+1<=maxLen:=by unfold maxLen;omega
      have hby:(y.length+1) * 8<=140737488355328:=by omega
      obtain⟨w5,hw5⟩:∃ w5,w5=w4.alloc (.cells #[.int .u8 oo.toNat,.string F,.string V] 24):=⟨_,rfl⟩;rw [<-hw5] at HL1 HO1 hB1 k4;rw [<-hw5];clear hw5 k0 bA hb4 pO;have bA4:Below w5.heap.size w5 (w5.alloc (.cells #[.int .i64 s] 3)):=(Below.refl _ _).alloc (Nat.le_refl _) _;have hO2:=eP HO1.out (aB.of_new (X:=fun _=>False) bA4) (fun _ _ e=>e);have hnews:∀ j u,(#[Value.int .i64 s]).toList[j]? = some u->(w5.alloc (.cells #[.int .i64 s] 3)).cell? ((⟨w5.heap.size,0,none⟩:Addr).add j)=some u:=World.news_of_block (heap_alloc_new w5 _);have hbase:w3.heap.size<=(w5.alloc (.cells #[.int .i64 s] 3)).heap.size:=Nat.le_trans hB1.size bA4.size;go_wp2_with (first|(at_builtin;refine wpList_append_lies _ rfl (.tmp 39) (.tmp 44) 38 rfl w3.heap.size 3 ii _ 1 8 Tryz.underlying38 ci ci0 ci1 ci2 rfl (by decide) _ y.length (y.map IV) rfl hO2 ⟨w5.heap.size,0,none⟩ 1 1 [.int .i64 s] rfl rfl hnews (by simp [Value.oneCell']) (by decide) hny hby hbase (w5.heap.size+1) (by simp) ?_;intro g5 cap5 w6 ho5 hgr5 hat5 hlt5));have hnext:=HS.out.int hlt (HTK.out) HRR.out HOK.out hB1 HL1.out HO1.out ho5 hgr5 hat5;have HNX:=Lib.hid hnext;clear hnext ho5 hgr5 hat5 hlt5 hnews hbase hO2;go_wp2_with fail;go_roundw
      case rel=>exact⟨k+1,_,_,by go_num,HNX.out⟩
      case measure=>simp [intOf];omega
     | some f =>
      simp only [Option.isSome_some] at pO;go_upto_region 9 with (first|(go_at_call 52;refine pO.mono ?_;rintro e w4 ⟨rfl,hb4⟩))
      have bA:Below wr.heap.size wr (w4.alloc (.cells #[.int .u8 oo.toNat,.string F,.string V] 24)):=hb4.alloc hb4.size _;have HO1:=Lib.hid (eP HS.out.oy (aB.of_new (X:=fun _=>False) bA) (fun _ _ e=>e));have hB1:Below w3.heap.size w3 (w4.alloc (.cells #[.int .u8 oo.toNat,.string F,.string V] 24)):=HS.out.bl.trans (bA.mono HS.out.bl.size);have HL1:=Lib.hid (eP HS.out.ol (aB.of_new (X:=fun _=>False) bA) (fun _ _ e=>e));have c0:=aJ w4 #[.int .u8 oo.toNat,.string F,.string V] 24 0 (.int .u8 oo.toNat) rfl;have c1:=aJ w4 #[.int .u8 oo.toNat,.string F,.string V] 24 1 (.string F) rfl;have c2:=aJ w4 #[.int .u8 oo.toNat,.string F,.string V] 24 2 (.string V) rfl;have hny:l.length+1<=maxLen:=by unfold maxLen;omega
      have hby:(l.length+1) * 40<=140737488355328:=by omega
      obtain⟨w5,hw5⟩:∃ w5,w5=w4.alloc (.cells #[.int .u8 oo.toNat,.string F,.string V] 24):=⟨_,rfl⟩;rw [<-hw5] at HL1 HO1 hB1 c0 c1 c2;rw [<-hw5];clear hw5 k0 bA hb4 pO;have bA4:Below w5.heap.size w5 (w5.alloc (.cells #[.int .u8 oo.toNat,.string F,.string V] 24)):=(Below.refl _ _).alloc (Nat.le_refl _) _;have hO2:=eP HL1.out (aB.of_new (X:=fun _=>False) bA4) (fun _ _ e=>e);have hnews:∀ j u,(#[Value.int .u8 oo.toNat,.string F,.string V]).toList[j]? = some u->(w5.alloc (.cells #[.int .u8 oo.toNat,.string F,.string V] 24)).cell? ((⟨w5.heap.size,0,none⟩:Addr).add j)=some u:=World.news_of_block (heap_alloc_new w5 _);have hbase:w3.heap.size<=(w5.alloc (.cells #[.int .u8 oo.toNat,.string F,.string V] 24)).heap.size:=Nat.le_trans hB1.size bA4.size;go_wp2_with (first|(at_builtin;refine wpList_append_lies _ rfl (.tmp 35) (.tmp 37) 43 rfl w3.heap.size 24 jf _ 3 40 Tryz.underlying43 cf cf0 cf1 cf2 rfl (by decide) _ l.length (iE l) rfl hO2 ⟨w5.heap.size,0,none⟩ 1 1 [.int .u8 oo.toNat,.string F,.string V] rfl rfl hnews (by simp [Value.oneCell']) (by decide) hny hby hbase (w5.heap.size+1) (by simp) ?_;intro g5 cap5 w6 ho5 hgr5 hat5 hlt5));have hnext:=HS.out.flg hlt (HTK.out) HRR.out HOK.out hB1 HL1.out HO1.out (show [Value.int .u8 oo.toNat,.string F,.string V]=[.int .u8 f.op.toNat,S f.feat,S f.val] by
       have e1:=hFD.out;have e2:=hVD.out;have e3:=hOO.out;simp only [Option.getD_some] at e1 e2 e3;rw [e1,e2,<-e3,eX,eX]) ho5 hgr5 hat5
      have HNX:=Lib.hid hnext;clear hnext ho5 hgr5 hat5 hlt5 hnews hbase hO2;go_wp2_with fail;go_roundw
      case rel=>exact⟨k+1,_,_,by go_num,HNX.out⟩
      case measure=>simp [intOf];omega
    ·obtain rfl:k=x.length:=by have:=hS.kl;omega
     have hR:=HR.out;have e1:=hS.hy;have e2:=hS.hl;rw [List.take_length] at e1 e2;have hln:=HLN.out;rw [<-e2] at hln;rw [<-e1,<-e2] at hR;have HQ:=Lib.hid hR;obtain⟨Al,cl,rfl,hfl⟩:=Ba hS.ol;obtain⟨Ay,cy,rfl,hyy⟩:=Iu hS.oy;have pL:=aAU Al cl l wr hfl (by omega) hln;have HYY:=Lib.hid hyy;clear hR e1 e2 hS hfl hyy HR hln;go_wp2_with (first|(go_at_call 22;refine pL.mono ?_;rintro e w5 ⟨rfl,hb5⟩));go_returns;rw [HQ.out];exact⟨Ay,cy,rfl,HYY.out.below hb5,ae hlow hb5⟩
theorem aBA (x:List Int) (t:List Bs):(stripL x t).1.length<=x.length:=by
 unfold stripL
 split
 ·exact List.length_filter_le _ _
 ·exact Nat.zero_le _
theorem aBz (Ax:Option Addr) (cx:Nat) (x:List Int) (At:Option Addr) (ct:Nat) (t:List Bs) (w:World) (hT:fD w) (hX:ay w Ax (x.map IV)) (hN:∀ s∈x,-9223372036854775808<=s/\s<=9223372036854775807) (hV:ay w At (t.map S)) :
  Calls Tryz.prog 7 #[.slice Ax x.length cx,.slice At t.length ct] w fun e w'=>e=.returned (.bool true)/\Below w.heap.size w w':=by
 have HX:=Lib.hid hX;have HV:=Lib.hid hV;have pK:=tq w hT;by_cases q1:300<x.length
 ·have d1:(300:Int)<(x.length:Int):=by omega
  clear q1;go_enter Tryz.func7,Tryz.ntmps7;go_wp2_with (first|(go_at_call 17;refine pK.mono ?_;rintro e w1 ⟨rfl,hb1⟩));go_returns;exact⟨rfl,hb1⟩
 have d1:(x.length:Int)<=300:=by omega
 by_cases q2:100<t.length
 ·have d2:(100:Int)<(t.length:Int):=by omega
  clear q1 q2;go_enter Tryz.func7,Tryz.ntmps7;go_wp2_with (first|(go_at_call 17;refine pK.mono ?_;rintro e w1 ⟨rfl,hb1⟩));go_returns;exact⟨rfl,hb1⟩
 have d2:(t.length:Int)<=100:=by omega
 have p1:=ND Ax At cx ct x t w hT hX hV (by omega) hN;have p2:=fun W (h:Below w.heap.size w W)=>aBw Ax At cx ct x t W (HX.out.below h) (HV.out.below h) (by omega) hN
 have hrl:=aBA x t;clear hX hV hN;generalize stripL x t=r at *;obtain⟨y,L⟩:=r;have hyl:y.length<=140737488355328:=by simp only at hrl;omega
 unfold ET at p1 p2;simp only at p1 p2;clear q1 q2 pK hrl;go_enter Tryz.func7,Tryz.ntmps7;go_wp2_with fail;refine p1.mono ?_;rintro e w1 ⟨A,c,rfl,hr1,hb1⟩;have HR1:=Lib.hid hr1;have pR:=p2 w1 hb1;clear p1 p2 hr1;go_wp2_with fail;refine pR.mono ?_;rintro e w2 ⟨B,d,rfl,hr2,hb2⟩;have pS:=L6 A B c d y y w2 (HR1.out.below hb2) hr2 hyl;rw [decide_eq_true rfl] at pS;clear pR hr2;go_wp2_with fail;refine pS.mono ?_;rintro e w3 ⟨rfl,hb3⟩;have hB:=ae (ae hb1 hb2) hb3;have pK:=tq w3 (hT.below hB);clear pS
 cases L
 all_goals go_wp2_with (first|(go_at_call 17;refine pK.mono ?_;rintro e w4 ⟨rfl,hb4⟩))
 all_goals go_returns
 all_goals exact⟨rfl,ae hB hb4⟩
end Go.Proofs.YtppnecgeboonbaaGreatDoor
