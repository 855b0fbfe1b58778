/- Plain words: where a machine's vectors and matrices are not zero: the words that it accepts. -/
import Derived.Test.YtppnecgeboonbaaGreatDoorZ29
namespace Go.Proofs.YtppnecgeboonbaaGreatDoor
set_option maxRecDepth 100000
set_option linter.unusedVariables false
open Rat3
def H5 (k:Int) (n:Nat) (v:Vec):Prop:=v.length=n/\∀ x∈v,aT k x=true
theorem Sk {l:List Bs} {i:Nat} (h:i<l.length):l.getD i []∈l:=by
 rw [List.getD_eq_getElem?_getD,List.getElem?_eq_getElem h];exact List.getElem_mem _
theorem H5.at {k:Int} {n:Nat} {v:Vec} (h:H5 k n v) {i:Nat} (hi:i<n):aT k (v.getD i [])=true:=h.2 _ (Sk (by rw [h.1];exact hi))
theorem aAb (l:List Bs) (i j:Nat) (x:Bs) (hi:i<l.length):(l.set i x).getD j []=if i=j then x else l.getD j []:=by
 rw [List.getD_eq_getElem?_getD,List.getElem?_set];by_cases h:i=j
 ·subst h;rw [if_pos rfl,if_pos hi,if_pos rfl];rfl
 ·rw [if_neg h,if_neg h];rfl
theorem H5.set {k:Int} {n:Nat} {v:Vec} (h:H5 k n v) (i:Nat) {x:Bs} (hx:aT k x=true):H5 k n (v.set i x):=by
 refine⟨by rw [List.length_set];exact h.1,fun y hy=>?_⟩;rcases List.mem_or_eq_of_mem_set hy with h'|h'
 ·exact h.2 y h'
 ·rw [h'];exact hx
theorem PP {m:aQ} (hk:kindOk m.kind=true):H5 m.kind m.states.length (eT m):=by
 refine⟨by unfold eT;simp,fun x hx=>?_⟩;unfold eT at hx;rw [(List.mem_replicate.1 hx).2];exact PH hk
theorem P5 (m:aQ) {i:Nat} (hi:i<m.states.length):(eT m).getD i []=aF m.kind:=by
 unfold eT;rw [List.getD_eq_getElem?_getD,List.getElem?_replicate,if_pos hi];rfl
theorem Pv {k:Int} {a:Bs} (h:bg k a=true):aT k a=true/\a≠aF k:=by
 unfold bg at h;simp only [Bool.and_eq_true,decide_eq_true_eq] at h;refine⟨h.1,fun e=>?_⟩;obtain⟨hk,_⟩:=Oe h.1;rcases PE hk with rfl|rfl|rfl
 ·exact h.2.1 e
 ·rcases h.2.2.2 with e'|e'
  ·omega
  ·exact e' e
 ·rcases h.2.2.2 with e'|e'
  ·omega
  ·exact e' e
theorem P8 {k:Int} {n i:Nat} {l l':Vec} {a b:Bs} (hl:H5 k n l) (hi:i<n) (ha:aT k a=true) (hb:aT k b=true) (h:fK k l i a b=.ok l') :
  H5 k n l'/\∀ q,q<n->(l'.getD q []≠aF k ↔ l.getD q []≠aF k\/(q=i/\a≠aF k/\b≠aF k)):=by
 unfold fK at h
 split at h
 ·cases h
 ·rename_i h1
  split at h
  ·cases h
  ·rename_i h2
   simp only [Classical.not_not] at h1 h2;obtain⟨t1,t2⟩:=RL ha hb h1;obtain⟨p1,p2⟩:=Qu (hl.at hi) t1 h2;simp only [Except.ok.injEq] at h;subst h;refine⟨hl.set i p1,fun q hq=>?_⟩;rw [aAb _ _ _ _ (by rw [hl.1];exact hi)];by_cases e:i=q
   ·subst e
    rw [if_pos rfl,p2,t2];constructor
    ·rintro (h|h)
     ·exact Or.inl h
     ·exact Or.inr ⟨rfl,h⟩
    ·rintro (h|h)
     ·exact Or.inl h
     ·exact Or.inr h.2
   ·rw [if_neg e]
    constructor
    ·exact fun h=>Or.inl h
    ·rintro (h|h)
     ·exact h
     ·exact absurd h.1.symm e
theorem O6 {α β:Type} {x:Except Nat α} {f:α->Except Nat β} {b:β} (h:bi x f=.ok b):∃ a,x=.ok a/\f a=.ok b:=by
 cases x with
 | ok a=>exact⟨a,rfl,h⟩
 | error e=>cases h
def fits (inn out:Int) (loose:Bool) (a:aO):Prop:=a.inn=inn/\(a.out=out\/loose=true)
theorem PU {inn out:Int} {loose:Bool} {a:aO}:(a.inn≠inn\/(a.out≠out/\loose=false)) ↔ ¬ fits inn out loose a:=by
 unfold fits
 cases loose <;> simp
 ·constructor
  ·intro h e;rcases h with h|h
   ·exact absurd e h
   ·exact h
  ·intro h
   by_cases e:a.inn=inn
   ·exact Or.inr (h e)
   ·exact Or.inl e
theorem QD {k inn out:Int} {loose:Bool} {n:Nat} {x:Bs} (hx:aT k x=true):∀ (arcs:List aO) (l l':Vec),H5 k n l->(∀ a∈arcs,dZ k n a=true)->lZ k inn out loose x arcs l=.ok l' ->
  H5 k n l'/\∀ q,q<n->(l'.getD q []≠aF k ↔ l.getD q []≠aF k\/(x≠aF k/\∃ a∈arcs,fits inn out loose a/\a.to=q))
 | [],l,l',hl,_,h=>by
  simp only [lZ,Except.ok.injEq] at h;subst h;refine⟨hl,fun q hq=>⟨fun h=>Or.inl h,fun h=>h.elim id (fun h=>?_)⟩⟩;obtain⟨_,a,ha,_⟩:=h
  cases ha
 | a::r,l,l',hl,ha,h=>by
  have ha0:=ha a List.mem_cons_self;have har:=fun b hb=>ha b (List.mem_cons_of_mem a hb)
  unfold lZ at h;by_cases hc:a.inn≠inn\/(a.out≠out/\loose=false)
  ·rw [if_pos hc] at h
   obtain⟨h1,h2⟩:=QD hx r l l' hl har h;refine⟨h1,fun q hq=>?_⟩;rw [h2 q hq];constructor
   ·rintro (e|⟨e,b,hb,h3⟩)
    ·exact Or.inl e
    ·exact Or.inr ⟨e,b,List.mem_cons_of_mem _ hb,h3⟩
   ·rintro (e|⟨e,b,hb,h3⟩)
    ·exact Or.inl e
    ·rcases List.mem_cons.1 hb with rfl|hb
     ·exact absurd h3.1 (PU.1 hc)
     ·exact Or.inr ⟨e,b,hb,h3⟩
  ·rw [if_neg hc] at h
   obtain⟨l1,e1,e2⟩:=O6 h;unfold dZ at ha0;simp only [Bool.and_eq_true,decide_eq_true_eq] at ha0;obtain⟨w1,w2⟩:=Pv ha0.2;obtain⟨g1,g2⟩:=P8 hl (show a.to.toNat<n by omega) hx w1 e1;obtain⟨h1,h2⟩:=QD hx r l1 l' g1 har e2;have hf:fits inn out loose a:=Classical.not_not.1 (fun e=>hc (PU.2 e));refine⟨h1,fun q hq=>?_⟩;rw [h2 q hq,g2 q hq];constructor
   ·rintro ((e|⟨e,e',_⟩)|⟨e,b,hb,h3⟩)
    ·exact Or.inl e
    ·exact Or.inr ⟨e',a,List.mem_cons_self,hf,by omega⟩
    ·exact Or.inr ⟨e,b,List.mem_cons_of_mem _ hb,h3⟩
   ·rintro (e|⟨e,b,hb,h3⟩)
    ·exact Or.inl (Or.inl e)
    ·rcases List.mem_cons.1 hb with rfl|hb
     ·exact Or.inl (Or.inr ⟨by omega,e,w2⟩)
     ·exact Or.inr ⟨e,b,hb,h3⟩
theorem Pg (v:Vec):v.headD []=v.getD 0 []:=by cases v <;> rfl
theorem Pb (v:Vec) (i:Nat):v.tail.getD i []=v.getD (i+1) []:=by cases v <;> simp
theorem QE {k inn out:Int} {loose:Bool} {n:Nat}:∀ (ss:List bI) (v l l':Vec),H5 k n l->(∀ i,i<ss.length->aT k (v.getD i [])=true)->(∀ s∈ss,∀ a∈s.arcs,dZ k n a=true)->nu k inn out loose ss v l=.ok l' ->
  H5 k n l'/\∀ q,q<n->(l'.getD q []≠aF k ↔ l.getD q []≠aF k\/∃ i,∃ (hi:i<ss.length),v.getD i []≠aF k/\∃ a∈ss[i].arcs,fits inn out loose a/\a.to=q)
 | [],v,l,l',hl,_,_,h=>by
  simp only [nu,Except.ok.injEq] at h;subst h;refine⟨hl,fun q hq=>⟨fun h=>Or.inl h,fun h=>h.elim id (fun h=>?_)⟩⟩;obtain⟨i,hi,_⟩:=h;exact absurd hi (by simp)
 | s::r,v,l,l',hl,hv,ha,h=>by
  have hr:∀ i,i<r.length->aT k (v.tail.getD i [])=true:=fun i hi=>by rw [Pb];exact hv (i+1) (by simpa using hi)
  have hv0:aT k (v.headD [])=true:=by rw [Pg];exact hv 0 (by simp)
  have har:=fun t ht=>ha t (List.mem_cons_of_mem s ht)
  unfold nu at h;by_cases hc:v.headD []=aF k
  ·rw [if_pos hc] at h
   obtain⟨h1,h2⟩:=QE r v.tail l l' hl hr har h;refine⟨h1,fun q hq=>?_⟩;rw [h2 q hq];constructor
   ·rintro (e|⟨i,hi,e,h3⟩)
    ·exact Or.inl e
    ·exact Or.inr ⟨i+1,by simpa using hi,by rwa [Pb] at e,h3⟩
   ·rintro (e|⟨i,hi,e,h3⟩)
    ·exact Or.inl e
    ·cases i with
     | zero=>rw [<-Pg] at e;exact absurd hc e
     | succ i=>exact Or.inr ⟨i,by simpa using hi,by rwa [Pb],h3⟩
  ·rw [if_neg hc] at h
   obtain⟨l1,e1,e2⟩:=O6 h;obtain⟨g1,g2⟩:=QD hv0 s.arcs l l1 hl (ha s List.mem_cons_self) e1;obtain⟨h1,h2⟩:=QE r v.tail l1 l' g1 hr har e2;refine⟨h1,fun q hq=>?_⟩;rw [h2 q hq,g2 q hq];constructor
   ·rintro ((e|⟨e,h3⟩)|⟨i,hi,e,h3⟩)
    ·exact Or.inl e
    ·exact Or.inr ⟨0,by simp,by rwa [<-Pg],h3⟩
    ·exact Or.inr ⟨i+1,by simpa using hi,by rwa [Pb] at e,h3⟩
   ·rintro (e|⟨i,hi,e,h3⟩)
    ·exact Or.inl (Or.inl e)
    ·cases i with
     | zero=>exact Or.inl (Or.inr ⟨by rwa [Pg],h3⟩)
     | succ i=>exact Or.inr ⟨i,by simpa using hi,by rwa [Pb],h3⟩
def OX (m:aQ) (q:Nat):List aO:=(m.states.getD q ⟨[],[]⟩).arcs
def Pz (m:aQ) (q:Nat):Bs:=(m.states.getD q ⟨[],[]⟩).fin
theorem Pp {m:aQ} {q:Nat} (h:q<m.states.length):OX m q=m.states[q].arcs/\Pz m q=m.states[q].fin:=by
 unfold OX Pz;rw [List.getD_eq_getElem?_getD,List.getElem?_eq_getElem h];exact⟨rfl,rfl⟩
theorem Pt {m:aQ} (hm:bM m=true):kindOk m.kind=true/\∀ s∈m.states,∀ a∈s.arcs,dZ m.kind m.states.length a=true:=by
 unfold bM at hm;simp only [Bool.and_eq_true,List.all_eq_true] at hm;refine⟨hm.1.1.1.1,fun s hs a ha=>?_⟩;have:=hm.1.2 s hs;unfold gY at this;simp only [Bool.and_eq_true,List.all_eq_true] at this;exact this.2 a ha
theorem Tv {m:aQ} (hm:bM m=true) {inn out:Int} {loose:Bool} {v v':Vec} (hv:H5 m.kind m.states.length v) (h:rU m v inn out loose=.ok v') :
  H5 m.kind m.states.length v'/\∀ q,q<m.states.length->(v'.getD q []≠aF m.kind ↔ ∃ i,i<m.states.length/\v.getD i []≠aF m.kind/\∃ a∈OX m i,fits inn out loose a/\a.to=q):=by
 obtain⟨hk,ha⟩:=Pt hm;obtain⟨h1,h2⟩:=QE m.states v (eT m) v' (PP hk) (fun i hi=>hv.at hi) ha h;refine⟨h1,fun q hq=>?_⟩;rw [h2 q hq,P5 m hq];constructor
 ·rintro (e|⟨i,hi,e,h3⟩)
  ·exact absurd rfl e
  ·exact⟨i,hi,e,by rw [(Pp hi).1];exact h3⟩
 ·rintro⟨i,hi,e,h3⟩
  exact Or.inr ⟨i,hi,e,by rw [<-(Pp hi).1];exact h3⟩
theorem Qk {k:Int}:∀ (ss:List bI) (v:Vec) (x y:Bs),aT k x=true->(∀ i,i<ss.length->aT k (v.getD i [])=true)->(∀ s∈ss,s.fin=[]\/bg k s.fin=true)->lH k ss v x=.ok y ->
  (y≠aF k ↔ x≠aF k\/∃ i,∃ (hi:i<ss.length),v.getD i []≠aF k/\ss[i].fin≠[])
 | [],v,x,y,_,_,_,h=>by
  simp only [lH,Except.ok.injEq] at h;subst h;refine⟨fun h=>Or.inl h,fun h=>h.elim id (fun h=>?_)⟩;obtain⟨i,hi,_⟩:=h;exact absurd hi (by simp)
 | s::r,v,x,y,hx,hv,hf,h=>by
  have hr:∀ i,i<r.length->aT k (v.tail.getD i [])=true:=fun i hi=>by rw [Pb];exact hv (i+1) (by simpa using hi)
  have hv0:aT k (v.headD [])=true:=by rw [Pg];exact hv 0 (by simp)
  have hfr:=fun t ht=>hf t (List.mem_cons_of_mem s ht)
  unfold lH at h;by_cases hc:s.fin=[]
  ·rw [if_pos hc] at h
   rw [Qk r v.tail x y hx hr hfr h];constructor
   ·rintro (e|⟨i,hi,e,h3⟩)
    ·exact Or.inl e
    ·exact Or.inr ⟨i+1,by simpa using hi,by rwa [Pb] at e,h3⟩
   ·rintro (e|⟨i,hi,e,h3⟩)
    ·exact Or.inl e
    ·cases i with
     | zero=>exact absurd hc h3
     | succ i=>exact Or.inr ⟨i,by simpa using hi,by rwa [Pb],h3⟩
  ·rw [if_neg hc] at h
   obtain⟨l1,e1,e2⟩:=O6 h;have hw:=(hf s List.mem_cons_self).resolve_left hc;obtain⟨w1,w2⟩:=Pv hw;obtain⟨g1,g2⟩:=P8 (n:=1) ⟨rfl,fun z hz=>by rw [List.mem_singleton.1 hz];exact hx⟩ (by omega) hv0 w1 e1;have g3:=g2 0 (by omega);have hl:aT k (l1.headD [])=true:=by rw [Pg];exact g1.at (by omega)
   rw [Qk r v.tail (l1.headD []) y hl hr hfr e2,Pg l1,g3];constructor
   ·rintro ((e|⟨_,e,_⟩)|⟨i,hi,e,h3⟩)
    ·exact Or.inl e
    ·exact Or.inr ⟨0,by simp,by rwa [<-Pg],hc⟩
    ·exact Or.inr ⟨i+1,by simpa using hi,by rwa [Pb] at e,h3⟩
   ·rintro (e|⟨i,hi,e,h3⟩)
    ·exact Or.inl (Or.inl e)
    ·cases i with
     | zero=>exact Or.inl (Or.inr ⟨rfl,by rwa [Pg],w2⟩)
     | succ i=>exact Or.inr ⟨i,by simpa using hi,by rwa [Pb],h3⟩
def OU (k:Int) (n:Nat) (a:ak):Prop:=a.length=n/\∀ r∈a,H5 k n r
theorem OU.row {k:Int} {n:Nat} {a:ak} (h:OU k n a) {i:Nat} (hi:i<n):H5 k n (a.getD i []):=by
 refine h.2 _ ?_;rw [List.getD_eq_getElem?_getD,List.getElem?_eq_getElem (by rw [h.1];exact hi)];exact List.getElem_mem _
theorem OU.at {k:Int} {n:Nat} {a:ak} (h:OU k n a) {i j:Nat} (hi:i<n) (hj:j<n):aT k (aX a i j)=true:=(h.row hi).at hj
theorem Qo {k:Int} {b:Bool} {x y:Bs} (hx:aT k x=true) (hy:aT k y=true) (h:(jG k b x y).1=false) :
  b=false/\aT k (jG k b x y).2=true/\((jG k b x y).2≠aF k ↔ x≠aF k\/y≠aF k):=by
 unfold jG at h ⊢
 split at h
 ·cases h
 ·rename_i hc
  simp only [Bool.or_eq_true,decide_eq_true_eq,not_or,Bool.not_eq_true,Classical.not_not] at hc;rw [if_neg (by simp [hc.1,hc.2])];exact⟨hc.1,Qu hx hy hc.2⟩
theorem Qp {k:Int} {b:Bool} {x y:Bs} (hx:aT k x=true) (hy:aT k y=true) (h:(q9 k b x y).1=false) :
  b=false/\aT k (q9 k b x y).2=true/\((q9 k b x y).2≠aF k ↔ x≠aF k/\y≠aF k):=by
 unfold q9 at h ⊢
 split at h
 ·cases h
 ·rename_i hc
  simp only [Bool.or_eq_true,decide_eq_true_eq,not_or,Bool.not_eq_true,Classical.not_not] at hc;rw [if_neg (by simp [hc.1,hc.2])];exact⟨hc.1,RL hx hy hc.2⟩
theorem Q9 {k:Int} {b:Bool} {x:Bs} (hx:aT k x=true) (h:(oQ k b x).1=false):b=false/\aT k (oQ k b x).2=true/\(oQ k b x).2≠aF k:=by
 unfold oQ at h ⊢
 split at h
 ·cases h
 ·rename_i hc
  simp only [Bool.or_eq_true,decide_eq_true_eq,not_or,Bool.not_eq_true,Classical.not_not] at hc;rw [if_neg (by simp [hc.1,hc.2])];exact⟨hc.1,Tt hx hc.2⟩
theorem Q8 {k:Int} (hk:kindOk k=true) {b:Bool} {x y:Bs} (hx:aT k x=true) (hy:aT k y=true):aT k (jG k b x y).2=true:=by
 cases h:(jG k b x y).1 with
 | false=>exact (Qo hx hy h).2.1
 | true =>
  unfold jG at h ⊢
  split at h
  ·rename_i hc;rw [if_pos hc];exact PH hk
  ·cases h
theorem Rb {k:Int} (hk:kindOk k=true) {b:Bool} {x y:Bs} (hx:aT k x=true) (hy:aT k y=true):aT k (q9 k b x y).2=true:=by
 cases h:(q9 k b x y).1 with
 | false=>exact (Qp hx hy h).2.1
 | true =>
  unfold q9 at h ⊢
  split at h
  ·rename_i hc;rw [if_pos hc];exact PH hk
  ·cases h
theorem Sm {k:Int} (hk:kindOk k=true) {b:Bool} {x:Bs} (hx:aT k x=true):aT k (oQ k b x).2=true:=by
 cases h:(oQ k b x).1 with
 | false=>exact (Q9 hx h).2.1
 | true =>
  unfold oQ at h ⊢
  split at h
  ·rename_i hc;rw [if_pos hc];exact PH hk
  ·cases h
theorem R8 {k:Int} {n:Nat} {a:ak} (hk:kindOk k=true) (ha:OU k n a) {loop:Bs} (hl:aT k loop=true) {p i j:Nat} (hp:p<n) (hi:i<n) (hj:j<n) (b:Bool) :
  aT k (ug k a loop p i j b).2=true/\((ug k a loop p i j b).1=false->b=false/\(loop≠aF k->((ug k a loop p i j b).2≠aF k ↔ aX a i j≠aF k\/(aX a i p≠aF k/\aX a p j≠aF k)))):=by
 unfold ug;have v1:=ha.at hi hj;have v2:=ha.at hi hp;have v3:=ha.at hp hj;by_cases hc:aX a i p≠aF k/\aX a p j≠aF k
 ·rw [if_pos hc]
  have u1:=Rb hk (b:=b) v2 hl;have u2:=Rb hk (b:=(q9 k b (aX a i p) loop).1) u1 v3;refine⟨Q8 hk v1 u2,fun h=>?_⟩;obtain⟨e1,_,e2⟩:=Qo v1 u2 h;obtain⟨e3,_,e4⟩:=Qp u1 v3 e1;obtain⟨e5,_,e6⟩:=Qp v2 hl e3;refine⟨e5,fun hz=>?_⟩;rw [e2,e4,e6];constructor
  ·rintro (h|h)
   ·exact Or.inl h
   ·exact Or.inr hc
  ·rintro (h|h)
   ·exact Or.inl h
   ·exact Or.inr ⟨⟨h.1,hz⟩,h.2⟩
 ·rw [if_neg hc]
  refine⟨v1,fun h=>⟨h,fun _=>⟨fun h=>Or.inl h,fun h=>h.elim id (fun h=>absurd h hc)⟩⟩⟩
theorem Rt {k:Int} {n:Nat} {a:ak} (hk:kindOk k=true) (ha:OU k n a) {loop:Bs} (hl:aT k loop=true) {p i:Nat} (hp:p<n) (hi:i<n):∀ (c j:Nat) (b:Bool),j+c<=n ->
  H5 k c (qx k a loop p i c j b).2/\((qx k a loop p i c j b).1=false->b=false/\(loop≠aF k->∀ d,d<c->((qx k a loop p i c j b).2.getD d []≠aF k ↔ aX a i (j+d)≠aF k\/(aX a i p≠aF k/\aX a p (j+d)≠aF k))))
 | 0,j,b,_=>⟨⟨rfl,fun x hx=>by cases hx⟩,fun h=>⟨h,fun _ d hd=>absurd hd (by omega)⟩⟩
 | c+1,j,b,hj=>by
  obtain⟨e1,e2⟩:=R8 hk ha hl hp hi (show j<n by omega) b;obtain⟨r1,r2⟩:=Rt hk ha hl hp hi c (j+1) (ug k a loop p i j b).1 (by omega);unfold qx;refine⟨⟨by simp [r1.1],fun x hx=>?_⟩,fun h=>?_⟩
  ·rcases List.mem_cons.1 hx with rfl|hx
   ·exact e1
   ·exact r1.2 x hx
  ·obtain⟨q1,q2⟩:=r2 h
   obtain⟨q3,q4⟩:=e2 q1;refine⟨q3,fun hz d hd=>?_⟩
   cases d with
   | zero=>simpa using q4 hz
   | succ d =>
    have:=q2 hz d (by omega);rw [show j+(d+1)=j+1+d by omega]
    simpa using this
theorem Ru {k:Int} {n:Nat} {a:ak} (hk:kindOk k=true) (ha:OU k n a) {loop:Bs} (hl:aT k loop=true) {p:Nat} (hp:p<n):∀ (c i:Nat) (b:Bool),i+c<=n ->
  ((rQ k a loop p n c i b).2.length=c/\∀ r∈(rQ k a loop p n c i b).2,H5 k n r)/\((rQ k a loop p n c i b).1=false->b=false/\(loop≠aF k->∀ d j,d<c->j<n->(aX (rQ k a loop p n c i b).2 d j≠aF k ↔ aX a (i+d) j≠aF k\/(aX a (i+d) p≠aF k/\aX a p j≠aF k))))
 | 0,i,b,_=>⟨⟨rfl,fun x hx=>by cases hx⟩,fun h=>⟨h,fun _ d j hd _=>absurd hd (by omega)⟩⟩
 | c+1,i,b,hi=>by
  obtain⟨e1,e2⟩:=Rt hk ha hl hp (show i<n by omega) n 0 b (by omega);obtain⟨r1,r2⟩:=Ru hk ha hl hp c (i+1) (qx k a loop p i n 0 b).1 (by omega);unfold rQ;refine⟨⟨by simp [r1.1],fun x hx=>?_⟩,fun h=>?_⟩
  ·rcases List.mem_cons.1 hx with rfl|hx
   ·exact e1
   ·exact r1.2 x hx
  ·obtain⟨q1,q2⟩:=r2 h
   obtain⟨q3,q4⟩:=e2 q1;refine⟨q3,fun hz d j hd hj=>?_⟩
   cases d with
   | zero =>
    have:=q4 hz j hj;rw [Nat.zero_add] at this;unfold aX at this ⊢
    simpa using this
   | succ d =>
    have:=q2 hz d j (by omega) hj;rw [show i+(d+1)=i+1+d by omega];unfold aX at this ⊢
    simpa using this
theorem S9 {k:Int} {n:Nat} {a:ak} (hk:kindOk k=true) (ha:OU k n a) {p:Nat} (hp:p<n) (b:Bool) :
  OU k n (yM k p n b a).2/\((yM k p n b a).1=false->b=false/\∀ i j,i<n->j<n->(aX (yM k p n b a).2 i j≠aF k ↔ aX a i j≠aF k\/(aX a i p≠aF k/\aX a p j≠aF k))):=by
 have hs:=Sm hk (b:=b) (ha.at hp hp);obtain⟨r1,r2⟩:=Ru hk ha hs hp n 0 (oQ k b (aX a p p)).1 (by omega);unfold yM;refine⟨r1,fun h=>?_⟩;obtain⟨q1,q2⟩:=r2 h;obtain⟨s1,_,s2⟩:=Q9 (ha.at hp hp) q1;refine⟨s1,fun i j hi hj=>?_⟩;have:=q2 s2 i j hi hj;rwa [Nat.zero_add] at this
structure QI (k:Int) (n p:Nat) (R:Nat->Nat->Prop) (a:ak):Prop where
 base:∀ i j,i<n->j<n->R i j->aX a i j≠aF k
 sound:∀ (T:Nat->Nat->Prop),(∀ i j,R i j->T i j)->(∀ i j l,T i j->T j l->T i l)->∀ i j,i<n->j<n->aX a i j≠aF k->T i j
 trans:∀ i q j,i<n->q<p->j<n->aX a i q≠aF k->aX a q j≠aF k->aX a i j≠aF k
theorem Rs {k:Int} {n:Nat} {R:Nat->Nat->Prop} (hk:kindOk k=true):∀ (c p:Nat) (b:Bool) (a:ak),p+c=n->OU k n a->OU k n (uH k n c p b a).2/\((uH k n c p b a).1=false->b=false/\(QI k n p R a->QI k n n R (uH k n c p b a).2))
 | 0,p,b,a,hp,ha=>by
  obtain rfl:p=n:=by omega
  exact⟨ha,fun h=>⟨h,fun hc=>hc⟩⟩
 | c+1,p,b,a,hp,ha=>by
  obtain⟨r1,r2⟩:=S9 hk ha (show p<n by omega) b;obtain⟨s1,s2⟩:=Rs (R:=R) hk c (p+1) (yM k p n b a).1 (yM k p n b a).2 (by omega) r1;unfold uH;refine⟨s1,fun h=>?_⟩;obtain⟨q1,q2⟩:=s2 h;obtain⟨q3,q4⟩:=r2 q1;refine⟨q3,fun hc=>q2 ⟨fun i j hi hj hR=>(q4 i j hi hj).2 (Or.inl (hc.base i j hi hj hR)),fun T h1 h2 i j hi hj h3=>?_,fun i q j hi hq hj h3 h4=>?_⟩⟩
  ·rcases (q4 i j hi hj).1 h3 with h|⟨h,h'⟩
   ·exact hc.sound T h1 h2 i j hi hj h
   ·exact h2 i p j (hc.sound T h1 h2 i p hi (by omega) h) (hc.sound T h1 h2 p j (by omega) hj h')
  ·have hpn:p<n:=by omega
   rw [q4 i j hi hj];rw [q4 i q hi (by omega)] at h3;rw [q4 q j (by omega) hj] at h4;by_cases e:q=p
   ·subst e
    have h3':aX a i q≠aF k:=h3.elim id (fun h=>h.1);have h4':aX a q j≠aF k:=h4.elim id (fun h=>h.2);exact Or.inr ⟨h3',h4'⟩
   ·have hq':q<p:=by omega
    rcases h3 with h3|⟨h3,h3'⟩
    ·rcases h4 with h4|⟨h4,h4'⟩
     ·exact Or.inl (hc.trans i q j hi hq' hj h3 h4)
     ·exact Or.inr ⟨hc.trans i q p hi hq' hpn h3 h4,h4'⟩
    ·rcases h4 with h4|⟨h4,h4'⟩
     ·exact Or.inr ⟨h3,hc.trans p q j hpn hq' hj h3' h4⟩
     ·exact Or.inr ⟨h3,h4'⟩
theorem R5 {a:ak} {i j r c n:Nat} {x:Bs} (ha:a.length=n) (hr:∀ l∈a,l.length=n) (hi:i<n) (hj:j<n):aX (setAt a i j x) r c=if r=i/\c=j then x else aX a r c:=by
 unfold aX setAt;have hrow:(a.getD i []).length=n:=hr _ (by rw [List.getD_eq_getElem?_getD,List.getElem?_eq_getElem (by omega)];exact List.getElem_mem _);rw [List.getD_eq_getElem?_getD (l:=a.set i _),List.getElem?_set];by_cases h:i=r
 ·subst h
  rw [if_pos rfl,if_pos (by omega)];show ((a.getD i []).set j x).getD c []=_;rw [aAb _ _ _ _ (by omega)];by_cases h2:j=c
  ·rw [if_pos h2,if_pos ⟨rfl,h2.symm⟩]
  ·rw [if_neg h2,if_neg (fun e=>h2 e.2.symm)]
 ·rw [if_neg h,if_neg (fun e=>h e.1.symm),<-List.getD_eq_getElem?_getD]
theorem SB {k:Int} (hk:kindOk k=true):aT k (fQ k)=true/\fQ k≠aF k:=by
 rcases PE hk with rfl|rfl|rfl <;> decide +kernel
theorem OU.setAt {k:Int} {n:Nat} {a:ak} (h:OU k n a) {i j:Nat} {x:Bs} (hi:i<n) (hx:aT k x=true):OU k n (setAt a i j x):=by
 refine⟨by unfold Go.Proofs.YtppnecgeboonbaaGreatDoor.setAt;rw [List.length_set];exact h.1,fun r hr=>?_⟩;unfold Go.Proofs.YtppnecgeboonbaaGreatDoor.setAt at hr;rcases List.mem_or_eq_of_mem_set hr with h'|h'
 ·exact h.2 r h'
 ·rw [h'];exact (h.row hi).set j hx
theorem QR {k:Int} {n:Nat} (hk:kindOk k=true):∀ (c i:Nat) (b:Bool) (a:ak),i+c=n->OU k n a ->
  OU k n (jq k c i b a).2/\((jq k c i b a).1=false->b=false/\∀ r s,r<n->s<n->(aX (jq k c i b a).2 r s≠aF k ↔ aX a r s≠aF k\/(r=s/\i<=r)))
 | 0,i,b,a,hi,ha=>⟨ha,fun h=>⟨h,fun r s hr hs=>⟨fun h=>Or.inl h,fun h=>h.elim id (fun h=>by omega)⟩⟩⟩
 | c+1,i,b,a,hi,ha=>by
  have hin:i<n:=by omega
  obtain⟨o1,o2⟩:=SB hk;have hx:=Q8 hk (b:=b) o1 (ha.at hin hin);obtain⟨s1,s2⟩:=QR hk c (i+1) (jG k b (fQ k) (aX a i i)).1 (setAt a i i (jG k b (fQ k) (aX a i i)).2) (by omega) (ha.setAt hin hx);unfold jq;refine⟨s1,fun h=>?_⟩;obtain⟨q1,q2⟩:=s2 h;obtain⟨q3,_,q4⟩:=Qo o1 (ha.at hin hin) q1;refine⟨q3,fun r s hr hs=>?_⟩;rw [q2 r s hr hs,R5 ha.1 (fun l hl=>(ha.2 l hl).1) hin hin];by_cases e:r=i/\s=i
  ·rw [if_pos e,q4]
   exact⟨fun _=>Or.inr (by omega),fun _=>Or.inl (Or.inl o2)⟩
  ·rw [if_neg e]
   constructor
   ·rintro (h|h)
    ·exact Or.inl h
    ·exact Or.inr (by omega)
   ·rintro (h|h)
    ·exact Or.inl h
    ·exact Or.inr (by omega)
inductive Reach (R:Nat->Nat->Prop):Nat->Nat->Prop
 | refl (i):Reach R i i
 | step {i j l}:R i j->Reach R j l->Reach R i l
theorem Reach.trans {R:Nat->Nat->Prop} {i j l:Nat} (h:Reach R i j) (h':Reach R j l):Reach R i l:=by
 induction h with
 | refl=>exact h'
 | step r _ ih=>exact .step r (ih h')
theorem Tq {k:Int} {n:Nat} {R:Nat->Nat->Prop} {a s:ak} (ha:OU k n a) (hR:∀ i j,R i j->i<n/\j<n) (aCJ:∀ i j,i<n->j<n->(aX a i j≠aF k ↔ R i j)) (h:qz k a=.ok s) :
  OU k n s/\∀ i j,i<n->j<n->(aX s i j≠aF k ↔ Reach R i j):=by
 unfold qz at h
 split at h
 ·rename_i hmo
  have hk:kindOk k=true:=by unfold nP at hmo;rw [Bool.and_eq_true] at hmo;exact hmo.1
  split at h
  ·cases h
  ·split at h
   ·cases h
   ·rename_i hb
    simp only [Except.ok.injEq] at h;subst h;unfold rT at hb ⊢;rw [ha.1] at hb ⊢;obtain⟨r1,r2⟩:=Rs (R:=R) hk n 0 false a (by omega) ha;obtain⟨d1,d2⟩:=QR hk n 0 (uH k n n 0 false a).1 (uH k n n 0 false a).2 (by omega) r1;have hb':(jq k n 0 (uH k n n 0 false a).1 (uH k n n 0 false a).2).1=false:=by simpa using hb
    obtain⟨q1,q2⟩:=d2 hb';obtain⟨_,q4⟩:=r2 q1;have hc:=q4 ⟨fun i j hi hj hR=>(aCJ i j hi hj).2 hR,fun T h1 _ i j hi hj h3=>h1 i j ((aCJ i j hi hj).1 h3),fun i q j _ hq=>absurd hq (by omega)⟩;refine⟨d1,fun i j hi hj=>?_⟩;rw [q2 i j hi hj];constructor
    ·rintro (h|⟨h,_⟩)
     ·exact hc.sound (Reach R) (fun i j h=>.step h (.refl _)) (fun _ _ _ h h'=>h.trans h') i j hi hj h
     ·rw [h];exact .refl _
    ·intro h
     have key:∀ i j,Reach R i j->i<n->j<n->i=j\/aX (uH k n n 0 false a).2 i j≠aF k:=by
      intro i j h
      induction h with
      | refl=>intro _ _;exact Or.inl rfl
      | @step i j l r _ ih =>
       intro hi hl;obtain⟨_,hj⟩:=hR _ _ r;have hij:=hc.base i j hi hj r;rcases ih hj hl with e|e
       ·subst e;exact Or.inr hij
       ·exact Or.inr (hc.trans i j l hi hj hl hij e)
     rcases key i j h hi hj with e|e
     ·exact Or.inr ⟨e,Nat.zero_le _⟩
     ·exact Or.inl e
 ·cases h
theorem QB {k:Int} {n:Nat} {loose:Bool} (hk:kindOk k=true):∀ (arcs:List aO) (b:Bool) (l:Vec) (r:Bool × Vec),H5 k n l->(∀ a∈arcs,dZ k n a=true)->kX k loose arcs (b,l)=.ok r ->
  H5 k n r.2/\(r.1=true ↔ b=true\/∃ a∈arcs,fits 0 0 loose a)/\∀ q,q<n->(r.2.getD q []≠aF k ↔ l.getD q []≠aF k\/∃ a∈arcs,fits 0 0 loose a/\a.to=q)
 | [],b,l,r,hl,_,h=>by
  simp only [kX,Except.ok.injEq] at h;subst h;refine⟨hl,⟨fun h=>Or.inl h,fun h=>h.elim id (fun h=>?_)⟩,fun q hq=>⟨fun h=>Or.inl h,fun h=>h.elim id (fun h=>?_)⟩⟩
  ·obtain⟨a,ha,_⟩:=h;cases ha
  ·obtain⟨a,ha,_⟩:=h;cases ha
 | a::s,b,l,r,hl,ha,h=>by
  have ha0:=ha a List.mem_cons_self;have har:=fun b hb=>ha b (List.mem_cons_of_mem a hb)
  unfold kX at h;by_cases hc:a.inn≠0\/(a.out≠0/\loose=false)
  ·rw [if_pos hc] at h
   have hnf:=PU.1 hc;obtain⟨h1,h2,h3⟩:=QB hk s b l r hl har h;refine⟨h1,?_,fun q hq=>?_⟩
   ·rw [h2]
    constructor
    ·rintro (e|⟨c,hcm,e⟩)
     ·exact Or.inl e
     ·exact Or.inr ⟨c,List.mem_cons_of_mem _ hcm,e⟩
    ·rintro (e|⟨c,hcm,e⟩)
     ·exact Or.inl e
     ·rcases List.mem_cons.1 hcm with rfl|hcm
      ·exact absurd e hnf
      ·exact Or.inr ⟨c,hcm,e⟩
   ·rw [h3 q hq]
    constructor
    ·rintro (e|⟨c,hcm,e⟩)
     ·exact Or.inl e
     ·exact Or.inr ⟨c,List.mem_cons_of_mem _ hcm,e⟩
    ·rintro (e|⟨c,hcm,e⟩)
     ·exact Or.inl e
     ·rcases List.mem_cons.1 hcm with rfl|hcm
      ·exact absurd e.1 hnf
      ·exact Or.inr ⟨c,hcm,e⟩
  ·rw [if_neg hc] at h
   have hf:fits 0 0 loose a:=Classical.not_not.1 (fun e=>hc (PU.2 e));unfold dZ at ha0;simp only [Bool.and_eq_true,decide_eq_true_eq] at ha0;obtain⟨w1,w2⟩:=Pv ha0.2;have hto:a.to.toNat<n:=by omega
   split at h
   ·cases h
   ·rename_i hp
    simp only [Classical.not_not] at hp;obtain⟨p1,p2⟩:=Qu (hl.at hto) w1 hp;obtain⟨h1,h2,h3⟩:=QB hk s true _ r (hl.set a.to.toNat p1) har h;refine⟨h1,?_,fun q hq=>?_⟩
    ·rw [h2]
     exact⟨fun _=>Or.inr ⟨a,List.mem_cons_self,hf⟩,fun _=>Or.inl rfl⟩
    ·rw [h3 q hq,aAb _ _ _ _ (by rw [hl.1];exact hto)]
     by_cases e:a.to.toNat=q
     ·have hq':a.to=q:=by omega
      rw [if_pos e,p2];exact⟨fun _=>Or.inr ⟨a,List.mem_cons_self,hf,hq'⟩,fun _=>Or.inl (Or.inr w2)⟩
     ·rw [if_neg e]
      constructor
      ·rintro (h|⟨c,hcm,h⟩)
       ·exact Or.inl h
       ·exact Or.inr ⟨c,List.mem_cons_of_mem _ hcm,h⟩
      ·rintro (h|⟨c,hcm,h⟩)
       ·exact Or.inl h
       ·rcases List.mem_cons.1 hcm with rfl|hcm
        ·exact absurd (show _=q by omega) e
        ·exact Or.inr ⟨c,hcm,h⟩
theorem RA {m:aQ} (hm:bM m=true) {loose:Bool}:∀ (ss:List bI) (b:Bool) (l:ak) (r:Bool × ak),(∀ s∈ss,∀ a∈s.arcs,dZ m.kind m.states.length a=true)->kG m loose ss (b,l)=.ok r ->
  ∃ rows:ak,r.2=l++rows/\rows.length=ss.length/\(∀ x∈rows,H5 m.kind m.states.length x)/\(r.1=true ↔ b=true\/∃ s∈ss,∃ a∈s.arcs,fits 0 0 loose a) ∧
   ∀ i,(hi:i<ss.length)->∀ q,q<m.states.length->(aX rows i q≠aF m.kind ↔ ∃ a∈ss[i].arcs,fits 0 0 loose a/\a.to=q)
 | [],b,l,r,_,h=>by
  simp only [kG,Except.ok.injEq] at h;subst h;refine⟨[],by simp,rfl,(fun x hx=>by cases hx),⟨fun h=>Or.inl h,fun h=>h.elim id (fun h=>?_)⟩,fun i hi=>absurd hi (by simp)⟩;obtain⟨a,ha,_⟩:=h;cases ha
 | s::t,b,l,r,ha,h=>by
  obtain⟨hk,_⟩:=Pt hm;unfold kG at h;obtain⟨x,e1,e2⟩:=O6 h;obtain⟨g1,g2,g3⟩:=QB hk s.arcs b (eT m) x (PP hk) (ha s List.mem_cons_self) e1;obtain⟨rows,f1,f2,f3,f4,f5⟩:=RA hm t x.1 (l++[x.2]) r (fun q hq=>ha q (List.mem_cons_of_mem _ hq)) e2;refine⟨x.2::rows,by rw [f1];simp,by simp [f2],fun y hy=>?_,?_,fun i hi q hq=>?_⟩
  ·rcases List.mem_cons.1 hy with rfl|hy
   ·exact g1
   ·exact f3 y hy
  ·rw [f4,g2]
   constructor
   ·rintro ((e|⟨a,e⟩)|⟨q,hq,e⟩)
    ·exact Or.inl e
    ·exact Or.inr ⟨s,List.mem_cons_self,a,e⟩
    ·exact Or.inr ⟨q,List.mem_cons_of_mem _ hq,e⟩
   ·rintro (e|⟨q,hq,e⟩)
    ·exact Or.inl (Or.inl e)
    ·rcases List.mem_cons.1 hq with rfl|hq
     ·obtain⟨a,e⟩:=e
      exact Or.inl (Or.inr ⟨a,e⟩)
     ·exact Or.inr ⟨q,hq,e⟩
  ·cases i with
   | zero =>
    have:=g3 q hq;rw [P5 m hq] at this;unfold aX;show x.2.getD q []≠_ ↔ _;rw [this];exact⟨fun h=>h.elim (fun e=>absurd rfl e) id,fun h=>Or.inr h⟩
   | succ i =>
    have:=f5 i (by simpa using hi) q hq;unfold aX at this ⊢
    simpa using this
def O8 (m:aQ) (loose:Bool) (i j:Nat):Prop:=i<m.states.length/\j<m.states.length/\∃ a∈OX m i,fits 0 0 loose a/\a.to=j
def P7 (m:aQ) (loose:Bool) (star:Option ak):Prop :=
 match star with
 | none=>∀ i j,¬ O8 m loose i j
 | some s=>OU m.kind m.states.length s/\∀ i j,i<m.states.length->j<m.states.length->(aX s i j≠aF m.kind ↔ Reach (O8 m loose) i j)
theorem Tm {m:aQ} (hm:bM m=true) {loose:Bool} {star:Option ak} (h:qy m loose=.ok star):P7 m loose star:=by
 obtain⟨hk,ha⟩:=Pt hm;unfold qy at h;obtain⟨x,e1,e2⟩:=O6 h;obtain⟨rows,f1,f2,f3,f4,f5⟩:=RA hm m.states false [] x ha e1;rw [List.nil_append] at f1;by_cases hb:x.1=false
 ·rw [if_pos hb] at e2
  simp only [Except.ok.injEq] at e2;subst e2;rintro i j ⟨hi,hj,a,ha',hf,_⟩;rw [(Pp hi).1] at ha';have:=f4.2 (Or.inr ⟨_,List.getElem_mem hi,a,ha',hf⟩);rw [hb] at this;cases this
 ·rw [if_neg hb] at e2
  split at e2
  ·cases e2
  ·obtain⟨s,e3,e4⟩:=O6 e2
   simp only [Except.ok.injEq] at e4;subst e4;rw [f1] at e3;refine Tq (R:=O8 m loose) ⟨f2,f3⟩ (fun i j h=>⟨h.1,h.2.1⟩) (fun i j hi hj=>?_) e3;rw [f5 i hi j hj];constructor
   ·intro h
    exact⟨hi,hj,by rw [(Pp hi).1];exact h⟩
   ·rintro⟨_,_,h⟩
    rwa [(Pp hi).1] at h
theorem Qx {k:Int} {n:Nat} {v:Bs} (hv:aT k v=true):∀ (r:Vec) (p:Nat) (l l':Vec),p+r.length<=n->H5 k n l->(∀ x∈r,aT k x=true)->lT k v r p l=.ok l' ->
  H5 k n l'/\∀ q,q<n->(l'.getD q []≠aF k ↔ l.getD q []≠aF k\/(v≠aF k/\∃ i,i<r.length/\r.getD i []≠aF k/\p+i=q))
 | [],p,l,l',_,hl,_,h=>by
  simp only [lT,Except.ok.injEq] at h;subst h;refine⟨hl,fun q hq=>⟨fun h=>Or.inl h,fun h=>h.elim id (fun h=>?_)⟩⟩;obtain⟨_,i,hi,_⟩:=h;exact absurd hi (by simp)
 | s::r,p,l,l',hp,hl,hr,h=>by
  rw [List.length_cons] at hp;have hs:=hr s List.mem_cons_self;have hr':=fun x hx=>hr x (List.mem_cons_of_mem s hx)
  unfold lT at h;by_cases hc:v=aF k\/s=aF k
  ·rw [if_pos hc] at h
   obtain⟨h1,h2⟩:=Qx hv r (p+1) l l' (by omega) hl hr' h;refine⟨h1,fun q hq=>?_⟩;rw [h2 q hq];constructor
   ·rintro (e|⟨e,i,hi,e2,e3⟩)
    ·exact Or.inl e
    ·exact Or.inr ⟨e,i+1,by simpa using hi,by simpa using e2,by omega⟩
   ·rintro (e|⟨e,i,hi,e2,e3⟩)
    ·exact Or.inl e
    ·cases i with
     | zero=>exact absurd (hc.resolve_left e) (by simpa using e2)
     | succ i=>exact Or.inr ⟨e,i,by simpa using hi,by simpa using e2,by omega⟩
  ·rw [if_neg hc] at h
   obtain⟨l1,e1,e2⟩:=O6 h;obtain⟨g1,g2⟩:=P8 hl (show p<n by omega) hv hs e1;obtain⟨h1,h2⟩:=Qx hv r (p+1) l1 l' (by omega) g1 hr' e2;refine⟨h1,fun q hq=>?_⟩;rw [h2 q hq,g2 q hq];constructor
   ·rintro ((e|⟨e,e',e''⟩)|⟨e,i,hi,e2,e3⟩)
    ·exact Or.inl e
    ·exact Or.inr ⟨e',0,by simp,by simpa using e'',by omega⟩
    ·exact Or.inr ⟨e,i+1,by simpa using hi,by simpa using e2,by omega⟩
   ·rintro (e|⟨e,i,hi,e2,e3⟩)
    ·exact Or.inl (Or.inl e)
    ·cases i with
     | zero=>exact Or.inl (Or.inr ⟨by omega,e,by simpa using e2⟩)
     | succ i=>exact Or.inr ⟨e,i,by simpa using hi,by simpa using e2,by omega⟩
theorem Rp {k:Int} {n:Nat}:∀ (v:Vec) (a:ak) (l l':Vec),v.length=a.length->H5 k n l->(∀ x∈v,aT k x=true)->(∀ r∈a,H5 k n r)->lU k v a l=.ok l' ->
  H5 k n l'/\∀ q,q<n->(l'.getD q []≠aF k ↔ l.getD q []≠aF k\/∃ i,i<v.length/\v.getD i []≠aF k/\aX a i q≠aF k)
 | [],a,l,l',_,hl,_,_,h=>by
  simp only [lU,Except.ok.injEq] at h;subst h;refine⟨hl,fun q hq=>⟨fun h=>Or.inl h,fun h=>h.elim id (fun h=>?_)⟩⟩;obtain⟨i,hi,_⟩:=h;exact absurd hi (by simp)
 | x::v,[],l,l',hla,_,_,_,_=>by simp at hla
 | x::v,r::a,l,l',hla,hl,hv,ha,h=>by
  unfold lU at h;obtain⟨l1,e1,e2⟩:=O6 h;have hr:=ha r List.mem_cons_self;obtain⟨g1,g2⟩:=Qx (hv x List.mem_cons_self) r 0 l l1 (by rw [hr.1];omega) hl hr.2 e1;obtain⟨h1,h2⟩:=Rp v a l1 l' (by simpa using hla) g1 (fun y hy=>hv y (List.mem_cons_of_mem _ hy)) (fun y hy=>ha y (List.mem_cons_of_mem _ hy)) e2;refine⟨h1,fun q hq=>?_⟩;rw [h2 q hq,g2 q hq];constructor
  ·rintro ((e|⟨e,i,hi,e2,e3⟩)|⟨i,hi,e2,e3⟩)
   ·exact Or.inl e
   ·refine Or.inr ⟨0,by simp,by simpa using e,?_⟩
    unfold aX;rw [Nat.zero_add] at e3;subst e3
    simpa using e2
   ·refine Or.inr ⟨i+1,by simpa using hi,by simpa using e2,?_⟩
    unfold aX at e3 ⊢
    simpa using e3
  ·rintro (e|⟨i,hi,e2,e3⟩)
   ·exact Or.inl (Or.inl e)
   ·cases i with
    | zero =>
     refine Or.inl (Or.inr ⟨by simpa using e2,q,by rw [hr.1];exact hq,?_,by omega⟩);unfold aX at e3
     simpa using e3
    | succ i =>
     refine Or.inr ⟨i,by simpa using hi,by simpa using e2,?_⟩;unfold aX at e3 ⊢
     simpa using e3
theorem SN {R:Nat->Nat->Prop} (h:∀ i j,¬ R i j) {i j:Nat} (hr:Reach R i j):i=j:=by
 cases hr with
 | refl=>rfl
 | step r _=>exact absurd r (h _ _)
theorem Ro {m:aQ} {loose:Bool} {i j:Nat} (h:Reach (O8 m loose) i j) (hi:i<m.states.length):j<m.states.length:=by
 induction h with
 | refl=>exact hi
 | step r _ ih=>exact ih r.2.1
theorem Rq {m:aQ} (hm:bM m=true) {loose:Bool} {star:Option ak} (hs:P7 m loose star) {v v':Vec} (hv:H5 m.kind m.states.length v) (h:uB m v star=.ok v') :
  H5 m.kind m.states.length v'/\∀ q,q<m.states.length->(v'.getD q []≠aF m.kind ↔ ∃ i,i<m.states.length/\v.getD i []≠aF m.kind/\Reach (O8 m loose) i q):=by
 obtain⟨hk,_⟩:=Pt hm;unfold uB at h
 cases star with
 | none =>
  simp only [Except.ok.injEq] at h;subst h;refine⟨hv,fun q hq=>⟨fun h=>⟨q,hq,h,.refl _⟩,?_⟩⟩;rintro⟨i,_,h,hr⟩;rwa [SN hs hr] at h
 | some s =>
  obtain⟨s1,s2⟩:=hs;obtain⟨h1,h2⟩:=Rp v s (eT m) v' (by rw [hv.1,s1.1]) (PP hk) hv.2 s1.2 h;refine⟨h1,fun q hq=>?_⟩;rw [h2 q hq,P5 m hq,hv.1];constructor
  ·rintro (e|⟨i,hi,e,e2⟩)
   ·exact absurd rfl e
   ·exact⟨i,hi,e,(s2 i q hi hq).1 e2⟩
  ·rintro⟨i,hi,e,e2⟩
   exact Or.inr ⟨i,hi,e,(s2 i q hi hq).2 e2⟩
def O7 (m:aQ):List Int->Nat->Prop
 | [],i=>∃ j,Reach (O8 m true) i j/\Pz m j≠[]
 | s::r,i=>∃ j,Reach (O8 m true) i j/\∃ a∈OX m j,a.inn=s/\O7 m r a.to.toNat
theorem PI {s:Int} {a:aO}:fits s 0 true a ↔ a.inn=s:=⟨fun h=>h.1,fun h=>⟨h,Or.inr rfl⟩⟩
theorem QN {m:aQ} (hm:bM m=true) {i:Nat} {a:aO} (h:a∈OX m i):0<=a.to/\a.to.toNat<m.states.length:=by
 obtain⟨_,ha⟩:=Pt hm;unfold OX at h;rw [List.getD_eq_getElem?_getD] at h
 cases hg:m.states[i]? with
 | none=>rw [hg] at h;cases h
 | some s =>
  rw [hg] at h;have:=ha s (List.mem_of_getElem? hg) a h;unfold dZ at this;simp only [Bool.and_eq_true,decide_eq_true_eq] at this;omega
theorem Sw {m:aQ} (hm:bM m=true):∀ s∈m.states,s.fin=[]\/bg m.kind s.fin=true:=by
 intro s hs;unfold bM at hm;simp only [Bool.and_eq_true,List.all_eq_true] at hm;have:=hm.1.2 s hs;unfold gY at this;simp only [Bool.and_eq_true,Bool.or_eq_true,decide_eq_true_eq] at this;exact this.1
theorem QL {m:aQ} (hm:bM m=true) {star:Option ak} (hs:P7 m true star):∀ (x:List Int) (v:Vec) (y:Bs),H5 m.kind m.states.length v->mg m star x v=.ok y ->
  (y≠aF m.kind ↔ ∃ i,i<m.states.length/\v.getD i []≠aF m.kind/\O7 m x i)
 | [],v,y,hv,h=>by
  obtain⟨hk,_⟩:=Pt hm;unfold mg at h;obtain⟨v1,e1,e2⟩:=O6 h;obtain⟨r1,r2⟩:=Rq hm hs hv e1;rw [Qk m.states v1 (aF m.kind) y (PH hk) (fun i hi=>r1.at hi) (Sw hm) e2];constructor
  ·rintro (e|⟨j,hj,e,hf⟩)
   ·exact absurd rfl e
   ·obtain⟨i,hi,e3,hr⟩:=(r2 j hj).1 e
    exact⟨i,hi,e3,j,hr,by rw [(Pp hj).2];exact hf⟩
  ·rintro⟨i,hi,e,j,hr,hf⟩
   have hj:=Ro hr hi;exact Or.inr ⟨j,hj,(r2 j hj).2 ⟨i,hi,e,hr⟩,by rw [<-(Pp hj).2];exact hf⟩
 | s::x,v,y,hv,h=>by
  unfold mg at h;obtain⟨v1,e1,e2⟩:=O6 h;obtain⟨v2,e3,e4⟩:=O6 e2;obtain⟨r1,r2⟩:=Rq hm hs hv e1;obtain⟨t1,t2⟩:=Tv hm r1 e3;rw [QL hm hs x v2 y t1 e4];constructor
  ·rintro⟨q,hq,e,hr⟩
   obtain⟨j,hj,e5,a,ha,hf,hto⟩:=(t2 q hq).1 e;obtain⟨i,hi,e6,hr'⟩:=(r2 j hj).1 e5;refine⟨i,hi,e6,j,hr',a,ha,PI.1 hf,?_⟩;rw [hto,Int.toNat_natCast];exact hr
  ·rintro⟨i,hi,e,j,hr,a,ha,hs',hrun⟩
   have hj:=Ro hr hi;obtain⟨o1,o2⟩:=QN hm ha;exact⟨a.to.toNat,o2,(t2 _ o2).2 ⟨j,hj,(r2 j hj).2 ⟨i,hi,e,hr⟩,a,ha,PI.2 hs',by omega⟩,hrun⟩
theorem Qa {m:aQ} {x:List Int} {y:Bs} (h:qX m x=.ok y):bM m=true/\(y≠aF m.kind ↔ O7 m x m.start.toNat):=by
 unfold qX at h
 split at h
 ·rename_i hc
  have hm:=hc.1;refine⟨hm,?_⟩;obtain⟨star,e1,e2⟩:=O6 h;obtain⟨hk,_⟩:=Pt hm;have hs:=Tm hm e1;have hmo:=hm;unfold bM at hmo;simp only [Bool.and_eq_true,decide_eq_true_eq] at hmo;obtain⟨w1,w2⟩:=Pv hmo.1.1.2;have hst:m.start.toNat<m.states.length:=by omega
  have hv:=(PP (m:=m) hk).set m.start.toNat w1;rw [QL hm hs x _ y hv e2];have hz:∀ i,i<m.states.length->(((eT m).set m.start.toNat m.lead).getD i []≠aF m.kind ↔ m.start.toNat=i):=by
   intro i hi;rw [aAb _ _ _ _ (by rw [(PP (m:=m) hk).1];exact hst)];by_cases e:m.start.toNat=i
   ·rw [if_pos e];exact⟨fun _=>e,fun _=>w2⟩
   ·rw [if_neg e,P5 m hi];exact⟨fun h=>absurd rfl h,fun h=>absurd h e⟩
  constructor
  ·rintro⟨i,hi,e,hr⟩
   rw [(hz i hi).1 e];exact hr
  ·intro hr
   exact⟨_,hst,(hz _ hst).2 rfl,hr⟩
 ·cases h
theorem QZ {γ:Type} [DecidableEq γ]:∀ {l:List γ} {p:γ} {n:Nat},jr l p=some n->l[n]? = some p
 | [],p,n,h=>by cases h
 | q::r,p,n,h=>by
  unfold jr at h
  split at h
  ·rename_i e;cases h;rw [e];rfl
  ·cases hf:jr r p with
   | none=>rw [hf] at h;cases h
   | some k =>
    rw [hf] at h;simp only [Option.map_some,Option.some.injEq] at h;subst h
    simpa using QZ hf
theorem Ty {γ:Type} [DecidableEq γ] (l:List γ) (p:γ):(dG l p).2[(dG l p).1]? = some p/\∃ r,(dG l p).2=l++r:=by
 unfold dG
 cases h:jr l p with
 | some n=>exact⟨QZ h,[],by simp⟩
 | none=>exact⟨by simp,[p],rfl⟩
theorem get_append {γ:Type} {l r:List γ} {n:Nat} {x:γ} (h:l[n]? = some x):(l++r)[n]? = some x:=by
 rw [List.getElem?_append_left (List.getElem?_eq_some_iff.1 h).1];exact h
def Ps (t:List Bs) (a:aO) (k:Nat):aO:=⟨fE t a.inn,fE t a.out,a.w,k⟩
theorem Qd {t fs:List Bs} {mem:Bs}:∀ (arcs:List aO) (l:List aR) (out:List aO),
  (∃ r,(iO t fs mem arcs l out).2=l++r)/\(∀ b∈out,b∈(iO t fs mem arcs l out).1)/\(∀ a∈arcs,∀ τ,jy t fs mem a=some τ->∃ k:Nat,(iO t fs mem arcs l out).2[k]? = some (a.to,τ)/\Ps t a k∈(iO t fs mem arcs l out).1) ∧
   ∀ b∈(iO t fs mem arcs l out).1,b∈out\/∃ u:Int,b.inn=fE t u
 | [],l,out=>⟨⟨[],by simp [iO]⟩,(fun b hb=>hb),(fun a ha=>by cases ha),(fun b hb=>Or.inl hb)⟩
 | a::r,l,out=>by
  unfold iO
  cases hn:jy t fs mem a with
  | none =>
   obtain⟨h1,h2,h3,h4⟩:=Qd (t:=t) (fs:=fs) (mem:=mem) r l out;refine⟨h1,h2,fun b hb τ hτ=>?_,h4⟩;rcases List.mem_cons.1 hb with rfl|hb
   ·rw [hn] at hτ;cases hτ
   ·exact h3 b hb τ hτ
  | some tz =>
   simp only [];obtain⟨v1,s,v2⟩:=Ty l (a.to,tz);obtain⟨⟨s2,h1⟩,h2,h3,h4⟩:=Qd (t:=t) (fs:=fs) (mem:=mem) r (dG l (a.to,tz)).2 (out++[⟨fE t a.inn,fE t a.out,a.w,(dG l (a.to,tz)).1⟩]);refine⟨⟨s++s2,by rw [h1,v2,List.append_assoc]⟩,fun b hb=>h2 b (List.mem_append_left _ hb),fun b hb τ hτ=>?_,fun b hb=>?_⟩
   ·rcases List.mem_cons.1 hb with rfl|hb
    ·rw [hn] at hτ
     cases hτ
     exact⟨_,by rw [h1];exact get_append v1,h2 _ (List.mem_append_right _ (by simp [Ps]))⟩
    ·exact h3 b hb τ hτ
   ·rcases h4 b hb with h|h
    ·rcases List.mem_append.1 h with h|h
     ·exact Or.inl h
     ·rw [List.mem_singleton] at h
      exact Or.inr ⟨a.inn,by rw [h]⟩
    ·exact Or.inr h
def QK (m:aQ) (t fs:List Bs) (L:List aR) (p:aR) (s:bI):Prop :=
 s.fin=(wL m p.1).fin/\(∀ a∈(wL m p.1).arcs,∀ τ,jy t fs p.2 a=some τ->∃ k:Nat,L[k]? = some (a.to,τ)/\Ps t a k∈s.arcs)/\∀ b∈s.arcs,∃ u:Int,b.inn=fE t u
theorem QU {m:aQ} {t fs:List Bs}:∀ (n i:Nat) (l:List aR) (out:List bI) (c:Nat) (x:List bI),out.length=i->i<=l.length->lC m t fs n i l out c=some x ->
  ∃ L:List aR,(∃ r,L=l++r)/\x.length=L.length/\(∃ r,x=out++r)/\∀ (j:Nat) (p:aR),i<=j->L[j]? = some p->∃ s,x[j]? = some s/\QK m t fs L p s
 | 0,i,l,out,c,x,_,_,h=>by cases h
 | n+1,i,l,out,c,x,h1,h2,h=>by
  unfold lC at h;by_cases hi:i<l.length
  ·rw [dif_pos hi] at h
   simp only [] at h;obtain⟨⟨r,e1⟩,e2,e3,e4⟩:=Qd (t:=t) (fs:=fs) (mem:=l[i].2) (wL m l[i].1).arcs l []
   split at h
   ·cases h
   ·have el:=congrArg List.length e1
    rw [List.length_append] at el;obtain⟨L,⟨r2,f1⟩,f2,⟨r3,f3⟩,f4⟩:=QU n (i+1) _ _ _ x (by simp [h1]) (by omega) h;refine⟨L,⟨r++r2,by rw [f1,e1,List.append_assoc]⟩,f2,⟨_::r3,by rw [f3,List.append_assoc];rfl⟩,fun j p hj hp=>?_⟩;by_cases hji:j=i
    ·subst hji
     have hpl:p=l[j]:=by
      rw [f1,e1,List.append_assoc,List.getElem?_append_left hi,List.getElem?_eq_getElem hi] at hp
      cases hp;rfl
     subst hpl;refine⟨⟨(wL m l[j].1).fin,(iO t fs l[j].2 (wL m l[j].1).arcs l []).1⟩,?_,rfl,fun a ha τ hτ=>?_,fun b hb=>(e4 b hb).resolve_left (fun h=>by cases h)⟩
     ·rw [f3,List.append_assoc,List.getElem?_append_right (by omega),h1];simp
     ·obtain⟨k,k1,k2⟩:=e3 a ha τ hτ
      exact⟨k,by rw [f1];exact get_append k1,k2⟩
    ·exact f4 j p (by omega) hp
  ·rw [dif_neg hi] at h
   cases h
   refine⟨l,⟨[],by simp⟩,by omega,⟨[],by simp⟩,fun j p hj hp=>?_⟩;have:=(List.getElem?_eq_some_iff.1 hp).1;omega
theorem Qm (t:List Bs):dD t 0=none:=by unfold dD;rw [if_neg (by omega)]
theorem P9 {t:List Bs} {s:Int} (h:dD t s=none):fE t s=s:=by unfold fE;rw [h];rfl
theorem QO {t:List Bs} {s:Int} {f:aH} (h:dD t s=some f):fE t s=0:=by unfold fE;rw [h];rfl
theorem R6 (t:List Bs) (s:Int):dD t (fE t s)=none:=by
 cases h:dD t s with
 | none=>rw [P9 h];exact h
 | some f=>rw [QO h];exact Qm t
theorem RU {m:aQ} (h:qQ m=true) {i:Nat} {a:aO} (ha:a∈OX m i):a.inn=a.out:=by
 unfold qQ at h;simp only [Bool.and_eq_true,List.all_eq_true,decide_eq_true_eq] at h;unfold OX at ha;rw [List.getD_eq_getElem?_getD] at ha
 cases hg:m.states[i]? with
 | none=>rw [hg] at ha;cases ha
 | some s=>rw [hg] at ha;exact h.2 s (List.mem_of_getElem? hg) a ha
theorem Rj {m:aQ} (h:qQ m=true) (t:List Bs) {i:Nat} {a:aO} (ha:a∈OX m i):eO t a=dD t a.inn:=by
 unfold eO;rw [<-RU h ha]
 cases dD t a.inn <;> rfl
theorem QC (m:aQ) (i:Nat):(wL m (i:Int)).arcs=OX m i/\(wL m (i:Int)).fin=Pz m i:=⟨rfl,rfl⟩
structure Px (m n:aQ) (t fs:List Bs) (L:List aR):Prop where
 len:n.states.length=L.length
 acc:qQ m=true
 nod:fs.Nodup
 feats:∀ i,∀ a∈OX m i,∀ f,eO t a=some f->f.feat∈fs
 tells:∀ (j:Nat) (p:aR),L[j]? = some p->∃ s,n.states[j]? = some s/\QK m t fs L p s
theorem Px.at {m n:aQ} {t fs:List Bs} {L:List aR} (W:Px m n t fs L) {j:Nat} {p:aR} (h:L[j]? = some p):Pz n j=(wL m p.1).fin/\(∀ a∈(wL m p.1).arcs,∀ τ,jy t fs p.2 a=some τ->∃ k:Nat,L[k]? = some (a.to,τ)/\Ps t a k∈OX n j):=by
 obtain⟨s,h1,h2,h3,_⟩:=W.tells j p h;have e:n.states.getD j ⟨[],[]⟩=s:=by rw [List.getD_eq_getElem?_getD,h1];rfl
 unfold Pz OX;rw [e];exact⟨h2,h3⟩
theorem PX {γ:Type} {l:List γ} {j:Nat} {x:γ} (h:l[j]? = some x):j<l.length:=(List.getElem?_eq_some_iff.1 h).1
theorem Rn {m n:aQ} {t fs:List Bs} {L:List aR} (hm:bM m=true) (W:Px m n t fs L) {i j:Nat} (h:Reach (O8 m true) i j):∀ {p:Nat} {τ:Bs},L[p]? = some ((i:Int),τ)->∃ p',L[p']? = some ((j:Int),τ)/\Reach (O8 n true) p p':=by
 induction h with
 | refl i=>intro p τ hp;exact⟨p,hp,.refl _⟩
 | @step i j l r _ ih =>
  intro p τ hp;obtain⟨hi,hj,a,ha,hf,hto⟩:=r;have h0:=PI.1 hf;have hof:eO t a=none:=by rw [Rj W.acc t ha,h0];exact Qm t
  obtain⟨_,hw⟩:=W.at hp;obtain⟨k,k1,k2⟩:=hw a (by rw [(QC m i).1];exact ha) τ (by unfold jy;rw [hof]);rw [hto] at k1;obtain⟨p',q1,q2⟩:=ih k1;refine⟨p',q1,.step ⟨by rw [W.len];exact PX hp,by rw [W.len];exact PX k1,Ps t a k,k2,PI.2 ?_,rfl⟩ q2⟩;show fE t a.inn=0;rw [h0];exact P9 (Qm t)
theorem Tg {m:aQ} {x:List Int} {i j:Nat} (h:Reach (O8 m true) i j) (hr:O7 m x j):O7 m x i:=by
 cases x with
 | nil=>obtain⟨l,h1,h2⟩:=hr;exact⟨l,h.trans h1,h2⟩
 | cons s r=>obtain⟨l,h1,h2⟩:=hr;exact⟨l,h.trans h1,h2⟩
theorem Qy {m n:aQ} {t fs:List Bs} {L:List aR} (hm:bM m=true) (W:Px m n t fs L):∀ (x:List Int) (i p:Nat) (mm:dz),O7 m x i->L[p]? = some ((i:Int),dE fs mm)->(∀ g,oU (aP mm g))->(∀ g,g ∉ fs->aP mm g=iF) ->
  (jL mm (x.filterMap (dD t))).isSome=true->O7 n (x.filter fun s=>(dD t s).isNone) p
 | [],i,p,mm,hr,hp,_,_,_=>by
  obtain⟨j,h1,h2⟩:=hr;obtain⟨p',q1,q2⟩:=Rn hm W h1 hp;refine⟨p',q2,?_⟩;rw [(W.at q1).1];exact h2
 | s::x,i,p,mm,hr,hp,hfit,hout,Vd=>by
  obtain⟨j,h1,a,ha,has,h2⟩:=hr;obtain⟨p',q1,q2⟩:=Rn hm W h1 hp;have hof:eO t a=dD t s:=by rw [Rj W.acc t ha,has]
  obtain⟨o1,o2⟩:=QN hm ha;have hto:((a.to.toNat:Nat):Int)=a.to:=by omega
  cases hfl:dD t s with
  | none =>
   obtain⟨k,k1,k2⟩:=(W.at q1).2 a (by rw [(QC m j).1];exact ha) (dE fs mm) (by unfold jy;rw [hof,hfl]);rw [List.filterMap_cons,hfl] at Vd;rw [List.filter_cons,hfl];refine⟨p',q2,Ps t a k,k2,?_,?_⟩
   ·show fE t a.inn=s
    rw [has];exact P9 hfl
   ·exact Qy hm W x a.to.toNat k mm h2 (by rw [k1,hto]) hfit hout Vd
  | some f =>
   rw [List.filterMap_cons,hfl] at Vd;rw [List.filter_cons,hfl];show O7 n (x.filter fun s=>(dD t s).isNone) p;have hg:∀ g,aP (jg fs (dE fs mm)) g=aP mm g:=Jb W.nod hfit hout;rw [jL] at Vd
   cases hst:fT mm f with
   | none=>rw [hst] at Vd;cases Vd
   | some mm' =>
    rw [hst] at Vd;unfold fT at hst
    cases hx:jZ (aP mm f.feat) f.op f.val with
    | none=>rw [hx] at hst;cases hst
    | some y =>
     rw [hx] at hst;simp only [Option.map_some,Option.some.injEq] at hst;have hstep:fT (jg fs (dE fs mm)) f=some (iW (jg fs (dE fs mm)) f.feat y):=by
      unfold fT;rw [hg,hx];rfl
     have hget:∀ g,aP (iW (jg fs (dE fs mm)) f.feat y) g=aP mm' g:=fun g=>by rw [<-hst,vK,vK,hg]
     have htx:dE fs (iW (jg fs (dE fs mm)) f.feat y)=dE fs mm':=by
      show fs.flatMap _=fs.flatMap _;congr 1;funext g;rw [hget g]
     obtain⟨k,k1,k2⟩:=(W.at q1).2 a (by rw [(QC m j).1];exact ha) (dE fs mm') (by unfold jy;rw [hof,hfl];simp only [];rw [hstep,Option.map_some,htx]);have hv:=Ql hfl;have YM:f.feat∈fs:=W.feats j a ha f (by rw [hof,hfl]);have hk:O7 n (x.filter fun s=>(dD t s).isNone) k:=Qy hm W x a.to.toNat k mm' h2 (by rw [k1,hto]) (fun g=>by
       rw [<-hst,vK]
       split
       ·exact Nl (hfit _) hv hx
       ·exact hfit g) (fun g hg'=>by
       rw [<-hst,vK,if_neg (fun e:f.feat=g=>hg' (e ▸ YM))];exact hout g hg') Vd
     refine Tg (q2.trans (.step ⟨by rw [W.len];exact PX q1,by rw [W.len];exact PX k1,Ps t a k,k2,PI.2 ?_,rfl⟩ (.refl _))) hk;show fE t a.inn=0;rw [has];exact QO hfl
theorem Ry {m n:aQ} {t fs:List Bs} {L:List aR} (W:Px m n t fs L):∀ (x:List Int) (p:Nat),O7 n x p->∀ s∈x,dD t s=none
 | [],p,_,s,hs=>by cases hs
 | s::x,p,hr,u,hu=>by
  obtain⟨j,h1,a,ha,has,h2⟩:=hr;rcases List.mem_cons.1 hu with rfl|hu
  ·have hj:j<n.states.length:=by
    rcases Nat.lt_or_ge j n.states.length with h|h
    ·exact h
    ·unfold OX at ha
     rw [List.getD_eq_getElem?_getD,List.getElem?_eq_none h] at ha;cases ha
   have hL:L[j]? = some (L[j]'(by rw [<-W.len];exact hj)):=List.getElem?_eq_getElem _;obtain⟨q,q1,_,_,q4⟩:=W.tells j _ hL;have e:n.states.getD j ⟨[],[]⟩=q:=by rw [List.getD_eq_getElem?_getD,q1];rfl
   unfold OX at ha;rw [e] at ha;obtain⟨w,hw⟩:=q4 a ha;rw [<-has,hw];exact R6 t w
  ·exact Ry W x _ h2 u hu
theorem TC {m:aQ} {t:List Bs} {x:List bI} (hacc:qQ m=true) (h:lC m t (fG t m.states []) 3001 0 [(m.start,dE (fG t m.states []) [])] [] 0=some x) :
  ∃ L,Px m ⟨m.kind,0,m.lead,x⟩ t (fG t m.states []) L/\L[0]? = some (m.start,dE (fG t m.states []) []):=by
 obtain⟨L,⟨r,f1⟩,f2,_,f4⟩:=QU 3001 0 _ [] 0 x rfl (by simp) h;obtain⟨g1,g2,g3⟩:=xN t m.states [] List.nodup_nil;refine⟨L,⟨f2,hacc,g1,fun i a ha f hf=>?_,fun j p hp=>f4 j p (Nat.zero_le _) hp⟩,by rw [f1];rfl⟩;unfold OX at ha;rw [List.getD_eq_getElem?_getD] at ha
 cases hg:m.states[i]? with
 | none=>rw [hg] at ha;cases ha
 | some s=>rw [hg] at ha;exact g3 s (List.mem_of_getElem? hg) a ha f hf
theorem TB {m:aQ} {t:List Bs} {xs:List bI} (hm:bM m=true) (hacc:qQ m=true) (h:lC m t (fG t m.states []) 3001 0 [(m.start,dE (fG t m.states []) [])] [] 0=some xs) (x:List Int) :
  (∀ v w,qX m x=.ok v->qX ⟨m.kind,0,m.lead,xs⟩ (x.filter fun s=>(dD t s).isNone)=.ok w->jH (x.filterMap (dD t))=true->v≠aF m.kind->w≠aF m.kind) ∧
  (∀ u,qX ⟨m.kind,0,m.lead,xs⟩ x=.ok u->(x.filter fun s=>(dD t s).isNone).length<x.length->u=aF m.kind):=by
 obtain⟨L,W,h0⟩:=TC hacc h;obtain⟨_,m2,_⟩:=kV.1 hm;refine⟨fun v w hv hw hl hnz=>?_,fun u hu hlt=>?_⟩
 ·obtain⟨_,d1⟩:=Qa hv
  obtain⟨_,d2⟩:=Qa hw;refine d2.2 (Qy hm W x m.start.toNat 0 [] (d1.1 hnz) ?_ (fun g=>I7) (fun g _=>rfl) ?_)
  ·rw [h0,show ((m.start.toNat:Nat):Int)=m.start by omega]
  ·unfold jH at hl
   rw [Bool.and_eq_true] at hl;exact hl.2
 ·obtain⟨_,d1⟩:=Qa hu
  refine Classical.byContradiction fun hnz=>?_
  have hb:=Ry W x 0 (d1.1 hnz);have:x.filter (fun s=>(dD t s).isNone)=x:=List.filter_eq_self.2 fun s hs=>by rw [hb s hs];rfl
  rw [this] at hlt;exact Nat.lt_irrefl _ hlt
theorem Qh:∀ {l:wF} {f v:Bs},jr (l.map Prod.fst) f=none->wV l f v=l++[(f,if v=[] then [] else [v])]
 | [],f,v,_=>rfl
 | (k,vs)::r,f,v,h=>by
  rw [List.map_cons,jr] at h
  split at h
  ·cases h
  ·rename_i hne
   rw [wV,if_neg hne,Qh (by simpa using h)]
   rfl
theorem Qi:∀ {l:wF} {f v:Bs} {i:Nat},jr (l.map Prod.fst) f=some i->∃ h:i<l.length,wV l f v=l.set i (f,if v=[]\/v∈l[i].2 then l[i].2 else l[i].2++[v])
 | (k,vs)::r,f,v,i,h=>by
  rw [List.map_cons,jr] at h
  split at h
  ·rename_i he
   cases h
   refine⟨by simp,?_⟩;rw [wV,if_pos he,<-he]
   rfl
  ·rename_i hne
   rw [Option.map_eq_some_iff] at h;obtain⟨j,hj,rfl⟩:=h;obtain⟨hl,e⟩:=Qi (v:=v) hj;refine⟨by simpa using hl,?_⟩;rw [wV,if_neg hne,e]
   rfl
theorem Q4 {γ:Type} [DecidableEq γ]:∀ {l:List γ} {p:γ} {i:Nat},l.Nodup->(h:i<l.length)->l[i]=p->jr l p=some i
 | a::r,p,0,_,_,h=>by rw [jr,if_pos (show a=p from h)]
 | a::r,p,i+1,hn,hl,h=>by
  rw [List.nodup_cons] at hn;rw [jr,if_neg (fun e=>hn.1 (by rw [e,<-h];exact List.getElem_mem _)),Q4 hn.2 (by simpa using hl) h]
  rfl
theorem Q5 {γ:Type} [DecidableEq γ]:∀ {l:List γ} {p:γ},(∀ x∈l,x≠p)->jr l p=none
 | [],p,_=>rfl
 | a::r,p,h=>by
  rw [jr,if_neg (h a List.mem_cons_self),Q5 (fun x hx=>h x (List.mem_cons_of_mem _ hx))]
  rfl
theorem Si {l:wF} {f v:Bs} (h:(l.map Prod.fst).Nodup):((wV l f v).map Prod.fst).Nodup:=by
 rw [PT]
 split
 ·exact h
 ·rename_i hn
  rw [List.nodup_append];exact⟨h,by simp,fun a ha b hb=>by rw [List.mem_singleton] at hb;subst hb;exact fun e=>hn (e ▸ ha)⟩
theorem Sg {l:wF} {f v:Bs}:(wV l f v).length<=l.length+1:=by
 have:=congrArg List.length (PT l f v);rw [List.length_map] at this;rw [this]
 split <;> simp
def O0 (n:Nat) (l:wF):Prop:=l.length<=n/\∀ x∈l,x.2.length<=n
theorem QV {n:Nat} {l:wF} {f v:Bs} (h:O0 n l):O0 (n+1) (wV l f v):=by
 refine⟨Nat.le_trans Sg (by have:=h.1;omega),fun x hx=>?_⟩
 cases hf:jr (l.map Prod.fst) f with
 | none =>
  rw [Qh hf] at hx;rcases List.mem_append.1 hx with hx|hx
  ·have:=h.2 x hx;omega
  ·rw [List.mem_singleton] at hx
   subst hx;simp only
   split <;> simp
 | some i =>
  obtain⟨hi,e⟩:=Qi (v:=v) hf;rw [e] at hx;rcases List.mem_or_eq_of_mem_set hx with hx|rfl
  ·have:=h.2 x hx;omega
  ·have:=h.2 _ (List.getElem_mem hi)
   simp only
   split
   ·omega
   ·simp;omega
theorem Sd (t:List Bs) (a:aO) (r:List aO) (l:wF):OT t (a::r) l=OT t r (match eO t a with|some f=>wV l f.feat f.val|none=>l):=by
 rw [OT]
 cases eO t a <;> rfl
end Go.Proofs.YtppnecgeboonbaaGreatDoor
