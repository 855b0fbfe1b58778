/- Walks. -/
import Derived.Test.YtppnecgeboonbaaGreatDoorZ24
import Derived.Laws.OwnMore
import Derived.DeepKeys5
import Derived.Deep.RegionLaw
import Derived.StillTail
namespace Go.Proofs.YtppnecgeboonbaaGreatDoor
set_option maxRecDepth 100000
set_option linter.all false
open Rat3
def H5(k:Int)(n:Nat)(v:Vec):Prop:=v.length=n/\∀x∈v,aT k x=true
def Sk{l:List Bs}{i:Nat}(h:i<l.length):l.getD i []∈l:=by
 rw[aaf,aak h];exact aag _
def H5.at{k:Int}{n:Nat}{v:Vec}(h:H5 k n v){i:Nat}(hi:i<n):aT k (v.getD i [])=true:=h.2 _ (Sk (by rw[h.1];exact hi))
def aAb(l:List Bs)(i j:Nat)(x:Bs)(hi:i<l.length):(l.set i x).getD j []=if i=j then x else l.getD j []:=by
 rw[aaf,ab2];by_cases h:i=j
 ·subst h;rw[aaa rfl,aaa hi,aaa rfl];rfl
 ·rw[aab h,aab h];rfl
def H5.set{k:Int}{n:Nat}{v:Vec}(h:H5 k n v)(i:Nat){x:Bs}(hx:aT k x=true):H5 k n (v.set i x):=by
 refine⟨by rw[abh];exact h.1,fun y hy=>?_⟩;rcases ab0 hy with h'|h'
 ·exact h.2 y h'
 ·rw[h'];exact hx
def PP{m:aQ}(hk:kindOk m.kind=true):H5 m.kind m.states.length (eT m):=by
 refine⟨by unfold eT;simp,fun x hx=>?_⟩;unfold eT at hx;rw[(List.mem_replicate.1 hx).2];exact PH hk
def P5(m:aQ){i:Nat}(hi:i<m.states.length):(eT m).getD i []=aF m.kind:=by
 unfold eT;rw[aaf,abv,aaa hi];rfl
def Pv{k:Int}{a:Bs}(h:bg k a=true):aT k a=true/\a≠aF k:=by
 unfold bg at h;simp only[aaE,aax]at h;refine⟨h.1,fun e=>?_⟩;obtain⟨hk,_⟩:=Oe h.1;rcases PE hk with rfl|rfl|rfl
 ·exact h.2.1 e
 ·rcases h.2.2.2 with e'|e'
  ·omega
  ·exact e' e
 ·rcases h.2.2.2 with e'|e'
  ·omega
  ·exact e' e
def P8{k:Int}{n i:Nat}{l l':Vec}{a b:Bs}(hl:H5 k n l)(hi:i<n)(ha:aT k a=true)(hb:aT k b=true)(h:fK k l i a b=.ok l') :
  H5 k n l'/\∀q,q<n->(l'.getD q []≠aF k↔l.getD q []≠aF k\/(q=i/\a≠aF k/\b≠aF k)):=by
 unfold fK at h
 split at h
 ·cases h
 ·rename_i h1
  split at h
  ·cases h
  ·rename_i h2
   simp only[abb]at h1 h2;obtain⟨t1,t2⟩:=RL ha hb h1;obtain⟨p1,p2⟩:=Qu (hl.at hi) t1 h2;simp only[aaW]at h;subst h;refine⟨hl.set i p1,fun q hq=>?_⟩;rw[aAb _ _ _ _ (by rw[hl.1];exact hi)];by_cases e:i=q
   ·subst e
    rw[aaa rfl,p2,t2];constructor
    ·rintro(h|h)
     ·exact aam h
     ·exact aad ⟨rfl,h⟩
    ·rintro(h|h)
     ·exact aam h
     ·exact aad h.2
   ·rw[aab e]
    constructor
    ·exact fun h=>aam h
    ·rintro(h|h)
     ·exact h
     ·exact absurd h.1.symm e
def O6{α β:Type}{x:Except Nat α}{f:α->Except Nat β}{b:β}(h:bi x f=.ok b):∃a,x=.ok a/\f a=.ok b:=by
 cases x with
 |ok a=>exact⟨a,rfl,h⟩
 |error e=>cases h
def fits(inn out:Int)(loose:Bool)(a:aO):Prop:=a.inn=inn/\(a.out=out\/loose=true)
def PU{inn out:Int}{loose:Bool}{a:aO}:(a.inn≠inn\/(a.out≠out/\loose=false)) ↔ ¬ fits inn out loose a:=by
 unfold fits
 cases loose<;>simp
 ·constructor
  ·intro h e;rcases h with h|h
   ·exact absurd e h
   ·exact h
  ·intro h
   by_cases e:a.inn=inn
   ·exact aad (h e)
   ·exact aam e
def Pg(v:Vec):v.headD []=v.getD 0 []:=by cases v<;>rfl
def Pb(v:Vec)(i:Nat):v.tail.getD i []=v.getD (i+1) []:=by cases v<;>simp
def OX(m:aQ)(q:Nat):List aO:=(m.states.getD q ⟨[],[]⟩).arcs
def Pz(m:aQ)(q:Nat):Bs:=(m.states.getD q ⟨[],[]⟩).fin
def Pp{m:aQ}{q:Nat}(h:q<m.states.length):OX m q=m.states[q].arcs/\Pz m q=m.states[q].fin:=by
 unfold OX Pz;rw[aaf,aak h];exact⟨rfl,rfl⟩
def Pt{m:aQ}(hm:bM m=true):kindOk m.kind=true/\∀s∈m.states,∀a∈s.arcs,dZ m.kind m.states.length a=true:=by
 unfold bM at hm;simp only[aaE,aaT]at hm;refine⟨hm.1.1.1.1,fun s hs a ha=>?_⟩;have:=hm.1.2 s hs;unfold aBP at this;simp only[aaE,aaT]at this;exact this.2 a ha
def OU(k:Int)(n:Nat)(a:ak):Prop:=a.length=n/\∀r∈a,H5 k n r
def OU.row{k:Int}{n:Nat}{a:ak}(h:OU k n a){i:Nat}(hi:i<n):H5 k n (a.getD i []):=by
 refine h.2 _ ?_;rw[aaf,aak (by rw[h.1];exact hi)];exact aag _
def OU.at{k:Int}{n:Nat}{a:ak}(h:OU k n a){i j:Nat}(hi:i<n)(hj:j<n):aT k (aX a i j)=true:=(h.row hi).at hj
def Qo{k:Int}{b:Bool}{x y:Bs}(hx:aT k x=true)(hy:aT k y=true)(h:(jG k b x y).1=false) :
  b=false/\aT k (jG k b x y).2=true/\((jG k b x y).2≠aF k↔x≠aF k\/y≠aF k):=by
 unfold jG at h ⊢
 split at h
 ·cases h
 ·rename_i hc
  simp only[aca,aax,acw,acX,abb]at hc;rw[aab (by simp[hc.1,hc.2])];exact⟨hc.1,Qu hx hy hc.2⟩
def Qp{k:Int}{b:Bool}{x y:Bs}(hx:aT k x=true)(hy:aT k y=true)(h:(q9 k b x y).1=false) :
  b=false/\aT k (q9 k b x y).2=true/\((q9 k b x y).2≠aF k↔x≠aF k/\y≠aF k):=by
 unfold q9 at h ⊢
 split at h
 ·cases h
 ·rename_i hc
  simp only[aca,aax,acw,acX,abb]at hc;rw[aab (by simp[hc.1,hc.2])];exact⟨hc.1,RL hx hy hc.2⟩
def Q9{k:Int}{b:Bool}{x:Bs}(hx:aT k x=true)(h:(oQ k b x).1=false):b=false/\aT k (oQ k b x).2=true/\(oQ k b x).2≠aF k:=by
 unfold oQ at h ⊢
 split at h
 ·cases h
 ·rename_i hc
  simp only[aca,aax,acw,acX,abb]at hc;rw[aab (by simp[hc.1,hc.2])];exact⟨hc.1,Tt hx hc.2⟩
def Q8{k:Int}(hk:kindOk k=true){b:Bool}{x y:Bs}(hx:aT k x=true)(hy:aT k y=true):aT k (jG k b x y).2=true:=by
 cases h:(jG k b x y).1 with
 |false=>exact(Qo hx hy h).2.1
 |true=>
  unfold jG at h ⊢
  split at h
  ·rename_i hc;rw[aaa hc];exact PH hk
  ·cases h
def Rb{k:Int}(hk:kindOk k=true){b:Bool}{x y:Bs}(hx:aT k x=true)(hy:aT k y=true):aT k (q9 k b x y).2=true:=by
 cases h:(q9 k b x y).1 with
 |false=>exact(Qp hx hy h).2.1
 |true=>
  unfold q9 at h ⊢
  split at h
  ·rename_i hc;rw[aaa hc];exact PH hk
  ·cases h
def Sm{k:Int}(hk:kindOk k=true){b:Bool}{x:Bs}(hx:aT k x=true):aT k (oQ k b x).2=true:=by
 cases h:(oQ k b x).1 with
 |false=>exact(Q9 hx h).2.1
 |true=>
  unfold oQ at h ⊢
  split at h
  ·rename_i hc;rw[aaa hc];exact PH hk
  ·cases h
def R8{k:Int}{n:Nat}{a:ak}(hk:kindOk k=true)(ha:OU k n a){loop:Bs}(hl:aT k loop=true){p i j:Nat}(hp:p<n)(hi:i<n)(hj:j<n)(b:Bool) :
  aT k (ug k a loop p i j b).2=true/\((ug k a loop p i j b).1=false->b=false/\(loop≠aF k->((ug k a loop p i j b).2≠aF k↔aX a i j≠aF k\/(aX a i p≠aF k/\aX a p j≠aF k)))):=by
 unfold ug;have v1:=ha.at hi hj;have v2:=ha.at hi hp;have v3:=ha.at hp hj;by_cases hc:aX a i p≠aF k/\aX a p j≠aF k
 ·rw[aaa hc]
  have u1:=Rb hk (b:=b) v2 hl;have u2:=Rb hk (b:=(q9 k b (aX a i p) loop).1) u1 v3;refine⟨Q8 hk v1 u2,fun h=>?_⟩;obtain⟨e1,_,e2⟩:=Qo v1 u2 h;obtain⟨e3,_,e4⟩:=Qp u1 v3 e1;obtain⟨e5,_,e6⟩:=Qp v2 hl e3;refine⟨e5,fun hz=>?_⟩;rw[e2,e4,e6];constructor
  ·rintro(h|h)
   ·exact aam h
   ·exact aad hc
  ·rintro(h|h)
   ·exact aam h
   ·exact aad ⟨⟨h.1,hz⟩,h.2⟩
 ·rw[aab hc]
  refine⟨v1,fun h=>⟨h,fun _=>⟨fun h=>aam h,fun h=>h.elim id (fun h=>absurd h hc)⟩⟩⟩
theorem Rt{k:Int}{n:Nat}{a:ak}(hk:kindOk k=true)(ha:OU k n a){loop:Bs}(hl:aT k loop=true){p i:Nat}(hp:p<n)(hi:i<n):∀(c j:Nat) (b:Bool),j+c<=n ->
  H5 k c (qx k a loop p i c j b).2/\((qx k a loop p i c j b).1=false->b=false/\(loop≠aF k->∀d,d<c->((qx k a loop p i c j b).2.getD d []≠aF k↔aX a i (j+d)≠aF k\/(aX a i p≠aF k/\aX a p (j+d)≠aF k))))
 |0,j,b,_=>⟨⟨rfl,fun x hx=>by cases hx⟩,fun h=>⟨h,fun _ d hd=>absurd hd (by omega)⟩⟩
 |c+1,j,b,hj=>by
  obtain⟨e1,e2⟩:=R8 hk ha hl hp hi (show j<n by omega) b;obtain⟨r1,r2⟩:=Rt hk ha hl hp hi c (j+1) (ug k a loop p i j b).1 (by omega);unfold qx;refine⟨⟨by simp[r1.1],fun x hx=>?_⟩,fun h=>?_⟩
  ·rcases aay.1 hx with rfl|hx
   ·exact e1
   ·exact r1.2 x hx
  ·obtain⟨q1,q2⟩:=r2 h
   obtain⟨q3,q4⟩:=e2 q1;refine⟨q3,fun hz d hd=>?_⟩
   cases d with
   |zero=>simpa using q4 hz
   |succ d=>
    have:=q2 hz d (by omega);rw[show j+(d+1)=j+1+d by omega]
    simpa using this
theorem Ru{k:Int}{n:Nat}{a:ak}(hk:kindOk k=true)(ha:OU k n a){loop:Bs}(hl:aT k loop=true){p:Nat}(hp:p<n):∀(c i:Nat) (b:Bool),i+c<=n ->
  ((rQ k a loop p n c i b).2.length=c/\∀r∈(rQ k a loop p n c i b).2,H5 k n r)/\((rQ k a loop p n c i b).1=false->b=false/\(loop≠aF k->∀d j,d<c->j<n->(aX (rQ k a loop p n c i b).2 d j≠aF k↔aX a (i+d) j≠aF k\/(aX a (i+d) p≠aF k/\aX a p j≠aF k))))
 |0,i,b,_=>⟨⟨rfl,fun x hx=>by cases hx⟩,fun h=>⟨h,fun _ d j hd _=>absurd hd (by omega)⟩⟩
 |c+1,i,b,hi=>by
  obtain⟨e1,e2⟩:=Rt hk ha hl hp (show i<n by omega) n 0 b (by omega);obtain⟨r1,r2⟩:=Ru hk ha hl hp c (i+1) (qx k a loop p i n 0 b).1 (by omega);unfold rQ;refine⟨⟨by simp[r1.1],fun x hx=>?_⟩,fun h=>?_⟩
  ·rcases aay.1 hx with rfl|hx
   ·exact e1
   ·exact r1.2 x hx
  ·obtain⟨q1,q2⟩:=r2 h
   obtain⟨q3,q4⟩:=e2 q1;refine⟨q3,fun hz d j hd hj=>?_⟩
   cases d with
   |zero=>
    have:=q4 hz j hj;rw[aaP]at this;unfold aX at this ⊢
    simpa using this
   |succ d=>
    have:=q2 hz d j (by omega) hj;rw[show i+(d+1)=i+1+d by omega];unfold aX at this ⊢
    simpa using this
def S9{k:Int}{n:Nat}{a:ak}(hk:kindOk k=true)(ha:OU k n a){p:Nat}(hp:p<n)(b:Bool) :
  OU k n (yM k p n b a).2/\((yM k p n b a).1=false->b=false/\∀i j,i<n->j<n->(aX (yM k p n b a).2 i j≠aF k↔aX a i j≠aF k\/(aX a i p≠aF k/\aX a p j≠aF k))):=by
 have hs:=Sm hk (b:=b) (ha.at hp hp);obtain⟨r1,r2⟩:=Ru hk ha hs hp n 0 (oQ k b (aX a p p)).1 (by omega);unfold yM;refine⟨r1,fun h=>?_⟩;obtain⟨q1,q2⟩:=r2 h;obtain⟨s1,_,s2⟩:=Q9 (ha.at hp hp) q1;refine⟨s1,fun i j hi hj=>?_⟩;have:=q2 s2 i j hi hj;rwa[aaP]at this
structure QI (k:Int) (n p:Nat) (R:Nat->Nat->Prop) (a:ak):Prop where
 base:∀i j,i<n->j<n->R i j->aX a i j≠aF k
 sound:∀(T:Nat->Nat->Prop),(∀i j,R i j->T i j)->(∀i j l,T i j->T j l->T i l)->∀i j,i<n->j<n->aX a i j≠aF k->T i j
 trans:∀i q j,i<n->q<p->j<n->aX a i q≠aF k->aX a q j≠aF k->aX a i j≠aF k
theorem Rs{k:Int}{n:Nat}{R:Nat->Nat->Prop}(hk:kindOk k=true):∀(c p:Nat) (b:Bool) (a:ak),p+c=n->OU k n a->OU k n (uH k n c p b a).2/\((uH k n c p b a).1=false->b=false/\(QI k n p R a->QI k n n R (uH k n c p b a).2))
 |0,p,b,a,hp,ha=>by
  obtain rfl:p=n:=by omega
  exact⟨ha,fun h=>⟨h,fun hc=>hc⟩⟩
 |c+1,p,b,a,hp,ha=>by
  obtain⟨r1,r2⟩:=S9 hk ha (show p<n by omega) b;obtain⟨s1,s2⟩:=Rs (R:=R) hk c (p+1) (yM k p n b a).1 (yM k p n b a).2 (by omega) r1;unfold uH;refine⟨s1,fun h=>?_⟩;obtain⟨q1,q2⟩:=s2 h;obtain⟨q3,q4⟩:=r2 q1;refine⟨q3,fun hc=>q2 ⟨fun i j hi hj hR=>(q4 i j hi hj).2 (aam (hc.base i j hi hj hR)),fun T h1 h2 i j hi hj h3=>?_,fun i q j hi hq hj h3 h4=>?_⟩⟩
  ·rcases(q4 i j hi hj).1 h3 with h|⟨h,h'⟩
   ·exact hc.sound T h1 h2 i j hi hj h
   ·exact h2 i p j (hc.sound T h1 h2 i p hi (by omega) h) (hc.sound T h1 h2 p j (by omega) hj h')
  ·have hpn:p<n:=by omega
   rw[q4 i j hi hj];rw[q4 i q hi (by omega)]at h3;rw[q4 q j (by omega) hj]at h4;by_cases e:q=p
   ·subst e
    have h3':aX a i q≠aF k:=h3.elim id (fun h=>h.1);have h4':aX a q j≠aF k:=h4.elim id (fun h=>h.2);exact aad ⟨h3',h4'⟩
   ·have hq':q<p:=by omega
    rcases h3 with h3|⟨h3,h3'⟩
    ·rcases h4 with h4|⟨h4,h4'⟩
     ·exact aam (hc.trans i q j hi hq' hj h3 h4)
     ·exact aad ⟨hc.trans i q p hi hq' hpn h3 h4,h4'⟩
    ·rcases h4 with h4|⟨h4,h4'⟩
     ·exact aad ⟨h3,hc.trans p q j hpn hq' hj h3' h4⟩
     ·exact aad ⟨h3,h4'⟩
def R5{a:ak}{i j r c n:Nat}{x:Bs}(ha:a.length=n)(hr:∀l∈a,l.length=n)(hi:i<n)(hj:j<n):aX (setAt a i j x) r c=if r=i/\c=j then x else aX a r c:=by
 unfold aX setAt;have hrow:(a.getD i []).length=n:=hr _ (by rw[aaf,aak (by omega)];exact aag _);rw[aaf (l:=a.set i _),ab2];by_cases h:i=r
 ·subst h
  rw[aaa rfl,aaa (by omega)];show((a.getD i []).set j x).getD c []=_;rw[aAb _ _ _ _ (by omega)];by_cases h2:j=c
  ·rw[aaa h2,aaa ⟨rfl,h2.symm⟩]
  ·rw[aab h2,aab (fun e=>h2 e.2.symm)]
 ·rw[aab h,aab (fun e=>h e.1.symm),<-aaf]
def SB{k:Int}(hk:kindOk k=true):aT k (fQ k)=true/\fQ k≠aF k:=by
 rcases PE hk with rfl|rfl|rfl<;>decide +kernel
def OU.setAt{k:Int}{n:Nat}{a:ak}(h:OU k n a){i j:Nat}{x:Bs}(hi:i<n)(hx:aT k x=true):OU k n (setAt a i j x):=by
 refine⟨by unfold Go.Proofs.YtppnecgeboonbaaGreatDoor.setAt;rw[abh];exact h.1,fun r hr=>?_⟩;unfold Go.Proofs.YtppnecgeboonbaaGreatDoor.setAt at hr;rcases ab0 hr with h'|h'
 ·exact h.2 r h'
 ·rw[h'];exact(h.row hi).set j hx
theorem QR{k:Int}{n:Nat}(hk:kindOk k=true):∀(c i:Nat) (b:Bool) (a:ak),i+c=n->OU k n a ->
  OU k n (jq k c i b a).2/\((jq k c i b a).1=false->b=false/\∀r s,r<n->s<n->(aX (jq k c i b a).2 r s≠aF k↔aX a r s≠aF k\/(r=s/\i<=r)))
 |0,i,b,a,hi,ha=>⟨ha,fun h=>⟨h,fun r s hr hs=>⟨fun h=>aam h,fun h=>h.elim id (fun h=>by omega)⟩⟩⟩
 |c+1,i,b,a,hi,ha=>by
  have hin:i<n:=by omega
  obtain⟨o1,o2⟩:=SB hk;have hx:=Q8 hk (b:=b) o1 (ha.at hin hin);obtain⟨s1,s2⟩:=QR hk c (i+1) (jG k b (fQ k) (aX a i i)).1 (setAt a i i (jG k b (fQ k) (aX a i i)).2) (by omega) (ha.setAt hin hx);unfold jq;refine⟨s1,fun h=>?_⟩;obtain⟨q1,q2⟩:=s2 h;obtain⟨q3,_,q4⟩:=Qo o1 (ha.at hin hin) q1;refine⟨q3,fun r s hr hs=>?_⟩;rw[q2 r s hr hs,R5 ha.1 (fun l hl=>(ha.2 l hl).1) hin hin];by_cases e:r=i/\s=i
  ·rw[aaa e,q4]
   exact⟨fun _=>aad (by omega),fun _=>aam (aam o2)⟩
  ·rw[aab e]
   constructor
   ·rintro(h|h)
    ·exact aam h
    ·exact aad (by omega)
   ·rintro(h|h)
    ·exact aam h
    ·exact aad (by omega)
inductive Reach (R:Nat->Nat->Prop):Nat->Nat->Prop
 |refl (i):Reach R i i
 |step {i j l}:R i j->Reach R j l->Reach R i l
def Reach.trans{R:Nat->Nat->Prop}{i j l:Nat}(h:Reach R i j)(h':Reach R j l):Reach R i l:=by
 induction h with
 |refl=>exact h'
 |step r _ ih=>exact .step r (ih h')
def Tq{k:Int}{n:Nat}{R:Nat->Nat->Prop}{a s:ak}(ha:OU k n a)(hR:∀i j,R i j->i<n/\j<n)(aCJ:∀i j,i<n->j<n->(aX a i j≠aF k↔R i j))(h:qz k a=.ok s) :
  OU k n s/\∀i j,i<n->j<n->(aX s i j≠aF k↔Reach R i j):=by
 unfold qz at h
 split at h
 ·rename_i hmo
  have hk:kindOk k=true:=by unfold nP at hmo;rw[aaE]at hmo;exact hmo.1
  split at h
  ·cases h
  ·split at h
   ·cases h
   ·rename_i hb
    simp only[aaW]at h;subst h;unfold rT at hb ⊢;rw[ha.1]at hb ⊢;obtain⟨r1,r2⟩:=Rs (R:=R) hk n 0 false a (by omega) ha;obtain⟨d1,d2⟩:=QR hk n 0 (uH k n n 0 false a).1 (uH k n n 0 false a).2 (by omega) r1;have hb':(jq k n 0 (uH k n n 0 false a).1 (uH k n n 0 false a).2).1=false:=by simpa using hb
    obtain⟨q1,q2⟩:=d2 hb';obtain⟨_,q4⟩:=r2 q1;have hc:=q4 ⟨fun i j hi hj hR=>(aCJ i j hi hj).2 hR,fun T h1 _ i j hi hj h3=>h1 i j ((aCJ i j hi hj).1 h3),fun i q j _ hq=>absurd hq (by omega)⟩;refine⟨d1,fun i j hi hj=>?_⟩;rw[q2 i j hi hj];constructor
    ·rintro(h|⟨h,_⟩)
     ·exact hc.sound (Reach R) (fun i j h=>.step h (.refl _)) (fun _ _ _ h h'=>h.trans h') i j hi hj h
     ·rw[h];exact .refl _
    ·intro h
     have key:∀i j,Reach R i j->i<n->j<n->i=j\/aX (uH k n n 0 false a).2 i j≠aF k:=by
      intro i j h
      induction h with
      |refl=>intro _ _;exact aam rfl
      |@step i j l r _ ih=>
       intro hi hl;obtain⟨_,hj⟩:=hR _ _ r;have hij:=hc.base i j hi hj r;rcases ih hj hl with e|e
       ·subst e;exact aad hij
       ·exact aad (hc.trans i j l hi hj hl hij e)
     rcases key i j h hi hj with e|e
     ·exact aad ⟨e,aaS _⟩
     ·exact aam e
 ·cases h
theorem QB{k:Int}{n:Nat}{loose:Bool}(hk:kindOk k=true):∀(arcs:List aO) (b:Bool) (l:Vec) (r:Bool×Vec),H5 k n l->(∀a∈arcs,dZ k n a=true)->kX k loose arcs (b,l)=.ok r ->
  H5 k n r.2/\(r.1=true↔b=true\/∃a∈arcs,fits 0 0 loose a)/\∀q,q<n->(r.2.getD q []≠aF k↔l.getD q []≠aF k\/∃a∈arcs,fits 0 0 loose a/\a.to=q)
 |[],b,l,r,hl,_,h=>by
  simp only[kX,aaW]at h;subst h;refine⟨hl,⟨fun h=>aam h,fun h=>h.elim id (fun h=>?_)⟩,fun q hq=>⟨fun h=>aam h,fun h=>h.elim id (fun h=>?_)⟩⟩
  ·obtain⟨a,ha,_⟩:=h;cases ha
  ·obtain⟨a,ha,_⟩:=h;cases ha
 |a::s,b,l,r,hl,ha,h=>by
  have ha0:=ha a aal;have har:=fun b hb=>ha b (aaj a hb)
  unfold kX at h;by_cases hc:a.inn≠0\/(a.out≠0/\loose=false)
  ·rw[aaa hc]at h
   have hnf:=PU.1 hc;obtain⟨h1,h2,h3⟩:=QB hk s b l r hl har h;refine⟨h1,?_,fun q hq=>?_⟩
   ·rw[h2]
    constructor
    ·rintro(e|⟨c,hcm,e⟩)
     ·exact aam e
     ·exact aad ⟨c,aaj _ hcm,e⟩
    ·rintro(e|⟨c,hcm,e⟩)
     ·exact aam e
     ·rcases aay.1 hcm with rfl|hcm
      ·exact absurd e hnf
      ·exact aad ⟨c,hcm,e⟩
   ·rw[h3 q hq]
    constructor
    ·rintro(e|⟨c,hcm,e⟩)
     ·exact aam e
     ·exact aad ⟨c,aaj _ hcm,e⟩
    ·rintro(e|⟨c,hcm,e⟩)
     ·exact aam e
     ·rcases aay.1 hcm with rfl|hcm
      ·exact absurd e.1 hnf
      ·exact aad ⟨c,hcm,e⟩
  ·rw[aab hc]at h
   have hf:fits 0 0 loose a:=abb.1 (fun e=>hc (PU.2 e));unfold dZ at ha0;simp only[aaE,aax]at ha0;obtain⟨w1,w2⟩:=Pv ha0.2;have hto:a.to.toNat<n:=by omega
   split at h
   ·cases h
   ·rename_i hp
    simp only[abb]at hp;obtain⟨p1,p2⟩:=Qu (hl.at hto) w1 hp;obtain⟨h1,h2,h3⟩:=QB hk s true _ r (hl.set a.to.toNat p1) har h;refine⟨h1,?_,fun q hq=>?_⟩
    ·rw[h2]
     exact⟨fun _=>aad ⟨a,aal,hf⟩,fun _=>aam rfl⟩
    ·rw[h3 q hq,aAb _ _ _ _ (by rw[hl.1];exact hto)]
     by_cases e:a.to.toNat=q
     ·have hq':a.to=q:=by omega
      rw[aaa e,p2];exact⟨fun _=>aad ⟨a,aal,hf,hq'⟩,fun _=>aam (aad w2)⟩
     ·rw[aab e]
      constructor
      ·rintro(h|⟨c,hcm,h⟩)
       ·exact aam h
       ·exact aad ⟨c,aaj _ hcm,h⟩
      ·rintro(h|⟨c,hcm,h⟩)
       ·exact aam h
       ·rcases aay.1 hcm with rfl|hcm
        ·exact absurd (show _=q by omega) e
        ·exact aad ⟨c,hcm,h⟩
theorem RA{m:aQ}(hm:bM m=true){loose:Bool}:∀(ss:List bI) (b:Bool) (l:ak) (r:Bool×ak),(∀s∈ss,∀a∈s.arcs,dZ m.kind m.states.length a=true)->kG m loose ss (b,l)=.ok r ->
  ∃rows:ak,r.2=l++rows/\rows.length=ss.length/\(∀x∈rows,H5 m.kind m.states.length x)/\(r.1=true↔b=true\/∃s∈ss,∃a∈s.arcs,fits 0 0 loose a) ∧
   ∀i,(hi:i<ss.length)->∀q,q<m.states.length->(aX rows i q≠aF m.kind ↔ ∃a∈ss[i].arcs,fits 0 0 loose a/\a.to=q)
 |[],b,l,r,_,h=>by
  simp only[kG,aaW]at h;subst h;refine⟨[],by simp,rfl,(fun x hx=>by cases hx),⟨fun h=>aam h,fun h=>h.elim id (fun h=>?_)⟩,fun i hi=>absurd hi (by simp)⟩;obtain⟨a,ha,_⟩:=h;cases ha
 |s::t,b,l,r,ha,h=>by
  obtain⟨hk,_⟩:=Pt hm;unfold kG at h;obtain⟨x,e1,e2⟩:=O6 h;obtain⟨g1,g2,g3⟩:=QB hk s.arcs b (eT m) x (PP hk) (ha s aal) e1;obtain⟨rows,f1,f2,f3,f4,f5⟩:=RA hm t x.1 (l++[x.2]) r (fun q hq=>ha q (aaj _ hq)) e2;refine⟨x.2::rows,by rw[f1];simp,by simp[f2],fun y hy=>?_,?_,fun i hi q hq=>?_⟩
  ·rcases aay.1 hy with rfl|hy
   ·exact g1
   ·exact f3 y hy
  ·rw[f4,g2]
   constructor
   ·rintro((e|⟨a,e⟩)|⟨q,hq,e⟩)
    ·exact aam e
    ·exact aad ⟨s,aal,a,e⟩
    ·exact aad ⟨q,aaj _ hq,e⟩
   ·rintro(e|⟨q,hq,e⟩)
    ·exact aam (aam e)
    ·rcases aay.1 hq with rfl|hq
     ·obtain⟨a,e⟩:=e
      exact aam (aad ⟨a,e⟩)
     ·exact aad ⟨q,hq,e⟩
  ·cases i with
   |zero=>
    have:=g3 q hq;rw[P5 m hq]at this;unfold aX;show x.2.getD q []≠_↔_;rw[this];exact⟨fun h=>h.elim (fun e=>absurd rfl e) id,fun h=>aad h⟩
   |succ i=>
    have:=f5 i (by simpa using hi) q hq;unfold aX at this ⊢
    simpa using this
def O8(m:aQ)(loose:Bool)(i j:Nat):Prop:=i<m.states.length/\j<m.states.length/\∃a∈OX m i,fits 0 0 loose a/\a.to=j
def P7(m:aQ)(loose:Bool)(star:Option ak):Prop:=
 match star with
 |none=>∀i j,¬ O8 m loose i j
 |some s=>OU m.kind m.states.length s/\∀i j,i<m.states.length->j<m.states.length->(aX s i j≠aF m.kind↔Reach (O8 m loose) i j)
def Tm{m:aQ}(hm:bM m=true){loose:Bool}{star:Option ak}(h:qy m loose=.ok star):P7 m loose star:=by
 obtain⟨hk,ha⟩:=Pt hm;unfold qy at h;obtain⟨x,e1,e2⟩:=O6 h;obtain⟨rows,f1,f2,f3,f4,f5⟩:=RA hm m.states false [] x ha e1;rw[abH]at f1;by_cases hb:x.1=false
 ·rw[aaa hb]at e2
  simp only[aaW]at e2;subst e2;rintro i j ⟨hi,hj,a,ha',hf,_⟩;rw[(Pp hi).1]at ha';have:=f4.2 (aad ⟨_,aag hi,a,ha',hf⟩);rw[hb]at this;cases this
 ·rw[aab hb]at e2
  split at e2
  ·cases e2
  ·obtain⟨s,e3,e4⟩:=O6 e2
   simp only[aaW]at e4;subst e4;rw[f1]at e3;refine Tq (R:=O8 m loose) ⟨f2,f3⟩ (fun i j h=>⟨h.1,h.2.1⟩) (fun i j hi hj=>?_) e3;rw[f5 i hi j hj];constructor
   ·intro h
    exact⟨hi,hj,by rw[(Pp hi).1];exact h⟩
   ·rintro⟨_,_,h⟩
    rwa[(Pp hi).1]at h
theorem Qx{k:Int}{n:Nat}{v:Bs}(hv:aT k v=true):∀(r:Vec) (p:Nat) (l l':Vec),p+r.length<=n->H5 k n l->(∀x∈r,aT k x=true)->lT k v r p l=.ok l' ->
  H5 k n l'/\∀q,q<n->(l'.getD q []≠aF k↔l.getD q []≠aF k\/(v≠aF k/\∃i,i<r.length/\r.getD i []≠aF k/\p+i=q))
 |[],p,l,l',_,hl,_,h=>by
  simp only[lT,aaW]at h;subst h;refine⟨hl,fun q hq=>⟨fun h=>aam h,fun h=>h.elim id (fun h=>?_)⟩⟩;obtain⟨_,i,hi,_⟩:=h;exact absurd hi (by simp)
 |s::r,p,l,l',hp,hl,hr,h=>by
  rw[aaF]at hp;have hs:=hr s aal;have hr':=fun x hx=>hr x (aaj s hx)
  unfold lT at h;by_cases hc:v=aF k\/s=aF k
  ·rw[aaa hc]at h
   obtain⟨h1,h2⟩:=Qx hv r (p+1) l l' (by omega) hl hr' h;refine⟨h1,fun q hq=>?_⟩;rw[h2 q hq];constructor
   ·rintro(e|⟨e,i,hi,e2,e3⟩)
    ·exact aam e
    ·exact aad ⟨e,i+1,by simpa using hi,by simpa using e2,by omega⟩
   ·rintro(e|⟨e,i,hi,e2,e3⟩)
    ·exact aam e
    ·cases i with
     |zero=>exact absurd (hc.resolve_left e) (by simpa using e2)
     |succ i=>exact aad ⟨e,i,by simpa using hi,by simpa using e2,by omega⟩
  ·rw[aab hc]at h
   obtain⟨l1,e1,e2⟩:=O6 h;obtain⟨g1,g2⟩:=P8 hl (show p<n by omega) hv hs e1;obtain⟨h1,h2⟩:=Qx hv r (p+1) l1 l' (by omega) g1 hr' e2;refine⟨h1,fun q hq=>?_⟩;rw[h2 q hq,g2 q hq];constructor
   ·rintro((e|⟨e,e',e''⟩)|⟨e,i,hi,e2,e3⟩)
    ·exact aam e
    ·exact aad ⟨e',0,by simp,by simpa using e'',by omega⟩
    ·exact aad ⟨e,i+1,by simpa using hi,by simpa using e2,by omega⟩
   ·rintro(e|⟨e,i,hi,e2,e3⟩)
    ·exact aam (aam e)
    ·cases i with
     |zero=>exact aam (aad ⟨by omega,e,by simpa using e2⟩)
     |succ i=>exact aad ⟨e,i,by simpa using hi,by simpa using e2,by omega⟩
theorem Rp{k:Int}{n:Nat}:∀(v:Vec) (a:ak) (l l':Vec),v.length=a.length->H5 k n l->(∀x∈v,aT k x=true)->(∀r∈a,H5 k n r)->lU k v a l=.ok l' ->
  H5 k n l'/\∀q,q<n->(l'.getD q []≠aF k↔l.getD q []≠aF k\/∃i,i<v.length/\v.getD i []≠aF k/\aX a i q≠aF k)
 |[],a,l,l',_,hl,_,_,h=>by
  simp only[lU,aaW]at h;subst h;refine⟨hl,fun q hq=>⟨fun h=>aam h,fun h=>h.elim id (fun h=>?_)⟩⟩;obtain⟨i,hi,_⟩:=h;exact absurd hi (by simp)
 |x::v,[],l,l',hla,_,_,_,_=>by simp at hla
 |x::v,r::a,l,l',hla,hl,hv,ha,h=>by
  unfold lU at h;obtain⟨l1,e1,e2⟩:=O6 h;have hr:=ha r aal;obtain⟨g1,g2⟩:=Qx (hv x aal) r 0 l l1 (by rw[hr.1];omega) hl hr.2 e1;obtain⟨h1,h2⟩:=Rp v a l1 l' (by simpa using hla) g1 (fun y hy=>hv y (aaj _ hy)) (fun y hy=>ha y (aaj _ hy)) e2;refine⟨h1,fun q hq=>?_⟩;rw[h2 q hq,g2 q hq];constructor
  ·rintro((e|⟨e,i,hi,e2,e3⟩)|⟨i,hi,e2,e3⟩)
   ·exact aam e
   ·refine aad ⟨0,by simp,by simpa using e,?_⟩
    unfold aX;rw[aaP]at e3;subst e3
    simpa using e2
   ·refine aad ⟨i+1,by simpa using hi,by simpa using e2,?_⟩
    unfold aX at e3 ⊢
    simpa using e3
  ·rintro(e|⟨i,hi,e2,e3⟩)
   ·exact aam (aam e)
   ·cases i with
    |zero=>
     refine aam (aad ⟨by simpa using e2,q,by rw[hr.1];exact hq,?_,by omega⟩);unfold aX at e3
     simpa using e3
    |succ i=>
     refine aad ⟨i,by simpa using hi,by simpa using e2,?_⟩;unfold aX at e3 ⊢
     simpa using e3
def SN{R:Nat->Nat->Prop}(h:∀i j,¬ R i j){i j:Nat}(hr:Reach R i j):i=j:=by
 cases hr with
 |refl=>rfl
 |step r _=>exact absurd r (h _ _)
def Rq{m:aQ}(hm:bM m=true){loose:Bool}{star:Option ak}(hs:P7 m loose star){v v':Vec}(hv:H5 m.kind m.states.length v)(h:uB m v star=.ok v') :
  H5 m.kind m.states.length v'/\∀q,q<m.states.length->(v'.getD q []≠aF m.kind ↔ ∃i,i<m.states.length/\v.getD i []≠aF m.kind/\Reach (O8 m loose) i q):=by
 obtain⟨hk,_⟩:=Pt hm;unfold uB at h
 cases star with
 |none=>
  simp only[aaW]at h;subst h;refine⟨hv,fun q hq=>⟨fun h=>⟨q,hq,h,.refl _⟩,?_⟩⟩;rintro⟨i,_,h,hr⟩;rwa[SN hs hr]at h
 |some s=>
  obtain⟨s1,s2⟩:=hs;obtain⟨h1,h2⟩:=Rp v s (eT m) v' (by rw[hv.1,s1.1]) (PP hk) hv.2 s1.2 h;refine⟨h1,fun q hq=>?_⟩;rw[h2 q hq,P5 m hq,hv.1];constructor
  ·rintro(e|⟨i,hi,e,e2⟩)
   ·exact absurd rfl e
   ·exact⟨i,hi,e,(s2 i q hi hq).1 e2⟩
  ·rintro⟨i,hi,e,e2⟩
   exact aad ⟨i,hi,e,(s2 i q hi hq).2 e2⟩
def QN{m:aQ}(hm:bM m=true){i:Nat}{a:aO}(h:a∈OX m i):0<=a.to/\a.to.toNat<m.states.length:=by
 obtain⟨_,ha⟩:=Pt hm;unfold OX at h;rw[aaf]at h
 cases hg:m.states[i]? with
 |none=>rw[hg]at h;cases h
 |some s=>
  rw[hg]at h;have:=ha s (abC hg) a h;unfold dZ at this;simp only[aaE,aax]at this;omega
def Sw{m:aQ}(hm:bM m=true):∀s∈m.states,s.fin=[]\/bg m.kind s.fin=true:=by
 intro s hs;unfold bM at hm;simp only[aaE,aaT]at hm;have:=hm.1.2 s hs;unfold aBP at this;simp only[aaE,aca,aax]at this;exact this.1
theorem QZ{γ:Type}[DecidableEq γ]:∀ {l:List γ} {p:γ} {n:Nat},jr l p=some n->l[n]? = some p
 |[],p,n,h=>by cases h
 |q::r,p,n,h=>by
  unfold jr at h
  split at h
  ·rename_i e;cases h;rw[e];rfl
  ·cases hf:jr r p with
   |none=>rw[hf]at h;cases h
   |some k=>
    rw[hf]at h;simp only[aba,aao]at h;subst h
    simpa using QZ hf
def Ty{γ:Type}[DecidableEq γ](l:List γ)(p:γ):(dG l p).2[(dG l p).1]? = some p/\∃r,(dG l p).2=l++r:=by
 unfold dG
 cases h:jr l p with
 |some n=>exact⟨QZ h,[],by simp⟩
 |none=>exact⟨by simp,[p],rfl⟩
def get_append{γ:Type}{l r:List γ}{n:Nat}{x:γ}(h:l[n]? = some x):(l++r)[n]? = some x:=by
 rw[adi (aby.1 h).1];exact h
def Ps(t:List Bs)(a:aO)(k:Nat):aO:=⟨fE t a.inn,fE t a.out,a.w,k⟩
theorem Qd{t fs:List Bs}{mem:Bs}:∀(arcs:List aO) (l:List aR) (out:List aO),
  (∃r,(iO t fs mem arcs l out).2=l++r)/\(∀b∈out,b∈(iO t fs mem arcs l out).1)/\(∀a∈arcs,∀τ,jy t fs mem a=some τ->∃k:Nat,(iO t fs mem arcs l out).2[k]? = some (a.to,τ)/\Ps t a k∈(iO t fs mem arcs l out).1) ∧
   ∀b∈(iO t fs mem arcs l out).1,b∈out\/∃u:Int,b.inn=fE t u
 |[],l,out=>⟨⟨[],by simp[iO]⟩,(fun b hb=>hb),(fun a ha=>by cases ha),(fun b hb=>aam hb)⟩
 |a::r,l,out=>by
  unfold iO
  cases hn:jy t fs mem a with
  |none=>
   obtain⟨h1,h2,h3,h4⟩:=Qd (t:=t) (fs:=fs) (mem:=mem) r l out;refine⟨h1,h2,fun b hb τ hτ=>?_,h4⟩;rcases aay.1 hb with rfl|hb
   ·rw[hn]at hτ;cases hτ
   ·exact h3 b hb τ hτ
  |some tz=>
   simp only[];obtain⟨v1,s,v2⟩:=Ty l (a.to,tz);obtain⟨⟨s2,h1⟩,h2,h3,h4⟩:=Qd (t:=t) (fs:=fs) (mem:=mem) r (dG l (a.to,tz)).2 (out++[⟨fE t a.inn,fE t a.out,a.w,(dG l (a.to,tz)).1⟩]);refine⟨⟨s++s2,by rw[h1,v2,aaZ]⟩,fun b hb=>h2 b (abB _ hb),fun b hb τ hτ=>?_,fun b hb=>?_⟩
   ·rcases aay.1 hb with rfl|hb
    ·rw[hn]at hτ
     cases hτ
     exact⟨_,by rw[h1];exact get_append v1,h2 _ (ab6 _ (by simp[Ps]))⟩
    ·exact h3 b hb τ hτ
   ·rcases h4 b hb with h|h
    ·rcases aaG.1 h with h|h
     ·exact aam h
     ·rw[aar]at h
      exact aad ⟨a.inn,by rw[h]⟩
    ·exact aad h
def QK(m:aQ)(t fs:List Bs)(L:List aR)(p:aR)(s:bI):Prop:=
 s.fin=(wL m p.1).fin/\(∀a∈(wL m p.1).arcs,∀τ,jy t fs p.2 a=some τ->∃k:Nat,L[k]? = some (a.to,τ)/\Ps t a k∈s.arcs)/\∀b∈s.arcs,∃u:Int,b.inn=fE t u
theorem QU{m:aQ}{t fs:List Bs}:∀(n i:Nat) (l:List aR) (out:List bI) (c:Nat) (x:List bI),out.length=i->i<=l.length->lC m t fs n i l out c=some x ->
  ∃L:List aR,(∃r,L=l++r)/\x.length=L.length/\(∃r,x=out++r)/\∀(j:Nat) (p:aR),i<=j->L[j]? = some p->∃s,x[j]? = some s/\QK m t fs L p s
 |0,i,l,out,c,x,_,_,h=>by cases h
 |n+1,i,l,out,c,x,h1,h2,h=>by
  unfold lC at h;by_cases hi:i<l.length
  ·rw[afd hi]at h
   simp only[]at h;obtain⟨⟨r,e1⟩,e2,e3,e4⟩:=Qd (t:=t) (fs:=fs) (mem:=l[i].2) (wL m l[i].1).arcs l []
   split at h
   ·cases h
   ·have el:=aaw List.length e1
    rw[aas]at el;obtain⟨L,⟨r2,f1⟩,f2,⟨r3,f3⟩,f4⟩:=QU n (i+1) _ _ _ x (by simp[h1]) (by omega) h;refine⟨L,⟨r++r2,by rw[f1,e1,aaZ]⟩,f2,⟨_::r3,by rw[f3,aaZ];rfl⟩,fun j p hj hp=>?_⟩;by_cases hji:j=i
    ·subst hji
     have hpl:p=l[j]:=by
      rw[f1,e1,aaZ,adi hi,aak hi]at hp
      cases hp;rfl
     subst hpl;refine⟨⟨(wL m l[j].1).fin,(iO t fs l[j].2 (wL m l[j].1).arcs l []).1⟩,?_,rfl,fun a ha τ hτ=>?_,fun b hb=>(e4 b hb).resolve_left (fun h=>by cases h)⟩
     ·rw[f3,aaZ,aaU (by omega),h1];simp
     ·obtain⟨k,k1,k2⟩:=e3 a ha τ hτ
      exact⟨k,by rw[f1];exact get_append k1,k2⟩
    ·exact f4 j p (by omega) hp
  ·rw[aek hi]at h
   cases h
   refine⟨l,⟨[],by simp⟩,by omega,⟨[],by simp⟩,fun j p hj hp=>?_⟩;have:=(aby.1 hp).1;omega
def Qm(t:List Bs):dD t 0=none:=by unfold dD;rw[aab (by omega)]
def P9{t:List Bs}{s:Int}(h:dD t s=none):fE t s=s:=by unfold fE;rw[h];rfl
def QO{t:List Bs}{s:Int}{f:aH}(h:dD t s=some f):fE t s=0:=by unfold fE;rw[h];rfl
def R6(t:List Bs)(s:Int):dD t (fE t s)=none:=by
 cases h:dD t s with
 |none=>rw[P9 h];exact h
 |some f=>rw[QO h];exact Qm t
structure Px (m n:aQ) (t fs:List Bs) (L:List aR):Prop where
 len:n.states.length=L.length
 acc:qQ m=true
 nod:fs.Nodup
 feats:∀i,∀a∈OX m i,∀f,eO t a=some f->f.feat∈fs
 tells:∀(j:Nat) (p:aR),L[j]? = some p->∃s,n.states[j]? = some s/\QK m t fs L p s
def Px.at{m n:aQ}{t fs:List Bs}{L:List aR}(W:Px m n t fs L){j:Nat}{p:aR}(h:L[j]? = some p):Pz n j=(wL m p.1).fin/\(∀a∈(wL m p.1).arcs,∀τ,jy t fs p.2 a=some τ->∃k:Nat,L[k]? = some (a.to,τ)/\Ps t a k∈OX n j):=by
 obtain⟨s,h1,h2,h3,_⟩:=W.tells j p h;have e:n.states.getD j ⟨[],[]⟩=s:=by rw[aaf,h1];rfl
 unfold Pz OX;rw[e];exact⟨h2,h3⟩
theorem Qh:∀ {l:wF} {f v:Bs},jr (l.map Prod.fst) f=none->wV l f v=l++[(f,if v=[] then [] else [v])]
 |[],f,v,_=>rfl
 |(k,vs)::r,f,v,h=>by
  rw[aa5,jr]at h
  split at h
  ·cases h
  ·rename_i hne
   rw[wV,aab hne,Qh (by simpa using h)]
   rfl
theorem Qi:∀ {l:wF} {f v:Bs} {i:Nat},jr (l.map Prod.fst) f=some i->∃h:i<l.length,wV l f v=l.set i (f,if v=[]\/v∈l[i].2 then l[i].2 else l[i].2++[v])
 |(k,vs)::r,f,v,i,h=>by
  rw[aa5,jr]at h
  split at h
  ·rename_i he
   cases h
   refine⟨by simp,?_⟩;rw[wV,aaa he,<-he]
   rfl
  ·rename_i hne
   rw[aew]at h;obtain⟨j,hj,rfl⟩:=h;obtain⟨hl,e⟩:=Qi (v:=v) hj;refine⟨by simpa using hl,?_⟩;rw[wV,aab hne,e]
   rfl
theorem Q4{γ:Type}[DecidableEq γ]:∀ {l:List γ} {p:γ} {i:Nat},l.Nodup->(h:i<l.length)->l[i]=p->jr l p=some i
 |a::r,p,0,_,_,h=>by rw[jr,aaa (show a=p from h)]
 |a::r,p,i+1,hn,hl,h=>by
  rw[aa8]at hn;rw[jr,aab (fun e=>hn.1 (by rw[e,<-h];exact aag _)),Q4 hn.2 (by simpa using hl) h]
  rfl
theorem Q5{γ:Type}[DecidableEq γ]:∀ {l:List γ} {p:γ},(∀x∈l,x≠p)->jr l p=none
 |[],p,_=>rfl
 |a::r,p,h=>by
  rw[jr,aab (h a aal),Q5 (fun x hx=>h x (aaj _ hx))]
  rfl
def Si{l:wF}{f v:Bs}(h:(l.map Prod.fst).Nodup):((wV l f v).map Prod.fst).Nodup:=by
 rw[PT]
 split
 ·exact h
 ·rename_i hn
  rw[adD];exact⟨h,by simp,fun a ha b hb=>by rw[aar]at hb;subst hb;exact fun e=>hn (e ▸ ha)⟩
def Sg{l:wF}{f v:Bs}:(wV l f v).length<=l.length+1:=by
 have:=aaw List.length (PT l f v);rw[aaC]at this;rw[this]
 split<;>simp
def O0(n:Nat)(l:wF):Prop:=l.length<=n/\∀x∈l,x.2.length<=n
def QV{n:Nat}{l:wF}{f v:Bs}(h:O0 n l):O0 (n+1) (wV l f v):=by
 refine⟨aaB Sg (by have:=h.1;omega),fun x hx=>?_⟩
 cases hf:jr (l.map Prod.fst) f with
 |none=>
  rw[Qh hf]at hx;rcases aaG.1 hx with hx|hx
  ·have:=h.2 x hx;omega
  ·rw[aar]at hx
   subst hx;simp only
   split<;>simp
 |some i=>
  obtain⟨hi,e⟩:=Qi (v:=v) hf;rw[e]at hx;rcases ab0 hx with hx|rfl
  ·have:=h.2 x hx;omega
  ·have:=h.2 _ (aag hi)
   simp only
   split
   ·omega
   ·simp;omega
def Sd(t:List Bs)(a:aO)(r:List aO)(l:wF):OT t (a::r) l=OT t r (match eO t a with|some f=>wV l f.feat f.val|none=>l):=by
 rw[OT]
 cases eO t a<;>rfl
open Go Go.RowKit Go.Maps
structure OP (W:World) (B:Nat) (fv vv:Value) (us:List Value) (fs:List Bs) (ls:List (List Bs)):Prop where
 of:W.ownsRow B 9 1 fv fs.length (fs.map S)
 ov:W.ownsRow B 22 1 vv us.length us
 ul:us.length=ls.length
 ow:∀i (h:i<us.length) (h':i<ls.length),W.ownsRow B 9 1 us[i] ls[i].length (ls[i].map S)
 n1:∀g,fv.ownBlock=some g->vv.ownBlock≠some g
 n2:∀u∈us,∀g,u.ownBlock=some g->fv.ownBlock≠some g/\vv.ownBlock≠some g
 n3:∀i j (hi:i<us.length) (hj:j<us.length),i≠j->∀g,us[i].ownBlock=some g->us[j].ownBlock≠some g
def OP.chg{W W':World}{B:Nat}{fv vv:Value}{us:List Value}{fs:List Bs}{ls:List (List Bs)}(h:OP W B fv vv us fs ls)(hc:aB (fun _=>False) W W'):OP W' B fv vv us fs ls:=
 ⟨eP h.of hc (fun _ _ e=>e),eP h.ov hc (fun _ _ e=>e),h.ul,fun i a b=>eP (h.ow i a b) hc (fun _ _ e=>e),h.n1,h.n2,h.n3⟩
def OP.below{W W':World}{B:Nat}{fv vv:Value}{us:List Value}{fs:List Bs}{ls:List (List Bs)}(h:OP W B fv vv us fs ls)(hb:Below W W W'):OP W' B fv vv us fs ls:=h.chg (aB.of_new hb)
def Po{W w4:World}{v u:Value}{E':TypeId}{B m g:Nat}{ys:List Value}(hs:W.heap.size<=w4.heap.size)(hu:W.ownsRow B E' 1 u m ys)(hne:∀g,v.ownBlock=some g->u.ownBlock≠some g)(hat:v.ownBlock=some g\/g=w4.heap.size+1):u.ownBlock≠some g:=by
 rcases hat with e|e
 ·exact hne g e
 ·intro e'
  have:=(hu.lt g e').2;omega
section
variable {W w4 w5:World} {B:Nat} {fv vv:Value} {us:List Value} {fs:List Bs} {ls:List (List Bs)} {o:Obj} {g cap:Nat}
def OP.feat(h:OP W B fv vv us fs ls)(hc:aB (fun _=>False) W w4){f:Bs}(ho:w5.ownsRow B 9 1 (.slice (some ⟨g,0,none⟩) (fs.length+1) cap) (fs.length+1) (fs.map S++[S f]))(hgr:(w4.alloc o).grownBy w5 fv.ownBlock)(hat:fv.ownBlock=some g\/g=w4.heap.size+1) :
  OP w5 B (.slice (some ⟨g,0,none⟩) (fs.length+1) cap) vv us (fs++[f]) ls:=by
 have c1:aB (fun b=>fv.ownBlock=some b) W w5:=(hc.trans (p9 (fun _=>False) w4 o) (fun _ _ e=>e)).mono (fun _ _ e=>e.elim) |>.trans (aB.of_grown hgr) (fun _ _ e=>e)
 refine⟨by rw[aas,aa3];exact ho,eP h.ov c1 (fun g' hg e=>h.n1 g' e hg),h.ul,fun i a b=>eP (h.ow i a b) c1 (fun g' hg e=>(h.n2 _ (aag a) g' hg).1 e),?_,?_,h.n3⟩
 ·intro g' hg
  simp only[Value.ownBlock,aao]at hg;subst hg;exact Po hc.size h.ov h.n1 hat
 ·intro u hu g' hg
  refine⟨fun e=>?_,(h.n2 u hu g' hg).2⟩;simp only[Value.ownBlock,aao]at e;subst e;obtain⟨i,hi,rfl⟩:=abr hu;exact Po hc.size (h.ow i hi (by rw[<-h.ul];exact hi)) (fun g h1 h2=>(h.n2 _ hu g h2).1 h1) hat hg
def OP.vals(h:OP W B fv vv us fs ls)(hc:aB (fun _=>False) W w4)(ho:w5.ownsRow B 22 1 (.slice (some ⟨g,0,none⟩) (us.length+1) cap) (us.length+1) (us++[.slice none 0 0]))(hgr:(w4.alloc o).grownBy w5 vv.ownBlock)(hat:vv.ownBlock=some g\/g=w4.heap.size+1) :
  OP w5 B fv (.slice (some ⟨g,0,none⟩) (us.length+1) cap) (us++[.slice none 0 0]) fs (ls++[[]]):=by
 have c1:aB (fun b=>vv.ownBlock=some b) W w5:=(hc.trans (p9 (fun _=>False) w4 o) (fun _ _ e=>e)).mono (fun _ _ e=>e.elim) |>.trans (aB.of_grown hgr) (fun _ _ e=>e)
 have WV:=h.ul;refine⟨eP h.of c1 (fun g' hg e=>h.n1 g' hg e),by rw[aas];exact ho,by simp[WV],fun i a b=>?_,?_,?_,?_⟩
 ·rcases aaz i us.length with hi|hi
  ·have:=eP (h.ow i hi (by omega)) c1 (fun g' hg e=>(h.n2 _ (aag hi) g' hg).2 e)
   simp only[abD hi,abD (show i<ls.length by omega)];exact this
  ·have hi':i=us.length:=by simp at a;omega
   subst hi';simp only[aa7 (Pe _),abx];simp only[WV,aa7 (Pe _),abx];exact abN _ _ _ _
 ·intro g' hg e
  simp only[Value.ownBlock,aao]at e;subst e;exact Po hc.size h.of (fun g h1 h2=>h.n1 g h2 h1) hat hg
 ·intro u hu g' hg
  rcases aaG.1 hu with hu|hu
  ·refine⟨(h.n2 u hu g' hg).1,fun e=>?_⟩
   simp only[Value.ownBlock,aao]at e;subst e;obtain⟨i,hi,rfl⟩:=abr hu;exact Po hc.size (h.ow i hi (by omega)) (fun g h1 h2=>(h.n2 _ hu g h2).2 h1) hat hg
  ·rw[aar]at hu
   subst hu;simp[Value.ownBlock]at hg
 ·intro i j hi hj hij g' hg e
  rcases aaz i us.length with h1|h1
  ·rw[abD h1]at hg
   rcases aaz j us.length with h2|h2
   ·rw[abD h2]at e
    exact h.n3 i j h1 h2 hij g' hg e
   ·have:j=us.length:=by simp at hj;omega
    subst this;rw[aa7 (Pe _)]at e;simp[Value.ownBlock]at e
  ·have:i=us.length:=by simp at hi;omega
   subst this;rw[aa7 (Pe _)]at hg;simp[Value.ownBlock]at hg
def OP.push{gv cv i:Nat}(h:OP W B fv (.slice (some ⟨gv,0,none⟩) us.length cv) us fs ls)(hc:aB (fun _=>False) W w4)(hi:i<us.length)(hi':i<ls.length){f:Bs}(ho:w5.ownsRow B 9 1 (.slice (some ⟨g,0,none⟩) (ls[i].length+1) cap) (ls[i].length+1) (ls[i].map S++[S f]))(hgr:(w4.alloc o).grownBy w5 us[i].ownBlock)(hat:us[i].ownBlock=some g\/g=w4.heap.size+1) :
  OP (w5.setCell ⟨gv,i,none⟩ (.slice (some ⟨g,0,none⟩) (ls[i].length+1) cap)) B fv (.slice (some ⟨gv,0,none⟩) us.length cv) (us.set i (.slice (some ⟨g,0,none⟩) (ls[i].length+1) cap)) fs (ls.set i (ls[i]++[f])):=by
 have c1:aB (fun b=>us[i].ownBlock=some b) W w5:=(hc.trans (p9 (fun _=>False) w4 o) (fun _ _ e=>e)).mono (fun _ _ e=>e.elim) |>.trans (aB.of_grown hgr) (fun _ _ e=>e)
 have c2:=dP w5 gv i (.slice (some ⟨g,0,none⟩) (ls[i].length+1) cap);have hm:=aag hi;have WV:=h.ul;have hov5:=eP h.ov c1 (fun g' hg e=>(h.n2 _ hm g' e).2 hg);have hst:=(hov5.stored i (.slice (some ⟨g,0,none⟩) (ls[i].length+1) cap)).1;have hgn:(Value.slice (some ⟨gv,0,none⟩) us.length cv).ownBlock≠some g:=Po hc.size h.ov (fun g h1 h2=>(h.n2 _ hm g h1).2 h2) hat;have hgf:fv.ownBlock≠some g:=Po hc.size h.of (fun g h1 h2=>(h.n2 _ hm g h1).1 h2) hat;have hgu:∀j (hj:j<us.length),j≠i->us[j].ownBlock≠some g:=fun j hj hji=>Po hc.size (h.ow j hj (by omega)) (fun g h1 h2=>h.n3 i j hi hj (acx hji) g h1 h2) hat
 have hgvb:∀u∈us,u.ownBlock≠some gv:=fun u hu e=>(h.n2 u hu gv e).2 rfl
 refine⟨?_,?_,by simp[WV],fun j a b=>?_,h.n1,?_,?_⟩
 ·exact eP (eP h.of c1 (fun g' hg e=>(h.n2 _ hm g' e).1 hg)) c2 (fun g' hg e=>h.n1 g' hg (by rw[e];rfl))
 ·rw[abh];exact hst
 ·rw[abh]at a b
  by_cases e:i=j
  ·subst e
   simp only[acJ];rw[aas,aa3];exact eP ho c2 (fun g' hg e=>hgn (by
    simp only[Value.ownBlock,aao]at hg;rw[hg,e];rfl))
  ·simp only[aco e]
   exact eP (eP (h.ow j a b) c1 (fun g' hg e'=>h.n3 i j hi a e g' e' hg)) c2 (fun g' hg e'=>hgvb _ (aag a) (by rw[hg,e']))
 ·intro u hu g' hg
  rcases ab0 hu with hu|rfl
  ·exact h.n2 u hu g' hg
  ·simp only[Value.ownBlock,aao]at hg
   subst hg;exact⟨hgf,hgn⟩
 ·intro a b ha hb hab g' hg e
  rw[abh]at ha hb;by_cases h1:i=a
  ·subst h1
   rw[acJ]at hg;rw[aco hab]at e;simp only[Value.ownBlock,aao]at hg;subst hg;exact hgu b hb (acx hab) e
  ·rw[aco h1]at hg
   by_cases h2:i=b
   ·subst h2
    rw[acJ]at e;simp only[Value.ownBlock,aao]at e;subst e;exact hgu a ha (acx h1) hg
   ·rw[aco h2]at e
    exact h.n3 a b ha hb hab g' hg e
end
open Go.RowKit Go.Maps
abbrev kK(p:aR):Prop:=(-9223372036854775808<=p.1/\p.1<=9223372036854775807)/\p.2.length<=10000000
def iy(p:aR):Value:=.agg #[.int .i64 p.1,S p.2]
def Cb(n:Nat):Value:=.int .i64 (n:Int)
def IK:laidOutB Tryz.prog=true:=by kernel_rfl
def Kk:WideMaps.KeyLaw Tryz.prog 82:=deep_law_laid IK (m:=2) (by omega) (abp (by kernel_rfl)) (by kernel_rfl) (by rw[aeq])
def Dc:Keyed Tryz.prog 82:=Keyed.of_law Kk
def Kl:Tryz.prog.keyType 82=true:=by kernel_rfl
def Da:Tryz.prog.cellsOf 82=2:=by kernel_rfl
def Db:Enc Tryz.prog 82 iy kK where
 inj:=fun {a b} h=>by
  obtain⟨a1,a2⟩:=a;obtain⟨b1,b2⟩:=b;simp only[iy,S,Value.agg.injEq,Array.mk.injEq,List.cons.injEq,af2,Value.string.injEq,ByteArray.mk.injEq,aeg,acH]at h;rw[h.1,h.2]
 key:=fun a ha=>by
  obtain⟨a1,a2⟩:=a;obtain⟨⟨h1,h2⟩,h3⟩:=ha;obtain⟨d,hd⟩:∃d,Tryz.prog.types.size=d+1:=⟨Tryz.prog.types.size-1,by have:0<Tryz.prog.types.size:=abp (by kernel_rfl);omega⟩;have hsz:(⟨a2.toArray⟩:ByteArray).size<=maxLen:=by
   rw[aae];unfold maxLen;simp only at h3;show a2.length<=_;omega
  have hwf:(Lit.int .i64 a1).wf=true:=by
   show(decide (IntKind.i64.min<=a1)&&decide (a1<=IntKind.i64.max))=true;rw[aaE,aax,aax];exact⟨h1,h2⟩
  have hfm:(iy (a1,a2)).formed Tryz.prog 82=true:=by simp[iy,Value.formed,aeq,Da]
  have hl:(Tryz.prog.keyLits (Tryz.prog.types.size+1) 82 (iy (a1,a2)).cells.toList).isSome=true:=by
   rw[hd];have e1:(iy (a1,a2)).cells.toList=[.int .i64 a1,S a2]:=rfl;rw[e1];unfold Program.keyLits;rw[aeq];have q1:Tryz.prog.keyLits (d+1) 3 [.int .i64 a1]=some [.int .i64 a1]:=by
    unfold Program.keyLits;rw[aaX];simp only;rw[aaa ⟨trivial,hwf⟩]
   have q2:Tryz.prog.keyLits (d+1) 9 [S a2]=some [.string a2]:=by
    unfold Program.keyLits;rw[aaV];unfold S;simp only;rw[aaa hsz]
   have n1:Tryz.prog.cellsOf 3=1:=(by kernel_rfl);have n2:Tryz.prog.cellsOf 9=1:=(by kernel_rfl);simp only[Da];rw[aaa ⟨rfl,by simp⟩];simp only[List.mapM_cons,List.mapM_nil,n1,n2,abj,aa1,ab7,ae9,q1,q2]
   rfl
  obtain⟨ls,hls⟩:=adp.1 hl;refine⟨.string (keyBytes ls),?_⟩;unfold keyOf;rw[aeq];simp only[Kl,hfm,Bool.and_self,acf];rw[hls]
  rfl
abbrev kJ(w:World)(b:Nat)(l:List aR):Prop:=bN Tryz.prog 82 iy Cb w b l.zipIdx
theorem zn:∀(l:List aR) (k:Nat) (p:aR),bO (l.zipIdx k) p=(jr l p).map (· + k)
 |[],k,p=>rfl
 |q::r,k,p=>by
  rw[List.zipIdx_cons];unfold bO jr;by_cases h:q=p
  ·rw[aaa h,aaa h];simp
  ·rw[aab h,aab h,zn r (k+1) p]
   cases jr r p with
   |none=>rfl
   |some n=>simp;omega
def EK{l:List aR}(h:∀p∈l,kK p):∀q∈l.zipIdx,kK q.1:=fun q hq=>h _ (List.mem_zipIdx' hq |>.2 ▸ aag _)
def OE{l:List aR}{p:aR}(h:jr l p=none):bQ l.zipIdx p l.length=(l++[p]).zipIdx:=by
 have hz:=zn l 0 p;rw[h]at hz;rw[vX (yz.1 hz),List.zipIdx_append];simp
def JB(w:World):(zeroValue 3).run Tryz.prog w=.ok (Cb 0) w:=by kernel_rfl
def JM(w:World)(b:Nat)(l:List aR)(h:kJ w b l)(hl:∀p∈l,kK p)(p:aR)(hp:kK p) :
  (Instr.lookup 68 (.map (some b)) (iy p) true).run Tryz.prog w=.ok (.tuple #[.int .i64 ((jr l p).getD 0:Nat),.bool (jr l p).isSome]) w:=by
 have:=bN.look Dc Db Tryz.underlying68 (JB w) h (EK hl) p hp true;rw[this,zn]
 cases jr l p<;>rfl
def JN(w:World)(b:Nat)(l:List aR)(h:kJ w b l)(hl:∀p∈l,kK p)(p:aR)(hp:kK p)(hn:jr l p=none) :
  ∃o,(Instr.mapUpdate 68 (.map (some b)) (iy p) (.int .i64 (l.length:Int))).run Tryz.prog w=.ok () (aU w b o)/\kJ (aU w b o) b (l++[p]):=by
 have:=bN.put Dc Db Tryz.underlying68 h (EK hl) p hp l.length;rw[OE hn]at this;exact this
open Go
section
variable {P:Program} {ops:Array Oper} {md:Region.Mode} {C:World->Prop}
def aC0(P:Program)(md:Region.Mode)(ops:Array Oper)(C:World->Prop)(n:Nat)(L:Array Bool->Act->Prop):Nat->Array Bool->Act->Prop
 |0,s,a=>L s a
 |f+1,s,a=>Region.ready md ops s≠[]/\∀i∈Region.ready md ops s,i<n/\qOp P ops C i (aC0 P md ops C n L f (s.setIfInBounds i true)) a
theorem aC0.any{n g:Nat}{L:Array Bool->Act->Prop}{R:Exit->Act->World->Prop}(hL:∀s a w,C w->L s a->wpAny P md ops R g s a w) :
  ∀(f:Nat) (s:Array Bool) (a:Act) (w:World),C w->aC0 P md ops C n L f s a->wpAny P md ops R (f+g) s a w
 |0,s,a,w,hw,h=>by rw[aaP];exact hL _ _ _ hw h
 |f+1,s,a,w,hw,h=>by
  rw[Nat.add_right_comm];exact⟨fun e=>absurd e h.1,fun i hi=>wpOp_of_qOp hw (fun a' w' hw' k=>aC0.any hL f _ a' w' hw' k) (h.2 i hi).2⟩
def aC0.first{n i:Nat}{o:Oper}{v:Value}{L:Array Bool->Act->Prop}(ho:ops[i]? = some o)(hns:Region.noSelect ops=true)
  (hs:Region.sinkB md ops n=true) (hc:Region.chainB md ops n=true) (hn:n<ops.size) (hin:i<n) (hL:∀s a,L s a->∀j∈Region.ready md ops s,n<=j) :
  ∀(f:Nat) (s:Array Bool) (a:Act),HeadInv md ops n s ->
   (∀j p,ops[j]? = some p->j≠i->s.getD j true=false->(∀e∈p.after,Region.binds md e=true->e.on≠i)->o.apart ops p=true) ->
   i∈Region.ready md ops s->YieldsIn P ops C o v a->aC0 P md ops C n L f (s.setIfInBounds i true) (a.put o.dst v)->aC0 P md ops C n L (f+1) s a:=by
 have hsel:=Region.noSelect_spec hns;intro f
 induction f with
 |zero=>
  intro s a inv _ hr hy H;refine⟨List.ne_nil_of_mem hr,fun j hj=>?_⟩;have hjn:j<n:=Nat.lt_of_not_le fun h=>tail_waits hs hc hn inv _ i rfl hin (aee.1 hr).1 j h hj
  by_cases e:j=i
  ·subst e;exact⟨hjn,hy.qOp ho H⟩
  ·exact absurd (hL _ _ H j (ae4 hj e)) (by omega)
 |succ f ih=>
  intro s a inv hf hr hy H;refine⟨List.ne_nil_of_mem hr,fun j hj=>?_⟩;have hjn:j<n:=Nat.lt_of_not_le fun h=>tail_waits hs hc hn inv _ i rfl hin (aee.1 hr).1 j h hj
  refine⟨hjn,?_⟩;by_cases e:j=i
  ·subst e;exact hy.qOp ho H
  ·obtain⟨hu,p,hp,hall⟩:=aee.1 hj
   have hno:∀x∈p.after,Region.binds md x=true->x.on≠i:=by
    intro x hx hb heq;have k:=hall x hx hb;rw[heq,getD_both (aee.1 hr).1]at k
    cases k
   refine qOp_mono (fun a' k=>ih _ a' (inv.set hj hjn) (fun m q hq hm hu' hno'=>hf m q hq hm ?_ hno') (ae4 hr (acx e)) k.1 ?_)
    (qOp_put hp (hf j p hp e hu hno) (fun cs b=>hsel i o cs b ho) (fun cs b=>hsel j p cs b hp) hy (H.2 j (ae4 hj e)).2)
   ·by_cases hjm:j=m
    ·subst hjm;exact hu
    ·rwa[afk true hjm]at hu'
   ·rw[ad3 _ _ e];exact k.2
theorem aC0.lex{n g:Nat}{K:Act->Prop}(hns:Region.noSelect ops=true)(hs:Region.sinkB md ops n=true)(hc:Region.chainB md ops n=true)(hn:n<ops.size) :
  ∀(l:List Oper) (k:Nat) (s:Array Bool) (a:Act),(∀j,j<l.length->l[j]? = ops[k+j]?)->k+l.length=n->HeadInv md ops n s->Region.lexHead md ops g l.length k s=true ->
  wpQuiet P ops C K l a->aC0 P md ops C n (fun s' a'=>Region.seqB md ops g n s'=true/\K a') l.length s a
 |[],k,s,a,_,hk,_,hB,h=>by
  obtain rfl:k=n:=by simpa using hk
  exact⟨by simpa[Region.lexHead]using hB,h⟩
 |o::l,k,s,a,hl,hk,inv,hB,h=>by
  have h0:ops[k]? = some o:=by simpa using(hl 0 (by simp)).symm
  simp only[aaF,Region.lexHead,aaE]at hB;simp only[aaF]at hk;have hr:k∈Region.ready md ops s:=by simpa using hB.1.1
  obtain⟨v,hy,hK⟩:=yieldsIn_of_qOp (C:=C) (K:=wpQuiet P ops C K l) h0 (by unfold qOp;simp only[h0];exact h);exact aC0.first h0 hns hs hc hn (by omega) (fun s' a' hL=>seqB_ready hL.1) l.length s a inv (Region.free_spec h0 hB.1.2) hr hy
   (aC0.lex hns hs hc hn l (k+1) _ _ (fun j hj=>by have:=hl (j+1) (by simp;omega);simpa[acV,afM 1 j]using this) (by omega) (inv.set hr (by omega)) hB.2 hK)
def zi{id:Nat}{Q:Exit->Act->World->Prop}{a:Act}{w:World}{l:List Oper}(n:Nat)(C:World->Prop)(hm:P.follows .mixedOrders=true)(hB:Region.lexTailB .any l.toArray n=true)(hC:C w.drew)
  (h:wpQuiet P l.toArray C (fun a'=>∀w',C w'->wpList P l.toArray Q (l.drop n) a' w') (l.take n) a):(Code.region id l.toArray true).wp P Q a w:=by
 simp only[Region.lexTailB,aaE,aax]at hB;obtain⟨⟨⟨⟨hns,hn⟩,hs⟩,hc⟩,hlex⟩:=hB;have hn':n<l.length:=by simpa using hn
 have htl:(l.take n).length=n:=by simp;omega
 have inv0:HeadInv .any l.toArray n (Array.replicate l.toArray.size false):=
  ⟨by simp,fun j oj _ hl=>(by rw[getD_replicate_false]at hl;cases hl),fun t _ ht=>getD_in (by simpa using ht) (getD_replicate_false _ _)⟩
 have H:=aC0.lex (C:=C) (md:=.any) (g:=l.toArray.size-n) hns hs hc hn (l.take n) 0 _ a (fun j hj=>by rw[htl]at hj;simp[hj]) (by simpa using htl) inv0 (by rw[htl];exact hlex) h;refine wp_region_any hm ?_;have hdl:(l.drop n).length=l.toArray.size-n:=by simp
 have G:=aC0.any (R:=Q) (g:=l.toArray.size-n) (fun s a' w' hw' hL=>by
  have:=wpAny_of_seq (md:=.any) (Q':=Q) (l.drop n) n s a' w' (fun j=>by simp[adx]) (by rw[hdl];exact hL.1) (hL.2 w' hw');rwa[hdl]at this) _ _ _ _ hC H
 rw[htl,show n+(l.toArray.size-n)=l.toArray.size by omega]at G;exact G
end
open Go.RowKit
def Nr{P:Program}{ops:Array Oper}{o:Oper}{a:Act}{w:World}{K:Act->World->Prop}{Q:Exit->Act->World->Prop}{E:Prop}
  (hg:o.guard=none) (f:FuncId) (x:Operand) (t:TypeId) (hop:o.op=Op.call { callee:=Callee.value (Operand.func f),args:=#[x],argTypes:=#[t] })
  (he:∀args w,(callFunc f args).run P w=.ok (.enter f args) w) (v:Value) (hx:a.eval x=v) {R:Value->World->Prop} (hc:Calls P f #[v] w fun e w'=>∃u,e=.returned u/\R u w') (hK:∀u w',R u w'->K (a.put o.dst u) w') :
  if Region.wanted o (yielded ops a.tmps)=true then Oper.wp P o a w K Q else E:=by
 have hw:Region.wanted o (yielded ops a.tmps)=true:=by simp[Region.wanted,hg]
 rw[aaa hw];obtain⟨dst,op,ty,pos,after,guard⟩:=o;simp only at hop hg hK;subst hop;unfold Oper.wp;rw[execOp_call_go,show(#[] ++ #[x].map a.eval ++ #[]:Array Value)=#[v] by simp[hx],he,Oper.upon_enter];refine hc.mono ?_;rintro e w' ⟨u,rfl,h⟩;exact hK u w' h
structure Bey (W:World) where
 w:World
 h:Below W W w
theorem Bey.ne(W:World):Nonempty (Bey W):=⟨⟨W,aac _ _⟩⟩
def Bey.cell{W:World}{p:Addr}{v:Value}(h:W.cell? p=some v)(hp:p.block<W.heap.size)(z:Bey W):z.w.cell? p=some v:=(z.h.cell hp).trans h
end Go.Proofs.YtppnecgeboonbaaGreatDoor
