/- The plain words of layer 22 (flags): the names of flags, and which flags are legal one after the other. No program in sight. -/
import Derived.Test.YtppnecgeboonbaaGreatDoorY01
import Derived.Test.YtppnecgeboonbaaGreatDoorZ46
namespace Go.Proofs.YtppnecgeboonbaaGreatDoor
set_option maxRecDepth 100000
set_option linter.unusedVariables false
set_option maxHeartbeats 8000000
def aAm:List OH->Bs->OH
 | [],f=>⟨f,[],false⟩
 | s::r,f=>if s.feat=f then s else aAm r f
def aAr (cmp:Bs->Bs->Bool) (s:OH):List OH->Bool->List OH->List OH
 | [],put,n=>if put=true then n else n++[s]
 | x::r,put,n=>if x.feat=s.feat then aAr cmp s r put n
  else if put=false/\cmp s.feat x.feat=true then aAr cmp s r true (n++[s]++[x])
  else aAr cmp s r put (n++[x])
def aAp (cmp:Bs->Bs->Bool) (m:List OH) (s:OH):List OH:=aAr cmp s m s.val.isEmpty []
def aAq (cmp:Bs->Bs->Bool) (m:List OH) (f:aH):Option (List OH) :=
 let has:=aAm m f.feat
 let value:Bool:=decide (has.val=f.val/\has.no=false/\has.val≠[])
 if f.op=80 then some (aAp cmp m ⟨f.feat,f.val,false⟩)
 else if f.op=78 then some (aAp cmp m ⟨f.feat,f.val,true⟩)
 else if f.op=67 then some (aAp cmp m ⟨f.feat,[],false⟩)
 else if f.op=82 then (if f.val=[] then (if has.val≠[] then some m else none) else if value=true then some m else none)
 else if f.op=68 then (if f.val=[] then (if has.val=[] then some m else none) else if value=false then some m else none)
 else (if has.val=[]\/value=true\/(has.no=true/\has.val≠f.val) then some (aAp cmp m ⟨f.feat,f.val,false⟩) else none)
def aAv (cmp:Bs->Bs->Bool):List OH->List aH->Option (List OH)
 | m,[]=>some m
 | m,f::r=>if aN f=true then (match aAq cmp m f with|some m'=>aAv cmp m' r|none=>none) else none
def aAn (f:Bs) (m:eU):OH:=if m.kind=0 then ⟨f,[],false⟩ else ⟨f,m.of,decide (m.kind=2)⟩
theorem aAx:∀ (a b:List OH) (f:Bs),aAm (a++b) f=if (∃ x∈a,x.feat=f) then aAm a f else aAm b f
 | [],b,f=>by simp
 | s::a,b,f=>by
  rw [List.cons_append,aAm,aAm,aAx a b f];by_cases h:s.feat=f
  ·rw [if_pos h,if_pos ⟨s,List.mem_cons_self,h⟩,if_pos h]
  ·rw [if_neg h,if_neg h]
   by_cases h2:∃ x∈a,x.feat=f
   ·obtain⟨x,hx,e⟩:=h2
    rw [if_pos ⟨x,hx,e⟩,if_pos ⟨x,List.mem_cons_of_mem _ hx,e⟩]
   ·rw [if_neg h2,if_neg]
    rintro⟨x,hx,e⟩;rcases List.mem_cons.1 hx with rfl|hx
    ·exact h e
    ·exact h2 ⟨x,hx,e⟩
theorem aAE (cmp:Bs->Bs->Bool) (s:OH):∀ (m:List OH) (put:Bool) (n:List OH) (g:Bs),
  (put=true->s.val≠[]->∃ x∈n,x.feat=s.feat)->(∀ x∈n,x.feat=s.feat->x=s)->(put=false->∀ x∈n,x.feat≠s.feat)->(s.val=[]->put=true/\∀ x∈n,x.feat≠s.feat) ->
  aAm (aAr cmp s m put n) g=if g=s.feat then (if s.val=[] then ⟨g,[],false⟩ else s) else aAm (n++m) g
 | [],put,n,g,h1,h2,h3,h4=>by
  have key:∀ n:List OH,(∀ x∈n,x.feat=s.feat->x=s)->(∃ x∈n,x.feat=s.feat)->aAm n s.feat=s:=by
   intro n
   induction n with
   | nil=>rintro _ ⟨x,hx,_⟩;cases hx
   | cons y n ih =>
    intro k1 k2;rw [aAm];by_cases hy:y.feat=s.feat
    ·rw [if_pos hy];exact k1 y List.mem_cons_self hy
    ·rw [if_neg hy]
     refine ih (fun x hx=>k1 x (List.mem_cons_of_mem _ hx)) ?_;obtain⟨x,hx,e⟩:=k2;rcases List.mem_cons.1 hx with rfl|hx
     ·exact absurd e hy
     ·exact⟨x,hx,e⟩
  have key0:∀ n:List OH,∀ g,(∀ x∈n,x.feat≠g)->aAm n g=⟨g,[],false⟩:=by
   intro n g
   induction n with
   | nil=>intro _;rfl
   | cons y n ih =>
    intro k1;rw [aAm,if_neg (k1 y List.mem_cons_self)];exact ih (fun x hx=>k1 x (List.mem_cons_of_mem _ hx))
  rw [aAr,List.append_nil];by_cases hv:s.val=[]
  ·obtain⟨p,q⟩:=h4 hv
   rw [if_pos p];by_cases hg:g=s.feat
   ·rw [if_pos hg,if_pos hv]
    subst hg;exact key0 n _ q
   ·rw [if_neg hg]
  ·cases put with
   | true =>
    rw [if_pos rfl];by_cases hg:g=s.feat
    ·rw [if_pos hg,if_neg hv,hg]
     exact key n h2 (h1 rfl hv)
    ·rw [if_neg hg]
   | false =>
    rw [if_neg (by simp),aAx];by_cases hg:g=s.feat
    ·rw [if_pos hg,if_neg hv,if_neg]
     ·rw [aAm,if_pos hg.symm]
     ·rintro⟨x,hx,e⟩
      exact h3 rfl x hx (e.trans hg)
    ·rw [if_neg hg]
     split
     ·rfl
     ·rename_i hx
      rw [aAm,if_neg (fun e=>hg e.symm),aAm];exact (key0 n g (fun x hx' e=>hx ⟨x,hx',e⟩)).symm
 | x::r,put,n,g,h1,h2,h3,h4=>by
  have hadd:∀ (n:List OH) (g:Bs),g≠s.feat->x.feat=s.feat->aAm (n++x::r) g=aAm (n++r) g:=by
   intro n g hg hx;rw [aAx,aAx]
   split
   ·rfl
   ·rw [aAm,if_neg (fun e=>hg (e.symm.trans hx))]
  rw [aAr];by_cases hx:x.feat=s.feat
  ·rw [if_pos hx,aAE cmp s r put n g h1 h2 h3 h4]
   by_cases hg:g=s.feat
   ·rw [if_pos hg,if_pos hg]
   ·rw [if_neg hg,if_neg hg,hadd n g hg hx]
  ·rw [if_neg hx]
   by_cases hp:put=false/\cmp s.feat x.feat=true
   ·rw [if_pos hp]
    have hv:s.val≠[]:=fun e=>by
     have:=(h4 e).1;rw [hp.1] at this;cases this
    rw [aAE cmp s r true (n++[s]++[x]) g (fun _ _=>⟨s,by simp,rfl⟩) ?_ (fun e=>by cases e) (fun e=>absurd e hv)]
    ·by_cases hg:g=s.feat
     ·rw [if_pos hg,if_pos hg]
     ·have e0:n++[s]++[x]++r=n++(s::x::r):=by simp
      rw [if_neg hg,if_neg hg,e0,aAx,aAx]
      split
      ·rfl
      ·rw [aAm,if_neg (fun e=>hg e.symm)]
    ·intro y hy e
     simp only [List.mem_append,List.mem_singleton] at hy;rcases hy with (hy|hy)|hy
     ·exact h2 y hy e
     ·exact hy
     ·rw [hy] at e;exact absurd e hx
   ·rw [if_neg hp]
    rw [aAE cmp s r put (n++[x]) g ?_ ?_ ?_ ?_]
    ·rw [List.append_assoc];rfl
    ·intro e1 e2
     obtain⟨y,hy,e⟩:=h1 e1 e2;exact⟨y,List.mem_append_left _ hy,e⟩
    ·intro y hy e
     rcases List.mem_append.1 hy with hy|hy
     ·exact h2 y hy e
     ·simp only [List.mem_singleton] at hy;rw [hy] at e;exact absurd e hx
    ·intro e1 y hy
     rcases List.mem_append.1 hy with hy|hy
     ·exact h3 e1 y hy
     ·simp only [List.mem_singleton] at hy;rw [hy];exact hx
    ·intro e1
     refine⟨(h4 e1).1,fun y hy=>?_⟩;rcases List.mem_append.1 hy with hy|hy
     ·exact (h4 e1).2 y hy
     ·simp only [List.mem_singleton] at hy;rw [hy];exact hx
theorem aAY (cmp:Bs->Bs->Bool) (m:List OH) (s:OH) (g:Bs):aAm (aAp cmp m s) g=if g=s.feat then (if s.val=[] then ⟨g,[],false⟩ else s) else aAm m g:=by
 unfold aAp;rw [aAE cmp s m s.val.isEmpty [] g]
 ·rfl
 ·intro e1 e2
  rw [List.isEmpty_iff] at e1;exact absurd e1 e2
 ·intro x hx;cases hx
 ·intro _ x hx;cases hx
 ·intro e
  exact⟨by rw [e];rfl,fun x hx=>by cases hx⟩
theorem aA7 {m:eU} (f:Bs) (h:yc m):(aAn f m).val=m.of/\((aAn f m).val=[] ↔ m.kind=0)/\((aAn f m).no=true ↔ m.kind=2):=by
 obtain⟨k,o⟩:=m;rcases h with⟨h1,h2⟩|⟨h1|h1,h2⟩
 all_goals (dsimp only at h1 h2;subst h1;unfold aAn)
 ·subst h2;simp
 ·simp [h2]
 ·simp [h2]
theorem aA4 (cmp:Bs->Bs->Bool) {r:List OH} {m:eU} {f:aH} (hf:aN f=true) (hm:yc m) (hr:aAm r f.feat=aAn f.feat m) :
  (jZ m f.op f.val=none/\aAq cmp r f=none)\/∃ x r',jZ m f.op f.val=some x/\aAq cmp r f=some r'/\∀ g,aAm r' g=if g=f.feat then aAn g x else aAm r g:=by
 obtain⟨a1,a2,a3⟩:=aA7 f.feat hm;have keep:∀ g,aAm r g=if g=f.feat then aAn g m else aAm r g:=by
  intro g;by_cases hg:g=f.feat
  ·rw [if_pos hg,hg,hr]
  ·rw [if_neg hg]
 have hval:(aAn f.feat m).val=f.val/\(aAn f.feat m).no=false/\(aAn f.feat m).val≠[] ↔ m=⟨1,f.val⟩/\f.val≠[]:=by
  rw [a1];obtain⟨k,o⟩:=m;have hno:(aAn f.feat ⟨k,o⟩).no=false ↔ ¬ k=2:=by rw [<-a3];simp
  rw [hno]
  dsimp only at *
  rcases hm with⟨h1,h2⟩|⟨h1|h1,h2⟩
  all_goals (dsimp only at h1 h2;subst h1)
  ·subst h2;simp
  ·simp only [eU.mk.injEq,true_and]
   constructor
   ·rintro⟨rfl,_,h⟩;exact⟨rfl,h⟩
   ·rintro⟨rfl,h⟩;exact⟨rfl,by decide,h⟩
  ·simp
 have hset1:∀ (v:Bs) (b:Bool),v≠[]->∀ g,aAm (aAp cmp r ⟨f.feat,v,b⟩) g=if g=f.feat then aAn g ⟨if b=true then 2 else 1,v⟩ else aAm r g:=by
  intro v b hv g;rw [aAY];by_cases hg:g=f.feat
  ·rw [if_pos hg,if_pos hg,if_neg hv,hg]
   cases b <;> simp [aAn]
  ·rw [if_neg hg,if_neg hg]
 have hset0:∀ g,aAm (aAp cmp r ⟨f.feat,[],false⟩) g=if g=f.feat then aAn g iF else aAm r g:=by
  intro g;rw [aAY];by_cases hg:g=f.feat
  ·rw [if_pos hg,if_pos hg,if_pos rfl];rfl
  ·rw [if_neg hg,if_neg hg]
 unfold aAq;rw [hr];rcases H9 hf with⟨e,v⟩|⟨e,v⟩|⟨e,v⟩|⟨e,v⟩|e|e
 ·right
  refine⟨⟨1,f.val⟩,aAp cmp r ⟨f.feat,f.val,false⟩,?_,?_,?_⟩
  ·unfold jZ;rw [e];rfl
  ·dsimp only;rw [if_pos e]
  ·exact hset1 f.val false v
 ·right
  refine⟨⟨2,f.val⟩,aAp cmp r ⟨f.feat,f.val,true⟩,?_,?_,?_⟩
  ·unfold jZ;rw [e];rfl
  ·dsimp only;rw [e];rfl
  ·exact hset1 f.val true v
 ·have e2:jZ m f.op f.val=if m.kind=0\/(m.kind=1/\m.of=f.val)\/(m.kind=2/\m.of≠f.val) then some ⟨1,f.val⟩ else none:=by unfold jZ;rw [e];rfl
  have hiff:((aAn f.feat m).val=[]\/decide ((aAn f.feat m).val=f.val/\(aAn f.feat m).no=false/\(aAn f.feat m).val≠[])=true\/((aAn f.feat m).no=true/\(aAn f.feat m).val≠f.val)) ↔ (m.kind=0\/(m.kind=1/\m.of=f.val)\/(m.kind=2/\m.of≠f.val)):=by
   rw [decide_eq_true_eq,hval,a2,a3,a1];constructor
   ·rintro (h|⟨h,_⟩|h)
    ·exact Or.inl h
    ·exact Or.inr (Or.inl (by rw [h];exact⟨rfl,rfl⟩))
    ·exact Or.inr (Or.inr h)
   ·rintro (h|⟨h,h'⟩|h)
    ·exact Or.inl h
    ·refine Or.inr (Or.inl ⟨?_,v⟩)
     obtain⟨k,o⟩:=m
     dsimp only at h h'
     rw [h,h']
    ·exact Or.inr (Or.inr h)
  have e3:∀ (P:Prop) [Decidable P],(P ↔ (m.kind=0\/(m.kind=1/\m.of=f.val)\/(m.kind=2/\m.of≠f.val)))->(if P then some (aAp cmp r ⟨f.feat,f.val,false⟩) else none)=if m.kind=0\/(m.kind=1/\m.of=f.val)\/(m.kind=2/\m.of≠f.val) then some (aAp cmp r ⟨f.feat,f.val,false⟩) else none:=by
   intro P _ h;by_cases hp:P
   ·rw [if_pos hp,if_pos (h.1 hp)]
   ·rw [if_neg hp,if_neg (fun k=>hp (h.2 k))]
  have e4:∀ (A B C D E:Option (List OH)),(if f.op=80 then A else if f.op=78 then B else if f.op=67 then C else if f.op=82 then D else if f.op=68 then E else (if (aAn f.feat m).val=[]\/decide ((aAn f.feat m).val=f.val/\(aAn f.feat m).no=false/\(aAn f.feat m).val≠[])=true\/((aAn f.feat m).no=true/\(aAn f.feat m).val≠f.val) then some (aAp cmp r ⟨f.feat,f.val,false⟩) else none))=(if (aAn f.feat m).val=[]\/decide ((aAn f.feat m).val=f.val/\(aAn f.feat m).no=false/\(aAn f.feat m).val≠[])=true\/((aAn f.feat m).no=true/\(aAn f.feat m).val≠f.val) then some (aAp cmp r ⟨f.feat,f.val,false⟩) else none):=by
   intro A B C D E;rw [e];rfl
  dsimp only
  rw [e4,e3 _ hiff,e2];by_cases hc:m.kind=0\/(m.kind=1/\m.of=f.val)\/(m.kind=2/\m.of≠f.val)
  ·right
   exact⟨⟨1,f.val⟩,aAp cmp r ⟨f.feat,f.val,false⟩,if_pos hc,if_pos hc,hset1 f.val false v⟩
  ·left
   exact⟨if_neg hc,if_neg hc⟩
 ·right
  refine⟨iF,aAp cmp r ⟨f.feat,[],false⟩,?_,?_,hset0⟩
  ·unfold jZ;rw [e];rfl
  ·dsimp only;rw [e];rfl
 ·have e2:jZ m f.op f.val=if f.val=[] then (if m.kind≠0 then some m else none) else if m=⟨1,f.val⟩ then some m else none:=by unfold jZ;rw [e];rfl
  have e4:∀ (A B C E F:Option (List OH)),(if f.op=80 then A else if f.op=78 then B else if f.op=67 then C else if f.op=82 then (if f.val=[] then (if (aAn f.feat m).val≠[] then some r else none) else if decide ((aAn f.feat m).val=f.val/\(aAn f.feat m).no=false/\(aAn f.feat m).val≠[])=true then some r else none) else if f.op=68 then E else F)=(if f.val=[] then (if (aAn f.feat m).val≠[] then some r else none) else if decide ((aAn f.feat m).val=f.val/\(aAn f.feat m).no=false/\(aAn f.feat m).val≠[])=true then some r else none):=by
   intro A B C E F;rw [e];rfl
  dsimp only
  rw [e4,e2];by_cases hv:f.val=[]
  ·rw [if_pos hv,if_pos hv]
   by_cases hk:m.kind=0
   ·left;exact⟨by rw [if_neg (fun h=>h hk)],by rw [if_neg (fun h=>h (a2.2 hk))]⟩
   ·right;exact⟨m,r,by rw [if_pos hk],by rw [if_pos (fun h=>hk (a2.1 h))],keep⟩
  ·rw [if_neg hv,if_neg hv]
   by_cases hk:m=⟨1,f.val⟩
   ·right;exact⟨m,r,by rw [if_pos hk],by rw [if_pos (by rw [decide_eq_true_eq];exact hval.2 ⟨hk,hv⟩)],keep⟩
   ·left;exact⟨by rw [if_neg hk],by rw [if_neg (by rw [decide_eq_true_eq];exact fun h=>hk (hval.1 h).1)]⟩
 ·have e2:jZ m f.op f.val=if f.val=[] then (if m.kind=0 then some m else none) else if m≠⟨1,f.val⟩ then some m else none:=by unfold jZ;rw [e];rfl
  have e4:∀ (A B C E F:Option (List OH)),(if f.op=80 then A else if f.op=78 then B else if f.op=67 then C else if f.op=82 then E else if f.op=68 then (if f.val=[] then (if (aAn f.feat m).val=[] then some r else none) else if decide ((aAn f.feat m).val=f.val/\(aAn f.feat m).no=false/\(aAn f.feat m).val≠[])=false then some r else none) else F)=(if f.val=[] then (if (aAn f.feat m).val=[] then some r else none) else if decide ((aAn f.feat m).val=f.val/\(aAn f.feat m).no=false/\(aAn f.feat m).val≠[])=false then some r else none):=by
   intro A B C E F;rw [e];rfl
  dsimp only
  rw [e4,e2];by_cases hv:f.val=[]
  ·rw [if_pos hv,if_pos hv]
   by_cases hk:m.kind=0
   ·right;exact⟨m,r,by rw [if_pos hk],by rw [if_pos (a2.2 hk)],keep⟩
   ·left;exact⟨by rw [if_neg hk],by rw [if_neg (fun h=>hk (a2.1 h))]⟩
  ·rw [if_neg hv,if_neg hv]
   by_cases hk:m=⟨1,f.val⟩
   ·left;exact⟨by rw [if_neg (fun h=>h hk)],by rw [if_neg (by rw [decide_eq_true (hval.2 ⟨hk,hv⟩)];simp)]⟩
   ·right;exact⟨m,r,by rw [if_pos hk],by rw [if_pos (by rw [decide_eq_false_iff_not];exact fun h=>hk (hval.1 h).1)],keep⟩
def Alike (r:List OH) (m:dz):Prop:=∀ g,aAm r g=aAn g (aP m g)/\yc (aP m g)
theorem aA5:Alike [] []:=fun g=>⟨rfl,Or.inl ⟨rfl,rfl⟩⟩
theorem aA6 (cmp:Bs->Bs->Bool) {r:List OH} {m:dz} {f:aH} (hf:aN f=true) (h:Alike r m) :
  (fT m f=none/\aAq cmp r f=none)\/∃ m' r',fT m f=some m'/\aAq cmp r f=some r'/\Alike r' m':=by
 obtain⟨h1,h2⟩:=h f.feat;unfold fT;rcases aA4 cmp hf h2 h1 with⟨e1,e2⟩|⟨x,r',e1,e2,e3⟩
 ·left;exact⟨by rw [e1];rfl,e2⟩
 ·right
  refine⟨iW m f.feat x,r',by rw [e1];rfl,e2,fun g=>?_⟩;rw [e3,vK];by_cases hg:g=f.feat
  ·rw [if_pos hg,if_pos hg.symm]
   exact⟨rfl,Nn h2 hf e1⟩
  ·rw [if_neg hg,if_neg (fun e=>hg e.symm)]
   exact h g
theorem aAQ (cmp:Bs->Bs->Bool):∀ (l:List aH) (r:List OH) (m:dz),Alike r m->(aAv cmp r l).isSome=(l.all aN && (jL m l).isSome)
 | [],r,m,_=>rfl
 | f::l,r,m,h=>by
  rw [aAv,List.all_cons,jL]
  cases hf:aN f with
  | false=>rw [if_neg (by simp)];simp
  | true =>
   rw [if_pos rfl,Bool.true_and];rcases aA6 cmp hf h with⟨e1,e2⟩|⟨m',r',e1,e2,e3⟩
   ·rw [e1,e2];simp
   ·rw [e1,e2]
    exact aAQ cmp l r' m' e3
theorem aBi (cmp:Bs->Bs->Bool) (l:List aH):(aAv cmp [] l).isSome=jH l:=aAQ cmp l [] [] aA5
open Go.RowKit Go.Maps
def aAu (w:World) (A:Option Addr) (l:List OH):Prop:=∀ k,(h:k<l.length)->∃ b o,A=some ⟨b,o,none⟩/\b<w.heap.size/\w.cell? ⟨b,o+k * 3,none⟩=some (S l[k].feat)/\w.cell? ⟨b,o+k * 3+1,none⟩=some (S l[k].val)/\w.cell? ⟨b,o+k * 3+2,none⟩=some (.bool l[k].no)
def aAz (s:OH):Value:=.agg #[S s.feat,S s.val,.bool s.no]
theorem aBg {l:List OH} {f:Bs} {k:Nat} (hk:k<l.length) (h:aAm l f=aAm (l.drop k) f) (hn:l[k].feat≠f):aAm l f=aAm (l.drop (k+1)) f:=by
 rw [h,List.drop_eq_getElem_cons hk,aAm,if_neg hn]
theorem aBh {l:List OH} {f:Bs} {k:Nat} (hk:k<l.length) (h:aAm l f=aAm (l.drop k) f) (hn:l[k].feat=f):aAm l f=l[k]:=by
 rw [h,List.drop_eq_getElem_cons hk,aAm,if_pos hn]
theorem aBq (A:Option Addr) (c:Nat) (l:List OH) (f:ByteArray) (w:World) (hV:aAu w A l) (hl:l.length<=1000000):Calls Tryz.prog 82 #[.slice A l.length c,.string f] w fun e w'=>e=.returned (aAz (aAm l f.data.toList))/\Below w.heap.size w w':=by
 have HV:=Lib.hid hV;clear hV;have c0:=aJ w #[.string ⟨#[]⟩,.string ⟨#[]⟩,.bool false] 147 0 _ rfl;have c1:=aJ w #[.string ⟨#[]⟩,.string ⟨#[]⟩,.bool false] 147 1 _ rfl;have c2:=aJ w #[.string ⟨#[]⟩,.string ⟨#[]⟩,.bool false] 147 2 _ rfl;have f0:=kU w #[.string ⟨#[]⟩,.string ⟨#[]⟩,.bool false] 147 0;have f1:=kU w #[.string ⟨#[]⟩,.string ⟨#[]⟩,.bool false] 147 1;have f2:=kU w #[.string ⟨#[]⟩,.string ⟨#[]⟩,.bool false] 147 2;have hb0:Below w.heap.size w (w.alloc (.cells #[.string ⟨#[]⟩,.string ⟨#[]⟩,.bool false] 147)):=(Below.refl _ _).alloc (Nat.le_refl _) _;go_enter Tryz.func82,Tryz.ntmps82;go_wp2_with fail;generalize w.alloc (.cells #[.string ⟨#[]⟩,.string ⟨#[]⟩,.bool false] 147)=w0 at *
 go_loopw [5] (fun i wr=>∃ (k:Nat),i=.int .i64 k/\k<=l.length/\wr=w0/\Hid (aAm l f.data.toList=aAm (l.drop k) f.data.toList)) (fun i _=>l.length-(intOf i).toNat)
 case atStart=>exact⟨0,rfl,by omega,rfl,rfl⟩
 case round =>
  obtain⟨k,rfl,hk,rfl,HN⟩:=hrel;by_cases hlt:k<l.length
  ·obtain⟨b,o,rfl,hbl,hc0,hc1,hc2⟩:=HV.out k hlt
   have HF:Hid (l[k].feat=f.data.toList->aAm l f.data.toList=l[k]):=aBh hlt HN.out;have HT:Hid (l[k].feat≠f.data.toList->aAm l f.data.toList=aAm (l.drop (k+1)) f.data.toList):=aBg hlt HN.out;generalize l[k]=cc at *;obtain⟨F,hF⟩:∃ F:ByteArray,(⟨cc.feat.toArray⟩:ByteArray)=F:=⟨_,rfl⟩;obtain⟨V,hVv⟩:∃ V:ByteArray,(⟨cc.val.toArray⟩:ByteArray)=V:=⟨_,rfl⟩;have hFd:F.toList=cc.feat:=by rw [<-hF,Lib.toList_data]
   have k0:=(hb0.cell (p:=⟨b,o+k * 3,none⟩) hbl).trans (hc0.trans (by rw [S,hF]));have k1:=(hb0.cell (p:=⟨b,o+k * 3+1,none⟩) hbl).trans (hc1.trans (by rw [S,hVv]));have k2:=(hb0.cell (p:=⟨b,o+k * 3+2,none⟩) hbl).trans hc2;have i0:(0:Int)<=(k:Int):=by omega
   have il:(k:Int)<(l.length:Int):=by omega
   have HS:Hid (aAz cc=.agg #[.string F,.string V,.bool cc.no]):=by unfold Hid aAz;rw [S,S,hF,hVv]
   clear hF hVv hc0 hc1 hc2;by_cases hq:cc.feat=f.data.toList
   ·have t1:(F.toList == f.toList)=true:=by rw [hFd,Lib.toList_data,hq,beq_self_eq_true]
    have HX:=Lib.hid (HF.out hq);clear hFd hq;go_wp2_with fail;refine bodyPost_ret (by simp [results,Tryz.results82,go_sem,c0,c1,c2];try rfl) rfl ?_;rw [HX.out,HS.out];exact⟨rfl,jm hb0 _ (Nat.le_refl _) _ _ _⟩
   ·have t1:(F.toList == f.toList)=false:=by rw [hFd,Lib.toList_data];simpa using hq
    have HX:=Lib.hid (HT.out hq);clear hFd hq;go_wp2_with fail;go_roundw
    case rel=>exact⟨k+1,by go_num,by omega,by trivial,HX.out⟩
    case measure=>simp [intOf];omega
  ·obtain rfl:k=l.length:=by omega
   have HX:Hid (aAm l f.data.toList=⟨f.data.toList,[],false⟩):=by
    have:=HN.out;rw [List.drop_length] at this;exact this
   have HS:Hid (S f.data.toList=.string f):=eX f;go_wp2_with fail;refine bodyPost_ret (by simp [results,Tryz.results82,go_sem,c0,c1,c2];try rfl) rfl ?_;rw [HX.out,aAz,HS.out];exact⟨rfl,jm hb0 _ (Nat.le_refl _) _ _ _⟩
def setCells (l:List OH):List Value:=l.flatMap fun s=>[S s.feat,S s.val,.bool s.no]
theorem setCells_snoc (l:List OH) (s:OH):setCells (l++[s])=setCells l++[S s.feat,S s.val,.bool s.no]:=by simp [setCells]
theorem aBy:(Tryz.prog.info? 147).map (fun i=>(i.zero,i.size,i.bytes))=some (some (.agg #[.string ⟨#[]⟩,.string ⟨#[]⟩,.bool false]),3,40):=by kernel_rfl
theorem setCells_at:∀ (l:List OH) (k:Nat) (h:k<l.length),(setCells l)[k * 3]? = some (S l[k].feat)/\(setCells l)[k * 3+1]? = some (S l[k].val)/\(setCells l)[k * 3+2]? = some (.bool l[k].no)
 | s::r,0,h=>⟨rfl,rfl,rfl⟩
 | s::r,k+1,h=>by
  have:=setCells_at r k (by simpa using h);have e:setCells (s::r)=[S s.feat,S s.val,.bool s.no]++setCells r:=rfl;rw [e,List.getElem_cons_succ];refine⟨?_,?_,?_⟩
  ·rw [List.getElem?_append_right (by simp;omega)]
   simpa [show (k+1) * 3-3=k * 3 by omega] using this.1
  ·rw [List.getElem?_append_right (by simp;omega)]
   simpa [show (k+1) * 3+1-3=k * 3+1 by omega] using this.2.1
  ·rw [List.getElem?_append_right (by simp;omega)]
   simpa [show (k+1) * 3+2-3=k * 3+2 by omega] using this.2.2
theorem aAZ {w:World} {B:Nat} {v:Value} {l:List OH} (h:w.ownsRow B 147 3 v l.length (setCells l)):∃ A c,v=.slice A l.length c/\aAu w A l:=by
 rcases h.2 with⟨rfl,h2⟩|⟨g,cap,cur,hv,hB,hg,hn,hm,hc,ht⟩
 ·exact⟨none,0,by rw [h2],fun k hk=>by omega⟩
 ·refine⟨some ⟨g,0,none⟩,cap,hv,fun k hk=>?_⟩
  have hcell:=h.cells (g:=g) (by rw [hv];rfl);have hadd:∀ j,(⟨g,0,none⟩:Addr).add j=⟨g,0+j,none⟩:=fun j=>by unfold Addr.add;split <;> simp_all
  obtain⟨c0,c1,c2⟩:=setCells_at l k hk;have k0:=hcell _ _ c0;have k1:=hcell _ _ c1;have k2:=hcell _ _ c2;rw [hadd] at k0 k1 k2;exact⟨g,0,rfl,lt_of_block hg,k0,k1,k2⟩
def aAo (a b:Bs):Bool:=!(Op.bytesLess b a || b == a)
theorem aAw {B:Nat} {w0 W w5:World} {o:Obj} {e:TypeId} {size:Nat} {v:Value} {n:Nat} {xs:List Value} (hB:Below B w0 W) (hs:B<=w0.heap.size) (hown:(W.alloc o).ownsRow B e size v n xs) (hgr:(W.alloc o).grownBy w5 v.ownBlock):Below B w0 w5:=by
 have h1:Below B W (W.alloc o):=(Below.refl _ _).alloc (Nat.le_trans hs hB.size) _;have h2:=hB.trans h1;refine h2.trans ⟨hgr.os,hgr.tape,hgr.output,hgr.size,fun b hlt=>hgr.block b (Nat.lt_of_lt_of_le hlt (Nat.le_trans hs h2.size)) (fun e=>?_)⟩;have:=(hown.lt b e.symm).1;omega
def aAL (w:World) (l:List OH) (e:Ending) (w':World):Prop:=∃ A' c',e=.returned (.slice A' l.length c')/\aAu w' A' l/\Below w.heap.size w w'
theorem aBu (A:Option Addr) (c:Nat) (l:List OH) (F V:ByteArray) (no:Bool) (w:World) (hV:aAu w A l) (hl:l.length<=1000000):Calls Tryz.prog 83 #[.slice A l.length c,.agg #[.string F,.string V,.bool no]] w (aAL w (aAp aAo l ⟨F.data.toList,V.data.toList,no⟩)):=by
 have HV:=Lib.hid hV;clear hV;obtain⟨ic,ci,cz0,cz1,cz2⟩:=info_parts aBy;obtain⟨sg,hsg⟩:∃ sg:OH,sg=⟨F.data.toList,V.data.toList,no⟩:=⟨_,rfl⟩;rw [<-hsg];have c0:=aJ w #[.string F,.string V,.bool no] 147 0 (.string F) rfl;have c1:=aJ w #[.string F,.string V,.bool no] 147 1 (.string V) rfl;have c2:=aJ w #[.string F,.string V,.bool no] 147 2 (.bool no) rfl;have hb0:Below w.heap.size w (w.alloc (.cells #[.string F,.string V,.bool no] 147)):=(Below.refl _ _).alloc (Nat.le_refl _) _;have hs0:(w.alloc (.cells #[.string F,.string V,.bool no] 147)).heap.size=w.heap.size+1:=by simp
 obtain⟨p0,hp0⟩:∃ p0,(V.toList == [])=p0:=⟨_,rfl⟩;have HP:Hid (aAp aAo l sg=aAr aAo sg l p0 []):=by
  rw [Hid,aAp,hsg,<-hp0,Lib.toList_data];simp only [];congr 1
  cases V.data.toList <;> rfl
 go_enter Tryz.func83,Tryz.ntmps83;go_wp2_with fail;generalize w.alloc (.cells #[.string F,.string V,.bool no] 147)=w0 at *
 go_loopw [5,6,7] (fun v p i wr=>∃ (k:Nat) (n:List OH) (q:Bool),i=.int .i64 k/\p=.bool q/\k<=l.length/\n.length<=2 * k/\Hid (aAp aAo l sg=aAr aAo sg (l.drop k) q n)/\wr.ownsRow (w.heap.size+1) 147 3 v n.length (setCells n)/\Below (w.heap.size+1) w0 wr) (fun _ _ i _=>l.length-(intOf i).toNat)
 case atStart=>exact⟨0,[],p0,rfl,rfl,by omega,by simp,HP,World.ownsRow_nil _ _ _ _,Below.refl _ _⟩
 case round =>
  obtain⟨k,n,q,rfl,rfl,hk,hnl,HE,hown,hB⟩:=hrel;have hBw:Below w.heap.size w wr:=hb0.trans (hB.mono (Nat.le_succ _));by_cases hlt:k<l.length
  ·obtain⟨b,o,rfl,hbl,hc0,hc1,hc2⟩:=HV.out k hlt
   have hdr:l.drop k=l[k]::l.drop (k+1):=List.drop_eq_getElem_cons hlt;have E1:l[k].feat=sg.feat->aAp aAo l sg=aAr aAo sg (l.drop (k+1)) q n:=fun e=>by rw [HE.out,hdr,aAr,if_pos e]
   have E2:l[k].feat≠sg.feat->q=false->aAo sg.feat l[k].feat=true->aAp aAo l sg=aAr aAo sg (l.drop (k+1)) true (n++[sg]++[l[k]]):=fun e e1 e2=>by rw [HE.out,hdr,aAr,if_neg e,if_pos ⟨e1,e2⟩]
   have E3:l[k].feat≠sg.feat->¬ (q=false/\aAo sg.feat l[k].feat=true)->aAp aAo l sg=aAr aAo sg (l.drop (k+1)) q (n++[l[k]]):=fun e e1=>by rw [HE.out,hdr,aAr,if_neg e,if_neg e1]
   generalize l[k]=aAl at *;obtain⟨xf,xv,aAk⟩:=aAl;obtain⟨XF,hXF⟩:∃ Z:ByteArray,(⟨xf.toArray⟩:ByteArray)=Z:=⟨_,rfl⟩;obtain⟨XV,hXV⟩:∃ Z:ByteArray,(⟨xv.toArray⟩:ByteArray)=Z:=⟨_,rfl⟩;have e1:xf=XF.data.toList:=by rw [<-hXF]
   have e2:xv=XV.data.toList:=by rw [<-hXV]
   subst e1 e2;simp only [eX] at hc0 hc1 hc2;clear hXF hXV hdr;have k0:=(hBw.cell (p:=⟨b,o+k * 3,none⟩) hbl).trans hc0;have k1:=(hBw.cell (p:=⟨b,o+k * 3+1,none⟩) hbl).trans hc1;have k2:=(hBw.cell (p:=⟨b,o+k * 3+2,none⟩) hbl).trans hc2;have d0:=(hB.cell (p:=⟨w.heap.size,0,none⟩) (Nat.lt_succ_self _)).trans c0;have d1:=(hB.cell (p:=⟨w.heap.size,1,none⟩) (Nat.lt_succ_self _)).trans c1;have d2:=(hB.cell (p:=⟨w.heap.size,2,none⟩) (Nat.lt_succ_self _)).trans c2;have i0:(0:Int)<=(k:Int):=by omega
   have il:(k:Int)<(l.length:Int):=by omega
   have hsf:sg.feat=F.data.toList:=by rw [hsg]
   have HE1:=Lib.hid E1;have HE2:=Lib.hid E2;have HE3:=Lib.hid E3;have HSG:Hid (sg=⟨F.data.toList,V.data.toList,no⟩):=hsg;clear hc0 hc1 hc2 E1 E2 E3 hBw c0 c1 c2 hp0 HP HE hsg;by_cases hq1:XF.data.toList=F.data.toList
   ·have t1:(XF.toList == F.toList)=true:=by rw [Lib.toList_data,Lib.toList_data,hq1,beq_self_eq_true]
    have HX:=Lib.hid (HE1.out (by rw [hsf];exact hq1));have HO:=Lib.hid hown;clear hq1 HE1 HE2 HE3 hsf hown;go_wp2_with fail
    go_quiet (fail)
    go_wp2_with fail;go_roundw
    case rel=>exact⟨k+1,n,q,by go_num,rfl,by omega,by omega,HX,HO.out,⟨hB.os,hB.tape,hB.output,hB.size,hB.block⟩⟩
    case measure=>simp [intOf];omega
   ·have t1:(XF.toList == F.toList)=false:=by rw [Lib.toList_data,Lib.toList_data];simpa using hq1
    obtain⟨lt,hlt2⟩:∃ lt,Op.bytesLess XF.toList F.toList=lt:=⟨_,rfl⟩;have hcmp:aAo sg.feat XF.data.toList=!lt:=by
     unfold aAo;rw [hsf,<-hlt2,Lib.toList_data,Lib.toList_data,show (XF.data.toList == F.data.toList)=false by simpa using hq1,Bool.or_false]
    have hne:XF.data.toList≠sg.feat:=by rw [hsf];exact hq1
    cases q with
    | true =>
     have HX:=Lib.hid (HE3.out hne (by simp));clear HE1 HE2 HE3 hsf hq1 hcmp hne;go_wp2_with fail
     go_quiet (fail)
     have hB1:Below (w.heap.size+1) w0 (wr.drewN nq):=⟨hB.os,hB.tape,hB.output,hB.size,hB.block⟩;have hO1:(wr.drewN nq).ownsRow (w.heap.size+1) 147 3 u5 n.length (setCells n):=hown;have k01:(wr.drewN nq).cell? ⟨b,o+k * 3,none⟩=some (.string XF):=k0;have k11:(wr.drewN nq).cell? ⟨b,o+k * 3+1,none⟩=some (.string XV):=k1;have k21:(wr.drewN nq).cell? ⟨b,o+k * 3+2,none⟩=some (.bool aAk):=k2;have d01:(wr.drewN nq).cell? ⟨w.heap.size,0,none⟩=some (.string F):=d0;have d11:(wr.drewN nq).cell? ⟨w.heap.size,1,none⟩=some (.string V):=d1;have d21:(wr.drewN nq).cell? ⟨w.heap.size,2,none⟩=some (.bool no):=d2;clear hown hB k0 k1 k2 d0 d1 d2;generalize wr.drewN nq=w1 at *;go_wp2_with fail
     go_quiet (fail)
     have hB2:Below (w.heap.size+1) w0 (w1.drewN nq):=⟨hB1.os,hB1.tape,hB1.output,hB1.size,hB1.block⟩;have hO2:(w1.drewN nq).ownsRow (w.heap.size+1) 147 3 u5 n.length (setCells n):=hO1;have k02:(w1.drewN nq).cell? ⟨b,o+k * 3,none⟩=some (.string XF):=k01;have k12:(w1.drewN nq).cell? ⟨b,o+k * 3+1,none⟩=some (.string XV):=k11;have k22:(w1.drewN nq).cell? ⟨b,o+k * 3+2,none⟩=some (.bool aAk):=k21;have d02:(w1.drewN nq).cell? ⟨w.heap.size,0,none⟩=some (.string F):=d01;have d12:(w1.drewN nq).cell? ⟨w.heap.size,1,none⟩=some (.string V):=d11;have d22:(w1.drewN nq).cell? ⟨w.heap.size,2,none⟩=some (.bool no):=d21;clear hO1 hB1 k01 k11 k21 d01 d11 d21;generalize w1.drewN nq=w2 at *;have hnews5:∀ j u,(#[Value.string XF,.string XV,.bool aAk]).toList[j]? = some u->(w2.alloc (.cells #[Value.string XF,.string XV,.bool aAk] 147)).cell? ((⟨w2.heap.size,0,none⟩:Addr).add j)=some u:=World.news_of_block (heap_alloc_new w2 _);have hbase5:w.heap.size+1<=(w2.alloc (.cells #[Value.string XF,.string XV,.bool aAk] 147)).heap.size:=by simp;have:=hB2.size;omega
     have hown5:=eP hO2 (p9 (fun _=>False) w2 (.cells #[Value.string XF,.string XV,.bool aAk] 147)) (fun _ _ e=>e);go_wp2_with (first|(at_builtin;refine wpList_append_lies _ rfl (.tmp 41) (.tmp 46) 92 rfl (w.heap.size+1) 147 ic _ 3 40 Tryz.underlying92 ci cz0 cz1 cz2 rfl (by decide) _ n.length (setCells n) rfl hown5 ⟨w2.heap.size,0,none⟩ 1 1 (#[Value.string XF,.string XV,.bool aAk]).toList rfl rfl hnews5 (by simp [Value.oneCell']) (by decide) (by unfold maxLen;omega) (by omega) hbase5 (w2.heap.size+1) (by simp) ?_;intro g5 cap5 w5 ho5 hgr5 hat5 hlt5));have hB5:=aAw hB2 (by omega) hown5 hgr5;go_wp2_with fail;go_roundw
     case rel=>exact⟨k+1,n++[⟨XF.data.toList,XV.data.toList,aAk⟩],true,by go_num,rfl,by omega,by simp;omega,HX,by rw [List.length_append,setCells_snoc];simp only [eX];exact ho5,hB5⟩
     case measure=>simp [intOf];omega
    | false =>
     cases lt with
     | true =>
      have HX:=Lib.hid (HE3.out hne (by rw [hcmp];simp));clear HE1 HE2 HE3 hsf hq1 hcmp hne;go_wp2_with fail
      go_quiet (fail)
      have hB1:Below (w.heap.size+1) w0 (wr.drewN nq):=⟨hB.os,hB.tape,hB.output,hB.size,hB.block⟩;have hO1:(wr.drewN nq).ownsRow (w.heap.size+1) 147 3 u5 n.length (setCells n):=hown;have k01:(wr.drewN nq).cell? ⟨b,o+k * 3,none⟩=some (.string XF):=k0;have k11:(wr.drewN nq).cell? ⟨b,o+k * 3+1,none⟩=some (.string XV):=k1;have k21:(wr.drewN nq).cell? ⟨b,o+k * 3+2,none⟩=some (.bool aAk):=k2;have d01:(wr.drewN nq).cell? ⟨w.heap.size,0,none⟩=some (.string F):=d0;have d11:(wr.drewN nq).cell? ⟨w.heap.size,1,none⟩=some (.string V):=d1;have d21:(wr.drewN nq).cell? ⟨w.heap.size,2,none⟩=some (.bool no):=d2;clear hown hB k0 k1 k2 d0 d1 d2;generalize wr.drewN nq=w1 at *;go_wp2_with fail
      go_quiet (fail)
      have hB2:Below (w.heap.size+1) w0 (w1.drewN nq):=⟨hB1.os,hB1.tape,hB1.output,hB1.size,hB1.block⟩;have hO2:(w1.drewN nq).ownsRow (w.heap.size+1) 147 3 u5 n.length (setCells n):=hO1;have k02:(w1.drewN nq).cell? ⟨b,o+k * 3,none⟩=some (.string XF):=k01;have k12:(w1.drewN nq).cell? ⟨b,o+k * 3+1,none⟩=some (.string XV):=k11;have k22:(w1.drewN nq).cell? ⟨b,o+k * 3+2,none⟩=some (.bool aAk):=k21;have d02:(w1.drewN nq).cell? ⟨w.heap.size,0,none⟩=some (.string F):=d01;have d12:(w1.drewN nq).cell? ⟨w.heap.size,1,none⟩=some (.string V):=d11;have d22:(w1.drewN nq).cell? ⟨w.heap.size,2,none⟩=some (.bool no):=d21;clear hO1 hB1 k01 k11 k21 d01 d11 d21;generalize w1.drewN nq=w2 at *;have hnews5:∀ j u,(#[Value.string XF,.string XV,.bool aAk]).toList[j]? = some u->(w2.alloc (.cells #[Value.string XF,.string XV,.bool aAk] 147)).cell? ((⟨w2.heap.size,0,none⟩:Addr).add j)=some u:=World.news_of_block (heap_alloc_new w2 _);have hbase5:w.heap.size+1<=(w2.alloc (.cells #[Value.string XF,.string XV,.bool aAk] 147)).heap.size:=by simp;have:=hB2.size;omega
      have hown5:=eP hO2 (p9 (fun _=>False) w2 (.cells #[Value.string XF,.string XV,.bool aAk] 147)) (fun _ _ e=>e);go_wp2_with (first|(at_builtin;refine wpList_append_lies _ rfl (.tmp 41) (.tmp 46) 92 rfl (w.heap.size+1) 147 ic _ 3 40 Tryz.underlying92 ci cz0 cz1 cz2 rfl (by decide) _ n.length (setCells n) rfl hown5 ⟨w2.heap.size,0,none⟩ 1 1 (#[Value.string XF,.string XV,.bool aAk]).toList rfl rfl hnews5 (by simp [Value.oneCell']) (by decide) (by unfold maxLen;omega) (by omega) hbase5 (w2.heap.size+1) (by simp) ?_;intro g5 cap5 w5 ho5 hgr5 hat5 hlt5));have hB5:=aAw hB2 (by omega) hown5 hgr5;go_wp2_with fail;go_roundw
      case rel=>exact⟨k+1,n++[⟨XF.data.toList,XV.data.toList,aAk⟩],false,by go_num,rfl,by omega,by simp;omega,HX,by rw [List.length_append,setCells_snoc];simp only [eX];exact ho5,hB5⟩
      case measure=>simp [intOf];omega
     | false =>
      have HX:=Lib.hid (HE2.out hne rfl (by rw [hcmp];rfl));clear HE1 HE2 HE3 hsf hq1 hcmp hne;go_wp2_with fail
      go_quiet (fail)
      have hB1:Below (w.heap.size+1) w0 (wr.drewN nq):=⟨hB.os,hB.tape,hB.output,hB.size,hB.block⟩;have hO1:(wr.drewN nq).ownsRow (w.heap.size+1) 147 3 u5 n.length (setCells n):=hown;have k01:(wr.drewN nq).cell? ⟨b,o+k * 3,none⟩=some (.string XF):=k0;have k11:(wr.drewN nq).cell? ⟨b,o+k * 3+1,none⟩=some (.string XV):=k1;have k21:(wr.drewN nq).cell? ⟨b,o+k * 3+2,none⟩=some (.bool aAk):=k2;have d01:(wr.drewN nq).cell? ⟨w.heap.size,0,none⟩=some (.string F):=d0;have d11:(wr.drewN nq).cell? ⟨w.heap.size,1,none⟩=some (.string V):=d1;have d21:(wr.drewN nq).cell? ⟨w.heap.size,2,none⟩=some (.bool no):=d2;clear hown hB k0 k1 k2 d0 d1 d2;generalize wr.drewN nq=w1 at *;go_wp2_with fail
      go_quiet (fail)
      have hB2:Below (w.heap.size+1) w0 (w1.drewN nq):=⟨hB1.os,hB1.tape,hB1.output,hB1.size,hB1.block⟩;have hO2:(w1.drewN nq).ownsRow (w.heap.size+1) 147 3 u5 n.length (setCells n):=hO1;have k02:(w1.drewN nq).cell? ⟨b,o+k * 3,none⟩=some (.string XF):=k01;have k12:(w1.drewN nq).cell? ⟨b,o+k * 3+1,none⟩=some (.string XV):=k11;have k22:(w1.drewN nq).cell? ⟨b,o+k * 3+2,none⟩=some (.bool aAk):=k21;have d02:(w1.drewN nq).cell? ⟨w.heap.size,0,none⟩=some (.string F):=d01;have d12:(w1.drewN nq).cell? ⟨w.heap.size,1,none⟩=some (.string V):=d11;have d22:(w1.drewN nq).cell? ⟨w.heap.size,2,none⟩=some (.bool no):=d21;clear hO1 hB1 k01 k11 k21 d01 d11 d21;generalize w1.drewN nq=w2 at *;have hKK:Hid (∀ w5,((w2.alloc (.cells #[Value.string F,.string V,.bool no] 147)).ownsRow (w.heap.size+1) 147 3 u5 n.length (setCells n))->(w2.alloc (.cells #[Value.string F,.string V,.bool no] 147)).grownBy w5 u5.ownBlock->w5.cell? ⟨b,o+k * 3,none⟩=some (.string XF)/\w5.cell? ⟨b,o+k * 3+1,none⟩=some (.string XV)/\w5.cell? ⟨b,o+k * 3+2,none⟩=some (.bool aAk)):=by
       intro w5 hown5 hgr5;have hB5:=aAw hB2 (by omega) hown5 hgr5;have hb25:∀ b,b<w.heap.size+1->w5.heap[b]? = w2.heap[b]?:=fun b hb=>(hB5.block b hb).trans (hB2.block b hb).symm
       exact⟨(lm (s:=none) (o:=o+k * 3) (hb25 b (by omega))).trans k02,(lm (s:=none) (o:=o+k * 3+1) (hb25 b (by omega))).trans k12,(lm (s:=none) (o:=o+k * 3+2) (hb25 b (by omega))).trans k22⟩
      have hnews5:∀ j u,(#[Value.string F,.string V,.bool no]).toList[j]? = some u->(w2.alloc (.cells #[Value.string F,.string V,.bool no] 147)).cell? ((⟨w2.heap.size,0,none⟩:Addr).add j)=some u:=World.news_of_block (heap_alloc_new w2 _);have hbase5:w.heap.size+1<=(w2.alloc (.cells #[Value.string F,.string V,.bool no] 147)).heap.size:=by simp;have:=hB2.size;omega
      have hown5:=eP hO2 (p9 (fun _=>False) w2 (.cells #[Value.string F,.string V,.bool no] 147)) (fun _ _ e=>e);have hln6:(n++[sg]).length=n.length+1:=by simp
      have hset6:setCells (n++[sg])=setCells n++[.string F,.string V,.bool no]:=by rw [setCells_snoc,HSG.out];simp only [eX]
      obtain⟨n6,hn6⟩:∃ n6,n6=n++[sg]:=⟨_,rfl⟩;rw [<-hn6] at hln6 hset6 HX;have hn6l:n6.length<=2 * k+1:=by omega
      have HN6:=Lib.hid hn6;have HL6:=Lib.hid hln6;have HS6:=Lib.hid hset6;clear hn6 hln6 hset6
      go_wp2_with (first
       | (at_builtin;refine wpList_append_lies _ rfl (.tmp 37) (.tmp 39) 92 rfl (w.heap.size+1) 147 ic _ 3 40 Tryz.underlying92 ci cz0 cz1 cz2 rfl (by decide) _ n.length (setCells n) rfl hown5 ⟨w2.heap.size,0,none⟩ 1 1 (#[Value.string F,.string V,.bool no]).toList rfl rfl hnews5 (by simp [Value.oneCell']) (by decide) (by unfold maxLen;omega) (by omega) hbase5 (w2.heap.size+1) (by simp) ?_;intro g5 cap5 w5 ho5 hgr5 hat5 hlt5;obtain⟨k03,k13,k23⟩:=hKK.out w5 hown5 hgr5;have hB5:=aAw hB2 (by omega) hown5 hgr5;rw [<-HL6.out,show setCells n++(#[Value.string F,.string V,.bool no]).toList=setCells n6 from HS6.out.symm] at ho5;rw [<-HL6.out];have hnews7:∀ j u,(#[Value.string XF,.string XV,.bool aAk]).toList[j]? = some u->(w5.alloc (.cells #[Value.string XF,.string XV,.bool aAk] 147)).cell? ((⟨w5.heap.size,0,none⟩:Addr).add j)=some u:=World.news_of_block (heap_alloc_new w5 _);have hbase7:w.heap.size+1<=(w5.alloc (.cells #[Value.string XF,.string XV,.bool aAk] 147)).heap.size:=(by simp;have:=hB5.size;omega);have hown7:=eP ho5 (p9 (fun _=>False) w5 (.cells #[Value.string XF,.string XV,.bool aAk] 147)) (fun _ _ e=>e))
       | (at_builtin;refine wpList_append_lies _ rfl (.tmp 41) (.tmp 46) 92 rfl (w.heap.size+1) 147 ic _ 3 40 Tryz.underlying92 ci cz0 cz1 cz2 rfl (by decide) _ n6.length (setCells n6) rfl hown7 ⟨w5.heap.size,0,none⟩ 1 1 (#[Value.string XF,.string XV,.bool aAk]).toList rfl rfl hnews7 (by simp [Value.oneCell']) (by decide) (by unfold maxLen;omega) (by omega) hbase7 (w5.heap.size+1) (by simp) ?_;intro g7 cap7 w7 ho7 hgr7 hat7 hlt7))
      have hB7:=aAw hB5 (by omega) hown7 hgr7;go_wp2_with fail;go_roundw
      case rel=>exact⟨k+1,n6++[⟨XF.data.toList,XV.data.toList,aAk⟩],true,by go_num,rfl,by omega,by simp;omega,HX,by rw [List.length_append,setCells_snoc];simp only [eX];exact ho7,hB7⟩
      case measure=>simp [intOf];omega
  ·obtain rfl:k=l.length:=by omega
   have hX:aAp aAo l sg=if q=true then n else n++[sg]:=by
    rw [HE.out,List.drop_length];rfl
   have d0:=(hB.cell (p:=⟨w.heap.size,0,none⟩) (Nat.lt_succ_self _)).trans c0;have d1:=(hB.cell (p:=⟨w.heap.size,1,none⟩) (Nat.lt_succ_self _)).trans c1;have d2:=(hB.cell (p:=⟨w.heap.size,2,none⟩) (Nat.lt_succ_self _)).trans c2;have HSG:Hid (sg=⟨F.data.toList,V.data.toList,no⟩):=hsg;clear hBw c0 c1 c2 hp0 HP HE hsg
   cases q with
   | true =>
    have HX:=Lib.hid (hX.trans (if_pos rfl));clear hX;obtain⟨A',c',rfl,hs⟩:=aAZ hown;have HS:=Lib.hid hs;have HO:=Lib.hid hown;clear hs hown;go_wp2_with fail;go_returns;rw [HX.out];exact⟨A',c',rfl,HS.out,hb0.trans (hB.mono (Nat.le_succ _))⟩
   | false =>
    have HX:=Lib.hid (hX.trans (if_neg (by simp)));clear hX;have hnews5:∀ j u,(#[Value.string F,.string V,.bool no]).toList[j]? = some u->(wr.alloc (.cells #[Value.string F,.string V,.bool no] 147)).cell? ((⟨wr.heap.size,0,none⟩:Addr).add j)=some u:=World.news_of_block (heap_alloc_new wr _);have hbase5:w.heap.size+1<=(wr.alloc (.cells #[Value.string F,.string V,.bool no] 147)).heap.size:=by simp;have:=hB.size;omega
    have hown5:=eP hown (p9 (fun _=>False) wr (.cells #[Value.string F,.string V,.bool no] 147)) (fun _ _ e=>e);go_wp2_with (first|(at_builtin;refine wpList_append_lies _ rfl (.tmp 50) (.tmp 52) 92 rfl (w.heap.size+1) 147 ic _ 3 40 Tryz.underlying92 ci cz0 cz1 cz2 rfl (by decide) _ n.length (setCells n) rfl hown5 ⟨wr.heap.size,0,none⟩ 1 1 (#[Value.string F,.string V,.bool no]).toList rfl rfl hnews5 (by simp [Value.oneCell']) (by decide) (by unfold maxLen;omega) (by omega) hbase5 (wr.heap.size+1) (by simp) ?_;intro g5 cap5 w5 ho5 hgr5 hat5 hlt5));have hB5:=aAw hB (by omega) hown5 hgr5;have hO6:w5.ownsRow (w.heap.size+1) 147 3 (.slice (some ⟨g5,0,none⟩) (n.length+1) cap5) (n++[sg]).length (setCells (n++[sg])):=by
     rw [List.length_append,setCells_snoc,HSG.out];simp only [eX];exact ho5
    obtain⟨A',c',hv,hs⟩:=aAZ hO6;have HS:=Lib.hid hs;have HV2:=Lib.hid hv;clear hs hv hO6 ho5;go_wp2_with fail;go_returns;rw [HX.out];exact⟨A',c',by rw [<-HV2.out];rfl,HS.out,hb0.trans (hB5.mono (Nat.le_succ _))⟩
open Go Go.RowKit Go.Maps
theorem aAN {W:World} {b:Nat} {x y z:Value} {T:TypeId} (h:W.heap[b]? = some (.cells #[x,y,z] T (0,0))):W.cell? ⟨b,0,none⟩=some x/\W.cell? ⟨b,1,none⟩=some y/\W.cell? ⟨b,2,none⟩=some z :=
 ⟨by rw [cell_of_row W b _ _ _ _ h];rfl,by rw [cell_of_row W b _ _ _ _ h];rfl,by rw [cell_of_row W b _ _ _ _ h];rfl⟩
theorem aAu.below {w w':World} {A:Option Addr} {l:List OH} (h:aAu w A l) (hb:Below w.heap.size w w'):aAu w' A l:=by
 intro k hk;obtain⟨b,o,e,hlt,h0,h1,h2⟩:=h k hk;exact⟨b,o,e,Nat.lt_of_lt_of_le hlt hb.size,(hb.cell hlt).trans h0,(hb.cell hlt).trans h1,(hb.cell hlt).trans h2⟩
def aA0 (w:World) (l:List OH) (r:Option (List OH)) (e:Ending) (w':World):Prop :=
 ∃ A' c' m,e=.returned (.tuple #[.slice A' m.length c',.bool r.isSome])/\(∀ x,r=some x->m=x)/\aAu w' A' m/\Below w.heap.size w w'
theorem aAA {α:Type} {r:Option α} {b:Bool} {l x:α} (hr:r=if b=true then some l else none) (h:r=some x):l=x:=by
 subst hr
 cases b
 ·cases h
 ·exact Option.some.inj h
theorem aAy {α:Type} {r:Option α} {b:Bool} {l:α} (hr:r=if b=true then some l else none):r.isSome=b:=by
 subst hr
 cases b <;> rfl
theorem aBF (g V:ByteArray) (gn:Bool):(decide (g.data.toList=V.data.toList/\gn=false/\g.data.toList≠[]):Bool)=((g.toList == V.toList) && !gn && !g.toList.isEmpty):=by
 rw [Lib.toList_data,Lib.toList_data];generalize g.data.toList=a;generalize V.data.toList=b;by_cases h:a=b
 ·subst h;cases gn <;> cases a <;> simp
 ·rw [show (a == b)=false by simpa using h];simp [h]
theorem aA3 (A:Option Addr) (c:Nat) (l:List OH) (op:UInt8) (F V:ByteArray) (w:World) (hV:aAu w A l) (hl:l.length<=1000000) :
  Calls Tryz.prog 51 #[.slice A l.length c,.agg #[.int .u8 op.toNat,.string F,.string V]] w (aA0 w l (aAq aAo l (aD op F V))):=by
 have hb0:Below w.heap.size w (w.alloc (.cells #[.int .u8 op.toNat,.string F,.string V] 24)):=(Below.refl _ _).alloc (Nat.le_refl _) _;have g3:=heap_alloc_new w (.cells #[.int .u8 op.toNat,.string F,.string V] 24);obtain⟨b3,hb3e⟩:∃ b3,b3=w.heap.size:=⟨_,rfl⟩;obtain⟨W0,hW0⟩:∃ W0,W0=w.alloc (.cells #[.int .u8 op.toNat,.string F,.string V] 24):=⟨_,rfl⟩;go_enter Tryz.func51,Tryz.ntmps51;go_upto_region 1 with (fail)
 rw [<-hW0,<-hb3e];rw [<-hW0] at hb0 g3;rw [<-hb3e] at g3;clear hW0 hb3e;obtain⟨k0,k1,k2⟩:=aAN g3;have HV:=Lib.hid hV;clear hV;obtain⟨n,hn⟩:∃ n,n=l.length:=⟨_,rfl⟩;rw [<-hn] at hl;rw [<-hn];have HV0:Hid (aAu W0 A l):=Lib.hid (aAu.below HV.out hb0);have aAj:=aBq A c l F W0 HV0.out (by omega);rw [<-hn] at aAj;have HN:=Lib.hid hn;clear hn;obtain⟨G,hG⟩:∃ G,G=aAm l F.data.toList:=⟨_,rfl⟩;rw [<-hG] at aAj;have HG:=Lib.hid hG;clear hG;obtain⟨gf,hgf⟩:∃ gf:ByteArray,gf=⟨G.feat.toArray⟩:=⟨_,rfl⟩;obtain⟨gv,hgv⟩:∃ gv:ByteArray,gv=⟨G.val.toArray⟩:=⟨_,rfl⟩;obtain⟨gn,hgn⟩:∃ gn,gn=G.no:=⟨_,rfl⟩;unfold aAz S at aAj;rw [<-hgf,<-hgv,<-hgn] at aAj;have HGf:=Lib.hid hgf;have HGv:=Lib.hid hgv;have HGn:=Lib.hid hgn;clear hgf hgv hgn;go_upto_region 2 with (first|(go_at_call 82;refine aAj.mono ?_;rintro e w1 ⟨rfl,hb1⟩))
 have hb2:Below w1.heap.size w1 (w1.alloc (.cells #[.string gf,.string gv,.bool gn] 147)):=(Below.refl _ _).alloc (Nat.le_refl _) _;have g6:=heap_alloc_new w1 (.cells #[.string gf,.string gv,.bool gn] 147);have q0:=(hb1.cell (ax k0)).trans k0;have q1:=(hb1.cell (ax k1)).trans k1;have q2:=(hb1.cell (ax k2)).trans k2;have r0:=(hb2.cell (ax q0)).trans q0;have r1:=(hb2.cell (ax q1)).trans q1;have r2:=(hb2.cell (ax q2)).trans q2;obtain⟨b6,hb6⟩:∃ b6,b6=w1.heap.size:=⟨_,rfl⟩;obtain⟨W2,hW2⟩:∃ W2,W2=w1.alloc (.cells #[.string gf,.string gv,.bool gn] 147):=⟨_,rfl⟩;rw [<-hW2,<-hb6];rw [<-hW2] at hb2 g6 r0 r1 r2;rw [<-hb6] at g6;obtain⟨m0,m1,m2⟩:=aAN g6;have hB:=ae hb0 (ae hb1 hb2);clear hb6 hb2 hb1 aAj hW2 q0 q1 q2 k0 k1 k2 g6 g3;have HV2:Hid (aAu W2 A l):=Lib.hid (aAu.below HV.out hB);have pS:∀ (X Y:ByteArray) (b:Bool),Calls Tryz.prog 83 #[.slice A n c,.agg #[.string X,.string Y,.bool b]] W2 (aAL W2 (aAp aAo l ⟨X.data.toList,Y.data.toList,b⟩)):=fun X Y b=>by
  rw [HN.out];exact aBu A c l X Y b W2 HV2.out (by rw [<-HN.out];exact hl)
 by_cases h80:((op.toNat:Int) == 80)=true
 ·have hr:aAq aAo l (aD op F V)=some (aAp aAo l ⟨F.data.toList,V.data.toList,false⟩):=by
   have:op=80:=by
    have:(op.toNat:Int)=80:=by simpa using h80
    exact UInt8.toNat_inj.1 (by simpa using (show op.toNat=80 by omega))
   unfold aAq aD;subst this
   rfl
  have HR:=Lib.hid hr;clear hr;go_wp2_with (first|(go_at_call 83;refine (pS _ _ _).mono ?_;rintro e w3 ⟨A',c',rfl,hs3,hb3⟩))
  all_goals go_returns
  all_goals exact⟨A',c',_,(by rw [HR.out];rfl),(fun x h=>by rw [HR.out] at h;exact Option.some.inj h),hs3,ae hB hb3⟩
 have f80:((op.toNat:Int) == 80)=false:=by simpa using h80
 clear h80;by_cases h78:((op.toNat:Int) == 78)=true
 ·have hr:aAq aAo l (aD op F V)=some (aAp aAo l ⟨F.data.toList,V.data.toList,true⟩):=by
   have:op=78:=by
    have:(op.toNat:Int)=78:=by simpa using h78
    exact UInt8.toNat_inj.1 (by simpa using (show op.toNat=78 by omega))
   unfold aAq aD;subst this
   rfl
  have HR:=Lib.hid hr;clear hr;go_wp2_with (first|(go_at_call 83;refine (pS _ _ _).mono ?_;rintro e w3 ⟨A',c',rfl,hs3,hb3⟩))
  all_goals go_returns
  all_goals exact⟨A',c',_,(by rw [HR.out];rfl),(fun x h=>by rw [HR.out] at h;exact Option.some.inj h),hs3,ae hB hb3⟩
 have f78:((op.toNat:Int) == 78)=false:=by simpa using h78
 clear h78;by_cases h67:((op.toNat:Int) == 67)=true
 ·have hr:aAq aAo l (aD op F V)=some (aAp aAo l ⟨F.data.toList,[],false⟩):=by
   have:op=67:=by
    have:(op.toNat:Int)=67:=by simpa using h67
    exact UInt8.toNat_inj.1 (by simpa using (show op.toNat=67 by omega))
   unfold aAq aD;subst this
   rfl
  have HR:=Lib.hid hr;clear hr;go_wp2_with (first|(go_at_call 83;refine (pS _ _ _).mono ?_;rintro e w3 ⟨A',c',rfl,hs3,hb3⟩))
  all_goals go_returns
  all_goals exact⟨A',c',_,(by rw [HR.out];rfl),(fun x h=>by rw [HR.out] at h;exact Option.some.inj h),hs3,ae hB hb3⟩
 have f67:((op.toNat:Int) == 67)=false:=by simpa using h67
 clear h67;have v1:(aAm l F.data.toList).val=gv.data.toList:=by rw [<-HG.out,HGv.out]
 have v2:(aAm l F.data.toList).no=gn:=by rw [<-HG.out,HGn.out]
 have o80:op≠80:=fun h=>by subst h;simp at f80
 have o78:op≠78:=fun h=>by subst h;simp at f78
 have o67:op≠67:=fun h=>by subst h;simp at f67
 obtain⟨E,hE⟩:∃ E,(gv.toList == V.toList)=E:=⟨_,rfl⟩;obtain⟨aAb,hbg⟩:∃ b,gv.toList.isEmpty=b:=⟨_,rfl⟩;obtain⟨bv,hbv⟩:∃ b,V.toList.isEmpty=b:=⟨_,rfl⟩;have ha:aAq aAo l (aD op F V)=if op=82 then (if (if bv then !aAb else E && !gn && !aAb)=true then some l else none)
   else if op=68 then (if (if bv then aAb else !(E && !gn && !aAb))=true then some l else none)
   else (if (aAb || (E && !gn && !aAb) || (gn && !E))=true then some (aAp aAo l ⟨F.data.toList,V.data.toList,false⟩) else none):=by
  unfold aAq aD;simp only [o80,o78,o67,if_false,v1,v2,aBF,hE,hbg];have q1:(V.data.toList=[])=(bv=true):=by rw [<-hbv,Lib.toList_data];simp
  have q2:(gv.data.toList=[])=(aAb=true):=by rw [<-hbg,Lib.toList_data];simp
  have q3:(gv.data.toList=V.data.toList)=(E=true):=by rw [<-hE,Lib.toList_data,Lib.toList_data];simp
  simp only [q1,q2,q3,ne_eq]
  cases bv <;> cases aAb <;> cases E <;> cases gn <;> rfl
 have HA:=Lib.hid ha;clear ha v1 v2 o80 o78 o67;by_cases o82:op=82
 ·have f82:((op.toNat:Int) == 82)=true:=by rw [o82];rfl
  have HR:=Lib.hid (HA.out.trans (if_pos o82));clear o82 HA pS
  cases bv
  ·cases aAb <;> cases E <;> cases gn
   all_goals go_wp2_with fail
   all_goals go_returns
   all_goals exact⟨A,c,l,by rw [<-HN.out,aAy HR.out];rfl,fun x h=>aAA HR.out h,HV2.out,hB⟩
  ·cases aAb
   all_goals go_upto_region 12 with (fail)
   all_goals go_quiet (fail)
   all_goals go_wp2_with fail
   all_goals go_returns
   all_goals exact⟨A,c,l,by rw [<-HN.out,aAy HR.out];rfl,fun x h=>aAA HR.out h,HV2.out,⟨hB.os,hB.tape,hB.output,hB.size,hB.block⟩⟩
 have f82:((op.toNat:Int) == 82)=false:=(oC op 82).trans (decide_eq_false o82);replace HA:=Lib.hid (HA.out.trans (if_neg o82));clear o82;by_cases o68:op=68
 ·have f68:((op.toNat:Int) == 68)=true:=by rw [o68];rfl
  have HR:=Lib.hid (HA.out.trans (if_pos o68));clear o68 HA pS
  cases bv
  ·cases aAb <;> cases E <;> cases gn
   all_goals go_wp2_with fail
   all_goals go_returns
   all_goals exact⟨A,c,l,by rw [<-HN.out,aAy HR.out];rfl,fun x h=>aAA HR.out h,HV2.out,hB⟩
  ·cases aAb
   all_goals go_upto_region 16 with (fail)
   all_goals go_quiet (fail)
   all_goals go_wp2_with fail
   all_goals go_returns
   all_goals exact⟨A,c,l,by rw [<-HN.out,aAy HR.out];rfl,fun x h=>aAA HR.out h,HV2.out,⟨hB.os,hB.tape,hB.output,hB.size,hB.block⟩⟩
 have f68:((op.toNat:Int) == 68)=false:=(oC op 68).trans (decide_eq_false o68);have HR:=Lib.hid (HA.out.trans (if_neg o68));clear o68 HA
 cases aAb <;> cases E <;> cases gn
 all_goals go_wp2_with (first|(go_at_call 83;refine (pS _ _ _).mono ?_;rintro e w3 ⟨A',c',rfl,hs3,hb3⟩))
 all_goals go_returns
 all_goals first
  | exact⟨A',c',_,by rw [aAy HR.out];rfl,fun x h=>aAA HR.out h,hs3,ae hB hb3⟩
  | exact⟨A,c,l,by rw [<-HN.out,aAy HR.out];rfl,(fun x h=>by have:=HR.out.symm.trans h;cases this),HV2.out,hB⟩
theorem aAF (cmp:Bs->Bs->Bool) (s:OH):∀ (m:List OH) (q:Bool) (n:List OH),(aAr cmp s m q n).length+q.toNat<=n.length+m.length+1
 | [],q,n=>by cases q <;> simp [aAr]
 | x::r,q,n=>by
  have a:=aAF cmp s r q n;have b:=aAF cmp s r true (n++[s]++[x]);have d:=aAF cmp s r q (n++[x]);simp only [List.length_append,List.length_cons,List.length_nil,Bool.toNat_true] at a b d ⊢;unfold aAr
  split
  ·omega
  ·split
   ·rename_i h;rw [h.1];simp only [Bool.toNat_false];omega
   ·omega
theorem aA2 {cmp:Bs->Bs->Bool} {m m':List OH} {f:aH} (h:aAq cmp m f=some m'):m'.length<=m.length+1:=by
 have hs:∀ s,(aAp cmp m s).length<=m.length+1:=fun s=>by have:=aAF cmp s m s.val.isEmpty [];unfold aAp;simp at this ⊢;omega
 unfold aAq at h;simp only at h
 repeat' split at h
 all_goals first
  | (cases h;exact hs _)
  | (cases h;exact Nat.le_succ _)
  | cases h
theorem aAU (A:Option Addr) (c:Nat) (l:List aH) (w:World) (hV:zu w A l) (hl:l.length<=300) (hs:∀ f∈l,f.feat.length<=16384/\f.val.length<=16384) :
  Calls Tryz.prog 22 #[.slice A l.length c] w fun e w'=>e=.returned (.bool (jH l))/\Below w.heap.size w w':=by
 have HV:=Lib.hid hV;have HS:=Lib.hid hs;have HL:Hid (jH l=(aAv aAo [] l).isSome):=(aBi aAo l).symm;clear hV hs;go_enter Tryz.func22,Tryz.ntmps22;go_wp2_with fail
 go_loopw [3,4] (fun m i wr=>∃ (k:Nat) (M:List OH) (B:Option Addr) (d:Nat),m=.slice B M.length d/\i=.int .i64 k/\k<=l.length/\M.length<=k/\Below w.heap.size w wr/\Hid (aAu wr B M)/\Hid (aAv aAo [] l=aAv aAo M (l.drop k))) (fun _ i _=>l.length-(intOf i).toNat)
 case atStart=>exact⟨0,[],none,0,rfl,rfl,by omega,by simp,Below.refl _ _,fun k h=>absurd h (by simp),rfl⟩
 case round =>
  obtain⟨k,M,B,d,rfl,rfl,hk,hM,hB,HM,HR⟩:=hrel;by_cases hlt:k<l.length
  ·obtain⟨b,o,rfl,hbl,hc0,hc1,hc2⟩:=HV.out k hlt
   have hdr:l.drop k=l[k]::l.drop (k+1):=List.drop_eq_getElem_cons hlt;have h1:=HS.out _ (List.getElem_mem hlt);have HF:Hid (aN l[k]=false->jH l=false):=fun h=>by rw [HL.out,HR.out,hdr,aAv,if_neg (by rw [h];simp)];rfl
   have HN:Hid (aN l[k]=true->aAq aAo M l[k]=none->jH l=false):=fun h h2=>by rw [HL.out,HR.out,hdr,aAv,if_pos h,h2];rfl
   have HT:Hid (∀ M',aN l[k]=true->aAq aAo M l[k]=some M'->aAv aAo [] l=aAv aAo M' (l.drop (k+1))):=fun M' h h2=>by rw [HR.out,hdr,aAv,if_pos h,h2]
   generalize l[k]=cc at *;obtain⟨F,hF⟩:∃ F:ByteArray,(⟨cc.feat.toArray⟩:ByteArray)=F:=⟨_,rfl⟩;obtain⟨V,hVv⟩:∃ V:ByteArray,(⟨cc.val.toArray⟩:ByteArray)=V:=⟨_,rfl⟩;have hFd:cc.feat=F.data.toList:=by rw [<-hF]
   have hVd:cc.val=V.data.toList:=by rw [<-hVv]
   have k0:wr.cell? ⟨b,o+k * 3,none⟩=some (.int .u8 cc.op.toNat):=(hB.cell (p:=⟨b,o+k * 3,none⟩) hbl).trans hc0;have k1:wr.cell? ⟨b,o+k * 3+1,none⟩=some (.string F):=(hB.cell (p:=⟨b,o+k * 3+1,none⟩) hbl).trans (by rw [hc1,S,hF]);have k2:wr.cell? ⟨b,o+k * 3+2,none⟩=some (.string V):=(hB.cell (p:=⟨b,o+k * 3+2,none⟩) hbl).trans (by rw [hc2,S,hVv]);rw [hFd,hVd,<-Lib.size_eq,<-Lib.size_eq] at h1;have p1:=fun W=>yI cc.op F V W h1.1 h1.2
   have p2:=fun W (hW:Below wr.heap.size wr W)=>aA3 B d M cc.op F V W (aAu.below HM.out hW) (by omega)
   have hcc:aD cc.op F V=cc:=by cases cc;simp only at hFd hVd;subst hFd;subst hVd;rfl
   rw [hcc] at p1 p2;obtain⟨op,hop⟩:∃ x,cc.op=x:=⟨_,rfl⟩;rw [hop] at p1 p2 k0;have i0:(0:Int)<=(k:Int):=by omega
   have il:(k:Int)<(l.length:Int):=by omega
   have hbw:b<wr.heap.size:=Nat.lt_of_lt_of_le hbl hB.size;clear hF hVv hFd hVd hc0 hc1 hc2 hcc hop HR h1
   cases hq:aN cc with
   | false =>
    have HX:=Lib.hid (HF.out hq);rw [hq] at p1;clear hq;go_wp2_with fail;refine (p1 _).mono ?_;rintro e W3 ⟨rfl,b3⟩;go_wp2_with fail;go_returns;exact⟨by rw [HX.out];(try rfl),ae hB b3⟩
   | true =>
    rw [hq] at p1;go_wp2_with fail;refine (p1 _).mono ?_;rintro e W3 ⟨rfl,b3⟩;have j0:=(b3.cell (p:=⟨b,o+k * 3,none⟩) hbw).trans k0;have j1:=(b3.cell (p:=⟨b,o+k * 3+1,none⟩) hbw).trans k1;have j2:=(b3.cell (p:=⟨b,o+k * 3+2,none⟩) hbw).trans k2;clear k0 k1 k2;have pA:=p2 W3 b3
    cases ha:aAq aAo M cc with
    | none =>
     have HX:=Lib.hid (HN.out hq ha);rw [ha] at pA;clear hq ha;go_wp2_with fail;refine pA.mono ?_;rintro e W4 ⟨A',c',m,rfl,-,-,b4⟩;go_wp2_with fail;go_returns;exact⟨by rw [HX.out];(try rfl),ae (ae hB b3) b4⟩
    | some M' =>
     have HX:=Lib.hid (HT.out M' hq ha);have hlen:=aA2 ha;rw [ha] at pA;clear hq ha;go_wp2_with fail;refine pA.mono ?_;rintro e W4 ⟨A',c',m,rfl,hm,hs4,b4⟩;obtain rfl:=hm M' rfl;go_wp2_with fail;go_roundw
     case rel=>exact⟨k+1,m,A',c',rfl,by go_num,by omega,by omega,ae (ae hB b3) b4,hs4,HX.out⟩
     case measure=>simp [intOf];omega
  ·obtain rfl:k=l.length:=by omega
   have HX:Hid (jH l=true):=by rw [Hid,HL.out,HR.out,List.drop_length];rfl
   go_wp2_with fail;go_returns;exact⟨by rw [HX.out];(try rfl),hB⟩
end Go.Proofs.YtppnecgeboonbaaGreatDoor
