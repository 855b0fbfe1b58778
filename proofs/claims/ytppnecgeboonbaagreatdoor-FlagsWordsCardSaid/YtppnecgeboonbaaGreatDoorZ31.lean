/- The reference of layer 22, Factor: features and values in memory. -/
import Derived.Test.YtppnecgeboonbaaGreatDoorZ30
import Derived.Laws.OwnMore
import Derived.DeepKeys5
import Derived.Deep.RegionLaw
import Derived.StillTail
import Derived.Maps.OwnSet
import Derived.Laws.Concat
import Derived.OrdersIn
import Derived.OrdersHeld
import Derived.Deep.RegionHeld
import Derived.RangeFuncIn
namespace Go.Proofs.YtppnecgeboonbaaGreatDoor
set_option maxRecDepth 100000
set_option linter.unusedVariables false
set_option maxHeartbeats 4000000
open Go Go.RowKit Go.Maps
structure OP (W:World) (B:Nat) (fv vv:Value) (us:List Value) (fs:List Bs) (ls:List (List Bs)):Prop where
 of:W.ownsRow B 9 1 fv fs.length (fs.map S)
 ov:W.ownsRow B 22 1 vv us.length us
 ul:us.length=ls.length
 ow:∀ i (h:i<us.length) (h':i<ls.length),W.ownsRow B 9 1 us[i] ls[i].length (ls[i].map S)
 n1:∀ g,fv.ownBlock=some g->vv.ownBlock≠some g
 n2:∀ u∈us,∀ g,u.ownBlock=some g->fv.ownBlock≠some g/\vv.ownBlock≠some g
 n3:∀ i j (hi:i<us.length) (hj:j<us.length),i≠j->∀ g,us[i].ownBlock=some g->us[j].ownBlock≠some g
theorem OP.chg {W W':World} {B:Nat} {fv vv:Value} {us:List Value} {fs:List Bs} {ls:List (List Bs)} (h:OP W B fv vv us fs ls) (hc:aB (fun _=>False) W W'):OP W' B fv vv us fs ls :=
 ⟨eP h.of hc (fun _ _ e=>e),eP h.ov hc (fun _ _ e=>e),h.ul,fun i a b=>eP (h.ow i a b) hc (fun _ _ e=>e),h.n1,h.n2,h.n3⟩
theorem OP.below {W W':World} {B:Nat} {fv vv:Value} {us:List Value} {fs:List Bs} {ls:List (List Bs)} (h:OP W B fv vv us fs ls) (hb:Below W.heap.size W W'):OP W' B fv vv us fs ls:=h.chg (aB.of_new hb)
theorem Po {W w4:World} {v u:Value} {E':TypeId} {B m g:Nat} {ys:List Value} (hs:W.heap.size<=w4.heap.size) (hu:W.ownsRow B E' 1 u m ys) (hne:∀ g,v.ownBlock=some g->u.ownBlock≠some g) (hat:v.ownBlock=some g\/g=w4.heap.size+1):u.ownBlock≠some g:=by
 rcases hat with e|e
 ·exact hne g e
 ·intro e'
  have:=(hu.lt g e').2;omega
section
variable {W w4 w5:World} {B:Nat} {fv vv:Value} {us:List Value} {fs:List Bs} {ls:List (List Bs)} {o:Obj} {g cap:Nat}
theorem OP.feat (h:OP W B fv vv us fs ls) (hc:aB (fun _=>False) W w4) {f:Bs} (ho:w5.ownsRow B 9 1 (.slice (some ⟨g,0,none⟩) (fs.length+1) cap) (fs.length+1) (fs.map S++[S f])) (hgr:(w4.alloc o).grownBy w5 fv.ownBlock) (hat:fv.ownBlock=some g\/g=w4.heap.size+1) :
  OP w5 B (.slice (some ⟨g,0,none⟩) (fs.length+1) cap) vv us (fs++[f]) ls:=by
 have c1:aB (fun b=>fv.ownBlock=some b) W w5:=(hc.trans (p9 (fun _=>False) w4 o) (fun _ _ e=>e)).mono (fun _ _ e=>e.elim) |>.trans (aB.of_grown hgr) (fun _ _ e=>e)
 refine⟨by rw [List.length_append,List.map_append];exact ho,eP h.ov c1 (fun g' hg e=>h.n1 g' e hg),h.ul,fun i a b=>eP (h.ow i a b) c1 (fun g' hg e=>(h.n2 _ (List.getElem_mem a) g' hg).1 e),?_,?_,h.n3⟩
 ·intro g' hg
  simp only [Value.ownBlock,Option.some.injEq] at hg;subst hg;exact Po hc.size h.ov h.n1 hat
 ·intro u hu g' hg
  refine⟨fun e=>?_,(h.n2 u hu g' hg).2⟩;simp only [Value.ownBlock,Option.some.injEq] at e;subst e;obtain⟨i,hi,rfl⟩:=List.getElem_of_mem hu;exact Po hc.size (h.ow i hi (by rw [<-h.ul];exact hi)) (fun g h1 h2=>(h.n2 _ hu g h2).1 h1) hat hg
theorem OP.vals (h:OP W B fv vv us fs ls) (hc:aB (fun _=>False) W w4) (ho:w5.ownsRow B 22 1 (.slice (some ⟨g,0,none⟩) (us.length+1) cap) (us.length+1) (us++[.slice none 0 0])) (hgr:(w4.alloc o).grownBy w5 vv.ownBlock) (hat:vv.ownBlock=some g\/g=w4.heap.size+1) :
  OP w5 B fv (.slice (some ⟨g,0,none⟩) (us.length+1) cap) (us++[.slice none 0 0]) fs (ls++[[]]):=by
 have c1:aB (fun b=>vv.ownBlock=some b) W w5:=(hc.trans (p9 (fun _=>False) w4 o) (fun _ _ e=>e)).mono (fun _ _ e=>e.elim) |>.trans (aB.of_grown hgr) (fun _ _ e=>e)
 have WV:=h.ul;refine⟨eP h.of c1 (fun g' hg e=>h.n1 g' hg e),by rw [List.length_append];exact ho,by simp [WV],fun i a b=>?_,?_,?_,?_⟩
 ·rcases Nat.lt_or_ge i us.length with hi|hi
  ·have:=eP (h.ow i hi (by omega)) c1 (fun g' hg e=>(h.n2 _ (List.getElem_mem hi) g' hg).2 e)
   simp only [List.getElem_append_left hi,List.getElem_append_left (show i<ls.length by omega)];exact this
  ·have hi':i=us.length:=by simp at a;omega
   subst hi';simp only [List.getElem_append_right (Nat.le_refl _),Nat.sub_self];simp only [WV,List.getElem_append_right (Nat.le_refl _),Nat.sub_self];exact World.ownsRow_nil _ _ _ _
 ·intro g' hg e
  simp only [Value.ownBlock,Option.some.injEq] at e;subst e;exact Po hc.size h.of (fun g h1 h2=>h.n1 g h2 h1) hat hg
 ·intro u hu g' hg
  rcases List.mem_append.1 hu with hu|hu
  ·refine⟨(h.n2 u hu g' hg).1,fun e=>?_⟩
   simp only [Value.ownBlock,Option.some.injEq] at e;subst e;obtain⟨i,hi,rfl⟩:=List.getElem_of_mem hu;exact Po hc.size (h.ow i hi (by omega)) (fun g h1 h2=>(h.n2 _ hu g h2).2 h1) hat hg
  ·rw [List.mem_singleton] at hu
   subst hu;simp [Value.ownBlock] at hg
 ·intro i j hi hj hij g' hg e
  rcases Nat.lt_or_ge i us.length with h1|h1
  ·rw [List.getElem_append_left h1] at hg
   rcases Nat.lt_or_ge j us.length with h2|h2
   ·rw [List.getElem_append_left h2] at e
    exact h.n3 i j h1 h2 hij g' hg e
   ·have:j=us.length:=by simp at hj;omega
    subst this;rw [List.getElem_append_right (Nat.le_refl _)] at e;simp [Value.ownBlock] at e
  ·have:i=us.length:=by simp at hi;omega
   subst this;rw [List.getElem_append_right (Nat.le_refl _)] at hg;simp [Value.ownBlock] at hg
theorem OP.push {gv cv i:Nat} (h:OP W B fv (.slice (some ⟨gv,0,none⟩) us.length cv) us fs ls) (hc:aB (fun _=>False) W w4) (hi:i<us.length) (hi':i<ls.length) {f:Bs} (ho:w5.ownsRow B 9 1 (.slice (some ⟨g,0,none⟩) (ls[i].length+1) cap) (ls[i].length+1) (ls[i].map S++[S f])) (hgr:(w4.alloc o).grownBy w5 us[i].ownBlock) (hat:us[i].ownBlock=some g\/g=w4.heap.size+1) :
  OP (w5.setCell ⟨gv,i,none⟩ (.slice (some ⟨g,0,none⟩) (ls[i].length+1) cap)) B fv (.slice (some ⟨gv,0,none⟩) us.length cv) (us.set i (.slice (some ⟨g,0,none⟩) (ls[i].length+1) cap)) fs (ls.set i (ls[i]++[f])):=by
 have c1:aB (fun b=>us[i].ownBlock=some b) W w5:=(hc.trans (p9 (fun _=>False) w4 o) (fun _ _ e=>e)).mono (fun _ _ e=>e.elim) |>.trans (aB.of_grown hgr) (fun _ _ e=>e)
 have c2:=dP w5 gv i (.slice (some ⟨g,0,none⟩) (ls[i].length+1) cap);have hm:=List.getElem_mem hi;have WV:=h.ul;have hov5:=eP h.ov c1 (fun g' hg e=>(h.n2 _ hm g' e).2 hg);have hst:=(hov5.stored i (.slice (some ⟨g,0,none⟩) (ls[i].length+1) cap)).1;have hgn:(Value.slice (some ⟨gv,0,none⟩) us.length cv).ownBlock≠some g:=Po hc.size h.ov (fun g h1 h2=>(h.n2 _ hm g h1).2 h2) hat;have hgf:fv.ownBlock≠some g:=Po hc.size h.of (fun g h1 h2=>(h.n2 _ hm g h1).1 h2) hat;have hgu:∀ j (hj:j<us.length),j≠i->us[j].ownBlock≠some g:=fun j hj hji=>Po hc.size (h.ow j hj (by omega)) (fun g h1 h2=>h.n3 i j hi hj (Ne.symm hji) g h1 h2) hat
 have hgvb:∀ u∈us,u.ownBlock≠some gv:=fun u hu e=>(h.n2 u hu gv e).2 rfl
 refine⟨?_,?_,by simp [WV],fun j a b=>?_,h.n1,?_,?_⟩
 ·exact eP (eP h.of c1 (fun g' hg e=>(h.n2 _ hm g' e).1 hg)) c2 (fun g' hg e=>h.n1 g' hg (by rw [e];rfl))
 ·rw [List.length_set];exact hst
 ·rw [List.length_set] at a b
  by_cases e:i=j
  ·subst e
   simp only [List.getElem_set_self];rw [List.length_append,List.map_append];exact eP ho c2 (fun g' hg e=>hgn (by
    simp only [Value.ownBlock,Option.some.injEq] at hg;rw [hg,e];rfl))
  ·simp only [List.getElem_set_ne e]
   exact eP (eP (h.ow j a b) c1 (fun g' hg e'=>h.n3 i j hi a e g' e' hg)) c2 (fun g' hg e'=>hgvb _ (List.getElem_mem a) (by rw [hg,e']))
 ·intro u hu g' hg
  rcases List.mem_or_eq_of_mem_set hu with hu|rfl
  ·exact h.n2 u hu g' hg
  ·simp only [Value.ownBlock,Option.some.injEq] at hg
   subst hg;exact⟨hgf,hgn⟩
 ·intro a b ha hb hab g' hg e
  rw [List.length_set] at ha hb;by_cases h1:i=a
  ·subst h1
   rw [List.getElem_set_self] at hg;rw [List.getElem_set_ne hab] at e;simp only [Value.ownBlock,Option.some.injEq] at hg;subst hg;exact hgu b hb (Ne.symm hab) e
  ·rw [List.getElem_set_ne h1] at hg
   by_cases h2:i=b
   ·subst h2
    rw [List.getElem_set_self] at e;simp only [Value.ownBlock,Option.some.injEq] at e;subst e;exact hgu a ha (Ne.symm h1) hg
   ·rw [List.getElem_set_ne h2] at e
    exact h.n3 a b ha hb hab g' hg e
end
open Go.RowKit Go.Maps
abbrev kK (p:aR):Prop:=(-9223372036854775808<=p.1/\p.1<=9223372036854775807)/\p.2.length<=10000000
def iy (p:aR):Value:=.agg #[.int .i64 p.1,S p.2]
def Cb (n:Nat):Value:=.int .i64 (n:Int)
theorem IK:laidOutB Tryz.prog=true:=by kernel_rfl
theorem Kk:WideMaps.KeyLaw Tryz.prog 82:=deep_law_laid IK (m:=2) (by omega) (of_decide_eq_true (by kernel_rfl)) (by kernel_rfl) (by rw [Tryz.underlying82])
theorem Dc:Keyed Tryz.prog 82:=Keyed.of_law Kk
theorem Kl:Tryz.prog.keyType 82=true:=by kernel_rfl
theorem Da:Tryz.prog.cellsOf 82=2:=by kernel_rfl
theorem Db:Enc Tryz.prog 82 iy kK where
 inj:=fun {a b} h=>by
  obtain⟨a1,a2⟩:=a;obtain⟨b1,b2⟩:=b;simp only [iy,S,Value.agg.injEq,Array.mk.injEq,List.cons.injEq,Value.int.injEq,Value.string.injEq,ByteArray.mk.injEq,true_and,and_true] at h;rw [h.1,h.2]
 key:=fun a ha=>by
  obtain⟨a1,a2⟩:=a;obtain⟨⟨h1,h2⟩,h3⟩:=ha;obtain⟨d,hd⟩:∃ d,Tryz.prog.types.size=d+1:=⟨Tryz.prog.types.size-1,by have:0<Tryz.prog.types.size:=of_decide_eq_true (by kernel_rfl);omega⟩;have hsz:(⟨a2.toArray⟩:ByteArray).size<=maxLen:=by
   rw [Lib.size_eq];unfold maxLen;simp only at h3;show a2.length<=_;omega
  have hwf:(Lit.int .i64 a1).wf=true:=by
   show (decide (IntKind.i64.min<=a1) && decide (a1<=IntKind.i64.max))=true;rw [Bool.and_eq_true,decide_eq_true_eq,decide_eq_true_eq];exact⟨h1,h2⟩
  have hfm:(iy (a1,a2)).formed Tryz.prog 82=true:=by simp [iy,Value.formed,Tryz.underlying82,Da]
  have hl:(Tryz.prog.keyLits (Tryz.prog.types.size+1) 82 (iy (a1,a2)).cells.toList).isSome=true:=by
   rw [hd];have e1:(iy (a1,a2)).cells.toList=[.int .i64 a1,S a2]:=rfl;rw [e1];unfold Program.keyLits;rw [Tryz.underlying82];have q1:Tryz.prog.keyLits (d+1) 3 [.int .i64 a1]=some [.int .i64 a1]:=by
    unfold Program.keyLits;rw [Tryz.underlying3];simp only;rw [if_pos ⟨trivial,hwf⟩]
   have q2:Tryz.prog.keyLits (d+1) 9 [S a2]=some [.string a2]:=by
    unfold Program.keyLits;rw [Tryz.underlying9];unfold S;simp only;rw [if_pos hsz]
   have n1:Tryz.prog.cellsOf 3=1:=by kernel_rfl
   have n2:Tryz.prog.cellsOf 9=1:=by kernel_rfl
   simp only [Da];rw [if_pos ⟨rfl,by simp⟩];simp only [List.mapM_cons,List.mapM_nil,n1,n2,List.drop_zero,List.take_succ_cons,List.take_zero,List.drop_succ_cons,q1,q2]
   rfl
  obtain⟨ls,hls⟩:=Option.isSome_iff_exists.1 hl;refine⟨.string (keyBytes ls),?_⟩;unfold keyOf;rw [Tryz.underlying82];simp only [Kl,hfm,Bool.and_self,if_true];rw [hls]
  rfl
abbrev kJ (w:World) (b:Nat) (l:List aR):Prop:=bN Tryz.prog 82 iy Cb w b l.zipIdx
theorem zn:∀ (l:List aR) (k:Nat) (p:aR),bO (l.zipIdx k) p=(jr l p).map (· + k)
 | [],k,p=>rfl
 | q::r,k,p=>by
  rw [List.zipIdx_cons];unfold bO jr;by_cases h:q=p
  ·rw [if_pos h,if_pos h];simp
  ·rw [if_neg h,if_neg h,zn r (k+1) p]
   cases jr r p with
   | none=>rfl
   | some n=>simp;omega
theorem EK {l:List aR} (h:∀ p∈l,kK p):∀ q∈l.zipIdx,kK q.1:=fun q hq=>h _ (List.mem_zipIdx' hq |>.2 ▸ List.getElem_mem _)
theorem OE {l:List aR} {p:aR} (h:jr l p=none):bQ l.zipIdx p l.length=(l++[p]).zipIdx:=by
 have hz:=zn l 0 p;rw [h] at hz;rw [vX (yz.1 hz),List.zipIdx_append];simp
theorem JB (w:World):(zeroValue 3).run Tryz.prog w=.ok (Cb 0) w:=by kernel_rfl
theorem JM (w:World) (b:Nat) (l:List aR) (h:kJ w b l) (hl:∀ p∈l,kK p) (p:aR) (hp:kK p) :
  (Instr.lookup 68 (.map (some b)) (iy p) true).run Tryz.prog w=.ok (.tuple #[.int .i64 ((jr l p).getD 0:Nat),.bool (jr l p).isSome]) w:=by
 have:=bN.look Dc Db Tryz.underlying68 (JB w) h (EK hl) p hp true;rw [this,zn]
 cases jr l p <;> rfl
theorem JN (w:World) (b:Nat) (l:List aR) (h:kJ w b l) (hl:∀ p∈l,kK p) (p:aR) (hp:kK p) (hn:jr l p=none) :
  ∃ o,(Instr.mapUpdate 68 (.map (some b)) (iy p) (.int .i64 (l.length:Int))).run Tryz.prog w=.ok () (aU w b o)/\kJ (aU w b o) b (l++[p]):=by
 have:=bN.put Dc Db Tryz.underlying68 h (EK hl) p hp l.length;rw [OE hn] at this;exact this
open Go
section
variable {P:Program} {ops:Array Oper} {md:Region.Mode} {C:World->Prop}
def j5 (P:Program) (md:Region.Mode) (ops:Array Oper) (C:World->Prop) (n:Nat) (L:Array Bool->Act->Prop):Nat->Array Bool->Act->Prop
 | 0,s,a=>L s a
 | f+1,s,a=>Region.ready md ops s≠[]/\∀ i∈Region.ready md ops s,i<n/\qOp P ops C i (j5 P md ops C n L f (s.setIfInBounds i true)) a
theorem j5.any {n g:Nat} {L:Array Bool->Act->Prop} {R:Exit->Act->World->Prop} (hL:∀ s a w,C w->L s a->wpAny P md ops R g s a w) :
  ∀ (f:Nat) (s:Array Bool) (a:Act) (w:World),C w->j5 P md ops C n L f s a->wpAny P md ops R (f+g) s a w
 | 0,s,a,w,hw,h=>by rw [Nat.zero_add];exact hL _ _ _ hw h
 | f+1,s,a,w,hw,h=>by
  rw [Nat.add_right_comm];exact⟨fun e=>absurd e h.1,fun i hi=>wpOp_of_qOp hw (fun a' w' hw' k=>j5.any hL f _ a' w' hw' k) (h.2 i hi).2⟩
theorem j5.first {n i:Nat} {o:Oper} {v:Value} {L:Array Bool->Act->Prop} (ho:ops[i]? = some o) (hns:Region.noSelect ops=true)
  (hs:Region.sinkB md ops n=true) (hc:Region.chainB md ops n=true) (hn:n<ops.size) (hin:i<n) (hL:∀ s a,L s a->∀ j∈Region.ready md ops s,n<=j) :
  ∀ (f:Nat) (s:Array Bool) (a:Act),HeadInv md ops n s ->
   (∀ j p,ops[j]? = some p->j≠i->s.getD j true=false->(∀ e∈p.after,Region.binds md e=true->e.on≠i)->o.apart ops p=true) ->
   i∈Region.ready md ops s->YieldsIn P ops C o v a->j5 P md ops C n L f (s.setIfInBounds i true) (a.put o.dst v)->j5 P md ops C n L (f+1) s a:=by
 have hsel:=Region.noSelect_spec hns;intro f
 induction f with
 | zero =>
  intro s a inv _ hr hy H;refine⟨List.ne_nil_of_mem hr,fun j hj=>?_⟩;have hjn:j<n:=Nat.lt_of_not_le fun h=>tail_waits hs hc hn inv _ i rfl hin (mem_ready.1 hr).1 j h hj
  by_cases e:j=i
  ·subst e;exact⟨hjn,hy.qOp ho H⟩
  ·exact absurd (hL _ _ H j (ready_mono hj e)) (by omega)
 | succ f ih =>
  intro s a inv hf hr hy H;refine⟨List.ne_nil_of_mem hr,fun j hj=>?_⟩;have hjn:j<n:=Nat.lt_of_not_le fun h=>tail_waits hs hc hn inv _ i rfl hin (mem_ready.1 hr).1 j h hj
  refine⟨hjn,?_⟩;by_cases e:j=i
  ·subst e;exact hy.qOp ho H
  ·obtain⟨hu,p,hp,hall⟩:=mem_ready.1 hj
   have hno:∀ x∈p.after,Region.binds md x=true->x.on≠i:=by
    intro x hx hb heq;have k:=hall x hx hb;rw [heq,getD_both (mem_ready.1 hr).1] at k
    cases k
   refine qOp_mono (fun a' k=>ih _ a' (inv.set hj hjn) (fun m q hq hm hu' hno'=>hf m q hq hm ?_ hno') (ready_mono hr (Ne.symm e)) k.1 ?_)
    (qOp_put hp (hf j p hp e hu hno) (fun cs b=>hsel i o cs b ho) (fun cs b=>hsel j p cs b hp) hy (H.2 j (ready_mono hj e)).2)
   ·by_cases hjm:j=m
    ·subst hjm;exact hu
    ·rwa [getD_set_ne true hjm] at hu'
   ·rw [Array.setIfInBounds_comm _ _ e];exact k.2
theorem j5.lex {n g:Nat} {K:Act->Prop} (hns:Region.noSelect ops=true) (hs:Region.sinkB md ops n=true) (hc:Region.chainB md ops n=true) (hn:n<ops.size) :
  ∀ (l:List Oper) (k:Nat) (s:Array Bool) (a:Act),(∀ j,j<l.length->l[j]? = ops[k+j]?)->k+l.length=n->HeadInv md ops n s->Region.lexHead md ops g l.length k s=true ->
  wpQuiet P ops C K l a->j5 P md ops C n (fun s' a'=>Region.seqB md ops g n s'=true/\K a') l.length s a
 | [],k,s,a,_,hk,_,hB,h=>by
  obtain rfl:k=n:=by simpa using hk
  exact⟨by simpa [Region.lexHead] using hB,h⟩
 | o::l,k,s,a,hl,hk,inv,hB,h=>by
  have h0:ops[k]? = some o:=by simpa using (hl 0 (by simp)).symm
  simp only [List.length_cons,Region.lexHead,Bool.and_eq_true] at hB;simp only [List.length_cons] at hk;have hr:k∈Region.ready md ops s:=by simpa using hB.1.1
  obtain⟨v,hy,hK⟩:=yieldsIn_of_qOp (C:=C) (K:=wpQuiet P ops C K l) h0 (by unfold qOp;simp only [h0];exact h);exact j5.first h0 hns hs hc hn (by omega) (fun s' a' hL=>seqB_ready hL.1) l.length s a inv (Region.free_spec h0 hB.1.2) hr hy
   (j5.lex hns hs hc hn l (k+1) _ _ (fun j hj=>by have:=hl (j+1) (by simp;omega);simpa [Nat.add_assoc,Nat.add_comm 1 j] using this) (by omega) (inv.set hr (by omega)) hB.2 hK)
theorem zi {id:Nat} {Q:Exit->Act->World->Prop} {a:Act} {w:World} {l:List Oper} (n:Nat) (C:World->Prop) (hm:P.follows .mixedOrders=true) (hB:Region.lexTailB .any l.toArray n=true) (hC:C w.drew)
  (h:wpQuiet P l.toArray C (fun a'=>∀ w',C w'->wpList P l.toArray Q (l.drop n) a' w') (l.take n) a):(Code.region id l.toArray true).wp P Q a w:=by
 simp only [Region.lexTailB,Bool.and_eq_true,decide_eq_true_eq] at hB;obtain⟨⟨⟨⟨hns,hn⟩,hs⟩,hc⟩,hlex⟩:=hB;have hn':n<l.length:=by simpa using hn
 have htl:(l.take n).length=n:=by simp;omega
 have inv0:HeadInv .any l.toArray n (Array.replicate l.toArray.size false) :=
  ⟨by simp,fun j oj _ hl=>(by rw [getD_replicate_false] at hl;cases hl),fun t _ ht=>getD_in (by simpa using ht) (getD_replicate_false _ _)⟩
 have H:=j5.lex (C:=C) (md:=.any) (g:=l.toArray.size-n) hns hs hc hn (l.take n) 0 _ a (fun j hj=>by rw [htl] at hj;simp [hj]) (by simpa using htl) inv0 (by rw [htl];exact hlex) h;refine wp_region_any hm ?_;have hdl:(l.drop n).length=l.toArray.size-n:=by simp
 have G:=j5.any (R:=Q) (g:=l.toArray.size-n) (fun s a' w' hw' hL=>by
  have:=wpAny_of_seq (md:=.any) (Q':=Q) (l.drop n) n s a' w' (fun j=>by simp [List.getElem?_drop]) (by rw [hdl];exact hL.1) (hL.2 w' hw');rwa [hdl] at this) _ _ _ _ hC H
 rw [htl,show n+(l.toArray.size-n)=l.toArray.size by omega] at G;exact G
end
open Go.RowKit
theorem Nr {P:Program} {ops:Array Oper} {o:Oper} {a:Act} {w:World} {K:Act->World->Prop} {Q:Exit->Act->World->Prop} {E:Prop}
  (hg:o.guard=none) (f:FuncId) (x:Operand) (t:TypeId) (hop:o.op=Op.call { callee:=Callee.value (Operand.func f),args:=#[x],argTypes:=#[t] })
  (he:∀ args w,(callFunc f args).run P w=.ok (.enter f args) w) (v:Value) (hx:a.eval x=v) {R:Value->World->Prop} (hc:Calls P f #[v] w fun e w'=>∃ u,e=.returned u/\R u w') (hK:∀ u w',R u w'->K (a.put o.dst u) w') :
  if Region.wanted o (yielded ops a.tmps)=true then Oper.wp P o a w K Q else E:=by
 have hw:Region.wanted o (yielded ops a.tmps)=true:=by simp [Region.wanted,hg]
 rw [if_pos hw];obtain⟨dst,op,ty,pos,after,guard⟩:=o;simp only at hop hg hK;subst hop;unfold Oper.wp;rw [execOp_call_go,show (#[] ++ #[x].map a.eval ++ #[]:Array Value)=#[v] by simp [hx],he,Oper.upon_enter];refine hc.mono ?_;rintro e w' ⟨u,rfl,h⟩;exact hK u w' h
structure gy (W:World) where
 w:World
 h:Below W.heap.size W w
theorem gy.ne (W:World):Nonempty (gy W):=⟨⟨W,Below.refl _ _⟩⟩
theorem gy.cell {W:World} {p:Addr} {v:Value} (h:W.cell? p=some v) (hp:p.block<W.heap.size) (z:gy W):z.w.cell? p=some v:=(z.h.cell hp).trans h
structure dH where
 k:Int
 st:Int
 ld:ByteArray
 A:Option Addr
 n:Nat
 c:Nat
 fb:Nat
 nb:Nat
 fv:Value
def aW (D:dH) (pv:Value):Array Value:=#[.int .i64 D.k,.int .i64 D.st,.string D.ld,.slice D.A D.n D.c,.map (some D.fb),D.fv,.map (some D.nb),pv]
def nQ (l:List aR):List Value:=l.flatMap fun p=>[.int .i64 p.1,S p.2]
theorem Ki (l:List aR) (p:aR):nQ (l++[p])=nQ l++[.int .i64 p.1,S p.2]:=by simp [nQ]
structure jA (w:World) (X B:Nat) (D:dH) (pv:Value) (pl:List aR):Prop where
 x:w.heap[X]? = some (.cells (aW D pv) 71 (0,0))
 nm:kJ w D.nb pl
 own:w.ownsRow B 82 2 pv pl.length (nQ pl)
 ne:X≠D.nb
 pb:∀ g,pv.ownBlock=some g->g≠X/\g≠D.nb
theorem jA.chg {Y:Nat->Prop} {w w':World} {X B:Nat} {D:dH} {pv:Value} {pl:List aR} (h:jA w X B D pv pl) (hc:aB Y w w') (h1:¬ Y X) (h2:¬ Y D.nb) (h3:∀ g,pv.ownBlock=some g->¬ Y g):jA w' X B D pv pl :=
 ⟨(hc.block X (lt_of_block h.x) h1).trans h.x,h.nm.same (hc.block D.nb h.nm.lt h2),eP h.own hc h3,h.ne,h.pb⟩
theorem jA.below {w w':World} {X B:Nat} {D:dH} {pv:Value} {pl:List aR} (h:jA w X B D pv pl) (hb:Below w.heap.size w w'):jA w' X B D pv pl :=
 h.chg (aB.of_new (X:=fun _=>False) hb) (fun e=>e) (fun e=>e) (fun _ _ e=>e)
theorem jA.cell {w:World} {X B:Nat} {D:dH} {pv:Value} {pl:List aR} (h:jA w X B D pv pl) (o:Nat) (v:Value) (hv:(aW D pv)[o]? = some v):w.cell? ⟨X,o,none⟩=some v:=by
 rw [cell_of_row w X o _ _ _ h.x];exact hv
theorem tJ (w:World) (b:Nat) (o:Obj):aB (fun c=>c=b) w (aU w b o):=⟨rfl,rfl,rfl,by simp [aU],fun c _ hx=>wH w b o c hx⟩
theorem IY {a b n:Nat} (h:a<=b) (k:n<a):n<b:=Nat.lt_of_lt_of_le k h
theorem dO {w:World} {b:Nat} {A A':Array Value} {T:TypeId} (h:w.heap[b]? = some (.cells A T (0,0))) (k:Nat) (v:Value) (e:A.setIfInBounds k v=A'):(w.setCell ⟨b,k,none⟩ v).heap[b]? = some (.cells A' T (0,0)):=by
 subst e;unfold World.setCell;simp only [Array.getElem?_modify];rw [h];simp
theorem Kj:(Tryz.prog.info? 82).map (fun i=>(i.zero,i.size,i.bytes))=some (some (.agg #[.int .i64 0,.string ⟨#[]⟩]),2,24):=by kernel_rfl
theorem oZ {w:World} {base:Nat} {e:TypeId} {size:Nat} {v:Value} {n:Nat} {xs:List Value} (h:w.ownsRow base e size v n xs):∃ A c,v=.slice A n c:=by
 rcases h.2 with⟨rfl,rfl⟩|⟨g,cap,cur,rfl,hB,hg,hn,hm,hc,ht⟩
 ·exact⟨none,0,rfl⟩
 ·exact⟨_,_,rfl⟩
abbrev sQ (X B:Nat) (D:dH) (pv:Value) (pl:List aR) (p:aR) (w:World) (e:Ending) (w':World):Prop :=
 ∃ pv',e=.returned (.int .i64 (((dG pl p).1:Nat):Int))/\jA w' X B D pv' (dG pl p).2/\aB (fun b=>b=X\/b=D.nb\/pv.ownBlock=some b) w w'/\∀ g,pv'.ownBlock=some g->pv.ownBlock=some g\/w.heap.size<=g
theorem ED (X B:Nat) (D:dH) (pv:Value) (pl:List aR) (p:aR) (w:World) (h:jA w X B D pv pl) (hl:∀ p∈pl,kK p) (hp:kK p) (hn:pl.length<=100000) (hB:B<=w.heap.size) :
  Calls Tryz.prog 43 #[.pointer (some ⟨X,0,none⟩),iy p] w (sQ X B D pv pl p w):=by
 obtain⟨q,M⟩:=p;obtain⟨Ap,cp,rfl⟩:=oZ h.own;obtain⟨Z,hZ⟩:∃ Z:ByteArray,(⟨M.toArray⟩:ByteArray)=Z:=⟨_,rfl⟩;have hP:iy (q,M)=.agg #[.int .i64 q,.string Z]:=by unfold iy S;rw [hZ]
 rw [hP];have bA:=(Below.refl w.heap.size w).alloc (Nat.le_refl _) (.cells #[.int .i64 q,.string Z] 82);have hE:=h.below bA;have z0:=az w #[.int .i64 q,.string Z] 82 0 (.int .i64 q) rfl;have z1:=az w #[.int .i64 q,.string Z] 82 1 (.string Z) rfl;have hsz:(w.alloc (.cells #[.int .i64 q,.string Z] 82)).heap.size=w.heap.size+1:=by simp
 have hX:=lt_of_block h.x;have hNb:=h.nm.lt;go_enter Tryz.func43,Tryz.ntmps43;go_upto_region 1 with (fail)
 generalize w.alloc (.cells #[.int .i64 q,.string Z] 82)=w0 at *;have x6:=hE.cell 6 (.map (some D.nb)) rfl;have x7:=hE.cell 7 (.slice Ap pl.length cp) rfl;have lk:=fun k=>JM (w0.drewN k) D.nb pl (hE.chg (ve (fun _=>False) w0 k) (fun e=>e) (fun e=>e) (fun _ _ e=>e)).nm hl (q,M) hp
 rw [hP] at lk;have Hh:=Lib.hid h;have HE:=Lib.hid hE;have Hl:=Lib.hid hl;clear h hE hl
 cases hf:jr pl (q,M) with
 | some n =>
  have HV:Hid (dG pl (q,M)=(n,pl)):=by rw [Hid];unfold dG;rw [hf]
  rw [hf] at lk;simp only [Option.getD_some,Option.isSome_some] at lk
  go_quiet (fail)
  go_wp2_with fail;go_returns;refine⟨_,?_,?_,?_,fun g hg=>Or.inl hg⟩
  ·rw [HV.out];rfl
  ·rw [HV.out];exact HE.out.chg (ve (fun _=>False) _ _) (fun e=>e) (fun e=>e) (fun _ _ e=>e)
  ·exact (aB.of_new bA).trans (ve (fun _=>False) _ _) (fun _ _ e=>e.elim)
 | none =>
  have HV:Hid (dG pl (q,M)=(pl.length,pl++[(q,M)])):=by rw [Hid];unfold dG;rw [hf]
  rw [hf] at lk;simp only [Option.getD_none,Option.isSome_none] at lk
  go_quiet (fail)
  have e1:=HE.out.chg (ve (fun _=>False) w0 nq) (fun e=>e) (fun e=>e) (fun _ _ e=>e);have b1:Below w.heap.size w (w0.drewN nq):=⟨bA.os,bA.tape,bA.output,bA.size,bA.block⟩;have y0:(w0.drewN nq).cell? ⟨w.heap.size,0,none⟩=some (.int .i64 q):=z0;have y1:(w0.drewN nq).cell? ⟨w.heap.size,1,none⟩=some (.string Z):=z1;have hs1:(w0.drewN nq).heap.size=w.heap.size+1:=hsz;generalize w0.drewN nq=w1 at *;have x6':=e1.cell 6 (.map (some D.nb)) rfl;have x7':=e1.cell 7 (.slice Ap pl.length cp) rfl;have e2:jA w1.drew X B D (.slice Ap pl.length cp) pl:=e1.chg (zR (fun _=>False) _) (fun e=>e) (fun e=>e) (fun _ _ e=>e);obtain⟨o,ho,hN⟩:=JN w1.drew D.nb pl e2.nm Hl.out (q,M) hp hf;rw [hP] at ho;have HN:=Lib.hid hN;have V5:=Lib.hid e1;clear e1 e2 hN lk;go_wp2_with fail
  go_still_tail 6,(by kernel_rfl)
  change wpList _ _ _ _ _ w1.drew;go_wp2_with fail;have hx2:(aU w1.drew D.nb o).heap[X]? = some (.cells (aW D (.slice Ap pl.length cp)) 71 (0,0)):=(wH w1.drew D.nb o X V5.out.ne).trans V5.out.x;have c2:aB (fun b=>b=D.nb) w1 (aU w1.drew D.nb o):=(zR _ w1).trans (tJ w1.drew D.nb o) (fun _ _ e=>e);have own2:=eP V5.out.own c2 (fun g hg e=>(V5.out.pb g hg).2 e);have hs2:(aU w1.drew D.nb o).heap.size=w.heap.size+1:=by rw [<-hs1];simp [aU]
  have v0:(aU w1.drew D.nb o).cell? ⟨w.heap.size,0,none⟩=some (.int .i64 q):=(lm (c2.block w.heap.size (by omega) (by omega))).trans y0;have v1:(aU w1.drew D.nb o).cell? ⟨w.heap.size,1,none⟩=some (.string Z):=(lm (c2.block w.heap.size (by omega) (by omega))).trans y1;have c12:aB (fun b=>b=D.nb) w (aU w1.drew D.nb o):=(aB.of_new b1).trans c2 (fun _ _ e=>e);clear ho y0 y1 x6' x7' z0 z1 hsz hs1 bA c2 b1 x6 x7 HE V5;generalize aU w1.drew D.nb o=w2 at *;have x7:w2.cell? ⟨X,7,none⟩=some (.slice Ap pl.length cp):=by rw [cell_of_row w2 X 7 _ _ _ hx2];rfl
  have f7:w2.frozen? ⟨X,7,none⟩=false:=by unfold World.frozen?;rw [hx2];simp
  obtain⟨ic,ci,cz0,cz1,cz2⟩:=info_parts Kj;have bT:Below w2.heap.size w2 ((w2.alloc (.cells #[.int .i64 q,.string Z] 82)).drew):=((Below.refl _ _).alloc (Nat.le_refl _) _).drew;have hown5:=eP own2 (aB.of_new (X:=fun _=>False) bT) (fun _ _ e=>e);have hnews:∀ j u,(#[Value.int .i64 q,.string Z]).toList[j]? = some u->((w2.alloc (.cells #[.int .i64 q,.string Z] 82)).drew).cell? ((⟨w2.heap.size,0,none⟩:Addr).add j)=some u:=World.news_of_block (heap_alloc_new w2 (.cells #[.int .i64 q,.string Z] 82));have h63:pl.length+1<=maxLen:=by unfold maxLen;omega
  have hby:(pl.length+1) * 24<=140737488355328:=by omega
  have hbase:B<=((w2.alloc (.cells #[.int .i64 q,.string Z] 82)).drew).heap.size:=by have:=bT.size;omega
  have hX2:X<w2.heap.size:=by omega
  have HS2:=Lib.hid hs2;clear hs2;have KK:Hid (∀ w5,((w2.alloc (.cells #[.int .i64 q,.string Z] 82)).drew).grownBy w5 (Value.slice Ap pl.length cp).ownBlock->w5.cell? ⟨X,7,none⟩=some (.slice Ap pl.length cp)/\w5.frozen? ⟨X,7,none⟩=false/\w5.heap[X]? = some (.cells (aW D (.slice Ap pl.length cp)) 71 (0,0))):=by
   intro w5 hg;have h1:w5.heap[X]? = w2.heap[X]?:=(hg.block X (Nat.lt_of_lt_of_le hX2 bT.size) (fun e=>(Hh.out.pb X e.symm).1 rfl)).trans (bT.block X hX2);exact⟨(lm h1).trans x7,dU h1 _ f7,h1.trans hx2⟩
  have ZT:=Lib.hid own2;clear own2
  go_region_law
   ((refine step_append_lies _ (by rfl) (.tmp 33) (.tmp 35) 69 (by rfl) B 82 ic _ 2 24 Tryz.underlying69 ci cz0 cz1 cz2 (by rfl) (by decide) _ pl.length (nQ pl) (by rfl) hown5 ⟨w2.heap.size,0,none⟩ 1 1 [.int .i64 q,.string Z] (by rfl) rfl hnews (by simp [Value.oneCell']) (by decide) h63 hby hbase (w2.heap.size+1) (by simp) ?_;intro g2 cap w5 hown6 hgr5 TW Ul;obtain⟨q1,q2,q3⟩:=KK.out w5 hgr5))
  all_goals
   go_wp2_with fail;go_returns;have g1:aB (fun b=>(Value.slice Ap pl.length cp).ownBlock=some b) w2 w5:=(aB.of_new bT).trans (aB.of_grown hgr5) (fun _ _ e=>e);have g2':=dP w5 X 7 (.slice (some ⟨g2,0,none⟩) (pl.length+1) cap);have hgn:(Value.slice Ap pl.length cp).ownBlock=some g2\/w2.heap.size<=g2:=TW.imp id (fun e=>by rw [e];omega);have hgX:g2≠X/\g2≠D.nb:=by
    rcases hgn with e|e
    ·exact Hh.out.pb g2 e
    ·have:=HS2.out;exact⟨by omega,by omega⟩
   refine⟨.slice (some ⟨g2,0,none⟩) (pl.length+1) cap,?_,⟨?_,?_,?_,Hh.out.ne,?_⟩,?_,?_⟩
   ·rw [HV.out];rfl
   ·exact dO q3 7 _ (by unfold aW;rfl)
   ·rw [HV.out]
    exact ((HN.out.same (g1.block D.nb (by have:=HS2.out;omega) (fun e=>(Hh.out.pb D.nb e).2 rfl))).same (g2'.block D.nb (IY (g1.size) (by have:=HS2.out;omega)) (fun e=>Hh.out.ne e.symm)))
   ·rw [HV.out]
    have:=eP hown6 g2' (fun g hg e=>by simp only [Value.ownBlock,Option.some.injEq] at hg;omega);rw [List.length_append,Ki,show S (q,M).2=.string Z from by unfold S;rw [hZ]];exact this
   ·intro g hg
    simp only [Value.ownBlock,Option.some.injEq] at hg;subst hg;exact hgX
   ·refine ((c12.mono (fun b _ e=>Or.inr (Or.inl e))).trans g1 (fun b _ e=>Or.inr (Or.inr e))).trans g2' (fun b _ e=>Or.inl e)
   ·intro g hg
    simp only [Value.ownBlock,Option.some.injEq] at hg;subst hg;rcases hgn with e|e
    ·exact Or.inl e
    ·exact Or.inr (by have:=HS2.out;omega)
theorem Jc (fs:List Bs) (L:dz) (k:Nat) (hk:k<fs.length):dE (fs.take (k+1)) L=dE (fs.take k) L++memT (aP L fs[k]):=by
 unfold dE;rw [List.take_succ_eq_append_getElem hk,List.flatMap_append];simp
abbrev wT (m:eU):Prop:=m.kind<=2/\m.of.length<=40
theorem I8 {m:eU} (h:wT m):(memT m).length<=42:=by
 unfold memT lY;simp only [List.length_append,List.length_cons,List.length_nil];have:=h.2
 split
 ·simp;omega
 ·split <;> simp <;> omega
theorem FH {B:Nat} {a w:World} (h:Below B a w) (n:Nat):Below B a (w.drewN n):=⟨h.os,h.tape,h.output,h.size,h.block⟩
theorem I9 (k:Int) (G:ByteArray) (W:World):(Instr.field 141 (.agg #[.int .i64 k,.string G]) 0).run Tryz.prog W=.ok (.int .i64 k) W:=by
 simp [Instr.field,go_sem,run_underlying Tryz.underlying141,asAgg]
theorem Ja (k:Int) (G:ByteArray) (W:World):(Instr.field 141 (.agg #[.int .i64 k,.string G]) 1).run Tryz.prog W=.ok (.string G) W:=by
 simp [Instr.field,go_sem,run_underlying Tryz.underlying141,asAgg]
theorem MO (k:Nat) (hk:k=0\/k=1\/k=2) (W:World):(Instr.index 139 (.agg #[.string ⟨#[]⟩,.string ⟨#[61]⟩,.string ⟨#[94]⟩]) (.int .i64 (k:Int))).run Tryz.prog W=.ok (.string ⟨(lY k).toArray⟩) W:=by
 rcases hk with rfl|rfl|rfl <;> simp [Instr.index,run_underlying Tryz.underlying139,asIntOf,go_sem,lY]
theorem EI (X:Nat) (Af:Option Addr) (cf:Nat) (fs:List Bs) (m:Option Nat) (L:dz) (w:World) (hX:X<w.heap.size) (hx:w.cell? ⟨X,5,none⟩=some (.slice Af fs.length cf)) (hV:ay w Af (fs.map S)) (hn:fs.length<=1000000)
  (hlk:∀ W,Below w.heap.size w W->∀ f∈fs,(Instr.lookup 89 (.map m) (S f) false).run Tryz.prog W=.ok (jw (aP L f)) W) (hL:∀ f,wT (aP L f)) :
  Calls Tryz.prog 44 #[.pointer (some ⟨X,0,none⟩),.map m] w fun e w'=>e=.returned (.string ⟨(dE fs L).toArray⟩)/\Below w.heap.size w w':=by
 have HV:=Lib.hid hV;have b0:Below w.heap.size w (w.alloc (.cells #[.pointer none,.slice none 0 0] 134)):=(Below.refl _ _).alloc (Nat.le_refl _) _;have hx0:=(b0.cell (p:=⟨X,5,none⟩) hX).trans hx;have B0:=Rat3.fC.new w;have HL:=Lib.hid hL;have HLK:=Lib.hid hlk;clear hV hx hL hlk;go_enter Tryz.func44,Tryz.ntmps44;go_wp2_with fail
 go_loopw [13] (fun i wr=>∃ (q:Nat),i=.int .i64 q/\q<=fs.length/\Below w.heap.size w wr/\Rat3.fC w.heap.size w.heap.size (dE (fs.take q) L) wr/\(dE (fs.take q) L).length<=42 * q) (fun i _=>fs.length-(intOf i).toNat)
 case atStart=>exact⟨0,rfl,by omega,b0,by simpa [dE] using B0,by simp [dE]⟩
 case round =>
  clear B0 b0 hx0;obtain⟨q,rfl,hq,hB,hBl,hlen⟩:=hrel;by_cases hlt:q<fs.length
  ·obtain⟨b,o,rfl,hbl,hc0⟩:=row_of HV.out hlt
   have HE:=Lib.hid (Jc fs L q hlt);have hm:=HL.out fs[q];have lk0:=fun W hW=>HLK.out W hW fs[q] (List.getElem_mem hlt)
   have hmt:=I8 hm;generalize aP L fs[q]=mm at *;obtain⟨kk,F⟩:=mm;obtain⟨Z,hZ⟩:∃ Z:ByteArray,(⟨fs[q].toArray⟩:ByteArray)=Z:=⟨_,rfl⟩;obtain⟨G,hG⟩:∃ Z:ByteArray,(⟨F.toArray⟩:ByteArray)=Z:=⟨_,rfl⟩;have TU:F=G.data.toList:=by rw [<-hG]
   unfold S jw at lk0;simp only [hZ,hG] at lk0;have k0:=(hB.cell (p:=⟨b,o+q,none⟩) hbl).trans (hc0.trans (by rw [S,hZ]));have i0:(0:Int)<=(q:Int):=by omega
   have il:(q:Int)<(fs.length:Int):=by omega
   have lk:=lk0 wr.drew hB.drew;have hkk:kk=0\/kk=1\/kk=2:=by have:=hm.1;simp only at this;omega
   have hGs:G.size<=40:=by rw [Lib.size_eq,<-TU];exact hm.2
   have HB2:=Lib.hid hBl;clear hc0 hZ hG lk0 hm hBl;have hf0:=fun (k:Int) W=>I9 k G W
   have hf1:=fun (k:Int) W=>Ja k G W
   have hsg:=fun W=>MO kk hkk W
   obtain⟨K,hK⟩:∃ Z:ByteArray,(⟨(lY kk).toArray⟩:ByteArray)=Z:=⟨_,rfl⟩;have hKd:lY kk=K.data.toList:=by rw [<-hK]
   have hKs:K.size<=1:=by
    rw [Lib.size_eq,<-hKd];rcases hkk with rfl|rfl|rfl <;> decide
   rw [hK] at hsg;have HT:Hid (memT ⟨kk,F⟩=((K++G)++(⟨#[46]⟩:ByteArray)).data.toList):=by
    rw [Hid,memT,hKd,TU];simp
   have hc1:=fun W=>run_string_add_sum (P:=Tryz.prog) W K G (by omega)
   have hc2:=fun W=>run_string_add_sum (P:=Tryz.prog) W (K++G) ⟨#[46]⟩ (by rw [ByteArray.size_append];show K.size+G.size+1<=_;omega)
   have hT3:((K++G)++(⟨#[46]⟩:ByteArray)).size<=42:=by rw [ByteArray.size_append,ByteArray.size_append];show K.size+G.size+1<=_;omega
   clear hK hKd TU hkk;go_wp2_with fail
   go_still_tail 12,(by kernel_rfl)
   change wpList _ _ _ _ _ wr.drew;generalize (K++G)++(⟨#[46]⟩:ByteArray)=T at *;have hBd:Rat3.fC w.heap.size w.heap.size (dE (fs.take q) L) wr.drew:=HB2.out.below (Below.refl _ _).drew;have pw:=Rat3.uU w.heap.size w.heap.size _ T wr.drew hBd (by omega) hB.drew.size;clear hc1 hc2 hsg hf0 hf1 lk;go_wp2_with fail;refine pw.mono ?_;rintro e w2 ⟨rfl,hB3,b3⟩;go_wp2_with fail;go_roundw
   case rel=>exact⟨q+1,by go_num,by omega,hB.drew.trans b3,by rw [HE.out,HT.out];exact hB3,by rw [HE.out,HT.out,List.length_append,<-Lib.size_eq];omega⟩
   case measure=>simp [intOf];omega
  ·obtain rfl:q=fs.length:=by omega
   rw [List.take_length] at hBl;have hstr:=Rat3.zq _ _ _ _ hBl hB.size;go_wp2_with fail;refine hstr.mono ?_;rintro e w2 ⟨rfl,b2⟩;go_wp2_with fail;go_returns;exact⟨rfl,hB.trans b2⟩
theorem IU (f:Bs) (hf:bz f) (W:World):(Instr.lookup 89 (.map none) (S f) false).run Tryz.prog W=.ok (jw iF) W:=by
 obtain⟨kl,hkl⟩:=qJ.key f hf;have:=Maps.look_nil (w:=W) false qK Tryz.underlying89 (BM W) hkl;exact this
theorem OA (X:Nat) (Af:Option Addr) (cf:Nat) (fs:List Bs) (w:World) (hX:X<w.heap.size) (hx:w.cell? ⟨X,5,none⟩=some (.slice Af fs.length cf)) (hV:ay w Af (fs.map S)) (hn:fs.length<=1000000) (hf:∀ f∈fs,bz f) :
  Calls Tryz.prog 44 #[.pointer (some ⟨X,0,none⟩),.map none] w fun e w'=>e=.returned (.string ⟨(dE fs []).toArray⟩)/\Below w.heap.size w w' :=
 EI X Af cf fs none [] w hX hx hV hn (fun W _ f h=>IU f (hf f h) W) (fun f=>⟨by show (0:Nat)<=2;omega,by show (0:Nat)<=40;omega⟩)
theorem OB (X b:Nat) (Af:Option Addr) (cf:Nat) (fs:List Bs) (L:dz) (w:World) (hX:X<w.heap.size) (hx:w.cell? ⟨X,5,none⟩=some (.slice Af fs.length cf)) (hV:ay w Af (fs.map S)) (hn:fs.length<=1000000) (hf:∀ f∈fs,bz f)
  (hM:jC w b L) (hk:∀ p∈L,bz p.1) (hL:∀ f,wT (aP L f)) :
  Calls Tryz.prog 44 #[.pointer (some ⟨X,0,none⟩),.map (some b)] w fun e w'=>e=.returned (.string ⟨(dE fs L).toArray⟩)/\Below w.heap.size w w' :=
 EI X Af cf fs (some b) L w hX hx hV hn (fun W hW f h=>BP W b L (hM.below hW) hk f (hf f h)) hL
theorem NZ (Z:ByteArray) (h:0<Z.size):((((Z[0]'h).toNat:Nat):Int) == 61)=decide (Z[0]'h=61):=by
 by_cases e:Z[0]'h=61
 ·rw [e];rfl
 ·rw [decide_eq_false e,beq_eq_false_iff_ne]
  intro k;exact e (UInt8.toNat_inj.1 (by have:((61:UInt8).toNat:Int)=61:=rfl;omega))
theorem K9 (f:Bs) (r:List Bs) (p:Bs) (ps:List Bs) (L:dz):iJ (f::r) (p::ps) L=iJ r ps (if p=[] then L else iW L f (mY p)):=by
 show (if p=[] then iJ r ps L else iJ r ps (iW L f (mY p)))=_;by_cases h:p=[]
 ·rw [if_pos h,if_pos h]
 ·rw [if_neg h,if_neg h]
theorem La (fs ps:List Bs) (L:dz) (q:Nat) (hq:q<fs.length) (hp:q<ps.length):iJ (fs.drop q) (ps.drop q) L=iJ (fs.drop (q+1)) (ps.drop (q+1)) (if ps[q]=[] then L else iW L fs[q] (mY ps[q])):=by
 rw [List.drop_eq_getElem_cons hq,List.drop_eq_getElem_cons hp];exact K9 _ _ _ _ _
theorem AO (Z:ByteArray) (h:Z.size≠0):(Z.extract 1 Z.size).data.toList=Z.data.toList.tail:=by
 rw [eH,List.take_of_length_le (by rw [List.length_drop,<-Lib.size_eq];omega),List.drop_one]
theorem Ii (s:ByteArray) (w:World) (hT:fD w) (hs:s.size<=100000000):Calls Tryz.prog 36 #[.string s,.string ⟨#[46]⟩] w fun e w'=>∃ b,e=.returned (.slice (some ⟨b,0,none⟩) (dots s.data.toList).length (dots s.data.toList).length)/\(∀ j,(hj:j<(dots s.data.toList).length)->w'.cell? ⟨b,j,none⟩=some (S (dots s.data.toList)[j]))/\w.heap.size<=b/\b<w'.heap.size/\Below w.heap.size w w':=by
 obtain⟨m,hm⟩:=hT.r.mx;refine (Tryz.strings_Split s ⟨#[46]⟩ m w (by omega) hm (by decide)).mono ?_;have hd:=Eb s;have hl:(dots s.data.toList).length=Lib.countB s ⟨#[46]⟩+1:=by
  rw [<-hd,List.length_map];exact Lib.splitB_all _ (by decide) 0 _ s rfl
 rintro e w' ⟨rfl,rfl⟩;refine⟨w.heap.size,by rw [hl],fun j hj=>?_,Nat.le_refl _,by simp,(Below.refl _ _).alloc (Nat.le_refl _) _⟩;refine aJ w _ _ j _ ?_;rw [List.getElem?_toArray,List.getElem?_map];have hj':j<(Lib.splitB ⟨#[46]⟩ 0 (Lib.countB s ⟨#[46]⟩) s).length:=by
  have:=congrArg List.length hd;rw [List.length_map] at this;omega
 rw [List.getElem?_eq_getElem hj',Option.map_some];congr 1;have:(dots s.data.toList)[j]=(Lib.splitB ⟨#[46]⟩ 0 (Lib.countB s ⟨#[46]⟩) s)[j].data.toList:=by
  simp only [<-hd,List.getElem_map]
 rw [this,eX]
theorem GL (s:Bs):∀ p∈dots s,p.length<=s.length:=by
 have key:∀ (s cur:Bs),∀ p∈ja cur s,p.length<=cur.length+s.length:=by
  intro s
  induction s with
  | nil=>intro cur p hp;simp only [ja,List.mem_singleton] at hp;subst hp;simp
  | cons c r ih =>
   intro cur p hp;unfold ja at hp
   split at hp
   ·rcases List.mem_cons.1 hp with rfl|hp
    ·simp
    ·have:=ih [] p hp;simp at this ⊢;omega
   ·have:=ih _ p hp;simp at this ⊢;omega
 intro p hp;have:=key s [] p hp
 simpa using this
theorem lq {Y:Nat->Prop} {B:Nat} {w w1 w2:World} (h:Below B w w1) (hc:aB Y w1 w2) (hB:B<=w.heap.size) (hY:∀ b,b<B->¬ Y b):Below B w w2 :=
 h.trans ⟨hc.os,hc.tape,hc.output,hc.size,fun b hb=>hc.block b (Nat.lt_of_lt_of_le hb (Nat.le_trans hB h.size)) (hY b hb)⟩
theorem Lb (X:Nat) (Af:Option Addr) (cf:Nat) (fs:List Bs) (T:ByteArray) (w:World) (hT:fD w) (hX:X<w.heap.size) (hx:w.cell? ⟨X,5,none⟩=some (.slice Af fs.length cf)) (hV:ay w Af (fs.map S)) (hn:fs.length<=1000000) (hf:∀ f∈fs,bz f)
  (hs:T.size<=100000000) (hd:fs.length<=(dots T.data.toList).length) :
  Calls Tryz.prog 80 #[.pointer (some ⟨X,0,none⟩),.string T] w fun e w'=>∃ b,e=.returned (.map (some b))/\jC w' b (jg fs T.data.toList)/\(∀ p∈jg fs T.data.toList,bz p.1)/\w.heap.size<=b/\Below w.heap.size w w':=by
 have hmk:∀ W:World,(Instr.makeMap 89 none).run Tryz.prog W=.ok (.map (some W.heap.size)) (W.alloc (.map #[] 0)):=fun _=>rfl
 have hM0:jC (w.alloc (.map #[] 0)) w.heap.size []:=bN.new w;have b0:Below w.heap.size w (w.alloc (.map #[] 0)):=(Below.refl _ _).alloc (Nat.le_refl _) _;have hsz:w.heap.size<(w.alloc (.map #[] 0)).heap.size:=by simp
 have pS:=fun W hW=>Ii T W hW hs
 have XC:=GL T.data.toList;rw [<-Lib.size_eq] at XC;obtain⟨ps,hps⟩:∃ ps,ps=dots T.data.toList:=⟨_,rfl⟩;have HR:Hid (jg fs T.data.toList=iJ fs ps []):=by rw [Hid,jg,hps]
 rw [<-hps] at pS XC hd;obtain⟨R,hR⟩:∃ R,R=jg fs T.data.toList:=⟨_,rfl⟩;rw [<-hR] at HR ⊢;have HV:=Lib.hid hV;have HF:=Lib.hid hf;clear hps hR hV hf;go_enter Tryz.func80,Tryz.ntmps80;go_wp2_with fail;generalize w.alloc (.map #[] 0)=w0 at *;refine (pS _ (hT.below b0)).mono ?_;rintro e w1 ⟨b,rfl,hcell,hb0,hb1,bb⟩;have x5:=((b0.trans (bb.mono b0.size)).cell (p:=⟨X,5,none⟩) hX).trans hx;have hbw:=b0.trans (bb.mono b0.size);have hM1:=hM0.below bb;have hne:b≠w.heap.size:=by omega
 clear pS hmk hM0;go_wp2_with fail
 go_loopw [17] (fun i wr=>∃ (q:Nat) (L:dz),i=.int .i64 q/\q<=fs.length/\jC wr w.heap.size L/\(∀ p∈L,bz p.1)/\aB (fun b=>b=w.heap.size) w1 wr/\Hid (R=iJ (fs.drop q) (ps.drop q) L)) (fun i _=>fs.length-(intOf i).toNat)
 case atStart=>exact⟨0,[],rfl,by omega,hM1,(fun p hp=>absurd hp List.not_mem_nil),aB.refl _ _,HR.out⟩
 case round =>
  clear hM1;obtain⟨q,L,rfl,hq,hM,hok,hC,HJ⟩:=hrel;by_cases hlt:q<fs.length
  ·have hpq:q<ps.length:=by omega
   have HJ2:=Lib.hid (HJ.out.trans (La fs ps L q hlt hpq));obtain⟨bf,o,rfl,hbl,hc0⟩:=row_of HV.out hlt;have YN:bz fs[q]:=HF.out _ (List.getElem_mem hlt);have hc1:=hcell q hpq;have hpl:=XC _ (List.getElem_mem hpq);obtain⟨F,hF⟩:∃ Z:ByteArray,(⟨fs[q].toArray⟩:ByteArray)=Z:=⟨_,rfl⟩;obtain⟨Z,hZ⟩:∃ Z:ByteArray,(⟨ps[q].toArray⟩:ByteArray)=Z:=⟨_,rfl⟩;have Un:ps[q]=Z.data.toList:=by rw [<-hZ]
   have hput:=fun x=>BQ wr w.heap.size L hM hok fs[q] YN x
   unfold S at hc0 hc1 hput;rw [hF] at hc0 hput;rw [hZ] at hc1;rw [Un] at HJ2 hpl;rw [<-Lib.size_eq] at hpl;have k0:=(lm (hC.block bf (Nat.lt_of_lt_of_le hbl hbw.size) (by omega))).trans ((hbw.cell (p:=⟨bf,o+q,none⟩) hbl).trans hc0);have k1:=(lm (s:=none) (o:=q) (hC.block b hb1 hne)).trans hc1;have i0:(0:Int)<=(q:Int):=by omega
   have il:(q:Int)<(fs.length:Int):=by omega
   have il2:(q:Int)<(ps.length:Int):=by omega
   have Xe:Hid (∀ x,∀ p∈iW L fs[q] x,bz p.1):=fun x=>by
    rw [uK];exact rC YN hok
   clear hc0 hc1 hF hZ Un HJ hcell XC;by_cases hz:Z.size=0
   ·have HX:Hid (R=iJ (fs.drop (q+1)) (ps.drop (q+1)) L):=by rw [Hid,HJ2.out,if_pos (fF hz)]
    have Vs:=Lib.hid hM;have UQ:=Lib.hid hC;have hok2:=hok;have hem:=jF hz;clear hput HJ2 hM hC;go_wp2_with fail;go_roundw
    case rel=>exact⟨q+1,_,by go_num,by omega,Vs.out,hok2,UQ.out,HX.out⟩
    case measure=>simp [intOf];omega
   ·have hem:=jI hz
    have d1:(1:Int)<=(Z.size:Int):=by omega
    have d2:(0:Int)<(Z.size:Int):=by omega
    have Xu:=NZ Z (by omega);by_cases Zn:Z[0]'(by omega)=61
    ·have hrm:mY Z.data.toList=⟨1,Z.data.toList.tail⟩:=by
      unfold mY;rw [<-tC Z (by omega),if_pos Zn]
     rw [decide_eq_true Zn] at Xu;have aB8:((((Z[0]'(by omega)).toNat:Nat):Int) == 61)=true:=Xu;obtain⟨o',ho,V9⟩:=hput ⟨1,Z.data.toList.tail⟩;have hme:jw ⟨1,Z.data.toList.tail⟩=.agg #[.int .i64 1,.string (Z.extract 1 Z.size)]:=by
      unfold jw;rw [<-AO Z hz]
      rfl
     rw [hme] at ho;have HX:Hid (R=iJ (fs.drop (q+1)) (ps.drop (q+1)) (iW L fs[q] ⟨1,Z.data.toList.tail⟩)):=by rw [Hid,HJ2.out,if_neg (gB hz),hrm]
     have Vs:=Lib.hid V9;have UQ:=Lib.hid (hC.trans (tJ wr w.heap.size o') (fun _ _ e=>e));have hok2:=Xe.out ⟨1,Z.data.toList.tail⟩;clear hput HJ2 hM hC V9 hme hrm Zn hz hok Xe;go_wp2_with fail;go_roundw
     case rel=>exact⟨q+1,_,by go_num,by omega,Vs.out,hok2,UQ.out,HX.out⟩
     case measure=>simp [intOf];omega
    ·have hrm:mY Z.data.toList=⟨2,Z.data.toList.tail⟩:=by
      unfold mY;rw [<-tC Z (by omega),if_neg Zn]
     rw [decide_eq_false Zn] at Xu;have aB8:((((Z[0]'(by omega)).toNat:Nat):Int) == 61)=false:=Xu;obtain⟨o',ho,V9⟩:=hput ⟨2,Z.data.toList.tail⟩;have hme:jw ⟨2,Z.data.toList.tail⟩=.agg #[.int .i64 2,.string (Z.extract 1 Z.size)]:=by
      unfold jw;rw [<-AO Z hz]
      rfl
     rw [hme] at ho;have HX:Hid (R=iJ (fs.drop (q+1)) (ps.drop (q+1)) (iW L fs[q] ⟨2,Z.data.toList.tail⟩)):=by rw [Hid,HJ2.out,if_neg (gB hz),hrm]
     have Vs:=Lib.hid V9;have UQ:=Lib.hid (hC.trans (tJ wr w.heap.size o') (fun _ _ e=>e));have hok2:=Xe.out ⟨2,Z.data.toList.tail⟩;clear hput HJ2 hM hC V9 hme hrm Zn hz hok Xe;go_wp2_with fail;go_roundw
     case rel=>exact⟨q+1,_,by go_num,by omega,Vs.out,hok2,UQ.out,HX.out⟩
     case measure=>simp [intOf];omega
  ·obtain rfl:q=fs.length:=by omega
   have HX:Hid (R=L):=by
    have:=HJ.out;rw [List.drop_length] at this;rw [Hid,this];unfold iJ;rfl
   go_wp2_with fail;go_returns;exact⟨_,rfl,by rw [HX.out];exact hM,by rw [HX.out];exact hok,Nat.le_refl _,lq hbw hC (Nat.le_refl _) (fun b hb=>by omega)⟩
open Rat3
def fU (t fs:List Bs) (mem:Bs) (arcs:List aO):List (aO × Bs):=arcs.filterMap fun a=>(jy t fs mem a).map (fun x=>(a,x))
def jc (t:List Bs):List (aO × Bs)->List aR->List aO->List aO × List aR
 | [],l,out=>(out,l)
 | (a,x)::r,l,out=>jc t r (dG l (a.to,x)).2 (out++[⟨fE t a.inn,fE t a.out,a.w,(dG l (a.to,x)).1⟩])
theorem vC (t fs:List Bs) (mem:Bs):∀ (arcs:List aO) (l:List aR) (out:List aO),iO t fs mem arcs l out=jc t (fU t fs mem arcs) l out
 | [],l,out=>rfl
 | a::r,l,out=>by
  unfold iO fU;rw [List.filterMap_cons]
  cases h:jy t fs mem a with
  | none=>simp only [Option.map_none];exact vC t fs mem r l out
  | some x=>simp only [Option.map_some];unfold jc;exact vC t fs mem r _ _
theorem AC (t:List Bs) (a:aO) (x:Bs):∀ (pre:List (aO × Bs)) (l:List aR) (out:List aO),jc t (pre++[(a,x)]) l out=((jc t pre l out).1++[⟨fE t a.inn,fE t a.out,a.w,(dG (jc t pre l out).2 (a.to,x)).1⟩],(dG (jc t pre l out).2 (a.to,x)).2)
 | [],l,out=>rfl
 | (b,y)::r,l,out=>by
  rw [List.cons_append];unfold jc;exact AC t a x r _ _
theorem xM (t:List Bs):∀ (pre:List (aO × Bs)) (l:List aR) (out:List aO),(jc t pre l out).1.length=out.length+pre.length/\(jc t pre l out).2.length<=l.length+pre.length/\l.length<=(jc t pre l out).2.length/\∀ x∈(jc t pre l out).2,x∈l\/∃ q∈pre,x=(q.1.to,q.2)
 | [],l,out=>⟨rfl,Nat.le_refl _,Nat.le_refl _,fun x hx=>Or.inl hx⟩
 | (b,y)::r,l,out=>by
  unfold jc;obtain⟨h1,h2,h3,h4⟩:=xM t r (dG l (b.to,y)).2 (out++[⟨fE t b.inn,fE t b.out,b.w,(dG l (b.to,y)).1⟩]);obtain⟨v1,v2,v3,v4⟩:=Om l (b.to,y);have v5:(dG l (b.to,y)).2.length<=l.length+1:=by
   unfold dG
   cases jr l (b.to,y) <;> simp
  refine⟨by rw [h1];simp;omega,by simp only [List.length_cons];omega,by omega,fun x hx=>?_⟩;rcases h4 x hx with h|⟨q,hq,rfl⟩
  ·rcases v3 x h with h|rfl
   ·exact Or.inl h
   ·exact Or.inr ⟨(b,y),List.mem_cons_self,rfl⟩
  ·exact Or.inr ⟨q,List.mem_cons_of_mem _ hq,rfl⟩
theorem Nu (t fs:List Bs) (mem:Bs) (arcs:List aO) (j:Nat) (hj:j<arcs.length):fU t fs mem (arcs.take (j+1))=match jy t fs mem arcs[j] with|some x=>fU t fs mem (arcs.take j)++[(arcs[j],x)]|none=>fU t fs mem (arcs.take j):=by
 unfold fU;rw [List.take_succ_eq_append_getElem hj,List.filterMap_append]
 cases h:jy t fs mem arcs[j] with
 | none=>simp [h]
 | some x=>simp [h]
theorem Nt (t fs:List Bs) (mem:Bs) (arcs:List aO) (j:Nat) (hj:j<arcs.length) (x:Bs) (h:jy t fs mem arcs[j]=some x):fU t fs mem arcs=fU t fs mem (arcs.take j)++(arcs[j],x)::fU t fs mem (arcs.drop (j+1)):=by
 unfold fU
 conv=>lhs;rw [<-List.take_append_drop j arcs,List.drop_eq_getElem_cons hj]
 rw [List.filterMap_append,List.filterMap_cons,h]
 rfl
theorem Ei (t fs:List Bs) (mem:Bs) (arcs:List aO):(fU t fs mem arcs).length<=arcs.length:=List.length_filterMap_le _ _
theorem Ej {t fs:List Bs} {mem:Bs} {arcs:List aO} {q:aO × Bs} (h:q∈fU t fs mem arcs):q.1∈arcs/\jy t fs mem q.1=some q.2:=by
 unfold fU at h;obtain⟨a,ha,h⟩:=List.mem_filterMap.1 h
 cases hn:jy t fs mem a with
 | none=>rw [hn] at h;cases h
 | some x=>rw [hn] at h;simp only [Option.map_some,Option.some.injEq] at h;subst h;exact⟨ha,hn⟩
def OY (fs:List Bs) (mem:Bs):Prop:=∃ m:dz,mem=dE fs m/\(∀ f,oU (aP m f))/\(∀ f,f ∉ fs->aP m f=iF)/\∀ f,(aP m f).kind<=2/\(aP m f).of.length<=40
theorem vI {f:aH} (h:aN f=true):f.feat.length<=40/\f.val.length<=40:=by
 unfold aN at h;rw [Bool.and_eq_true,decide_eq_true_eq] at h;have h2:=h.2;unfold bU gZ at h2
 split at h2
 ·rename_i e
  simp at h2;rw [e];exact⟨by omega,by simp⟩
 ·simp at h2
  exact⟨by omega,by omega⟩
theorem Bc (fs:List Bs):OY fs (dE fs []):=⟨[],rfl,fun _=>I7,fun _ _=>rfl,fun _=>⟨Nat.zero_le _,Nat.zero_le _⟩⟩
theorem Np {m x:eU} {f:aH} (hm:m.kind<=2/\m.of.length<=40) (hf:aN f=true) (h:jZ m f.op f.val=some x):x.kind<=2/\x.of.length<=40:=by
 have hv:=(vI hf).2;have h0:iF.kind<=2/\iF.of.length<=40:=⟨Nat.zero_le _,Nat.zero_le _⟩;unfold jZ at h
 split at h
 ·cases h;exact⟨by show (1:Nat)<=2;omega,hv⟩
 ·split at h
  ·cases h;exact⟨by show (2:Nat)<=2;omega,hv⟩
  ·split at h
   ·cases h;exact h0
   ·split at h
    ·split at h <;> split at h <;> cases h <;> exact hm
    ·split at h
     ·split at h <;> split at h <;> cases h <;> exact hm
     ·split at h
      ·cases h;exact⟨by show (1:Nat)<=2;omega,hv⟩
      ·cases h
theorem Bd {t fs:List Bs} {mem:Bs} {a:aO} {f:aH} {L:dz} (hn:fs.Nodup) (h:OY fs mem) (ha:eO t a=some f) (hf:f.feat∈fs) (hs:fT (jg fs mem) f=some L):(∀ g,(aP L g).kind<=2/\(aP L g).of.length<=40)/\OY fs (dE fs L):=by
 obtain⟨m,rfl,ft,ou,sm⟩:=h;have hv:=vT ha;have hg:∀ g,aP (jg fs (dE fs m)) g=aP m g:=fun g=>Jb hn ft ou g
 obtain⟨x,hx,hget⟩:∃ x,jZ (aP m f.feat) f.op f.val=some x/\∀ g,aP L g=if f.feat=g then x else aP m g:=by
  unfold fT at hs;rw [hg] at hs
  cases hx:jZ (aP m f.feat) f.op f.val with
  | none=>rw [hx] at hs;cases hs
  | some x =>
   rw [hx] at hs;simp only [Option.map_some,Option.some.injEq] at hs;exact⟨x,rfl,fun g=>by rw [<-hs,vK,hg]⟩
 have hsm:∀ g,(aP L g).kind<=2/\(aP L g).of.length<=40:=fun g=>by
  rw [hget]
  split
  ·exact Np (sm _) hv hx
  ·exact sm g
 refine⟨hsm,L,rfl,fun g=>?_,fun g hout=>?_,hsm⟩
 ·rw [hget]
  split
  ·exact Nl (ft _) hv hx
  ·exact ft g
 ·rw [hget,if_neg (fun e:f.feat=g=>hout (e ▸ hf))]
  exact ou g hout
theorem xR {fs:List Bs} {mem:Bs} (h:OY fs mem):mem.length<=42 * fs.length/\fs.length<=(dots mem).length:=by
 obtain⟨m,rfl,ft,ou,sm⟩:=h;constructor
 ·have key:∀ l:List Bs,(dE l m).length<=42 * l.length:=by
   intro l
   induction l with
   | nil=>simp [dE]
   | cons f r ih =>
    unfold dE at ih ⊢;rw [List.flatMap_cons,List.length_append,List.length_cons];have:(memT (aP m f)).length<=42:=by
     unfold memT lY;simp only [List.length_append,List.length_cons,List.length_nil];have:=(sm f).2
     split
     ·simp;omega
     ·split <;> simp <;> omega
    omega
  exact key fs
 ·rw [BO,xJ _ (fun p hp=>by
   obtain⟨f,_,rfl⟩:=List.mem_map.1 hp;exact CV (ft f))]
  simp
theorem Be {t fs:List Bs} {mem:Bs} {a:aO} {x:Bs} (hn:fs.Nodup) (h:OY fs mem) (hf:∀ f,eO t a=some f->f.feat∈fs) (hx:jy t fs mem a=some x):OY fs x:=by
 unfold jy at hx
 cases ha:eO t a with
 | none=>rw [ha] at hx;cases hx;exact h
 | some f =>
  rw [ha] at hx;simp only at hx
  cases hs:fT (jg fs mem) f with
  | none=>rw [hs] at hx;cases hx
  | some L =>
   rw [hs] at hx
   cases hx
   exact (Bd hn h ha (hf f ha) hs).2
open Go Go.RowKit
section
variable {P:Program} {n l:Nat} {ops:Array Oper} {Q:Exit->Act->World->Prop} {md:Region.Mode}
theorem JY {o:Oper} {a:Act} {w:World} {K:Act->World->Prop} (hd:∀ c,o.op ≠ .defer c) (h:Oper.wp P o a w K Q):Oper.wpIn (Fence.wide.inRound l) n P o a w K Q:=by
 refine⟨fun _ _=>trivial,?_⟩;unfold Oper.wp at h;rw [show (Fence.wide.inRound l).round=some l from rfl,Oper.semAt_some l _ _ hd];generalize (execOp a.eval o).run P w=r at *
 cases r with
 | ok nx w' =>
  cases nx
  case value v=>exact h
  case skip=>exact h
  case defer d=>exact h
  case enter f args=>exact And.intro (fun e=>by cases e) (CallsIn.inRound l ((callsIn_wide (n:=n-1)).2 h))
  case row row args =>
   refine And.intro (fun e=>by cases e) ?_;intro c cs _;obtain⟨v,w1,r,s⟩:=h c cs;exact⟨v,w1,r,stepsIn_wide.2 s⟩
  all_goals exact h.elim
 | halt x w' =>
  cases x <;> first|exact h|exact h.elim
theorem uY (hd:∀ (i:Nat) (o:Oper) c,ops[i]? = some o->o.op ≠ .defer c) (hQ:¬ LetsOut Q):∀ (fuel:Nat) (listed:Array Bool) (a:Act) (w:World),wpAny P md ops Q fuel listed a w->wpAnyIn (Fence.wide.inRound l) n P md ops Q fuel listed a w
 | 0,_,_,_,h=>h
 | fuel+1,listed,a,w,h=>by
  refine⟨h.1,fun i hi=>?_⟩;have h2:=h.2 i hi;unfold wpOp at h2;unfold wpOpIn
  cases ho:ops[i]? with
  | none =>
   rw [ho] at h2;exact uY hd hQ fuel _ _ _ h2
  | some o =>
   rw [ho] at h2;simp only at h2 ⊢
   split at h2
   ·rename_i hw
    rw [if_pos hw];rcases h2 with h2|h2
    ·have:=JY (l:=l) (n:=n) (fun c=>hd i o c ho) h2
     exact Oper.wpIn_mono (fun a' w' h3=>uY hd hQ fuel _ _ _ h3) this
    ·exact absurd h2.2 hQ
   ·rename_i hw
    rw [if_neg hw];exact⟨fun _ _=>trivial,uY hd hQ fuel _ _ _ h2⟩
end
variable {P:Program}
def zw {α:Type} (P:Program) (gf:Nat) (lb:Array Value) (encs:α->Array Value) (xs:List α) (Hc:World->Prop):Prop :=
 ∀ (l:Nat) (J:List α->World->Prop),(∀ pre W,J pre W->Hc W)->(∀ pre W W',J pre W->Below W.heap.size W W'->J pre W') ->
  (∀ pre x post W,xs=pre++x::post->J pre W->YieldAt Fence.wide 4 P l (encs x) W fun e W'=>e=.returned (.bool true)/\J (pre++[x]) W') ->
  ∀ W,J [] W->CallsIn Fence.wide 5 P gf (#[.func (.yield l) #[] #[]]++lb) W fun e W'=>e=.returned (.tuple #[])/\J xs W'
def FO {α:Type} (l D:Nat) (I:List α->World->Prop) (pre:List α) (x:α) (W:World):Exit->Act->World->Prop
 | .normal,_,W'=>W'.heap[l]? = W.heap[l]?/\W'.heap[D]? = W.heap[D]?/\I (pre++[x]) W'
 | _,_,_=>False
def qi (ds:List Nat):List Deferred:=ds.map fun D=>{ target:=.collected D,args:=#[] }
def kQ:List Nat->World->World
 | [],w=>w
 | D::r,w=>kQ r (w.putObj D (.deferred none))
theorem zU:∀ (ds:List Nat) (w:World) (b:Nat),b ∉ ds->(kQ ds w).heap[b]? = w.heap[b]?
 | [],w,b,_=>rfl
 | D::r,w,b,h=>by
  simp only [List.mem_cons,not_or] at h;rw [kQ,zU r _ b h.2,World.putObj_heap_other h.1]
theorem zT {B:Nat}:∀ (ds:List Nat) (w:World),(∀ D∈ds,B<=D)->Below B w (kQ ds w)
 | [],w,_=>Below.refl _ _
 | D::r,w,h=>by
  have h1:=zS w D (.deferred none);have:Below B w (w.putObj D (.deferred none)):=⟨h1.os,h1.tape,h1.output,h1.size,fun b hb=>World.putObj_heap_other (by have:=h D List.mem_cons_self;omega)⟩;exact this.trans (zT r _ fun D' hD=>h D' (List.mem_cons_of_mem _ hD))
theorem Bo {F:Fence} {n:Nat} {fn:Func} {tmps:Array Value} {R:Ending->World->Prop}:∀ (ds:List Nat) (w:World),(∀ D∈ds,w.heap[D]? = some (.deferred (some [])))->ds.Nodup ->
  LeavesIn F n P fn tmps R [] .returning (kQ ds w)->LeavesInM F n P fn tmps R (qi ds) .returning w
 | [],w,_,_,h=>h
 | D::r,w,h,hn,hl=>by
  rw [List.nodup_cons] at hn;refine⟨by simp,Or.inl ⟨D,_,rfl,run_takeDeferred (h D List.mem_cons_self),?_⟩⟩;refine Bo r _ (fun D' hD=>?_) hn.2 hl;rw [World.putObj_heap_other (by rintro rfl;exact hn.1 hD)];exact h D' (List.mem_cons_of_mem _ hD)
end Go.Proofs.YtppnecgeboonbaaGreatDoor
