/- The reference of layer 5: SameInts. -/
import Derived.Test.YtppnecgeboonbaaGreatDoorZ27
namespace Go.Proofs.YtppnecgeboonbaaGreatDoor
set_option maxRecDepth 100000
set_option linter.unusedVariables false
set_option maxHeartbeats 4000000
open Go.RowKit
theorem L6 (A B:Option Addr) (c d:Nat) (x y:List Int) (w:World) (hV:ay w A (x.map IV)) (hW:ay w B (y.map IV)) (hl:x.length<=140737488355328):Calls Tryz.prog 25 #[.slice A x.length c,.slice B y.length d] w fun e w'=>e=.returned (.bool (decide (x=y)))/\Below w.heap.size w w':=by
 have HV:=Lib.hid hV;have HW:=Lib.hid hW;clear hV hW;by_cases hlen:x.length=y.length
 ·have t0:((x.length:Int) != (y.length:Int))=false:=by rw [hlen];simp
  have HL:=Lib.hid hlen;obtain⟨n,hn⟩:∃ n,n=y.length:=⟨_,rfl⟩;rw [<-hn] at t0 ⊢;have HN:=Lib.hid hn;clear hlen hn;go_enter Tryz.func25,Tryz.ntmps25;go_wp2_with fail
  go_loopw [5] (fun i wr=>∃ (k:Nat),i=.int .i64 k/\k<=x.length/\Hid (x.take k=y.take k)/\Below w.heap.size w wr) (fun i _=>x.length-(intOf i).toNat)
  case atStart=>exact⟨0,rfl,by omega,by simp [Hid],Below.refl _ _⟩
  case round =>
   obtain⟨k,rfl,hk,HT,hB⟩:=hrel;by_cases hlt:k<x.length
   ·have hlt2:k<y.length:=by rw [<-HL.out];exact hlt
    obtain⟨bx,ox,rfl,hbx,hx0⟩:=row_of HV.out hlt;obtain⟨by',oy,rfl,hby,hy0⟩:=row_of HW.out hlt2;have tx:=List.take_succ_eq_append_getElem hlt;have ty:=List.take_succ_eq_append_getElem hlt2;have HD:Hid (x[k]≠y[k]->decide (x=y)=false):=fun h=>decide_eq_false (fun e=>by subst e;exact h rfl)
    have HS:Hid (x[k]=y[k]->x.take (k+1)=y.take (k+1)):=fun h=>by rw [tx,ty,HT.out,h]
    have il2:(k:Int)<(n:Int):=by rw [HN.out];omega
    clear tx ty;generalize x[k]=a at *;generalize y[k]=b at *;have k0:=(hB.cell (p:=⟨bx,ox+k,none⟩) hbx).trans hx0;have k1:=(hB.cell (p:=⟨by',oy+k,none⟩) hby).trans hy0;unfold IV at k0 k1;have i0:(0:Int)<=(k:Int):=by omega
    have il:(k:Int)<(x.length:Int):=by omega
    clear hx0 hy0;by_cases he:a=b
    ·have HX:=Lib.hid (HS.out he)
     subst he;clear HD HS;go_wp2_with fail
     go_quiet (fail)
     go_wp2_with fail;go_roundw
     case rel=>exact⟨k+1,by go_num,by omega,HX,⟨hB.os,hB.tape,hB.output,hB.size,hB.block⟩⟩
     case measure=>simp [intOf];omega
    ·have HX:=Lib.hid (HD.out he)
     have t1:(a != b)=true:=by simpa using he
     clear HD HS he;go_wp2_with fail
     go_quiet (fail)
     go_wp2_with fail;go_returns;exact⟨by rw [HX.out];(try rfl),⟨hB.os,hB.tape,hB.output,hB.size,hB.block⟩⟩
   ·obtain rfl:k=x.length:=by omega
    have HX:Hid (decide (x=y)=true):=by
     have:=HT.out;rw [List.take_length,HL.out,List.take_length] at this;exact decide_eq_true this
    go_wp2_with fail;go_returns;exact⟨by rw [HX.out];(try rfl),hB⟩
 ·have t0:((x.length:Int) != (y.length:Int))=true:=by simp only [bne_iff_ne,ne_eq];omega
  have HX:Hid (decide (x=y)=false):=decide_eq_false (fun e=>hlen (by rw [e]));clear hlen;go_enter Tryz.func25,Tryz.ntmps25;go_wp2_with fail;go_returns;exact⟨by rw [HX.out];(try rfl),Below.refl _ _⟩
open Go
section
variable {P:Program} {ops:Array Oper} {Q:Exit->Act->World->Prop} {md:Region.Mode} {R:World->Prop} {k:Nat}
def wpAnyS (P:Program) (md:Region.Mode) (ops:Array Oper) (Q:Exit->Act->World->Prop) (k:Nat) (R:World->Prop):Nat->Array Bool->Act->World->Prop
 | 0,listed,a,w=>Region.ready md ops listed=[]/\Q .normal a w
 | fuel+1,listed,a,w =>
  (Region.ready md ops listed=[]->Q .normal a w) ∧
  ∀ i∈Region.ready md ops listed,wpOp P ops Q i (fun a' w'=>((listed.setIfInBounds i true).getD k true=false->R w')/\wpAnyS P md ops Q k R fuel (listed.setIfInBounds i true) a' w') a w
theorem zg:∀ (fuel:Nat) (listed:Array Bool) (a:Act) (w:World),wpAnyS P md ops Q k R fuel listed a w->wpAny P md ops Q fuel listed a w
 | 0,_,_,_,h=>h
 | fuel+1,_,_,_,h=>⟨h.1,fun i hi=>wpOp_mono (fun a' w' h'=>zg fuel _ a' w' h'.2) (h.2 i hi)⟩
def Closed (md:Region.Mode) (ops:Array Oper) (s:Array Bool):Prop:=∀ (j:Nat) (o:Oper),ops[j]? = some o->s.getD j true=true->∀ e∈o.after,Region.binds md e=true->s.getD e.on false=true
def zW (md:Region.Mode) (ops:Array Oper) (s:Array Bool):Bool:=(List.range ops.size).all fun j=>match ops[j]? with
 | some o=>!s.getD j true || o.after.toList.all fun e=>!Region.binds md e || s.getD e.on false
 | none=>true
theorem FX {s:Array Bool} (h:zW md ops s=true):Closed md ops s:=by
 intro j o ho hj e he hb;have hlt:j<ops.size:=(Array.getElem?_eq_some_iff.1 ho).1;have h1:=List.all_eq_true.1 h j (List.mem_range.2 hlt);rw [ho] at h1;simp only [hj,Bool.not_true,Bool.false_or] at h1;have h2:=List.all_eq_true.1 h1 e (by simpa using he)
 simpa [hb] using h2
theorem Closed.set {s:Array Bool} {i:Nat} (h:Closed md ops s) (hi:i∈Region.ready md ops s):Closed md ops (s.setIfInBounds i true):=by
 intro j o ho hj e he hb;by_cases hji:i=j
 ·subst hji
  obtain⟨_,o',ho',hall⟩:=mem_ready.1 hi;rw [ho] at ho'
  cases ho'
  exact getD_set_true (hall e he hb)
 ·rw [getD_set_ne true hji] at hj
  exact getD_set_true (h j o ho hj e he hb)
def uP (md:Region.Mode) (ops:Array Oper):Nat->Nat->Nat->Bool
 | 0,_,_=>false
 | f+1,k,i=>match ops[k]? with
  | some o=>o.after.toList.any fun e=>Region.binds md e && (e.on == i || uP md ops f e.on i)
  | none=>false
theorem EE {s:Array Bool} (hc:Closed md ops s):∀ (f k i:Nat),(∀ o,ops[k]? = some o->∀ e∈o.after,Region.binds md e=true->s.getD e.on false=true)->uP md ops f k i=true->s.getD i false=true
 | 0,k,i,_,h=>by cases h
 | f+1,k,i,hk,h=>by
  unfold uP at h
  cases ho:ops[k]? with
  | none=>rw [ho] at h;cases h
  | some o =>
   rw [ho] at h;obtain⟨e,he,hb⟩:=List.any_eq_true.1 h;have he:e∈o.after:=by simpa using he
   simp only [Bool.and_eq_true,Bool.or_eq_true,beq_iff_eq] at hb;have hl:=hk o ho e he hb.1;rcases hb.2 with e1|e1
   ·rw [<-e1];exact hl
   ·refine EE hc f e.on i (fun o' ho' e' he' hb'=>hc e.on o' ho' ?_ e' he' hb') e1
    have hlt:e.on<s.size:=by
     rcases Nat.lt_or_ge e.on s.size with h'|h'
     ·exact h'
     ·simp [Array.getElem?_eq_none h'] at hl
    simp [hlt] at hl ⊢;exact hl
theorem wpAnyS_first {i:Nat} {oi:Oper} {v:Value} (hi:ops[i]? = some oi) (hsel:∀ (j:Nat) (o:Oper) cs b,ops[j]? = some o->o.op ≠ .select cs b)
  (hQ:∀ c a w,Q (.panic c) (a.put oi.dst v) w->Q (.panic c) a w) (hik:i≠k) {f:Nat} (hn:uP md ops f k i=true) :
  ∀ (fuel:Nat) (listed:Array Bool) (a:Act) (w:World),Closed md ops listed->listed.getD k true=false ->
   (∀ j oj,ops[j]? = some oj->j≠i->listed.getD j true=false->(∀ e∈oj.after,Region.binds md e=true->e.on≠i)->oi.apart ops oj=true) ->
   i∈Region.ready md ops listed->YieldsIf P ops R oi v a->R w ->
   wpAnyS P md ops Q k R fuel (listed.setIfInBounds i true) (a.put oi.dst v) w->wpAnyS P md ops Q k R (fuel+1) listed a w:=by
 have hind:∀ s:Array Bool,(s.setIfInBounds i true).getD k true=s.getD k true:=fun s=>getD_set_ne true hik
 intro fuel
 induction fuel with
 | zero =>
  intro listed a w _ _ _ hr hy hS H;refine⟨fun h=>(by rw [h] at hr;cases hr),fun j hj=>?_⟩;by_cases hji:j=i
  ·subst hji;exact hy.wpOp hi hS ⟨fun _=>hS,H⟩
  ·have:=ready_mono hj hji
   rw [H.1] at this
   cases this
 | succ fuel ih =>
  intro listed a w hc hk0 hfree hr hy hS H;refine⟨fun h=>(by rw [h] at hr;cases hr),fun j hj=>?_⟩;by_cases hji:j=i
  ·subst hji;exact hy.wpOp hi hS ⟨fun _=>hS,H⟩
  ·have h1:=H.2 j (ready_mono hj hji)
   obtain⟨hjun,oj,hoj,hall⟩:=mem_ready.1 hj;have hnot:∀ e∈oj.after,Region.binds md e=true->e.on≠i:=fun e he hb heq=>by
    have h1:=hall e he hb;have h0:=(mem_ready.1 hr).1;rw [heq] at h1;rcases Nat.lt_or_ge i listed.size with h'|h'
    ·simp [h'] at h0 h1;rw [h0] at h1;cases h1
    ·simp [Array.getElem?_eq_none h'] at h1
   have h2:=wpOp_putIf hoj (hfree j oj hoj hji hjun hnot) (fun cs b=>hsel i oi cs b hi) (fun cs b=>hsel j oj cs b hoj) hQ hy h1;have hfree':∀ m om,ops[m]? = some om->m≠i->(listed.setIfInBounds j true).getD m true=false ->
     (∀ e∈om.after,Region.binds md e=true->e.on≠i)->oi.apart ops om=true:=fun m om hom hmi hun hno=>by
    refine hfree m om hom hmi ?_ hno;by_cases hjm:j=m
    ·subst hjm;exact hjun
    ·rw [getD_set_ne true hjm] at hun;exact hun
   have hjk:j≠k:=by
    rintro rfl;have:=EE hc f j i (fun o ho e he hb=>by
     rw [hoj] at ho
     cases ho
     exact hall e he hb) hn
    rw [getD_both (mem_ready.1 hr).1] at this
    cases this
   have hk:(listed.setIfInBounds j true).getD k true=false:=by rw [getD_set_ne true hjk];exact hk0
   refine wpOp_mono (fun a' w' h3=>?_) h2;obtain⟨y,r,z⟩:=h3;have hR:R w':=r (by rw [Array.setIfInBounds_comm _ _ (Ne.symm hji),hind];exact hk);refine⟨fun _=>hR,ih (listed.setIfInBounds j true) a' w' (hc.set hj) hk hfree' (ready_mono hr (Ne.symm hji)) y hR ?_⟩;rw [Array.setIfInBounds_comm _ _ hji];exact z
theorem l8 {listed:Array Bool} {a:Act} {w:World} (hr:Region.ready md ops listed=[]) (h:Q .normal a w):∀ fuel,wpAnyS P md ops Q k R fuel listed a w
 | 0=>⟨hr,h⟩
 | _+1=>⟨fun _=>h,by rw [hr];simp⟩
def bS (P:Program) (md:Region.Mode) (ops:Array Oper) (Q:Exit->Act->World->Prop) (k:Nat) (R:World->Prop) (fuel:Nat) (listed:Array Bool) (a:Act) (w:World) (rs:List Nat):Prop :=
 ∀ i∈rs,wpOp P ops Q i (fun a' w'=>((listed.setIfInBounds i true).getD k true=false->R w')/\wpAnyS P md ops Q k R fuel (listed.setIfInBounds i true) a' w') a w
theorem bS.nil {fuel:Nat} {listed:Array Bool} {a:Act} {w:World}:bS P md ops Q k R fuel listed a w []:=fun _ h=>by cases h
theorem dw {fuel:Nat} {listed:Array Bool} {a:Act} {w:World} (rs:List Nat) (hr:Region.ready md ops listed=rs) (hne:rs≠[]) (h:bS P md ops Q k R fuel listed a w rs):wpAnyS P md ops Q k R (fuel+1) listed a w :=
 ⟨fun h0=>absurd (hr ▸ h0) hne,hr ▸ h⟩
end
section
variable {P:Program} {l r:List Oper} {o:Oper} {Q:Exit->Act->World->Prop} {R:World->Prop} {k:Nat} {fuel:Nat} {listed:Array Bool} {a:Act} {w:World}
theorem xh {i:Nat} (hd:l.drop i=o::r):l.toArray[i]? = some o:=by
 have:=congrArg List.head? hd;rw [List.head?_drop] at this
 simpa using this
theorem bV (i:Nat) (hd:l.drop i=o::r) {v:Value} (hs:Region.noSelect l.toArray=true) (hf:Region.free .any l.toArray listed i=true) (hr:(Region.ready .any l.toArray listed).contains i=true) (f:Nat) (hn:uP .any l.toArray f k i=true) (hc:zW .any l.toArray listed=true) (hk:listed.getD k true=false) (hik:i≠k)
  (hQ:∀ c a w,Q (.panic c) (a.put o.dst v) w->Q (.panic c) a w) (hg:Region.wanted o (yielded l.toArray a.tmps)=true) (hy:∀ w,R w->(execOp a.eval o).run P w=.ok (.value v) w) (hS:R w)
  (h:wpAnyS P .any l.toArray Q k R fuel (listed.setIfInBounds i true) (a.put o.dst v) w):wpAnyS P .any l.toArray Q k R (fuel+1) listed a w :=
 wpAnyS_first (xh hd) (Region.noSelect_spec hs) hQ hik hn fuel listed a w (FX hc) hk (Region.free_spec (xh hd) hf) (by simpa using hr) (Or.inl ⟨hg,hy⟩) hS h
theorem bL {rs:List Nat} (i:Nat) (hd:l.drop i=o::r)
  (h:∀ K':Act->World->Prop,Shut (∀ a w,((listed.setIfInBounds i true).getD k true=false->R w)->wpAnyS P .any l.toArray Q k R fuel (listed.setIfInBounds i true) a w->K' a w)->if Region.wanted o (yielded l.toArray a.tmps)=true then Oper.wp P o a w K' Q else K' (a.put o.dst undef) w)
  (hs:bS P .any l.toArray Q k R fuel listed a w rs):bS P .any l.toArray Q k R fuel listed a w (i::rs):=fun j hj=>by
 rcases List.mem_cons.1 hj with rfl|hj
 ·exact wpOp_step (xh hd) (fun K' hK=>h K' (fun a w hS hW=>hK a w ⟨hS,hW⟩))
 ·exact hs j hj
theorem zh {id:Nat} (k:Nat) (R:World->Prop) (hm:P.follows .mixedOrders=true) (h:wpAnyS P .any l.toArray Q k R l.toArray.size (Array.replicate l.toArray.size false) a w.drew):(Code.region id l.toArray true).wp P Q a w :=
 wp_region_any hm (zg _ _ _ _ h)
theorem Oy {id n m:Nat} (k:Nat) (R:World->Prop) (hm:P.follows .mixedOrders=true) (hd:∀ (i:Nat) (o:Oper) c,l.toArray[i]? = some o->o.op ≠ .defer c) (hQ:¬ LetsOut Q)
  (h:wpAnyS P .any l.toArray Q k R l.toArray.size (Array.replicate l.toArray.size false) a w.drew):(Code.region id l.toArray true).wpIn (Fence.wide.inRound m) n P Q a w :=
 wpIn_region_any hm (uY hd hQ _ _ _ _ (zg _ _ _ _ h))
end
end Go.Proofs.YtppnecgeboonbaaGreatDoor
