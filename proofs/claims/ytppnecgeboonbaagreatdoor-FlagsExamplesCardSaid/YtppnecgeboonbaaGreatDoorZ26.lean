/- Walks of layer 22: Eliminate, one round: parts of a function's code; a region that draws, operation by operation; what a round leaves. -/
import Derived.Test.YtppnecgeboonbaaGreatDoorZ25
namespace Go.Proofs.YtppnecgeboonbaaGreatDoor
set_option maxRecDepth 100000
set_option linter.unusedVariables false
set_option maxHeartbeats 1000000
open Go Go.RowKit Go.Maps
def F4:Nat->Code->Code
 | 0,.seq x _=>x
 | 1,.seq _ y=>y
 | 2,.loop c=>c
 | 3,.block _ c=>c
 | 4,.cond _ x _=>x
 | 5,.cond _ _ y=>y
 | 6,.rangeFunc _ _ a _=>a
 | 7,.rangeFunc _ _ _ b=>b
 | _,c=>c
def cutAt:List Nat->Code->Code
 | [],c=>c
 | k::r,c=>cutAt r (F4 k c)
def tu (f:Func):Code:=f.body.getD .skip
def xA:Code->Array Oper
 | .region _ ops _=>ops
 | _=>#[]
def Ch (o:Oper):Bool:=match o.op with | .defer _=>false|_=>true
theorem JJ (c:Code) (h:(xA c).toList.all Ch=true) (i:Nat) (o:Oper) (d:Call) (ho:(xA c)[i]? = some o):o.op ≠ .defer d:=by
 have hm:o∈(xA c).toList:=by
  rw [Array.mem_toList_iff];exact Array.mem_of_getElem? ho
 have h2:=List.all_eq_true.1 h o hm;intro e;unfold Ch at h2;rw [e] at h2
 cases h2
def jD (l:List aO):List Value:=l.flatMap fun a=>[.int .i64 a.inn,.int .i64 a.out,S a.w,.int .i64 a.to]
theorem Fh (l:List aO) (a:aO):jD (l++[a])=jD l++[.int .i64 a.inn,.int .i64 a.out,S a.w,.int .i64 a.to]:=by simp [jD]
theorem Fj:(Tryz.prog.info? 77).map (fun i=>(i.zero,i.size,i.bytes))=some (some (.agg #[.int .i64 0,.int .i64 0,.string ⟨#[]⟩,.int .i64 0]),4,40):=by kernel_rfl
structure kL (t:List Bs) (W:World) (X B:Nat) (D:dH) (pv:Value) (pl:List aR) (b6 b16:Nat) (fin:Value) (av:Value) (BA:Nat) (out:List aO):Prop where
 el:jA W X B D pv pl
 c6:W.heap[b6]? = some (.cells #[.pointer (some ⟨X,0,none⟩)] 64 (0,0))
 s16:W.heap[b16]? = some (.cells #[fin,av] 75 (0,0))
 own:W.ownsRow BA 77 4 av out.length (jD out)
 fl:ji W D.fb (dW t 0 [])
 n1:b16≠X/\b16≠D.nb/\b16≠b6/\b16≠D.fb
 n2:b6≠X/\b6≠D.nb/\D.fb≠X/\D.fb≠D.nb
 pb:∀ g,pv.ownBlock=some g->g≠b6/\g≠b16/\g≠D.fb
 ab:∀ g,av.ownBlock=some g->g≠X/\g≠D.nb/\g≠b6/\g≠b16/\g≠D.fb/\pv.ownBlock≠some g
variable {t:List Bs} {W W':World} {X B:Nat} {D:dH} {pv:Value} {pl:List aR} {b6 b16:Nat} {fin:Value} {av:Value} {BA:Nat} {out:List aO}
theorem kL.below (h:kL t W X B D pv pl b6 b16 fin av BA out) (hb:Below W.heap.size W W'):kL t W' X B D pv pl b6 b16 fin av BA out where
 el:=h.el.below hb
 c6:=(hb.block _ (lt_of_block h.c6)).trans h.c6
 s16:=(hb.block _ (lt_of_block h.s16)).trans h.s16
 own:=eP h.own (aB.of_new (X:=fun _=>False) hb) (fun _ _ e=>e)
 fl:=h.fl.below hb
 n1:=h.n1
 n2:=h.n2
 pb:=h.pb
 ab:=h.ab
theorem mU {w:World} {base:Nat} {e:TypeId} {size:Nat} {v:Value} {n:Nat} {xs:List Value} (h:w.ownsRow base e size v n xs) {g:Nat} (hg:v.ownBlock=some g):g<w.heap.size:=by
 rcases h.2 with⟨rfl,rfl⟩|⟨g',cap,cur,rfl,hB,hg',hn,hm,hc,ht⟩
 ·simp [Value.ownBlock] at hg
 ·simp only [Value.ownBlock,Option.some.injEq] at hg
  subst hg;exact lt_of_block hg'
theorem kL.visit {p:aR} {e:Ending} (h:kL t W X B D pv pl b6 b16 fin av BA out) (hv:sQ X B D pv pl p W e W') :
  ∃ pv',e=.returned (.int .i64 (((dG pl p).1:Nat):Int))/\kL t W' X B D pv' (dG pl p).2 b6 b16 fin av BA out/\aB (fun b=>b=X\/b=D.nb\/pv.ownBlock=some b) W W'/\∀ g,pv'.ownBlock=some g->pv.ownBlock=some g\/W.heap.size<=g:=by
 obtain⟨pv',he,hE,hC,hg⟩:=hv;refine⟨pv',he,⟨hE,?_,?_,?_,?_,h.n1,h.n2,?_,?_⟩,hC,hg⟩
 ·refine (hC.block _ (lt_of_block h.c6) ?_).trans h.c6
  rintro (e|e|e)
  ·exact h.n2.1 e
  ·exact h.n2.2.1 e
  ·exact (h.pb _ e).1 rfl
 ·refine (hC.block _ (lt_of_block h.s16) ?_).trans h.s16
  rintro (e|e|e)
  ·exact h.n1.1 e
  ·exact h.n1.2.1 e
  ·exact (h.pb _ e).2.1 rfl
 ·refine eP h.own hC (fun g hg'=>?_)
  obtain⟨a1,a2,a3,a4,a5,a6⟩:=h.ab g hg';rintro (e|e|e)
  ·exact a1 e
  ·exact a2 e
  ·exact a6 e
 ·refine h.fl.same (hC.block _ h.fl.lt ?_)
  rintro (e|e|e)
  ·exact h.n2.2.2.1 e
  ·exact h.n2.2.2.2 e
  ·exact (h.pb _ e).2.2 rfl
 ·intro g hg'
  rcases hg g hg' with e|e
  ·exact h.pb g e
  ·have:=lt_of_block h.c6
   have:=lt_of_block h.s16;have:=h.fl.lt;exact⟨by omega,by omega,by omega⟩
 ·intro g hg'
  obtain⟨a1,a2,a3,a4,a5,a6⟩:=h.ab g hg';refine⟨a1,a2,a3,a4,a5,fun e=>?_⟩;rcases hg g e with e|e
  ·exact a6 e
  ·have:=mU h.own hg'
   omega
open Rat3
theorem nW:aK [48]=some 0:=by decide +kernel
theorem KW {a b:Bs} {q:Rat} (ha:aK a=some q) (hb:aK b=some q):a=b:=by rw [(uz ha).1,(uz hb).1]
theorem Iw {a:Bs} {q:Rat} (h:aK a=some q):a=[48] ↔ q=0:=by
 constructor
 ·rintro rfl
  rw [nW] at h;cases h;rfl
 ·rintro rfl
  exact KW h nW
theorem Dk {a b:Bs} {p q:Rat} (ha:aK a=some p) (hb:aK b=some q):fB a b=if p=q then 0 else if p<q then -1 else 1:=by
 unfold fB;rw [ha,hb]
theorem Oe {k:Int} {a:Bs} (h:aT k a=true):kindOk k=true/\(a=bD\/(k=1/\a=dC)\/∃ q,aK a=some q/\a≠bD/\a≠dC/\(k=1\/0<=q)):=by
 unfold aT at h;rw [Bool.and_eq_true] at h;refine⟨h.1,?_⟩;have h2:=h.2;by_cases hc:a=bD\/a=dC
 ·rw [if_pos hc,decide_eq_true_eq] at h2
  rcases hc with e|e
  ·exact Or.inl e
  ·rcases h2 with e'|e'
   ·exact Or.inl e'
   ·exact Or.inr (Or.inl ⟨e',e⟩)
 ·rw [if_neg hc,Bool.and_eq_true,decide_eq_true_eq] at h2
  cases hv:aK a with
  | none=>rw [hv] at h2;cases h2.1
  | some q =>
   refine Or.inr (Or.inr ⟨q,rfl,fun e=>hc (Or.inl e),fun e=>hc (Or.inr e),?_⟩);rcases h2.2 with e|e
   ·exact Or.inl e
   ·right
    rw [Dk hv nW] at e;by_cases h0:q=0
    ·rw [h0];exact Rat.le_refl
    ·rw [if_neg h0] at e
     by_cases hl:q<0
     ·rw [if_pos hl] at e;omega
     ·exact Rat.not_lt.1 hl
theorem Ex {q:Rat} (h1:(af q.num.natAbs).length<=400) (h2:(af q.den).length<=400):(iU q).length<=802:=by
 unfold iU;rw [List.length_append,List.length_append];have a1:(if q.num<0 then [45] else ([]:Bs)).length<=1:=by split <;> simp
 have a2:(if q.den=1 then ([]:Bs) else 47::af q.den).length<=401:=by split <;> simp;omega
 omega
theorem yX (q:Rat):(ik q).1.length<=802:=by
 unfold ik
 split
 ·simp
 ·exact Ex (by omega) (by omega)
theorem yY {f:Rat->Rat->Bs × Nat} (h:∀ p q,(f p q).1.length<=802) (a b:Bs):(fZ f a b).1.length<=802:=by
 unfold fZ
 split
 ·exact h _ _
 ·simp
theorem Ew (a b:Bs):(jW a b).1.length<=802:=yY (fun _ _=>yX _) a b
theorem Ob (a b:Bs):(gV a b).1.length<=802:=yY (fun _ _=>yX _) a b
theorem N9 (a b:Bs):(mV a b).1.length<=802:=yY (fun _ _=>yX _) a b
theorem Oa {a:Bs} {q:Rat} (h:aK a=some q):a.length<=802:=by
 obtain⟨e,h1,h2,_⟩:=uz h;rw [e];exact Ex h1 h2
theorem Mr {k:Int} {a:Bs} (h:aT k a=true):a.length<=802:=by
 obtain⟨_,h⟩:=Oe h;rcases h with h|h|⟨q,h,_⟩
 ·rw [h];decide
 ·rw [h.2];decide
 ·exact Oa h
theorem rR (k:Int):(aF k).length<=802:=by unfold aF;split;split <;> decide;decide
theorem Mq (k:Int):(fQ k).length<=802:=by unfold fQ;split;split <;> decide;decide
theorem yP {k:Int} {a b:Bs} (ha:a.length<=802) (hb:b.length<=802):(fI k a b).1.length<=802:=by
 unfold fI
 split
 ·split
  ·split
   ·exact hb
   ·exact ha
  ·split
   ·show bD.length<=802;decide
   ·exact Ew _ _
 ·simp
theorem DW (k:Int) (a b:Bs):(iV k a b).1.length<=802:=by
 unfold iV
 split
 ·split
  ·exact rR k
  ·split
   ·show bD.length<=802;decide
   ·split
    ·show dC.length<=802;decide
    ·split
     ·exact Ew _ _
     ·exact N9 _ _
 ·simp
theorem wC {k:Int} {a:Bs} (h:bg k a=true):a.length<=802:=Mr (Ms h).1
open Go.RowKit
theorem ul {k:Int} (h:kindOk k=true):1<=k/\k<=3:=by
 unfold kindOk at h;simpa using h
theorem IG {k:Int} (h:kindOk k=false):¬ (1<=k/\k<=3):=by
 unfold kindOk at h;intro hh;simp [hh.1,hh.2] at h
theorem uJ (k:Int) (w:World):Calls Tryz.prog 54 #[.int .i64 k] w fun e w'=>e=.returned (.bool (kindOk k))/\w=w':=by
 have HX:Hid (kindOk k=(decide (1<=k) && decide (k<=3))):=rfl;go_enter Tryz.func54,Tryz.ntmps54;by_cases h1:1<=k
 ·by_cases h3:k<=3
  ·have HY:Hid (kindOk k=true):=by rw [Hid,HX.out];simp [h1,h3]
   go_wp2_with fail;go_returns;exact⟨by rw [HY.out];(try rfl),rfl⟩
  ·have HY:Hid (kindOk k=false):=by rw [Hid,HX.out];simp [h3]
   have g3:3<k:=by omega
   go_wp2_with fail;go_returns;exact⟨by rw [HY.out];(try rfl),rfl⟩
 ·have HY:Hid (kindOk k=false):=by rw [Hid,HX.out];simp [h1]
  have g1:k<1:=by omega
  go_wp2_with fail;go_returns;exact⟨by rw [HY.out];(try rfl),rfl⟩
theorem ko {k c:Int} (h:k=c):(k == c)=true:=by simpa using h
theorem jU {k c:Int} (h:k≠c):(k == c)=false:=by simpa using h
theorem ry {k c:Int} (h:k≠c):(k != c)=true:=by simpa using h
theorem qY {k c:Int} (h:k=c):(k != c)=false:=by simpa using h
theorem o9 (k:Int) (w:World):Calls Tryz.prog 34 #[.int .i64 k] w fun e w'=>e=.returned (S (aF k))/\w=w':=by
 have p1:=fun W=>uJ k W
 cases hk:kindOk k with
 | false =>
  have HY:Hid (aF k=[]):=by unfold Hid aF;rw [hk];rfl
  rw [hk] at p1;clear hk;go_enter Tryz.func34,Tryz.ntmps34;go_wp2_with fail;refine (p1 _).mono ?_;rintro e w1 ⟨rfl,rfl⟩;go_wp2_with fail;go_returns;exact⟨by rw [HY.out];(try rfl),rfl⟩
 | true =>
  rw [hk] at p1;by_cases h1:k=1
  ·have HY:Hid (aF k=bD):=by unfold Hid aF;rw [hk,if_pos rfl,if_pos h1]
   have t1:=ko h1;clear hk h1;go_enter Tryz.func34,Tryz.ntmps34;go_wp2_with fail;refine (p1 _).mono ?_;rintro e w1 ⟨rfl,rfl⟩;go_wp2_with fail;go_returns;exact⟨by rw [HY.out];(try rfl),rfl⟩
  ·have HY:Hid (aF k=[48]):=by unfold Hid aF;rw [hk,if_pos rfl,if_neg h1]
   have t1:=jU h1;clear hk h1;go_enter Tryz.func34,Tryz.ntmps34;go_wp2_with fail;refine (p1 _).mono ?_;rintro e w1 ⟨rfl,rfl⟩;go_wp2_with fail;go_returns;exact⟨by rw [HY.out];(try rfl),rfl⟩
theorem DU (k:Int) (w:World):Calls Tryz.prog 129 #[.int .i64 k] w fun e w'=>e=.returned (S (fQ k))/\w=w':=by
 have p1:=fun W=>uJ k W
 cases hk:kindOk k with
 | false =>
  have HY:Hid (fQ k=[]):=by unfold Hid fQ;rw [hk];rfl
  rw [hk] at p1;clear hk;go_enter Tryz.func129,Tryz.ntmps129;go_wp2_with fail;refine (p1 _).mono ?_;rintro e w1 ⟨rfl,rfl⟩;go_wp2_with fail;go_returns;exact⟨by rw [HY.out];(try rfl),rfl⟩
 | true =>
  rw [hk] at p1;by_cases h1:k=1
  ·have HY:Hid (fQ k=[48]):=by unfold Hid fQ;rw [hk,if_pos rfl,if_pos h1]
   have t1:=ko h1;clear hk h1;go_enter Tryz.func129,Tryz.ntmps129;go_wp2_with fail;refine (p1 _).mono ?_;rintro e w1 ⟨rfl,rfl⟩;go_wp2_with fail;go_returns;exact⟨by rw [HY.out];(try rfl),rfl⟩
  ·have HY:Hid (fQ k=[49]):=by unfold Hid fQ;rw [hk,if_pos rfl,if_neg h1]
   have t1:=jU h1;clear hk h1;go_enter Tryz.func129,Tryz.ntmps129;go_wp2_with fail;refine (p1 _).mono ?_;rintro e w1 ⟨rfl,rfl⟩;go_wp2_with fail;go_returns;exact⟨by rw [HY.out];(try rfl),rfl⟩
theorem iR {a:ByteArray} {l:Bs} (h:a.data.toList=l):(a.toList == l)=true:=by rw [Lib.toList_data,h,beq_self_eq_true]
theorem iT {a:ByteArray} {l:Bs} (h:a.data.toList≠l):(a.toList == l)=false:=by rw [Lib.toList_data];simpa using h
theorem rq {a:ByteArray} {l:Bs} (h:a.data.toList≠l):(a.toList != l)=true:=by rw [Lib.toList_data];simpa using h
theorem rf {a:ByteArray} {l:Bs} (h:a.data.toList=l):(a.toList != l)=false:=by rw [Lib.toList_data,h];simp
theorem zm:((⟨#[48]⟩:ByteArray).data.toList)=[48]:=rfl
theorem nZ (k:Int) (a:ByteArray) (w:World) (ha:a.size<=100000):Calls Tryz.prog 84 #[.int .i64 k,.string a] w fun e w'=>e=.returned (.bool (aT k a.data.toList))/\Below w.heap.size w w':=by
 have p1:=fun W=>uJ k W
 cases hk:kindOk k with
 | false =>
  have HY:Hid (aT k a.data.toList=false):=by unfold Hid aT;rw [hk];rfl
  rw [hk] at p1;clear hk;go_enter Tryz.func84,Tryz.ntmps84;go_wp2_with fail;refine (p1 _).mono ?_;rintro e w1 ⟨rfl,rfl⟩;go_wp2_with fail;go_returns;exact⟨by rw [HY.out];(try rfl),Below.refl _ _⟩
 | true =>
  rw [hk] at p1;by_cases hi:a.data.toList=bD
  ·have HY:Hid (aT k a.data.toList=true):=by unfold Hid aT;rw [hk,hi];rfl
   have t1:(a.toList == [105,110,102])=true:=iR hi;clear hk hi;go_enter Tryz.func84,Tryz.ntmps84;go_wp2_with fail;refine (p1 _).mono ?_;rintro e w1 ⟨rfl,rfl⟩;go_wp2_with fail;go_returns;exact⟨by rw [HY.out];(try rfl),Below.refl _ _⟩
  ·have t1:(a.toList == [105,110,102])=false:=iT hi
   by_cases hd:a.data.toList=dC
   ·have HY:Hid (aT k a.data.toList=(k == 1)):=by
     unfold Hid aT;rw [hk,hd];show (true && if dC=bD\/dC=dC then decide (dC=bD\/k=1) else _)=_;rw [if_pos (Or.inr rfl)];by_cases h:k=1
     ·subst h;rfl
     ·rw [jU h,decide_eq_false (by rintro (h'|h');exact absurd h' (by decide);exact h h')];rfl
    have t2:(a.toList == [45,105,110,102])=true:=iR hd;clear hk hi hd;go_enter Tryz.func84,Tryz.ntmps84;go_wp2_with fail;refine (p1 _).mono ?_;rintro e w1 ⟨rfl,rfl⟩;go_wp2_with fail;go_returns;exact⟨by rw [HY.out];(try rfl),Below.refl _ _⟩
   ·have t2:(a.toList == [45,105,110,102])=false:=iT hd
    have HV:Hid (aT k a.data.toList=((Rat3.aK a.data.toList).isSome && decide (k=1\/0<=Rat3.fB a.data.toList [48]))):=by
     unfold Hid aT;rw [hk,if_neg (by rintro (h|h) <;> contradiction)];rfl
    have p2:=fun W=>Rat3.Di a W ha
    have p3:=fun W=>Rat3.CR a ⟨#[48]⟩ W ha (by decide)
    rw [zm] at p3;generalize Rat3.fB a.data.toList [48]=z at *;clear hk hi hd
    cases hv:(Rat3.aK a.data.toList).isSome with
    | false =>
     have HY:Hid (aT k a.data.toList=false):=by rw [Hid,HV.out,hv];rfl
     rw [hv] at p2;clear hv;go_enter Tryz.func84,Tryz.ntmps84;go_wp2_with fail;refine (p1 _).mono ?_;rintro e w1 ⟨rfl,rfl⟩;go_wp2_with fail;refine (p2 _).mono ?_;rintro e w2 ⟨rfl,b2⟩;go_wp2_with fail;go_returns;exact⟨by rw [HY.out];(try rfl),b2⟩
    | true =>
     rw [hv] at p2 HV;clear hv;by_cases h1:k=1
     ·have HY:Hid (aT k a.data.toList=true):=by rw [Hid,HV.out,decide_eq_true (Or.inl h1)];rfl
      have t3:=ko h1;clear h1;go_enter Tryz.func84,Tryz.ntmps84;go_wp2_with fail;refine (p1 _).mono ?_;rintro e w1 ⟨rfl,rfl⟩;go_wp2_with fail;refine (p2 _).mono ?_;rintro e w2 ⟨rfl,b2⟩;go_wp2_with fail;go_returns;exact⟨by rw [HY.out];(try rfl),b2⟩
     ·have HY:Hid (aT k a.data.toList=decide (0<=z)):=by
       rw [Hid,HV.out];simp [h1]
      have t3:=jU h1;clear h1;go_enter Tryz.func84,Tryz.ntmps84;go_wp2_with fail;refine (p1 _).mono ?_;rintro e w1 ⟨rfl,rfl⟩;go_wp2_with fail;refine (p2 _).mono ?_;rintro e w2 ⟨rfl,b2⟩;go_wp2_with fail;refine (p3 _).mono ?_;rintro e w3 ⟨rfl,b3⟩;go_wp2_with fail;go_returns;exact⟨by rw [HY.out];(try rfl),ae b2 b3⟩
theorem wB (k:Int) (a:ByteArray) (w:World) (ha:a.size<=100000):Calls Tryz.prog 55 #[.int .i64 k,.string a] w fun e w'=>e=.returned (.bool (bg k a.data.toList))/\Below w.heap.size w w':=by
 have p1:=fun W=>nZ k a W ha
 cases hv:aT k a.data.toList with
 | false =>
  have HY:Hid (bg k a.data.toList=false):=by unfold Hid bg;rw [hv];rfl
  rw [hv] at p1;clear hv;go_enter Tryz.func55,Tryz.ntmps55;go_wp2_with fail;refine (p1 _).mono ?_;rintro e w1 ⟨rfl,b1⟩;go_wp2_with fail;go_returns;exact⟨by rw [HY.out];(try rfl),b1⟩
 | true =>
  have HV:Hid (bg k a.data.toList=decide (a.data.toList≠bD/\a.data.toList≠dC/\(k=1\/a.data.toList≠[48]))):=by unfold Hid bg;rw [hv];rfl
  rw [hv] at p1;clear hv;by_cases hi:a.data.toList=bD
  ·have HY:Hid (bg k a.data.toList=false):=by rw [Hid,HV.out];simp [hi]
   have t1:(a.toList != [105,110,102])=false:=rf hi;have t1':(a.toList == [105,110,102])=true:=iR hi;clear HV hi;go_enter Tryz.func55,Tryz.ntmps55;go_wp2_with fail;refine (p1 _).mono ?_;rintro e w1 ⟨rfl,b1⟩;go_wp2_with fail;go_returns;exact⟨by rw [HY.out];(try rfl),b1⟩
  have t1:(a.toList != [105,110,102])=true:=rq hi;have t1':(a.toList == [105,110,102])=false:=iT hi;by_cases hd:a.data.toList=dC
  ·have HY:Hid (bg k a.data.toList=false):=by rw [Hid,HV.out];simp [hd]
   have t2:(a.toList != [45,105,110,102])=false:=rf hd;have t2':(a.toList == [45,105,110,102])=true:=iR hd;clear HV hi hd;go_enter Tryz.func55,Tryz.ntmps55;go_wp2_with fail;refine (p1 _).mono ?_;rintro e w1 ⟨rfl,b1⟩;go_wp2_with fail;go_returns;exact⟨by rw [HY.out];(try rfl),b1⟩
  have t2:(a.toList != [45,105,110,102])=true:=rq hd;have t2':(a.toList == [45,105,110,102])=false:=iT hd;by_cases h1:k=1
  ·have HY:Hid (bg k a.data.toList=true):=by rw [Hid,HV.out];simp [hi,hd,h1]
   have t3:=ko h1;clear HV hi hd h1;go_enter Tryz.func55,Tryz.ntmps55;go_wp2_with fail;refine (p1 _).mono ?_;rintro e w1 ⟨rfl,b1⟩;go_wp2_with fail;go_returns;exact⟨by rw [HY.out];(try rfl),b1⟩
  have t3:=jU h1;by_cases h0:a.data.toList=[48]
  ·have HY:Hid (bg k a.data.toList=false):=by rw [Hid,HV.out];simp [h0,h1]
   have t4:(a.toList != [48])=false:=rf h0;have t4':(a.toList == [48])=true:=iR h0;clear HV hi hd h1 h0;go_enter Tryz.func55,Tryz.ntmps55;go_wp2_with fail;refine (p1 _).mono ?_;rintro e w1 ⟨rfl,b1⟩;go_wp2_with fail;go_returns;exact⟨by rw [HY.out];(try rfl),b1⟩
  ·have HY:Hid (bg k a.data.toList=true):=by rw [Hid,HV.out];simp [hi,hd,h0]
   have t4:(a.toList != [48])=true:=rq h0;have t4':(a.toList == [48])=false:=iT h0;clear HV hi hd h1 h0;go_enter Tryz.func55,Tryz.ntmps55;go_wp2_with fail;refine (p1 _).mono ?_;rintro e w1 ⟨rfl,b1⟩;go_wp2_with fail;go_returns;exact⟨by rw [HY.out];(try rfl),b1⟩
theorem str_eq {a b:ByteArray} (h:a.data.toList=b.data.toList):(a.toList == b.toList)=true:=by rw [Lib.toList_data,Lib.toList_data,h,beq_self_eq_true]
theorem qB {a b:ByteArray} (h:a.data.toList≠b.data.toList):(a.toList == b.toList)=false:=by rw [Lib.toList_data,Lib.toList_data];simpa using h
theorem Em {a b:ByteArray} (h:a.data.toList=b.data.toList):(a.toList != b.toList)=false:=by rw [Lib.toList_data,Lib.toList_data,h];simp
theorem Ny {a b:ByteArray} (h:a.data.toList≠b.data.toList):(a.toList != b.toList)=true:=by rw [Lib.toList_data,Lib.toList_data];simpa using h
theorem ww (a b:ByteArray) (w:World) (ha:a.size<=100000) (hb:b.size<=100000):Calls Tryz.prog 123 #[.string a,.string b] w fun e w'=>e=.returned (.int .i64 (gJ a.data.toList b.data.toList))/\Below w.heap.size w w':=by
 have p1:=fun W=>Rat3.CR a b W ha hb
 have HV:Hid (gJ a.data.toList b.data.toList=if a.data.toList=b.data.toList then 0 else if a.data.toList=dC\/b.data.toList=bD then -1 else if a.data.toList=bD\/b.data.toList=dC then 1 else Rat3.fB a.data.toList b.data.toList):=rfl;generalize Rat3.fB a.data.toList b.data.toList=z at *;by_cases h0:a.data.toList=b.data.toList
 ·have HY:Hid (gJ a.data.toList b.data.toList=0):=by rw [Hid,HV.out,if_pos h0]
  have t0:=str_eq h0;clear HV h0;go_enter Tryz.func123,Tryz.ntmps123;go_wp2_with fail;go_returns;exact⟨by rw [HY.out];(try rfl),Below.refl _ _⟩
 have t0:=qB h0;by_cases h1:a.data.toList=dC
 ·have HY:Hid (gJ a.data.toList b.data.toList=-1):=by rw [Hid,HV.out,if_neg h0,if_pos (Or.inl h1)]
  have t1:(a.toList == [45,105,110,102])=true:=iR h1;clear HV h0 h1;go_enter Tryz.func123,Tryz.ntmps123;go_wp2_with fail;go_returns;exact⟨by rw [HY.out];(try rfl),Below.refl _ _⟩
 have t1:(a.toList == [45,105,110,102])=false:=iT h1;by_cases h2:b.data.toList=bD
 ·have HY:Hid (gJ a.data.toList b.data.toList=-1):=by rw [Hid,HV.out,if_neg h0,if_pos (Or.inr h2)]
  have t2:(b.toList == [105,110,102])=true:=iR h2;clear HV h0 h1 h2;go_enter Tryz.func123,Tryz.ntmps123;go_wp2_with fail;go_returns;exact⟨by rw [HY.out];(try rfl),Below.refl _ _⟩
 have t2:(b.toList == [105,110,102])=false:=iT h2;by_cases h3:a.data.toList=bD
 ·have HY:Hid (gJ a.data.toList b.data.toList=1):=by rw [Hid,HV.out,if_neg h0,if_neg (by rintro (h|h) <;> contradiction),if_pos (Or.inl h3)]
  have t3:(a.toList == [105,110,102])=true:=iR h3;clear HV h0 h1 h2 h3;go_enter Tryz.func123,Tryz.ntmps123;go_wp2_with fail;go_returns;exact⟨by rw [HY.out];(try rfl),Below.refl _ _⟩
 have t3:(a.toList == [105,110,102])=false:=iT h3;by_cases h4:b.data.toList=dC
 ·have HY:Hid (gJ a.data.toList b.data.toList=1):=by rw [Hid,HV.out,if_neg h0,if_neg (by rintro (h|h) <;> contradiction),if_pos (Or.inr h4)]
  have t4:(b.toList == [45,105,110,102])=true:=iR h4;clear HV h0 h1 h2 h3 h4;go_enter Tryz.func123,Tryz.ntmps123;go_wp2_with fail;go_returns;exact⟨by rw [HY.out];(try rfl),Below.refl _ _⟩
 have t4:(b.toList == [45,105,110,102])=false:=iT h4;have HY:Hid (gJ a.data.toList b.data.toList=z):=by rw [Hid,HV.out,if_neg h0,if_neg (by rintro (h|h) <;> contradiction),if_neg (by rintro (h|h) <;> contradiction)]
 clear HV h0 h1 h2 h3 h4;go_enter Tryz.func123,Tryz.ntmps123;go_wp2_with fail;refine (p1 _).mono ?_;rintro e w1 ⟨rfl,b1⟩;go_wp2_with fail;go_returns;exact⟨by rw [HY.out];(try rfl),b1⟩
theorem Ml (k:Int) (a b:ByteArray) (w:World) (ha:a.size<=100000) (hb:b.size<=100000):Calls Tryz.prog 106 #[.int .i64 k,.string a,.string b] w fun e w'=>e=.returned (.int .i64 (og k a.data.toList b.data.toList))/\Below w.heap.size w w':=by
 have p1:=fun W=>nZ k a W ha
 have p2:=fun W=>nZ k b W hb
 have p3:=fun W=>ww a b W ha hb
 have p4:=fun W=>ww b a W hb ha
 have HV:Hid (og k a.data.toList b.data.toList=if aT k a.data.toList=true/\aT k b.data.toList=true then (if k=1 then gJ a.data.toList b.data.toList else gJ b.data.toList a.data.toList) else 0):=rfl;generalize gJ a.data.toList b.data.toList=z at *;generalize gJ b.data.toList a.data.toList=y at *
 cases hva:aT k a.data.toList with
 | false =>
  have HY:Hid (og k a.data.toList b.data.toList=0):=by rw [Hid,HV.out,hva,if_neg (by simp)]
  rw [hva] at p1;clear HV hva;go_enter Tryz.func106,Tryz.ntmps106;go_wp2_with fail;refine (p1 _).mono ?_;rintro e w1 ⟨rfl,b1⟩;go_wp2_with fail;go_returns;exact⟨by rw [HY.out];(try rfl),b1⟩
 | true =>
  rw [hva] at p1 HV
  cases hvb:aT k b.data.toList with
  | false =>
   have HY:Hid (og k a.data.toList b.data.toList=0):=by rw [Hid,HV.out,hvb,if_neg (by simp)]
   rw [hvb] at p2;clear HV hva hvb;go_enter Tryz.func106,Tryz.ntmps106;go_wp2_with fail;refine (p1 _).mono ?_;rintro e w1 ⟨rfl,b1⟩;go_wp2_with fail;refine (p2 _).mono ?_;rintro e w2 ⟨rfl,b2⟩;go_wp2_with fail;go_returns;exact⟨by rw [HY.out];(try rfl),ae b1 b2⟩
  | true =>
   rw [hvb] at p2 HV;by_cases h1:k=1
   ·have HY:Hid (og k a.data.toList b.data.toList=z):=by rw [Hid,HV.out,if_pos (by simp),if_pos h1]
    have t3:=ko h1;clear HV hva hvb h1 p4;go_enter Tryz.func106,Tryz.ntmps106;go_wp2_with fail;refine (p1 _).mono ?_;rintro e w1 ⟨rfl,b1⟩;go_wp2_with fail;refine (p2 _).mono ?_;rintro e w2 ⟨rfl,b2⟩;go_wp2_with fail;refine (p3 _).mono ?_;rintro e w3 ⟨rfl,b3⟩;go_wp2_with fail;go_returns;exact⟨by rw [HY.out];(try rfl),ae (ae b1 b2) b3⟩
   ·have HY:Hid (og k a.data.toList b.data.toList=y):=by rw [Hid,HV.out,if_pos (by simp),if_neg h1]
    have t3:=jU h1;clear HV hva hvb h1 p3;go_enter Tryz.func106,Tryz.ntmps106;go_wp2_with fail;refine (p1 _).mono ?_;rintro e w1 ⟨rfl,b1⟩;go_wp2_with fail;refine (p2 _).mono ?_;rintro e w2 ⟨rfl,b2⟩;go_wp2_with fail;refine (p4 _).mono ?_;rintro e w3 ⟨rfl,b3⟩;go_wp2_with fail;go_returns;exact⟨by rw [HY.out];(try rfl),ae (ae b1 b2) b3⟩
end Go.Proofs.YtppnecgeboonbaaGreatDoor
