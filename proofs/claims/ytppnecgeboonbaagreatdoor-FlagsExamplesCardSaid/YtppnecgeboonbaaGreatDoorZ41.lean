/- The reference of layer 7: Star on matrices where no two steps meet. -/
import Derived.Test.YtppnecgeboonbaaGreatDoorZ40
namespace Go.Proofs.YtppnecgeboonbaaGreatDoor
set_option maxRecDepth 100000
set_option linter.unusedVariables false
set_option maxHeartbeats 4000000
open Go.RowKit
theorem I5 {k:Int} {a:ak} (h:nP k a=true):kindOk k=true:=by
 unfold nP at h;rw [Bool.and_eq_true] at h;exact h.1
theorem Ma:uT uQ:=by
 intro k AS c n a w hE hA hN hn1 hn2;have pM:=LD k AS c n a w hA hN hn2;have HA:=Lib.hid hA;have HD:Hid (qz k a=if nP k a=true then (if 60<a.length then .error 2 else if (rT k a).1=true then .error 2 else .ok (rT k a).2) else .error 1):=rfl;generalize qz k a=R at *;clear hA
 cases hm:nP k a with
 | false =>
  have HY:Hid (R=.error 1):=by rw [Hid,HD.out,hm];rfl
  rw [hm] at pM;clear HD hm;go_enter Tryz.func87,Tryz.ntmps87;go_wp2_with fail;refine pM.mono ?_;rintro e w1 ⟨rfl,b1⟩;go_wp2_with fail;go_returns;refine⟨b1,?_⟩;rw [HY.out];exact⟨rfl,by decide⟩
 | true =>
  rw [hm] at pM;by_cases h60:60<n
  ·have HY:Hid (R=.error 2):=by rw [Hid,HD.out,hm,if_pos rfl,if_pos (by rw [hN.1];exact h60)]
   have d6:60<(n:Int):=by omega
   clear HD hm;go_enter Tryz.func87,Tryz.ntmps87;go_wp2_with fail;refine pM.mono ?_;rintro e w1 ⟨rfl,b1⟩;go_wp2_with fail;go_returns;refine⟨b1,?_⟩;rw [HY.out];exact⟨rfl,by decide⟩
  ·have hk:=I5 hm
   have hst:=M6 hN hE.1 (by rw [Bg hk]);have hf:(jq k n 0 false a).1=false:=by have:=hE.2;rw [hN.1] at this;exact this
   have HY:Hid (R=.ok (jq k n 0 false a).2):=by
    rw [Hid,HD.out,hm,if_pos rfl,if_neg (by rw [hN.1];exact h60),hst,hf]
    rfl
   have d6:(n:Int)<=60:=by omega
   have pS:=fun sb W hS hA=>Md sb k AS c n a W hk hS hA hN hn1 hn2 hE
   clear HD hm hst hf;go_enter Tryz.func87,Tryz.ntmps87;go_wp2_with fail;refine pM.mono ?_;rintro e w1 ⟨rfl,b1⟩;have hS1:dI (w1.alloc (.cells #[.int .i64 k,.bool false] 171)) w1.heap.size k false:=heap_alloc_new w1 _;have bA:Below w1.heap.size w1 (w1.alloc (.cells #[.int .i64 k,.bool false] 171)):=(Below.refl _ _).alloc (Nat.le_refl _) _;have hA1:=(HA.out.below b1).below bA;have bB:=ae b1 bA;have pS1:=pS w1.heap.size _ hS1 hA1;go_wp2_with fail;refine pS1.mono ?_;rintro e w2 ⟨bb,rb,rfl,hI⟩;have x1:=hI.s.bad;go_wp2_with fail;go_returns;have hlow:=hI.u.low w1.heap.size (Nat.le_refl _) bA.size;refine⟨bB.trans (hlow.mono b1.size),?_⟩;rw [HY.out];exact⟨⟨bb,0,none⟩,n,rfl,hI.m.read,hI.m.mat⟩
end Go.Proofs.YtppnecgeboonbaaGreatDoor
