/- Flags of a slice, while memory is only added. -/
import Derived.Test.YtppnecgeboonbaaGreatDoorY01
namespace Go.Proofs.YtppnecgeboonbaaGreatDoor
set_option maxRecDepth 100000
set_option linter.unusedVariables false
open Go Go.RowKit Go.Maps
theorem zu.below {w w':World} {A:Option Addr} {l:List aH} (h:zu w A l) (hb:Below w.heap.size w w'):zu w' A l:=by
 intro k hk;obtain⟨b,o,e,hlt,h0,h1,h2⟩:=h k hk;exact⟨b,o,e,Nat.lt_of_lt_of_le hlt hb.size,(hb.cell hlt).trans h0,(hb.cell hlt).trans h1,(hb.cell hlt).trans h2⟩
end Go.Proofs.YtppnecgeboonbaaGreatDoor
