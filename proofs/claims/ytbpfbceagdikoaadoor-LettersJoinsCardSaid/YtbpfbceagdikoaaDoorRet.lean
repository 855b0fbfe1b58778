/- Small laws on endings. -/
import Derived.Test.YtbpfbceagdikoaaDoorChecked
import Derived.Handy
import Derived.IntWalk
import Derived.Lib.Hide
import Derived.Lib.Strings
namespace Go.Proofs.YtbpfbceagdikoaaDoor
open Go.RowKit
theorem ret_int {k : IntKind} {a b : Int} (h : a = b) : Ending.returned (.int k a) = .returned (.int k b) := by rw [h]
theorem ret_bool {a b : Bool} (h : a = b) : Ending.returned (.bool a) = .returned (.bool b) := by rw [h]
theorem ret_int2 {k k' : IntKind} {a b c d : Int} (h : a = b) (h' : c = d) : Ending.returned (.tuple #[.int k a, .int k' c]) = .returned (.tuple #[.int k b, .int k' d]) := by rw [h, h']
theorem ret_str {a b : ByteArray} (h : a.data.toList = b.data.toList) : Ending.returned (.string a) = .returned (.string b) := by
  have : a = b := by
    cases a; cases b; simp at h; rw [h]
  rw [this]

end Go.Proofs.YtbpfbceagdikoaaDoor
