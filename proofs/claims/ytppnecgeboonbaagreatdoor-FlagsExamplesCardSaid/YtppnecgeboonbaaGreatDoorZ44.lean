/- Chapter 22's law, plain: what awake computes. -/
import Derived.Test.YtppnecgeboonbaaGreatDoorZ29
import Derived.Test.YtppnecgeboonbaaGreatDoorZ41
namespace Go.Proofs.YtppnecgeboonbaaGreatDoor
set_option maxRecDepth 100000
set_option linter.unusedVariables false
open Go
theorem Fs:bR [64,85,46,67,97,115,101,46,71,101,110,64]=some ⟨85,[67,97,115,101],[71,101,110]⟩:=by decide +kernel
theorem Fu:bR [64,82,46,67,97,115,101,64]=some ⟨82,[67,97,115,101],[]⟩:=by decide +kernel
theorem Fv:fH ⟨82,[67,97,115,101],[]⟩=([64,82,46,67,97,115,101,64],true):=by decide +kernel
theorem Fw:jH (je [[85,46,97,46,120],[85,46,97,46,120]])=true:=by decide +kernel
theorem Fx:jH (je [[85,46,97,46,120],[85,46,97,46,121]])=false:=by decide +kernel
theorem Fy:jH (je [[85,46,97,46,120],[67,46,97],[85,46,97,46,121]])=true:=by decide +kernel
theorem Fz:stripL [1,2,3] lG=([2],false):=by decide +kernel
def xL (k:Int) (a:ak):Bool:=((List.range a.length).all fun p=>(List.range a.length).all fun i=>(List.range a.length).all fun j=>decide (aX a i p=aF k) || decide (aX a p j=aF k)) && !(jq k a.length 0 false a).1
theorem GV {k:Int} {a:ak} (h:xL k a=true):uQ k a:=by
 unfold xL at h;rw [Bool.and_eq_true] at h;refine⟨fun p hp i hi j hj=>?_,by simpa using h.2⟩;have h1:=List.all_eq_true.1 h.1 p (List.mem_range.2 hp);have h2:=List.all_eq_true.1 h1 i (List.mem_range.2 hi);have h3:=List.all_eq_true.1 h2 j (List.mem_range.2 hj)
 simpa using h3
theorem FB:∀ l,kG kr true kr.states (false,[])=.ok l->uQ kr.kind l.2:=by
 intro l hl;have h:(match kG kr true kr.states (false,[]) with | .ok l=>xL kr.kind l.2 | .error _=>true)=true:=by decide +kernel
 rw [hl] at h;exact GV h
end Go.Proofs.YtppnecgeboonbaaGreatDoor
