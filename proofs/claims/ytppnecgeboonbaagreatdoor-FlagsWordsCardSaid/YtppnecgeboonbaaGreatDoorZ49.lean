/- Chapter 22's law, plain: what awake computes. -/
import Derived.Test.YtppnecgeboonbaaGreatDoorZ35
namespace Go.Proofs.YtppnecgeboonbaaGreatDoor
set_option maxRecDepth 100000
set_option linter.unusedVariables false
open Go
theorem Fs:bR [64,85,46,67,97,115,101,46,71,101,110,64]=some ⟨85,[67,97,115,101],[71,101,110]⟩:=by decide +kernel
theorem Fu:bR [64,82,46,67,97,115,101,64]=some ⟨82,[67,97,115,101],[]⟩:=by decide +kernel
theorem Fv:fH ⟨82,[67,97,115,101],[]⟩=([64,82,46,67,97,115,101,64],true):=by decide +kernel
theorem Fw:jH (je [[85,46,97,46,120],[85,46,97,46,120]])=true:=by decide +kernel
theorem Fx:jH (je [[85,46,97,46,120],[85,46,97,46,121]])=false:=by decide +kernel
theorem Fy:jH (je [[85,46,97,46,120],[67,46,97],[85,46,97,46,121]])=true:=by decide +kernel
theorem Fz:stripL [1,2,3] lG=([2],false):=by decide +kernel
end Go.Proofs.YtppnecgeboonbaaGreatDoor
