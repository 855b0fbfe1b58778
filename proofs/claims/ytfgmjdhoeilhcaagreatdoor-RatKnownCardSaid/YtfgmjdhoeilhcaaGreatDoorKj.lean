/- RatKnown: the examples with long numbers. -/
import Derived.Test.YtfgmjdhoeilhcaaGreatDoorKb
namespace Go.Proofs.YtfgmjdhoeilhcaaGreatDoor
open Go.RowKit
def tenB : Bs := 49 :: List.replicate 399 48
theorem known1 : ratMul tenB [49, 48] = ([], 2) := by decide +kernel
theorem known2 : ratDiv [49] tenB = (49 :: 47 :: tenB, 0) := by decide +kernel
theorem known3 : ratMul (49 :: 47 :: tenB) [49, 47, 49, 48] = ([], 2) := by decide +kernel
theorem known4 : parseR (tenB ++ [48]) = ([], 2) := by decide +kernel
theorem known5 : ratMul tenB (49 :: 47 :: tenB) = ([49], 0) := by decide +kernel
theorem known6 : ratNeg [50, 47, 51] = ([45, 50, 47, 51], 0) := by decide +kernel
theorem known7 : (ratNeg [50, 47, 54]).2 = 1 := by decide +kernel
theorem known8 : (ratMake false [49] [48]).2 = 1 := by decide +kernel
theorem known9 : ratMake true [48] [53] = ([48], 0) := by decide +kernel
theorem known10 : (ratV tenB).isSome = true := by decide +kernel
theorem known11 : (ratV (tenB ++ [48])).isSome = false := by decide +kernel
end Go.Proofs.YtfgmjdhoeilhcaaGreatDoor
