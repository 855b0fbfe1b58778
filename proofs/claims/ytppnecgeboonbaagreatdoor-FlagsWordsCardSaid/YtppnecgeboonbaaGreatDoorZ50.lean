/- Chapter 22's law: awake. -/
import Derived.Test.YtppnecgeboonbaaGreatDoorZ48
import Derived.Test.YtppnecgeboonbaaGreatDoorZ49
namespace Go.Proofs.YtppnecgeboonbaaGreatDoor
set_option maxRecDepth 100000
set_option linter.unusedVariables false
set_option maxHeartbeats 8000000
open Go Go.RowKit Go.Maps
theorem cells3 {W:World} {b:Nat} {x y z:Value} {T:TypeId} (h:W.heap[b]? = some (.cells #[x,y,z] T (0,0))):W.cell? ⟨b,0,none⟩=some x/\W.cell? ⟨b,1,none⟩=some y/\W.cell? ⟨b,2,none⟩=some z:=by
 refine⟨?_,?_,?_⟩
 ·rw [cell_of_row W b _ _ _ _ h];rfl
 ·rw [cell_of_row W b _ _ _ _ h];rfl
 ·rw [cell_of_row W b _ _ _ _ h];rfl
theorem rP (W:World) (cs:Array Value) (T:TypeId):ay (W.alloc (.cells cs T)) (some ⟨W.heap.size,0,none⟩) cs.toList:=fun _=>⟨W.heap.size,0,rfl,by simp,fun j u hj=>by
 rw [cell_of_row _ W.heap.size _ _ _ _ (heap_alloc_new W _),Nat.zero_add]
 simpa using hj⟩
theorem He:oH 9223372036854775807 kr.states:=by
 intro s hs;simp only [kr,List.mem_cons,List.not_mem_nil,or_false] at hs;rcases hs with rfl|rfl|rfl
 ·exact⟨by decide,fun a ha=>by simp at ha;subst ha;decide,by decide⟩
 ·exact⟨by decide,fun a ha=>by simp at ha;subst ha;decide,by decide⟩
 ·exact⟨by decide,fun a ha=>by simp at ha,by decide⟩
theorem Hd:oH 9223372036854775807 mG.states:=by
 intro s hs;simp only [mG,List.mem_cons,List.not_mem_nil,or_false] at hs;rcases hs with rfl|rfl|rfl|rfl
 ·exact⟨by decide,fun a ha=>by simp at ha;subst ha;decide,by decide⟩
 ·exact⟨by decide,fun a ha=>by simp at ha;subst ha;decide,by decide⟩
 ·exact⟨by decide,fun a ha=>by simp at ha;subst ha;decide,by decide⟩
 ·exact⟨by decide,fun a ha=>by simp at ha,by decide⟩
theorem EW (W:World) (h:fD W):Calls Tryz.prog 11 #[.string ⟨#[64,85,46,67,97,115,101,46,71,101,110,64]⟩] W fun e w'=>e=.returned (.tuple #[.agg #[.int .u8 85,.string ⟨#[67,97,115,101]⟩,.string ⟨#[71,101,110]⟩],.bool true])/\Below W.heap.size W w':=by
 have:=lM ⟨#[64,85,46,67,97,115,101,46,71,101,110,64]⟩ W h;unfold ma at this;rw [show bR (⟨#[64,85,46,67,97,115,101,46,71,101,110,64]⟩:ByteArray).data.toList=_ from Fs] at this;exact this
theorem EX (W:World) (h:fD W):Calls Tryz.prog 11 #[.string ⟨#[64,82,46,67,97,115,101,64]⟩] W fun e w'=>e=.returned (.tuple #[.agg #[.int .u8 82,.string ⟨#[67,97,115,101]⟩,.string ⟨#[]⟩],.bool true])/\Below W.heap.size W w':=by
 have:=lM ⟨#[64,82,46,67,97,115,101,64]⟩ W h;unfold ma at this;rw [show bR (⟨#[64,82,46,67,97,115,101,64]⟩:ByteArray).data.toList=_ from Fu] at this;exact this
theorem EY (W:World) (h:fD W):Calls Tryz.prog 19 #[.agg #[.int .u8 82,.string ⟨#[67,97,115,101]⟩,.string ⟨#[]⟩]] W fun e w'=>e=.returned (.tuple #[.string ⟨#[64,82,46,67,97,115,101,64]⟩,.bool true])/\Below W.heap.size W w':=by
 have:=vQ 82 ⟨#[67,97,115,101]⟩ ⟨#[]⟩ W h.t;rw [show fH (aD 82 ⟨#[67,97,115,101]⟩ ⟨#[]⟩)=_ from Fv] at this;exact this
theorem EZ (Ax At:Option Addr) (cx ct:Nat) (W:World) (h:fD W) (hX:ay W Ax [.int .i64 1,.int .i64 2,.int .i64 3]) (hV:ay W At (lG.map S)):Calls Tryz.prog 23 #[.slice Ax 3 cx,.slice At lG.length ct] W fun e w'=>∃ A c,e=.returned (.tuple #[.slice A 1 c,.bool false])/\ay w' A [.int .i64 2]/\Below W.heap.size W w':=by
 have:=ND Ax At cx ct [1,2,3] lG W h hX hV (by decide) (by decide);rw [Fz] at this;exact this
theorem E5 (A At:Option Addr) (c ct:Nat) (W:World) (h:fD W) (hS:dY W A mG.states) (hV:ay W At (lG.map S)):Calls Tryz.prog 13 #[di mG A c,.slice At lG.length ct] W fun e w'=>∃ A c,e=.returned (.tuple #[.agg #[.int .i64 1,.int .i64 0,.string ⟨#[48]⟩,.slice A 3 c],.int .i64 0])/\dY w' A kr.states/\Below W.heap.size W w':=by
 have:=G6 mG A At c ct lG W h hS hV (by decide) (by decide) Hd;rw [Hg] at this;exact this
theorem E8 (A AX:Option Addr) (c cx:Nat) (W:World) (hS:dY W A kr.states) (hX:ay W AX [.int .i64 2]):Calls Tryz.prog 16 #[.agg #[.int .i64 1,.int .i64 0,.string ⟨#[48]⟩,.slice A 3 c],.slice AX 1 cx] W fun e w'=>e=.returned (.tuple #[.string ⟨#[55]⟩,.int .i64 0])/\Below W.heap.size W w':=by
 have:=KL Rv kr A AX c cx [2] W hS (by decide) (by decide) He hX fun _ _=>trivial
 rw [Hf] at this;refine Calls.mono this ?_;rintro e w' ⟨hb,he,-⟩;exact⟨he,hb⟩
theorem wY (A:Option Addr) (c:Nat) (l:List Bs) (r:Bool) (hr:jH (je l)=r) (W:World) (h:fD W) (hV:ay W A (l.map S)) (hl:l.length<=1000) (hs:∀ s∈l,s.length<=100):Calls Tryz.prog 12 #[.slice A l.length c] W fun e w'=>e=.returned (.bool r)/\Below W.heap.size W w':=by
 have:=IQ A c l W h hV hl hs;rwa [hr] at this
theorem tq (w:World) (hT:fD w):Calls Tryz.prog 17 #[] w fun e w'=>e=.returned (.bool true)/\Below w.heap.size w w':=by
 go_enter Tryz.func17,Tryz.ntmps17;go_upto_region 2 with (first|(go_at_call 11;refine (EW w hT).mono ?_;rintro e w1 ⟨rfl,hb1⟩))
 have hB2:=hb1.alloc hb1.size (.cells #[.int .u8 85,.string ⟨#[67,97,115,101]⟩,.string ⟨#[71,101,110]⟩] 24);have g1:=heap_alloc_new w1 (.cells #[.int .u8 85,.string ⟨#[67,97,115,101]⟩,.string ⟨#[71,101,110]⟩] 24);obtain⟨b1,Yz⟩:∃ b1,b1=w1.heap.size:=⟨_,rfl⟩;obtain⟨W2,hW2⟩:∃ W2,W2=w1.alloc (.cells #[.int .u8 85,.string ⟨#[67,97,115,101]⟩,.string ⟨#[71,101,110]⟩] 24):=⟨_,rfl⟩;rw [<-hW2,<-Yz];rw [<-hW2] at hB2 g1;rw [<-Yz] at g1;clear hW2 Yz hb1;go_upto_region 3 with (first|(go_at_call 11;refine (EX W2 (hT.below hB2)).mono ?_;rintro e w3 ⟨rfl,hb3⟩))
 have hB3:=(ae hB2 hb3).alloc (ae hB2 hb3).size (.cells #[.int .u8 82,.string ⟨#[67,97,115,101]⟩,.string ⟨#[]⟩] 24);have g3:=heap_alloc_new w3 (.cells #[.int .u8 82,.string ⟨#[67,97,115,101]⟩,.string ⟨#[]⟩] 24);have g1:=(((hb3.alloc hb3.size (.cells #[.int .u8 82,.string ⟨#[67,97,115,101]⟩,.string ⟨#[]⟩] 24)).block _ (lt_of_block g1))).trans g1;obtain⟨b3,YA⟩:∃ b3,b3=w3.heap.size:=⟨_,rfl⟩;obtain⟨W3,hW3⟩:∃ W3,W3=w3.alloc (.cells #[.int .u8 82,.string ⟨#[67,97,115,101]⟩,.string ⟨#[]⟩] 24):=⟨_,rfl⟩;rw [<-hW3,<-YA];rw [<-hW3] at hB3 g3 g1;rw [<-YA] at g3;clear hW3 YA hb3;go_upto_region 4 with (first|(go_at_call 19;refine (EY W3 (hT.below hB3)).mono ?_;rintro e W4 ⟨rfl,hb4⟩))
 have hB4:=ae hB3 hb4;have g1:=(hb4.block _ (lt_of_block g1)).trans g1;have g3:=(hb4.block _ (lt_of_block g3)).trans g3;clear hb4 hB3;have bA:=(Below.refl W4.heap.size W4).alloc (Nat.le_refl _) (.cells #[.int .i64 1,.int .i64 2,.int .i64 3] 3);have hX:=rP W4 #[.int .i64 1,.int .i64 2,.int .i64 3] 3
 go_upto_region 5 with (first
  | (go_at_call 15;refine (Bw _).mono ?_;rintro e w5 ⟨At,rfl,hV5,hb5⟩;have pS:=EZ _ At 3 3 w5 (hT.below (ae hB4 (ae bA hb5))) (hX.below hb5) hV5)
  | (go_at_call 23;refine pS.mono ?_;rintro e W6 ⟨Ay,cy,rfl,hY,hb6⟩))
 have Xt:=ae (ae bA hb5) hb6;have TV:=ae hB4 Xt;have g1:=(Xt.block _ (lt_of_block g1)).trans g1;have g3:=(Xt.block _ (lt_of_block g3)).trans g3;clear Xt hb5 hb6 bA hX hV5 pS hB4
 go_upto_region 6 with (first
  | (go_at_call 14;refine (Hm _).mono ?_;rintro e w7 ⟨Am,rfl,We,Vn⟩)
  | (go_at_call 15;refine (Bw _).mono ?_;rintro e w8 ⟨At,rfl,hV8,Zv⟩;have pE:=E5 Am At 4 3 w8 (hT.below (ae TV (ae Vn Zv))) (We.below Zv) hV8)
  | (go_at_call 13;refine pE.mono ?_;rintro e w9 ⟨An,cn,rfl,hS9,Xv⟩))
 have YC:=ae (ae Vn Zv) Xv;have WJ:=YC.alloc YC.size (.cells #[.int .i64 1,.int .i64 0,.string ⟨#[48]⟩,.slice An 3 cn] 30);have V8:=ae TV WJ;have g1:=(WJ.block _ (lt_of_block g1)).trans g1;have g3:=(WJ.block _ (lt_of_block g3)).trans g3;have hY:=hY.below WJ;have hS9:=hS9.below ((Below.refl w9.heap.size w9).alloc (Nat.le_refl _) (.cells #[.int .i64 1,.int .i64 0,.string ⟨#[48]⟩,.slice An 3 cn] 30));have m0:=aJ w9 #[.int .i64 1,.int .i64 0,.string ⟨#[48]⟩,.slice An 3 cn] 30 0 (.int .i64 1) rfl;have m1:=aJ w9 #[.int .i64 1,.int .i64 0,.string ⟨#[48]⟩,.slice An 3 cn] 30 1 (.int .i64 0) rfl;have m2:=aJ w9 #[.int .i64 1,.int .i64 0,.string ⟨#[48]⟩,.slice An 3 cn] 30 2 (.string ⟨#[48]⟩) rfl;have m3:=aJ w9 #[.int .i64 1,.int .i64 0,.string ⟨#[48]⟩,.slice An 3 cn] 30 3 (.slice An 3 cn) rfl;obtain⟨b9,YE⟩:∃ b9,b9=w9.heap.size:=⟨_,rfl⟩;obtain⟨W9,hW9⟩:∃ W9,W9=w9.alloc (.cells #[.int .i64 1,.int .i64 0,.string ⟨#[48]⟩,.slice An 3 cn] 30):=⟨_,rfl⟩;rw [<-hW9,<-YE];rw [<-hW9] at V8 g1 g3 hY hS9 m0 m1 m2 m3;rw [<-YE] at m0 m1 m2 m3;clear hW9 YE YC WJ Vn Zv Xv We hV8 pE TV;have bA:=(Below.refl W9.heap.size W9).alloc (Nat.le_refl _) (.cells #[.int .i64 2] 3);have hX:=rP W9 #[.int .i64 2] 3;have pA:=E8 An _ cn 1 _ (hS9.below bA) hX;go_upto_region 7 with (first|(go_at_call 16;refine pA.mono ?_;rintro e W10 ⟨rfl,WG⟩))
 have Va:=ae bA WG;have U8:=ae V8 Va;have g1:=(Va.block _ (lt_of_block g1)).trans g1;have g3:=(Va.block _ (lt_of_block g3)).trans g3;have hY:=hY.below Va;clear Va bA hX pA WG hS9 m0 m1 m2 m3 V8;obtain⟨k0,k1,k2⟩:=cells3 g1;obtain⟨j0,j1,j2⟩:=cells3 g3;clear g1 g3;have bA1:=(Below.refl W10.heap.size W10).alloc (Nat.le_refl _) (.cells #[.string ⟨#[85,46,97,46,120]⟩,.string ⟨#[85,46,97,46,120]⟩] 9);have pL1:=wY _ 2 [[85,46,97,46,120],[85,46,97,46,120]] true Fw _ (hT.below (ae U8 bA1)) (rP W10 #[.string ⟨#[85,46,97,46,120]⟩,.string ⟨#[85,46,97,46,120]⟩] 9) (by decide) (by decide)
 go_wp2_with (first
  | (have bA4:=(Below.refl W13.heap.size W13).alloc (Nat.le_refl _) (.cells #[.int .i64 2] 3);have pI:=L6 Ay _ cy 1 [2] [2] _ ((hY.below hL3).below bA4) (rP W13 #[.int .i64 2] 3) (by decide);go_at_call 25;refine pI.mono ?_;rintro e W14 ⟨rfl,TR⟩;have hL4:=ae (ae hL3 bA4) TR)
  | (have bA3:=(Below.refl W12.heap.size W12).alloc (Nat.le_refl _) (.cells #[.string ⟨#[85,46,97,46,120]⟩,.string ⟨#[67,46,97]⟩,.string ⟨#[85,46,97,46,121]⟩] 9);have pL3:=wY _ 3 [[85,46,97,46,120],[67,46,97],[85,46,97,46,121]] true Fy _ (hT.below (ae U8 (ae hL2 bA3))) (rP W12 #[.string ⟨#[85,46,97,46,120]⟩,.string ⟨#[67,46,97]⟩,.string ⟨#[85,46,97,46,121]⟩] 9) (by decide) (by decide);go_at_call 12;refine pL3.mono ?_;rintro e W13 ⟨rfl,VB⟩;have hL3:=ae (ae hL2 bA3) VB)
  | (have bA2:=(Below.refl W11.heap.size W11).alloc (Nat.le_refl _) (.cells #[.string ⟨#[85,46,97,46,120]⟩,.string ⟨#[85,46,97,46,121]⟩] 9);have pL2:=wY _ 2 [[85,46,97,46,120],[85,46,97,46,121]] false Fx _ (hT.below (ae U8 (ae hL1 bA2))) (rP W11 #[.string ⟨#[85,46,97,46,120]⟩,.string ⟨#[85,46,97,46,121]⟩] 9) (by decide) (by decide);go_at_call 12;refine pL2.mono ?_;rintro e W12 ⟨rfl,UC⟩;have hL2:=ae (ae hL1 bA2) UC)
  | (go_at_call 12;refine pL1.mono ?_;rintro e W11 ⟨rfl,VA⟩;have hL1:=ae bA1 VA))
 go_returns;exact⟨by (try rfl),ae U8 hL4⟩
end Go.Proofs.YtppnecgeboonbaaGreatDoor
