/- Chapter 22's law: its example machine; awake. -/
import Derived.Test.YtppnecgeboonbaaGreatDoorZ35
import Derived.Test.YtppnecgeboonbaaGreatDoorZ36
import Derived.Test.YtppnecgeboonbaaGreatDoorZ43
import Derived.Test.YtppnecgeboonbaaGreatDoorZ47
namespace Go.Proofs.YtppnecgeboonbaaGreatDoor
set_option maxRecDepth 100000
set_option linter.unusedVariables false
set_option maxHeartbeats 4000000
open Go Go.RowKit Go.Maps
theorem FR (W:World) (b:Nat) (v0 v1 v2 v3:Value):aB (fun c=>c=b) W ((((W.setCell ⟨b,0,none⟩ v0).setCell ⟨b,1,none⟩ v1).setCell ⟨b,2,none⟩ v2).setCell ⟨b,3,none⟩ v3):=(((dP W b 0 _).trans (dP _ b 1 _) fun b _ e=>e).trans (dP _ b 2 _) fun b _ e=>e).trans (dP _ b 3 _) fun b _ e=>e
theorem xe {Z:World} {b:Nat} {x y:Int} {c:UInt8} (h:Z.heap[b]? = some (.cells #[.int .i64 x,.int .i64 x,.string ⟨#[c]⟩,.int .i64 y] 77 (0,0))):oG Z (some ⟨b,0,none⟩) [⟨x,x,[c],y⟩]:=by
 intro j hj;obtain rfl:j=0:=by simpa using hj
 refine⟨b,0,rfl,lt_of_block h,?_,?_,?_,?_⟩
 ·rw [cell_of_row Z b _ _ _ _ h];rfl
 ·rw [cell_of_row Z b _ _ _ _ h];rfl
 ·rw [cell_of_row Z b _ _ _ _ h];rfl
 ·rw [cell_of_row Z b _ _ _ _ h];rfl
theorem Hm (w:World):Calls Tryz.prog 14 #[] w fun e w'=>∃ A,e=.returned (di mG A 4)/\dY w' A mG.states/\Below w.heap.size w w':=by
 have hb0:Below w.heap.size w (w.alloc (.cells #[.int .i64 0,.int .i64 0,.string ⟨#[]⟩,.slice none 0 0] 30)):=(Below.refl _ _).alloc (Nat.le_refl _) _;have h0:=heap_alloc_new w (.cells #[.int .i64 0,.int .i64 0,.string ⟨#[]⟩,.slice none 0 0] 30);go_enter Tryz.func14,Tryz.ntmps14;go_upto_region 1 with (fail)
 obtain⟨w0,hw0⟩:∃ w0,w0=w.alloc (.cells #[.int .i64 0,.int .i64 0,.string ⟨#[]⟩,.slice none 0 0] 30):=⟨_,rfl⟩;rw [<-hw0] at hb0 h0 ⊢;have hs0:w.heap.size<w0.heap.size:=by rw [hw0];simp
 clear hw0;have HH:Hid (∀ w2,Below w0.heap.size w0 w2->w2.heap[w.heap.size]? = some (.cells #[.int .i64 0,.int .i64 0,.string ⟨#[]⟩,.slice none 0 0] 30 (0,0))):=fun w2 hb=>(hb.block _ hs0).trans h0
 have H0:=Lib.hid h0;clear h0;have HZ:Hid (∀ w2,Below w0.heap.size w0 w2->(w2.cell? ⟨w.heap.size,0,none⟩=some (.int .i64 0)/\w2.cell? ⟨w.heap.size,1,none⟩=some (.int .i64 0)/\w2.cell? ⟨w.heap.size,2,none⟩=some (.string ⟨#[]⟩)/\w2.cell? ⟨w.heap.size,3,none⟩=some (.slice none 0 0))/\w2.frozen? ⟨w.heap.size,0,none⟩=false/\w2.frozen? ⟨w.heap.size,1,none⟩=false/\w2.frozen? ⟨w.heap.size,2,none⟩=false/\w2.frozen? ⟨w.heap.size,3,none⟩=false):=by
  intro w2 hb;have h:=HH.out w2 hb;have hf:∀ o,w2.frozen? ⟨w.heap.size,o,none⟩=false:=fun o=>by unfold World.frozen?;rw [h];simp
  refine⟨⟨?_,?_,?_,?_⟩,hf 0,hf 1,hf 2,hf 3⟩
  ·rw [cell_of_row w2 _ 0 _ _ _ h];rfl
  ·rw [cell_of_row w2 _ 1 _ _ _ h];rfl
  ·rw [cell_of_row w2 _ 2 _ _ _ h];rfl
  ·rw [cell_of_row w2 _ 3 _ _ _ h];rfl
 go_wp2_with (first
  | (have aAg:=hBb.alloc hBb.size (.cells #[.int .i64 2,.int .i64 2,.string ⟨#[51]⟩,.int .i64 2] 77);go_at_call 47;refine (xY 3 3 ⟨#[48]⟩ _).mono ?_;rintro e wc ⟨rfl,hbc⟩;have U9:=ae aAg hbc;have A2:=(hbc.block wb.heap.size (by simp)).trans (heap_alloc_new wb _);have A1c:=((((Below.refl wb.heap.size wb).alloc (Nat.le_refl _) (.cells #[.int .i64 2,.int .i64 2,.string ⟨#[51]⟩,.int .i64 2] 77)).block _ (lt_of_block A1)).trans A1);have A1d:=(hbc.block wa.heap.size (by have:=lt_of_block A1;simp;omega)).trans A1c;have V8:=(U9.alloc U9.size (.cells #[.int .i64 3,.int .i64 3,.string ⟨#[48]⟩,.int .i64 3] 77)).alloc (by have:=U9.size;simp;omega) (.cells #[.string ⟨#[]⟩,.slice (some ⟨wa.heap.size,0,none⟩) 1 1,.string ⟨#[]⟩,.slice (some ⟨wb.heap.size,0,none⟩) 1 1,.string ⟨#[52]⟩,.slice (some ⟨wc.heap.size,0,none⟩) 1 1,.string ⟨#[49]⟩,.slice none 0 0] 75);obtain⟨⟨z0,z1,z2,z3⟩,f0,f1,f2,f3⟩:=HZ.out _ V8;have HA2:=Lib.hid A2;have HA1:=Lib.hid A1d;clear A2 A1c A1d A1 hBb)
  | (have aAf:=hBa.alloc hBa.size (.cells #[.int .i64 1,.int .i64 1,.string ⟨#[48]⟩,.int .i64 1] 77);go_at_call 47;refine (xY 2 2 ⟨#[51]⟩ _).mono ?_;rintro e wb ⟨rfl,hbb⟩;have hBb:=ae aAf hbb;have A1:=(hbb.block wa.heap.size (by simp)).trans (heap_alloc_new wa _);clear hBa)
  | (go_at_call 47;refine (xY 1 1 ⟨#[48]⟩ _).mono ?_;rintro e wa ⟨rfl,VK⟩;have hBa:=VK))
 have hC:=FR ((wc.alloc (.cells #[.int .i64 3,.int .i64 3,.string ⟨#[48]⟩,.int .i64 3] 77)).alloc (.cells #[.string ⟨#[]⟩,.slice (some ⟨wa.heap.size,0,none⟩) 1 1,.string ⟨#[]⟩,.slice (some ⟨wb.heap.size,0,none⟩) 1 1,.string ⟨#[52]⟩,.slice (some ⟨wc.heap.size,0,none⟩) 1 1,.string ⟨#[49]⟩,.slice none 0 0] 75)) w.heap.size (.int .i64 1) (.int .i64 0) (.string ⟨#[48]⟩) (.slice (some ⟨wc.heap.size+1,0,none⟩) 4 4);have h4:=dO (dO (dO (dO (HH.out _ V8) 0 (.int .i64 1) rfl) 1 (.int .i64 0) rfl) 2 (.string ⟨#[48]⟩) rfl) 3 (.slice (some ⟨wc.heap.size+1,0,none⟩) 4 4) rfl;have hS8:=heap_alloc_new (wc.alloc (.cells #[.int .i64 3,.int .i64 3,.string ⟨#[48]⟩,.int .i64 3] 77)) (.cells #[.string ⟨#[]⟩,.slice (some ⟨wa.heap.size,0,none⟩) 1 1,.string ⟨#[]⟩,.slice (some ⟨wb.heap.size,0,none⟩) 1 1,.string ⟨#[52]⟩,.slice (some ⟨wc.heap.size,0,none⟩) 1 1,.string ⟨#[49]⟩,.slice none 0 0] 75);rw [World.size_alloc] at hS8;have hA3:=(heap_alloc_old (wc.alloc (.cells #[.int .i64 3,.int .i64 3,.string ⟨#[48]⟩,.int .i64 3] 77)) (.cells #[.string ⟨#[]⟩,.slice (some ⟨wa.heap.size,0,none⟩) 1 1,.string ⟨#[]⟩,.slice (some ⟨wb.heap.size,0,none⟩) 1 1,.string ⟨#[52]⟩,.slice (some ⟨wc.heap.size,0,none⟩) 1 1,.string ⟨#[49]⟩,.slice none 0 0] 75) (r:=wc.heap.size) (by simp)).trans (heap_alloc_new wc (.cells #[.int .i64 3,.int .i64 3,.string ⟨#[48]⟩,.int .i64 3] 77));have bcc:Below wc.heap.size wc ((wc.alloc (.cells #[.int .i64 3,.int .i64 3,.string ⟨#[48]⟩,.int .i64 3] 77)).alloc (.cells #[.string ⟨#[]⟩,.slice (some ⟨wa.heap.size,0,none⟩) 1 1,.string ⟨#[]⟩,.slice (some ⟨wb.heap.size,0,none⟩) 1 1,.string ⟨#[52]⟩,.slice (some ⟨wc.heap.size,0,none⟩) 1 1,.string ⟨#[49]⟩,.slice none 0 0] 75)):=((Below.refl _ _).alloc (Nat.le_refl _) _).alloc (by simp) _;have hA2:=(bcc.block wb.heap.size (lt_of_block HA2.out)).trans HA2.out;have hA1:=(bcc.block wa.heap.size (lt_of_block HA1.out)).trans HA1.out;have hlo:w.heap.size<wa.heap.size/\w.heap.size<wb.heap.size/\w.heap.size<wc.heap.size:=by
  have h1:=aAf.size;have h2:=aAg.size;have h3:=U9.size;have h5:=VK.size;have h6:=hbb.size;simp at h1 h2 h6;omega
 have hlow:=hb0.trans (V8.mono (Nat.le_of_lt hs0));have hBZ:=lq hlow hC (Nat.le_refl _) (fun b hb e=>by omega);generalize (wc.alloc (.cells #[.int .i64 3,.int .i64 3,.string ⟨#[48]⟩,.int .i64 3] 77)).alloc (.cells #[.string ⟨#[]⟩,.slice (some ⟨wa.heap.size,0,none⟩) 1 1,.string ⟨#[]⟩,.slice (some ⟨wb.heap.size,0,none⟩) 1 1,.string ⟨#[52]⟩,.slice (some ⟨wc.heap.size,0,none⟩) 1 1,.string ⟨#[49]⟩,.slice none 0 0] 75)=W9 at *;generalize (((W9.setCell ⟨w.heap.size,0,none⟩ (.int .i64 1)).setCell ⟨w.heap.size,1,none⟩ (.int .i64 0)).setCell ⟨w.heap.size,2,none⟩ (.string ⟨#[48]⟩)).setCell ⟨w.heap.size,3,none⟩ (.slice (some ⟨wc.heap.size+1,0,none⟩) 4 4)=Z at *;have e0:Z.cell? ⟨w.heap.size,0,none⟩=some (.int .i64 1):=by rw [cell_of_row Z _ 0 _ _ _ h4];rfl
 have e1:Z.cell? ⟨w.heap.size,1,none⟩=some (.int .i64 0):=by rw [cell_of_row Z _ 1 _ _ _ h4];rfl
 have e2:Z.cell? ⟨w.heap.size,2,none⟩=some (.string ⟨#[48]⟩):=by rw [cell_of_row Z _ 2 _ _ _ h4];rfl
 have e3:Z.cell? ⟨w.heap.size,3,none⟩=some (.slice (some ⟨wc.heap.size+1,0,none⟩) 4 4):=by rw [cell_of_row Z _ 3 _ _ _ h4];rfl
 have g8:=(hC.block _ (lt_of_block hS8) (by omega)).trans hS8;have g3:=(hC.block _ (lt_of_block hA3) (by omega)).trans hA3;have g2:=(hC.block _ (lt_of_block hA2) (by omega)).trans hA2;have g1:=(hC.block _ (lt_of_block hA1) (by omega)).trans hA1;refine bodyPost_ret (v:=di mG (some ⟨wc.heap.size+1,0,none⟩) 4) (by simp [results,Tryz.results14,go_sem,e0,e1,e2,e3];try rfl) rfl ?_;refine⟨_,rfl,fun k hk=>?_,hBZ⟩;have hk4:k=0\/k=1\/k=2\/k=3:=by have:mG.states.length=4:=rfl;omega
 have cc:∀ j v,(#[Value.string ⟨#[]⟩,.slice (some ⟨wa.heap.size,0,none⟩) 1 1,.string ⟨#[]⟩,.slice (some ⟨wb.heap.size,0,none⟩) 1 1,.string ⟨#[52]⟩,.slice (some ⟨wc.heap.size,0,none⟩) 1 1,.string ⟨#[49]⟩,.slice none 0 0])[j]? = some v->Z.cell? ⟨wc.heap.size+1,j,none⟩=some v:=fun j v hv=>by rw [cell_of_row Z _ j _ _ _ g8];exact hv
 rcases hk4 with rfl|rfl|rfl|rfl
 ·exact⟨_,0,rfl,lt_of_block g8,cc 0 _ rfl,some ⟨wa.heap.size,0,none⟩,1,cc 1 _ rfl,xe g1⟩
 ·exact⟨_,0,rfl,lt_of_block g8,cc 2 _ rfl,some ⟨wb.heap.size,0,none⟩,1,cc 3 _ rfl,xe g2⟩
 ·exact⟨_,0,rfl,lt_of_block g8,cc 4 _ rfl,some ⟨wc.heap.size,0,none⟩,1,cc 5 _ rfl,xe g3⟩
 ·exact⟨_,0,rfl,lt_of_block g8,cc 6 _ rfl,none,0,cc 7 _ rfl,fun j hj=>absurd hj (Nat.not_lt_zero _)⟩
end Go.Proofs.YtppnecgeboonbaaGreatDoor
