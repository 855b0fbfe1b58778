/- The plain words of Eliminate (layer 22): the program's way, over texts of memories; the reference's way, over memories. No program in sight. -/
import Derived.Test.YtppnecgeboonbaaGreatDoorZ45
namespace Go.Proofs.YtppnecgeboonbaaGreatDoor
set_option maxRecDepth 100000
set_option linter.unusedVariables false
set_option maxHeartbeats 8000000
open Rat3
theorem aBd:uV kr [1,2]=.ok bD:=JW (by decide +kernel)
theorem aBc:uV kr []=.ok bD:=JW (by decide +kernel)
open Go Go.RowKit Go.Maps
def aAC:List Bs:=[[64,80,46,67,97,115,101,64],[64,67,46,67,97,115,101,46,71,101,110,64],[64,88,46,97,46,98,64],[64,85,46,97,46,98,46,99,64],[64,85,46,46,98,64],[85,46,97,46,98],[64,82,46,97,46,64],[64,82,46,64],[],[64]]
theorem aBb:∀ s∈aAC,bR s=none:=by decide +kernel
theorem xl1:jH (je [[80,46,97,46,120],[82,46,97,46,120]])=true:=by decide +kernel
theorem xl2:jH (je [[82,46,97]])=false:=by decide +kernel
theorem xl3:jH (je [[78,46,97,46,120],[82,46,97]])=true:=by decide +kernel
theorem xl4:jH (je [[78,46,97,46,120],[82,46,97,46,120]])=false:=by decide +kernel
theorem xl5:jH (je [[78,46,97,46,120],[85,46,97,46,121]])=true:=by decide +kernel
theorem xl6:jH (je [[78,46,97,46,120],[85,46,97,46,120]])=false:=by decide +kernel
theorem xl7:jH (je [[68,46,97]])=true:=by decide +kernel
theorem xl8:jH (je [[80,46,97,46,120],[68,46,97]])=false:=by decide +kernel
theorem xl9:jH (je [[80,46,97,46,120],[68,46,97,46,121]])=true:=by decide +kernel
theorem aBG:jH (je [[78,46,97,46,120],[68,46,97,46,120]])=true:=by decide +kernel
theorem aBH:jH (je [])=true:=by decide +kernel
theorem aBI:jH (je [[88,46,97,46,98]])=false:=by decide +kernel
theorem aLg (A:Array Value) (cs:List Bs) {r:Bool} (hr:jH (je cs)=r) (hA:A.toList=cs.map S) (hl:cs.length<=1000) (hs:∀ s∈cs,s.length<=100) (W:World) (hT:fD W) :
  Calls Tryz.prog 12 #[.slice (some ⟨W.heap.size,0,none⟩) cs.length cs.length] (W.alloc (.cells A 9)) fun e w'=>e=.returned (.bool r)/\Below W.heap.size W w':=by
 have bA:=(Below.refl W.heap.size W).alloc (Nat.le_refl _) (.cells A 9);have hX:=rP W A 9;rw [hA] at hX;refine (wY _ cs.length cs r hr _ (hT.below bA) hX hl hs).mono ?_;rintro e w' ⟨rfl,h⟩;exact⟨rfl,ae bA h⟩
theorem aPn (AX:Option Addr) (x:List Int) (v:ByteArray) (hx:uV kr x=.ok v.data.toList) (A:Option Addr) (c cx:Nat) (W:World) (hS:dY W A kr.states) (hX:ay W AX (x.map IV)):Calls Tryz.prog 16 #[.agg #[.int .i64 1,.int .i64 0,.string ⟨#[48]⟩,.slice A 3 c],.slice AX x.length cx] W fun e w'=>e=.returned (.tuple #[.string v,.int .i64 0])/\Below W.heap.size W w':=by
 have:=KL Ma kr A AX c cx x W hS (by decide) (by decide) He hX FB;rw [hx] at this;refine Calls.mono this ?_;rintro e w' ⟨hb,he,-⟩;refine⟨?_,hb⟩;rw [he,eX]
theorem aAM {W:World} {b:Nat} {x y z u:Value} {T:TypeId} (h:W.heap[b]? = some (.cells #[x,y,z,u] T (0,0))):W.cell? ⟨b,0,none⟩=some x/\W.cell? ⟨b,1,none⟩=some y/\W.cell? ⟨b,2,none⟩=some z/\W.cell? ⟨b,3,none⟩=some u:=by
 refine⟨?_,?_,?_,?_⟩
 ·rw [cell_of_row W b _ _ _ _ h];rfl
 ·rw [cell_of_row W b _ _ _ _ h];rfl
 ·rw [cell_of_row W b _ _ _ _ h];rfl
 ·rw [cell_of_row W b _ _ _ _ h];rfl
theorem aBe (w:World) (hT:fD w):Calls Tryz.prog 3 #[] w fun e w'=>e=.returned (.bool true)/\Below w.heap.size w w':=by
 have hR:=rP w #[.string ⟨#[64,80,46,67,97,115,101,64]⟩,.string ⟨#[64,67,46,67,97,115,101,46,71,101,110,64]⟩,.string ⟨#[64,88,46,97,46,98,64]⟩,.string ⟨#[64,85,46,97,46,98,46,99,64]⟩,.string ⟨#[64,85,46,46,98,64]⟩,.string ⟨#[85,46,97,46,98]⟩,.string ⟨#[64,82,46,97,46,64]⟩,.string ⟨#[64,82,46,64]⟩,.string ⟨#[]⟩,.string ⟨#[64]⟩] 9;have bA:=(Below.refl w.heap.size w).alloc (Nat.le_refl _) (.cells #[.string ⟨#[64,80,46,67,97,115,101,64]⟩,.string ⟨#[64,67,46,67,97,115,101,46,71,101,110,64]⟩,.string ⟨#[64,88,46,97,46,98,64]⟩,.string ⟨#[64,85,46,97,46,98,46,99,64]⟩,.string ⟨#[64,85,46,46,98,64]⟩,.string ⟨#[85,46,97,46,98]⟩,.string ⟨#[64,82,46,97,46,64]⟩,.string ⟨#[64,82,46,64]⟩,.string ⟨#[]⟩,.string ⟨#[64]⟩] 9);have hRow:ay (w.alloc (.cells #[.string ⟨#[64,80,46,67,97,115,101,64]⟩,.string ⟨#[64,67,46,67,97,115,101,46,71,101,110,64]⟩,.string ⟨#[64,88,46,97,46,98,64]⟩,.string ⟨#[64,85,46,97,46,98,46,99,64]⟩,.string ⟨#[64,85,46,46,98,64]⟩,.string ⟨#[85,46,97,46,98]⟩,.string ⟨#[64,82,46,97,46,64]⟩,.string ⟨#[64,82,46,64]⟩,.string ⟨#[]⟩,.string ⟨#[64]⟩] 9)) (some ⟨w.heap.size,0,none⟩) (aAC.map S):=hR;clear hR;obtain⟨W0,hW0⟩:∃ W0,W0=w.alloc (.cells #[.string ⟨#[64,80,46,67,97,115,101,64]⟩,.string ⟨#[64,67,46,67,97,115,101,46,71,101,110,64]⟩,.string ⟨#[64,88,46,97,46,98,64]⟩,.string ⟨#[64,85,46,97,46,98,46,99,64]⟩,.string ⟨#[64,85,46,46,98,64]⟩,.string ⟨#[85,46,97,46,98]⟩,.string ⟨#[64,82,46,97,46,64]⟩,.string ⟨#[64,82,46,64]⟩,.string ⟨#[]⟩,.string ⟨#[64]⟩] 9):=⟨_,rfl⟩;go_enter Tryz.func3,Tryz.ntmps3;go_upto_region 2 with (fail)
 rw [<-hW0];rw [<-hW0] at hRow bA;obtain⟨b0,hb0⟩:∃ b0,b0=w.heap.size:=⟨_,rfl⟩;rw [<-hb0] at hRow;rw [<-hb0];have HR:=Lib.hid hRow;clear hW0 hRow;have HB:=Lib.hid hb0;clear hb0
 go_loopw [15] (fun i wr=>∃ (k:Nat),i=.int .i64 k/\k<=10/\Below W0.heap.size W0 wr) (fun i _=>10-(intOf i).toNat)
 case atStart=>exact⟨0,rfl,by omega,Below.refl _ _⟩
 case round =>
  obtain⟨k,rfl,hk,hB⟩:=hrel;have hBw:=ae bA hB;by_cases hlt:k<10
  ·obtain⟨b,o,hbo,hbl,hc⟩:=DI HR.out (k:=k) hlt
   injection hbo with hbo
   injection hbo with hbo1 hbo2
   subst hbo1 hbo2;rw [Nat.zero_add] at hc;have hno:=aBb _ (List.getElem_mem (n:=k) (l:=aAC) hlt);generalize aAC[k]=z at *;obtain⟨Z,hZ⟩:∃ Z:ByteArray,(⟨z.toArray⟩:ByteArray)=Z:=⟨_,rfl⟩;have hZd:z=Z.data.toList:=by rw [<-hZ]
   have k0:=(hB.cell (p:=⟨b0,k,none⟩) hbl).trans (hc.trans (by rw [S,hZ]));subst hZd;have pP:=lM Z wr (hT.below hBw);rw [hno] at pP;have i0:(0:Int)<=(k:Int):=by omega
   have il:(k:Int)<10:=by omega
   clear hc hno hZ;go_wp2_with (first|(go_at_call 11;refine Calls.mono pP ?_;rintro e w1 ⟨rfl,hb1⟩;unfold kR dX S));go_roundw
   case rel=>exact⟨k+1,by go_num,by omega,hB.trans ((hb1.alloc hb1.size _).mono hB.size)⟩
   case measure=>simp [intOf];omega
  ·obtain rfl:k=10:=by omega
   rename World=>W0
   have h0:=hT.below hBw;have B0:=hBw;clear HR HB;clear bA hB hBw hT
   go_upto_region 9 with (first
    | (have p6:=aLg #[.string ⟨#[78,46,97,46,120]⟩,.string ⟨#[85,46,97,46,120]⟩] [[78,46,97,46,120],[85,46,97,46,120]] xl6 rfl (by decide) (by decide) W5 h5;go_at_call 12;refine p6.mono ?_;rintro e W6 ⟨rfl,b6⟩;have h6:=h5.below b6;have B6:=ae B5 b6)
    | (have p5:=aLg #[.string ⟨#[78,46,97,46,120]⟩,.string ⟨#[85,46,97,46,121]⟩] [[78,46,97,46,120],[85,46,97,46,121]] xl5 rfl (by decide) (by decide) W4 h4;go_at_call 12;refine p5.mono ?_;rintro e W5 ⟨rfl,b5⟩;have h5:=h4.below b5;have B5:=ae B4 b5)
    | (have p4:=aLg #[.string ⟨#[78,46,97,46,120]⟩,.string ⟨#[82,46,97,46,120]⟩] [[78,46,97,46,120],[82,46,97,46,120]] xl4 rfl (by decide) (by decide) W3 h3;go_at_call 12;refine p4.mono ?_;rintro e W4 ⟨rfl,b4⟩;have h4:=h3.below b4;have B4:=ae B3 b4)
    | (have p3:=aLg #[.string ⟨#[78,46,97,46,120]⟩,.string ⟨#[82,46,97]⟩] [[78,46,97,46,120],[82,46,97]] xl3 rfl (by decide) (by decide) W2 h2;go_at_call 12;refine p3.mono ?_;rintro e W3 ⟨rfl,b3⟩;have h3:=h2.below b3;have B3:=ae B2 b3)
    | (have p2:=aLg #[.string ⟨#[82,46,97]⟩] [[82,46,97]] xl2 rfl (by decide) (by decide) W1 h1;go_at_call 12;refine p2.mono ?_;rintro e W2 ⟨rfl,b2⟩;have h2:=h1.below b2;have B2:=ae B1 b2)
    | (have p1:=aLg #[.string ⟨#[80,46,97,46,120]⟩,.string ⟨#[82,46,97,46,120]⟩] [[80,46,97,46,120],[82,46,97,46,120]] xl1 rfl (by decide) (by decide) W0 h0;go_at_call 12;refine p1.mono ?_;rintro e W1 ⟨rfl,b1⟩;have h1:=h0.below b1;have B1:=ae B0 b1))
   clear h0 B0 b1 h1 B1 b2 h2 B2 b3 h3 B3 b4 h4 B4 b5 h5 B5 b6
   go_upto_region 10 with (first
    | (have p12:=aLg #[.string ⟨#[88,46,97,46,98]⟩] [[88,46,97,46,98]] aBI rfl (by decide) (by decide) W11 h11;go_at_call 12;refine p12.mono ?_;rintro e W12 ⟨rfl,b12⟩;have h12:=h11.below b12;have B12:=ae B11 b12)
    | (have p11:=wY none 0 [] true aBH W10 h10 (fun h=>absurd rfl h) (by decide) (by decide);go_at_call 12;refine p11.mono ?_;rintro e W11 ⟨rfl,b11⟩;have h11:=h10.below b11;have B11:=ae B10 b11)
    | (have p10:=aLg #[.string ⟨#[78,46,97,46,120]⟩,.string ⟨#[68,46,97,46,120]⟩] [[78,46,97,46,120],[68,46,97,46,120]] aBG rfl (by decide) (by decide) W9 h9;go_at_call 12;refine p10.mono ?_;rintro e W10 ⟨rfl,b10⟩;have h10:=h9.below b10;have B10:=ae B9 b10)
    | (have aAi:=aLg #[.string ⟨#[80,46,97,46,120]⟩,.string ⟨#[68,46,97,46,121]⟩] [[80,46,97,46,120],[68,46,97,46,121]] xl9 rfl (by decide) (by decide) W8 h8;go_at_call 12;refine aAi.mono ?_;rintro e W9 ⟨rfl,b9⟩;have h9:=h8.below b9;have B9:=ae B8 b9)
    | (have aAh:=aLg #[.string ⟨#[80,46,97,46,120]⟩,.string ⟨#[68,46,97]⟩] [[80,46,97,46,120],[68,46,97]] xl8 rfl (by decide) (by decide) W7 h7;go_at_call 12;refine aAh.mono ?_;rintro e W8 ⟨rfl,b8⟩;have h8:=h7.below b8;have B8:=ae B7 b8)
    | (have p7:=aLg #[.string ⟨#[68,46,97]⟩] [[68,46,97]] xl7 rfl (by decide) (by decide) W6 h6;go_at_call 12;refine p7.mono ?_;rintro e W7 ⟨rfl,b7⟩;have h7:=h6.below b7;have B7:=ae B6 b7))
   clear h6 B6 b7 h7 B7 b8 h8 B8 b9 h9 B9 b10 h10 B10 b11 h11 B11 b12
   go_upto_region 11 with (first
    | (go_at_call 14;refine (Hm _).mono ?_;rintro e w7 ⟨Am,rfl,hS7,hb7⟩)
    | (go_at_call 15;refine (Bw _).mono ?_;rintro e w8 ⟨At,rfl,hV8,hb8⟩;have pE:=E5 Am At 4 3 w8 (h12.below (ae hb7 hb8)) (hS7.below hb8) hV8)
    | (go_at_call 13;refine pE.mono ?_;rintro e w9 ⟨An,cn,rfl,hS9,hb9⟩))
   have hb69:=ae (ae hb7 hb8) hb9;have hb6A:=hb69.alloc hb69.size (.cells #[.int .i64 1,.int .i64 0,.string ⟨#[48]⟩,.slice An 3 cn] 30);have hB9:=ae B12 hb6A;have h13:=h12.below hb6A;have hS9:=hS9.below ((Below.refl w9.heap.size w9).alloc (Nat.le_refl _) (.cells #[.int .i64 1,.int .i64 0,.string ⟨#[48]⟩,.slice An 3 cn] 30));have g9:=heap_alloc_new w9 (.cells #[.int .i64 1,.int .i64 0,.string ⟨#[48]⟩,.slice An 3 cn] 30);obtain⟨b9,hb9e⟩:∃ b9,b9=w9.heap.size:=⟨_,rfl⟩;obtain⟨W9,hW9⟩:∃ W9,W9=w9.alloc (.cells #[.int .i64 1,.int .i64 0,.string ⟨#[48]⟩,.slice An 3 cn] 30):=⟨_,rfl⟩;rw [<-hW9,<-hb9e];rw [<-hW9] at hB9 h13 hS9 g9;rw [<-hb9e] at g9;clear hW9 hb9e hb69 hb6A hb7 hb8 hb9 hS7 hV8 pE h12 B12;obtain⟨m0,m1,m2,m3⟩:=aAM g9;have bA:=(Below.refl W9.heap.size W9).alloc (Nat.le_refl _) (.cells #[.int .i64 1,.int .i64 2] 3);have pA:=aPn _ [1,2] ⟨#[105,110,102]⟩ aBd An cn 2 _ (hS9.below bA) (rP W9 #[.int .i64 1,.int .i64 2] 3);go_upto_region 12 with (first|(go_at_call 16;refine pA.mono ?_;rintro e W10 ⟨rfl,hb10⟩))
   have hb910:=ae bA hb10;have h14:=h13.below hb910;have hB10:=ae hB9 hb910;have hS10:=hS9.below hb910;have g10:=(hb910.block _ (lt_of_block g9)).trans g9;clear m0 m1 m2 m3 pA bA hb10 g9 hS9 hB9 h13 hb910;obtain⟨m0,m1,m2,m3⟩:=aAM g10;have pA:=aPn none [] ⟨#[105,110,102]⟩ aBc An cn 0 _ hS10 (fun h=>absurd rfl h);go_upto_region 13 with (first|(go_at_call 16;refine pA.mono ?_;rintro e W11 ⟨rfl,hb11⟩))
   have pK:=tq W11 (h14.below hb11);clear m0 m1 m2 m3 pA g10;go_wp2_with (first|(go_at_call 17;refine pK.mono ?_;rintro e w12 ⟨rfl,hb12⟩));go_returns;exact⟨by (try rfl),ae (ae hB10 hb11) hb12⟩
end Go.Proofs.YtppnecgeboonbaaGreatDoor
