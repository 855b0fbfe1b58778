/- Chapter 22's law: FlagsNames. -/
import Derived.Test.YtppnecgeboonbaaGreatDoorZ45
import Derived.Test.YtppnecgeboonbaaGreatDoorZ47
namespace Go.Proofs.YtppnecgeboonbaaGreatDoor
set_option maxRecDepth 100000
set_option linter.unusedVariables false
set_option maxHeartbeats 8000000
open Go Go.RowKit Go.Maps
theorem Ht (f:aH) {F V:ByteArray} (h1:f.feat=F.data.toList) (h2:f.val=V.data.toList):aD f.op F V=f:=by
 obtain⟨o,a,b⟩:=f;simp only at h1 h2;subst h1 h2
 rfl
theorem Ju {f:aH} {s:Bs} (h:bR s=some f):fH f=(s,true):=by
 obtain⟨h1,h2⟩:=(uu s f).1 h;unfold fH;rw [if_pos h1,h2]
theorem J7 {f:aH} (h:(fH f).2=true):bR (fH f).1=some f:=by
 unfold fH at h ⊢
 split at h
 ·rename_i hv
  rw [if_pos hv];exact (uu _ f).2 ⟨hv,rfl⟩
 ·cases h
theorem Jz (s:ByteArray) (op:UInt8) (F V:ByteArray) (w:World) (hT:fD w):Calls Tryz.prog 4 #[.string s,.agg #[.int .u8 op.toNat,.string F,.string V]] w fun e w'=>e=.returned (.bool true)/\Below w.heap.size w w':=by
 have hb0:Below w.heap.size w (w.alloc (.cells #[.int .u8 op.toNat,.string F,.string V] 24)):=(Below.refl _ _).alloc (Nat.le_refl _) _;have g3:=heap_alloc_new w (.cells #[.int .u8 op.toNat,.string F,.string V] 24);obtain⟨b3,hb3e⟩:∃ b3,b3=w.heap.size:=⟨_,rfl⟩;obtain⟨W0,hW0⟩:∃ W0,W0=w.alloc (.cells #[.int .u8 op.toNat,.string F,.string V] 24):=⟨_,rfl⟩;go_enter Tryz.func4,Tryz.ntmps4;go_upto_region 1 with (fail)
 rw [<-hW0,<-hb3e];rw [<-hW0] at hb0 g3;rw [<-hb3e] at g3;clear hW0 hb3e;obtain⟨k0,k1,k2⟩:=cells3 g3;have pK:=tq W0 (hT.below hb0);by_cases h1:300<s.size
 ·have d1:(300:Int)<(s.size:Int):=by omega
  clear h1;go_wp2_with (first|(go_at_call 17;refine pK.mono ?_;rintro e w1 ⟨rfl,hb1⟩));go_returns;exact⟨by (try rfl),ae hb0 hb1⟩
 have d1:(s.size:Int)<=300:=by omega
 by_cases h2:300<F.size
 ·have d2:(300:Int)<(F.size:Int):=by omega
  clear h1 h2;go_wp2_with (first|(go_at_call 17;refine pK.mono ?_;rintro e w1 ⟨rfl,hb1⟩));go_returns;exact⟨by (try rfl),ae hb0 hb1⟩
 have d2:(F.size:Int)<=300:=by omega
 by_cases h3:300<V.size
 ·have d3:(300:Int)<(V.size:Int):=by omega
  clear h1 h2 h3;go_wp2_with (first|(go_at_call 17;refine pK.mono ?_;rintro e w1 ⟨rfl,hb1⟩));go_returns;exact⟨by (try rfl),ae hb0 hb1⟩
 have d3:(V.size:Int)<=300:=by omega
 clear pK;obtain⟨r,hr⟩:∃ r,bR s.data.toList=r:=⟨_,rfl⟩;obtain⟨nm,hnm⟩:∃ nm,fH (aD op F V)=nm:=⟨_,rfl⟩;obtain⟨A,B,hf,hFd,hVd⟩:=lI (r.getD dX);have p1:=fun W h=>lM s W h
 have p2:=fun W=>LQ s W
 unfold ma at p1 p2;rw [J8] at p2;rw [hr,hf] at p1 p2;have p3:=fun W h=>vQ op F V W h
 have p4:=fun W=>LH op F V W (by omega) (by omega)
 rw [hnm] at p3 p4;obtain⟨N,hN⟩:∃ N:ByteArray,(⟨nm.1.toArray⟩:ByteArray)=N:=⟨_,rfl⟩;rw [hN] at p3 p4;have hNd:nm.1=N.data.toList:=by rw [<-hN]
 obtain⟨is,his⟩:∃ q,r.isSome=q:=⟨_,rfl⟩;rw [his] at p1 p2;have h5:is=true->∀ W,bK W->Calls Tryz.prog 19 #[.agg #[.int .u8 (r.getD dX).op.toNat,.string A,.string B]] W fun e w'=>e=.returned (.tuple #[.string s,.bool true])/\Below W.heap.size W w':=fun hq W h=>by
  have:=vQ (r.getD dX).op A B W h;obtain⟨f,rfl⟩:=Option.isSome_iff_exists.1 (his.trans hq);simp only [Option.getD_some] at hFd hVd this;rw [Ht f hFd hVd,Ju hr] at this;simp only [Option.getD_some];have e:(⟨s.data.toList.toArray⟩:ByteArray)=s:=by rw [Array.toArray_toList]
  rw [e] at this;exact this
 have h6:nm.2=true->∀ W,fD W->Calls Tryz.prog 11 #[.string N] W fun e w'=>e=.returned (.tuple #[.agg #[.int .u8 op.toNat,.string F,.string V],.bool true])/\Below W.heap.size W w':=fun hq W h=>by
  have:=lM N W h;unfold ma at this;rw [<-hNd,<-hnm,J7 (by rw [hnm];exact hq)] at this;have e:kR ((some (aD op F V)).getD dX)=.agg #[.int .u8 op.toNat,.string F,.string V]:=by
   show Value.agg #[.int .u8 op.toNat,S F.data.toList,S V.data.toList]=_;rw [eX,eX]
  rw [e] at this;exact this
 generalize (r.getD dX).op=oo at *;obtain⟨ns,hns⟩:∃ ns,nm.2=ns:=⟨_,rfl⟩;rw [hns] at p3 p4 h6;have H5:=Lib.hid h5;have H6:=Lib.hid h6;clear h5 h6 hns his hNd hN hnm hr hf hFd hVd h1 h2 h3;have hT0:=hT.below hb0;go_upto_region 4 with (first|(go_at_call 11;refine (p1 W0 hT0).mono ?_;rintro e w1 ⟨rfl,hb1⟩))
 have hB1:=hb1.alloc hb1.size (.cells #[.int .u8 oo.toNat,.string A,.string B] 24);have g5:=heap_alloc_new w1 (.cells #[.int .u8 oo.toNat,.string A,.string B] 24);obtain⟨b5,hb5e⟩:∃ b5,b5=w1.heap.size:=⟨_,rfl⟩;obtain⟨W1,hW1⟩:∃ W1,W1=w1.alloc (.cells #[.int .u8 oo.toNat,.string A,.string B] 24):=⟨_,rfl⟩;rw [<-hW1,<-hb5e];rw [<-hW1] at hB1 g5;rw [<-hb5e] at g5;have g3:=(hB1.block _ (lt_of_block g3)).trans g3;clear hW1 hb5e hb1 k0 k1 k2;go_upto_region 5 with (first|(go_at_call 18;refine (p2 W1).mono ?_;rintro e w2 ⟨rfl,hb2⟩))
 have hB2:=hb2.alloc hb2.size (.cells #[.int .u8 oo.toNat,.string A,.string B] 24);have g7:=heap_alloc_new w2 (.cells #[.int .u8 oo.toNat,.string A,.string B] 24);obtain⟨b7,hb7e⟩:∃ b7,b7=w2.heap.size:=⟨_,rfl⟩;obtain⟨W2,hW2⟩:∃ W2,W2=w2.alloc (.cells #[.int .u8 oo.toNat,.string A,.string B] 24):=⟨_,rfl⟩;rw [<-hW2,<-hb7e];rw [<-hW2] at hB2 g7;rw [<-hb7e] at g7;have g3:=(hB2.block _ (lt_of_block g3)).trans g3;have g5:=(hB2.block _ (lt_of_block g5)).trans g5;have hB02:=ae hB1 hB2;clear hW2 hb7e hb2 hB1 hB2;obtain⟨k0,k1,k2⟩:=cells3 g3;go_upto_region 6 with (first|(go_at_call 19;refine (p3 W2 (hT0.below hB02).t).mono ?_;rintro e W3 ⟨rfl,hb3⟩))
 have g3:=(hb3.block _ (lt_of_block g3)).trans g3;have g5:=(hb3.block _ (lt_of_block g5)).trans g5;have g7:=(hb3.block _ (lt_of_block g7)).trans g7;clear k0 k1 k2;obtain⟨k0,k1,k2⟩:=cells3 g3;go_upto_region 7 with (first|(go_at_call 20;refine (p4 W3).mono ?_;rintro e W4 ⟨rfl,hb4⟩))
 have g3:=(hb4.block _ (lt_of_block g3)).trans g3;have g5:=(hb4.block _ (lt_of_block g5)).trans g5;have g7:=(hb4.block _ (lt_of_block g7)).trans g7;have hB04:=ae (ae hB02 hb3) hb4;clear k0 k1 k2 hB02 hb3 hb4 p1 p2 p3 p4;obtain⟨k0,k1,k2⟩:=cells3 g3;obtain⟨i0,i1,i2⟩:=cells3 g5;obtain⟨j0,j1,j2⟩:=cells3 g7;go_upto_region 9 with (fail)
 cases is with
 | false =>
  cases ns with
  | false =>
   go_wp2_with (first|(go_at_call 17;refine (tq _ (hT0.below hB04)).mono ?_;rintro e w8 ⟨rfl,hb8⟩));go_returns;exact⟨by (try rfl),ae hb0 (ae hB04 hb8)⟩
  | true =>
   clear k0 k1 k2;go_wp2_with (first|(go_at_call 11;refine (H6.out rfl W4 (hT0.below hB04)).mono ?_;rintro e w6 ⟨rfl,hb6⟩;have hB6:=ae hB04 hb6;have g36:=(hb6.block _ (lt_of_block g3)).trans g3;obtain⟨k0,k1,k2⟩:=cells3 ((((Below.refl w6.heap.size w6).alloc (Nat.le_refl _) (.cells #[.int .u8 op.toNat,.string F,.string V] 24)).block _ (lt_of_block g36)).trans g36);have hB7:=hB6.alloc hB6.size (.cells #[.int .u8 op.toNat,.string F,.string V] 24))|(go_at_call 17;refine (tq _ (hT0.below hB7)).mono ?_;rintro e w8 ⟨rfl,hb8⟩));go_returns;exact⟨by (try rfl),ae hb0 (ae hB7 hb8)⟩
 | true =>
  cases ns with
  | false =>
   go_wp2_with (first|(go_at_call 19;refine (H5.out rfl W4 (hT0.below hB04).t).mono ?_;rintro e W5 ⟨rfl,hb5⟩;have hB05:=ae hB04 hb5;have g3:=(hb5.block _ (lt_of_block g3)).trans g3)|(go_at_call 17;refine (tq _ (hT0.below hB05)).mono ?_;rintro e w8 ⟨rfl,hb8⟩));go_returns;exact⟨by (try rfl),ae hb0 (ae hB05 hb8)⟩
  | true =>
   clear k0 k1 k2;go_wp2_with (first|(go_at_call 19;refine (H5.out rfl W4 (hT0.below hB04).t).mono ?_;rintro e W5 ⟨rfl,hb5⟩;have hB05:=ae hB04 hb5;have g3:=(hb5.block _ (lt_of_block g3)).trans g3));refine (H6.out (by simp) W5 (hT0.below hB05)).mono ?_;rintro e w6 ⟨rfl,hb6⟩;have hB6:=ae hB05 hb6;have g36:=(hb6.block _ (lt_of_block g3)).trans g3;obtain⟨k0,k1,k2⟩:=cells3 ((((Below.refl w6.heap.size w6).alloc (Nat.le_refl _) (.cells #[.int .u8 op.toNat,.string F,.string V] 24)).block _ (lt_of_block g36)).trans g36);have hB7:=hB6.alloc hB6.size (.cells #[.int .u8 op.toNat,.string F,.string V] 24);go_wp2_with (first|(go_at_call 17;refine (tq _ (hT0.below hB7)).mono ?_;rintro e w8 ⟨rfl,hb8⟩));go_returns;exact⟨by (try rfl),ae hb0 (ae hB7 hb8)⟩
end Go.Proofs.YtppnecgeboonbaaGreatDoor
