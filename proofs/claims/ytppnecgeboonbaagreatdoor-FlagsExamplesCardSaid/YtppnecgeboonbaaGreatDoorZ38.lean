/- The reference of layer 4: Plus, Times, Star. -/
import Derived.Test.YtppnecgeboonbaaGreatDoorZ27
namespace Go.Proofs.YtppnecgeboonbaaGreatDoor
set_option maxRecDepth 100000
set_option linter.unusedVariables false
set_option maxHeartbeats 8000000
open Go.RowKit
theorem jK {r:Bs × Nat} {w w':World} {x:Bs} {n:Nat} (h:r=(x,n)) (b:Below w.heap.size w w'):Rat3.aA w r (.returned (.tuple #[.string ⟨x.toArray⟩,.int .i64 n])) w':=by subst h;exact⟨rfl,b⟩
theorem rJ {r:Bs × Nat} {w w':World} {x:ByteArray} {n:Nat} (h:r=(x.data.toList,n)) (b:Below w.heap.size w w'):Rat3.aA w r (.returned (.tuple #[.string x,.int .i64 n])) w':=by subst h;exact⟨rfl,b⟩
theorem EJ:((⟨#[49]⟩:ByteArray).data.toList)=[49]:=rfl
theorem NI (a:Bs):(Rat3.gV [49] a).1.length<=100000:=Nat.le_trans (Ob _ _) (by decide)
theorem yO (k:Int) (a b:ByteArray) (w:World) (ha:a.size<=100000) (hb:b.size<=100000):Calls Tryz.prog 86 #[.int .i64 k,.string a,.string b] w (Rat3.aA w (fI k a.data.toList b.data.toList)):=by
 have pva:=fun W=>nZ k a W ha
 have pvb:=fun W=>nZ k b W hb
 have pbet:=fun W=>Ml k b a W hb ha
 have padd:=fun W=>Rat3.yB a b W ha hb
 have HV:Hid (fI k a.data.toList b.data.toList=if aT k a.data.toList=true/\aT k b.data.toList=true then
  (if k≠2 then (if og k b.data.toList a.data.toList<0 then (b.data.toList,0) else (a.data.toList,0)) else if a.data.toList=bD\/b.data.toList=bD then (bD,0) else Rat3.jW a.data.toList b.data.toList)
 else ([],1)):=rfl
 obtain⟨sm,hsm⟩:∃ x,Rat3.jW a.data.toList b.data.toList=x:=⟨_,rfl⟩;rw [hsm] at padd HV;generalize og k b.data.toList a.data.toList=z at *;generalize fI k a.data.toList b.data.toList=R at *;clear hsm
 cases hva:aT k a.data.toList with
 | false =>
  have HY:Hid (R=([],1)):=by rw [Hid,HV.out,hva,if_neg (by simp)]
  rw [hva] at pva;clear HV hva;go_enter Tryz.func86,Tryz.ntmps86;go_wp2_with fail;refine (pva _).mono ?_;rintro e w0 ⟨rfl,b0⟩;go_wp2_with fail;go_returns;exact jK HY.out (b0)
 | true =>
  rw [hva] at pva HV;clear hva
  cases hvb:aT k b.data.toList with
  | false =>
   have HY:Hid (R=([],1)):=by rw [Hid,HV.out,hvb,if_neg (by simp)]
   rw [hvb] at pvb;clear HV hvb;go_enter Tryz.func86,Tryz.ntmps86;go_wp2_with fail;refine (pva _).mono ?_;rintro e w0 ⟨rfl,b0⟩;go_wp2_with fail;refine (pvb _).mono ?_;rintro e w1 ⟨rfl,b1⟩;go_wp2_with fail;go_returns;exact jK HY.out ((ae b0 b1))
  | true =>
   rw [hvb] at pvb HV;clear hvb;have HW:=Lib.hid (HV.out.trans (if_pos (by simp)));clear HV;by_cases h2:k=2
   ·have t2:=qY h2
    have t2':=ko h2;have HU:=Lib.hid (HW.out.trans (if_neg (by simpa using h2)));clear HW h2;by_cases hi:a.data.toList=bD
    ·have HY:Hid (R=(bD,0)):=HU.out.trans (if_pos (Or.inl hi))
     have t1:(a.toList == [105,110,102])=true:=iR hi;clear HU hi;go_enter Tryz.func86,Tryz.ntmps86;go_wp2_with fail;refine (pva _).mono ?_;rintro e w0 ⟨rfl,b0⟩;go_wp2_with fail;refine (pvb _).mono ?_;rintro e w1 ⟨rfl,b1⟩;go_wp2_with fail;go_returns;exact jK HY.out ((ae b0 b1))
    have t1:(a.toList == [105,110,102])=false:=iT hi;by_cases hj:b.data.toList=bD
    ·have HY:Hid (R=(bD,0)):=HU.out.trans (if_pos (Or.inr hj))
     have t3:(b.toList == [105,110,102])=true:=iR hj;clear HU hi hj;go_enter Tryz.func86,Tryz.ntmps86;go_wp2_with fail;refine (pva _).mono ?_;rintro e w0 ⟨rfl,b0⟩;go_wp2_with fail;refine (pvb _).mono ?_;rintro e w1 ⟨rfl,b1⟩;go_wp2_with fail;go_returns;exact jK HY.out ((ae b0 b1))
    have t3:(b.toList == [105,110,102])=false:=iT hj;have HY:Hid (R=sm):=HU.out.trans (if_neg (by rintro (h|h) <;> contradiction));clear HU hi hj;go_enter Tryz.func86,Tryz.ntmps86;go_wp2_with fail;refine (pva _).mono ?_;rintro e w0 ⟨rfl,b0⟩;go_wp2_with fail;refine (pvb _).mono ?_;rintro e w1 ⟨rfl,b1⟩;go_wp2_with fail;refine (padd _).mono ?_;rintro e w2 ⟨rfl,b2⟩;go_wp2_with fail;go_returns;exact⟨by rw [HY.out];(try rfl),ae (ae b0 b1) b2⟩
   ·have t2:=ry h2
    have t2':=jU h2;have HU:=Lib.hid (HW.out.trans (if_pos h2));clear HW h2;by_cases hz:z<0
    ·have HY:Hid (R=(b.data.toList,0)):=HU.out.trans (if_pos hz)
     clear HU;go_enter Tryz.func86,Tryz.ntmps86;go_wp2_with fail;refine (pva _).mono ?_;rintro e w0 ⟨rfl,b0⟩;go_wp2_with fail;refine (pvb _).mono ?_;rintro e w1 ⟨rfl,b1⟩;go_wp2_with fail;refine (pbet _).mono ?_;rintro e w2 ⟨rfl,b2⟩;go_wp2_with fail;go_returns;exact rJ HY.out ((ae (ae b0 b1) b2))
    ·have HY:Hid (R=(a.data.toList,0)):=HU.out.trans (if_neg hz)
     have hz':0<=z:=by omega
     clear HU hz;go_enter Tryz.func86,Tryz.ntmps86;go_wp2_with fail;refine (pva _).mono ?_;rintro e w0 ⟨rfl,b0⟩;go_wp2_with fail;refine (pvb _).mono ?_;rintro e w1 ⟨rfl,b1⟩;go_wp2_with fail;refine (pbet _).mono ?_;rintro e w2 ⟨rfl,b2⟩;go_wp2_with fail;go_returns;exact rJ HY.out ((ae (ae b0 b1) b2))
theorem Mo (k:Int) (a b:ByteArray) (w:World) (ha:a.size<=100000) (hb:b.size<=100000):Calls Tryz.prog 110 #[.int .i64 k,.string a,.string b] w (Rat3.aA w (iV k a.data.toList b.data.toList)):=by
 have pva:=fun W=>nZ k a W ha
 have pvb:=fun W=>nZ k b W hb
 have pzero:=fun W=>o9 k W
 have padd:=fun W=>Rat3.yB a b W ha hb
 have pmul:=fun W=>Rat3.Kq a b W ha hb
 have HV:Hid (iV k a.data.toList b.data.toList=if aT k a.data.toList=true/\aT k b.data.toList=true then
  (if a.data.toList=aF k\/b.data.toList=aF k then (aF k,0) else if a.data.toList=bD\/b.data.toList=bD then (bD,0) else if a.data.toList=dC\/b.data.toList=dC then (dC,0) else if k=1 then Rat3.jW a.data.toList b.data.toList else Rat3.mV a.data.toList b.data.toList)
 else ([],1)):=rfl
 obtain⟨sm,hsm⟩:∃ x,Rat3.jW a.data.toList b.data.toList=x:=⟨_,rfl⟩;obtain⟨pm,hpm⟩:∃ x,Rat3.mV a.data.toList b.data.toList=x:=⟨_,rfl⟩;rw [hsm] at padd HV;rw [hpm] at pmul HV;generalize iV k a.data.toList b.data.toList=R at *;clear hsm hpm;obtain⟨Z,hZ⟩:∃ Z:ByteArray,(⟨(aF k).toArray⟩:ByteArray)=Z:=⟨_,rfl⟩;have hZd:aF k=Z.data.toList:=by rw [<-hZ]
 unfold S at pzero;rw [hZ] at pzero;rw [hZd] at HV;clear hZ hZd
 cases hva:aT k a.data.toList with
 | false =>
  have HY:Hid (R=([],1)):=by rw [Hid,HV.out,hva,if_neg (by simp)]
  rw [hva] at pva;clear HV hva;go_enter Tryz.func110,Tryz.ntmps110;go_wp2_with fail;refine (pva _).mono ?_;rintro e w0 ⟨rfl,b0⟩;go_wp2_with fail;go_returns;exact jK HY.out (b0)
 | true =>
  rw [hva] at pva HV;clear hva
  cases hvb:aT k b.data.toList with
  | false =>
   have HY:Hid (R=([],1)):=by rw [Hid,HV.out,hvb,if_neg (by simp)]
   rw [hvb] at pvb;clear HV hvb;go_enter Tryz.func110,Tryz.ntmps110;go_wp2_with fail;refine (pva _).mono ?_;rintro e w0 ⟨rfl,b0⟩;go_wp2_with fail;refine (pvb _).mono ?_;rintro e w1 ⟨rfl,b1⟩;go_wp2_with fail;go_returns;exact jK HY.out ((ae b0 b1))
  | true =>
   rw [hvb] at pvb HV;clear hvb;have HW:=Lib.hid (HV.out.trans (if_pos (by simp)));clear HV;by_cases hza:a.data.toList=Z.data.toList
   ·have HY:Hid (R=(Z.data.toList,0)):=HW.out.trans (if_pos (Or.inl hza))
    have t0:=str_eq hza;clear HW hza;go_enter Tryz.func110,Tryz.ntmps110;go_wp2_with fail;refine (pva _).mono ?_;rintro e w0 ⟨rfl,b0⟩;go_wp2_with fail;refine (pvb _).mono ?_;rintro e w1 ⟨rfl,b1⟩;go_wp2_with fail;refine (pzero _).mono ?_;rintro e w2 ⟨rfl,rfl⟩;go_wp2_with fail;go_returns;exact rJ HY.out ((ae b0 b1))
   have t0:=qB hza;by_cases hzb:b.data.toList=Z.data.toList
   ·have HY:Hid (R=(Z.data.toList,0)):=HW.out.trans (if_pos (Or.inr hzb))
    have t9:=str_eq hzb;clear HW hza hzb;go_enter Tryz.func110,Tryz.ntmps110;go_wp2_with fail;refine (pva _).mono ?_;rintro e w0 ⟨rfl,b0⟩;go_wp2_with fail;refine (pvb _).mono ?_;rintro e w1 ⟨rfl,b1⟩;go_wp2_with fail;refine (pzero _).mono ?_;rintro e w2 ⟨rfl,rfl⟩;go_wp2_with fail;go_returns;exact rJ HY.out ((ae b0 b1))
   have t9:=qB hzb;have HW2:=Lib.hid (HW.out.trans (if_neg (by rintro (h|h) <;> contradiction)));clear HW hza hzb;by_cases hi:a.data.toList=bD
   ·have HY:Hid (R=(bD,0)):=HW2.out.trans (if_pos (Or.inl hi))
    have t1:(a.toList == [105,110,102])=true:=iR hi;clear HW2 hi;go_enter Tryz.func110,Tryz.ntmps110;go_wp2_with fail;refine (pva _).mono ?_;rintro e w0 ⟨rfl,b0⟩;go_wp2_with fail;refine (pvb _).mono ?_;rintro e w1 ⟨rfl,b1⟩;go_wp2_with fail;refine (pzero _).mono ?_;rintro e w2 ⟨rfl,rfl⟩;go_wp2_with fail;go_returns;exact jK HY.out ((ae b0 b1))
   have t1:(a.toList == [105,110,102])=false:=iT hi;by_cases hj:b.data.toList=bD
   ·have HY:Hid (R=(bD,0)):=HW2.out.trans (if_pos (Or.inr hj))
    have t3:(b.toList == [105,110,102])=true:=iR hj;clear HW2 hi hj;go_enter Tryz.func110,Tryz.ntmps110;go_wp2_with fail;refine (pva _).mono ?_;rintro e w0 ⟨rfl,b0⟩;go_wp2_with fail;refine (pvb _).mono ?_;rintro e w1 ⟨rfl,b1⟩;go_wp2_with fail;refine (pzero _).mono ?_;rintro e w2 ⟨rfl,rfl⟩;go_wp2_with fail;go_returns;exact jK HY.out ((ae b0 b1))
   have t3:(b.toList == [105,110,102])=false:=iT hj;have HW3:=Lib.hid (HW2.out.trans (if_neg (by rintro (h|h) <;> contradiction)));clear HW2 hi hj;by_cases hi:a.data.toList=dC
   ·have HY:Hid (R=(dC,0)):=HW3.out.trans (if_pos (Or.inl hi))
    have t5:(a.toList == [45,105,110,102])=true:=iR hi;clear HW3 hi;go_enter Tryz.func110,Tryz.ntmps110;go_wp2_with fail;refine (pva _).mono ?_;rintro e w0 ⟨rfl,b0⟩;go_wp2_with fail;refine (pvb _).mono ?_;rintro e w1 ⟨rfl,b1⟩;go_wp2_with fail;refine (pzero _).mono ?_;rintro e w2 ⟨rfl,rfl⟩;go_wp2_with fail;go_returns;exact jK HY.out ((ae b0 b1))
   have t5:(a.toList == [45,105,110,102])=false:=iT hi;by_cases hj:b.data.toList=dC
   ·have HY:Hid (R=(dC,0)):=HW3.out.trans (if_pos (Or.inr hj))
    have t6:(b.toList == [45,105,110,102])=true:=iR hj;clear HW3 hi hj;go_enter Tryz.func110,Tryz.ntmps110;go_wp2_with fail;refine (pva _).mono ?_;rintro e w0 ⟨rfl,b0⟩;go_wp2_with fail;refine (pvb _).mono ?_;rintro e w1 ⟨rfl,b1⟩;go_wp2_with fail;refine (pzero _).mono ?_;rintro e w2 ⟨rfl,rfl⟩;go_wp2_with fail;go_returns;exact jK HY.out ((ae b0 b1))
   have t6:(b.toList == [45,105,110,102])=false:=iT hj;have HW4:=Lib.hid (HW3.out.trans (if_neg (by rintro (h|h) <;> contradiction)));clear HW3 hi hj;by_cases h1:k=1
   ·have HY:Hid (R=sm):=HW4.out.trans (if_pos h1)
    have t7:=ko h1;clear HW4 h1;go_enter Tryz.func110,Tryz.ntmps110;go_wp2_with fail;refine (pva _).mono ?_;rintro e w0 ⟨rfl,b0⟩;go_wp2_with fail;refine (pvb _).mono ?_;rintro e w1 ⟨rfl,b1⟩;go_wp2_with fail;refine (pzero _).mono ?_;rintro e w2 ⟨rfl,rfl⟩;go_wp2_with fail;refine (padd _).mono ?_;rintro e w3 ⟨rfl,b3⟩;go_wp2_with fail;go_returns;exact⟨by rw [HY.out];(try rfl),ae (ae b0 b1) b3⟩
   ·have HY:Hid (R=pm):=HW4.out.trans (if_neg h1)
    have t7:=jU h1;clear HW4 h1;go_enter Tryz.func110,Tryz.ntmps110;go_wp2_with fail;refine (pva _).mono ?_;rintro e w0 ⟨rfl,b0⟩;go_wp2_with fail;refine (pvb _).mono ?_;rintro e w1 ⟨rfl,b1⟩;go_wp2_with fail;refine (pzero _).mono ?_;rintro e w2 ⟨rfl,rfl⟩;go_wp2_with fail;refine (pmul _).mono ?_;rintro e w3 ⟨rfl,b3⟩;go_wp2_with fail;go_returns;exact⟨by rw [HY.out];(try rfl),ae (ae b0 b1) b3⟩
theorem Mm (k:Int) (a:ByteArray) (w:World) (ha:a.size<=100000):Calls Tryz.prog 161 #[.int .i64 k,.string a] w (Rat3.aA w (oh k a.data.toList)):=by
 have pva:=fun W=>nZ k a W ha
 have pone:=fun W=>DU k W
 have pc0:=fun W=>ww a ⟨#[48]⟩ W ha (by decide)
 have pc1:=fun W=>ww a ⟨#[49]⟩ W ha (by decide)
 have psub:=fun W=>Rat3.KD ⟨#[49]⟩ a W (by decide) ha
 rw [zm] at pc0;rw [EJ] at pc1 psub;have HV:Hid (oh k a.data.toList=if aT k a.data.toList=true then
  (if k=1 then (if 0<=gJ a.data.toList [48] then (fQ k,0) else (dC,0))
   else if k=3 then (if gJ a.data.toList [49]<=0 then (fQ k,0) else (bD,0))
   else if 0<=gJ a.data.toList [49] then (bD,0)
   else if (Rat3.gV [49] a.data.toList).2≠0 then ([],(Rat3.gV [49] a.data.toList).2) else Rat3.lS [49] (Rat3.gV [49] a.data.toList).1)
 else ([],1)):=rfl
 have hsl:=NI a.data.toList;generalize Rat3.gV [49] a.data.toList=sb at *;generalize gJ a.data.toList [48]=z0 at *;generalize gJ a.data.toList [49]=z1 at *;generalize oh k a.data.toList=R at *;obtain⟨Z,hZ⟩:∃ Z:ByteArray,(⟨(fQ k).toArray⟩:ByteArray)=Z:=⟨_,rfl⟩;have hZd:fQ k=Z.data.toList:=by rw [<-hZ]
 unfold S at pone;rw [hZ] at pone;rw [hZd] at HV;clear hZ hZd
 cases hva:aT k a.data.toList with
 | false =>
  have HY:Hid (R=([],1)):=by rw [Hid,HV.out,hva,if_neg (by simp)]
  rw [hva] at pva;clear HV hva;go_enter Tryz.func161,Tryz.ntmps161;go_wp2_with fail;refine (pva _).mono ?_;rintro e w0 ⟨rfl,b0⟩;go_wp2_with fail;go_returns;exact jK HY.out (b0)
 | true =>
  rw [hva] at pva HV;clear hva;have HW:=Lib.hid (HV.out.trans (if_pos rfl));clear HV;by_cases h1:k=1
  ·have t1:=ko h1
   have HU:=Lib.hid (HW.out.trans (if_pos h1));clear HW h1;by_cases hz:0<=z0
   ·have HY:=Lib.hid (HU.out.trans (if_pos hz))
    clear HU;go_enter Tryz.func161,Tryz.ntmps161;go_wp2_with fail;refine (pva _).mono ?_;rintro e w0 ⟨rfl,b0⟩;go_wp2_with fail;refine (pone _).mono ?_;rintro e w1 ⟨rfl,rfl⟩;go_wp2_with fail;refine (pc0 _).mono ?_;rintro e w2 ⟨rfl,b2⟩;go_wp2_with fail;go_returns;exact rJ HY.out ((ae b0 b2))
   ·have HY:=Lib.hid (HU.out.trans (if_neg hz))
    have hz':z0<0:=by omega
    clear HU hz;go_enter Tryz.func161,Tryz.ntmps161;go_wp2_with fail;refine (pva _).mono ?_;rintro e w0 ⟨rfl,b0⟩;go_wp2_with fail;refine (pone _).mono ?_;rintro e w1 ⟨rfl,rfl⟩;go_wp2_with fail;refine (pc0 _).mono ?_;rintro e w2 ⟨rfl,b2⟩;go_wp2_with fail;go_returns;exact jK HY.out ((ae b0 b2))
  have t1:=jU h1;have HW1:=Lib.hid (HW.out.trans (if_neg h1));clear HW h1;by_cases h3:k=3
  ·have t3:=ko h3
   have HU:=Lib.hid (HW1.out.trans (if_pos h3));clear HW1 h3;by_cases hz:z1<=0
   ·have HY:=Lib.hid (HU.out.trans (if_pos hz))
    clear HU;go_enter Tryz.func161,Tryz.ntmps161;go_wp2_with fail;refine (pva _).mono ?_;rintro e w0 ⟨rfl,b0⟩;go_wp2_with fail;refine (pone _).mono ?_;rintro e w1 ⟨rfl,rfl⟩;go_wp2_with fail;refine (pc1 _).mono ?_;rintro e w2 ⟨rfl,b2⟩;go_wp2_with fail;go_returns;exact rJ HY.out ((ae b0 b2))
   ·have HY:=Lib.hid (HU.out.trans (if_neg hz))
    have hz':0<z1:=by omega
    clear HU hz;go_enter Tryz.func161,Tryz.ntmps161;go_wp2_with fail;refine (pva _).mono ?_;rintro e w0 ⟨rfl,b0⟩;go_wp2_with fail;refine (pone _).mono ?_;rintro e w1 ⟨rfl,rfl⟩;go_wp2_with fail;refine (pc1 _).mono ?_;rintro e w2 ⟨rfl,b2⟩;go_wp2_with fail;go_returns;exact jK HY.out ((ae b0 b2))
  have t3:=jU h3;have HW2:=Lib.hid (HW1.out.trans (if_neg h3));clear HW1 h3;by_cases hz:0<=z1
  ·have HY:=Lib.hid (HW2.out.trans (if_pos hz))
   clear HW2;go_enter Tryz.func161,Tryz.ntmps161;go_wp2_with fail;refine (pva _).mono ?_;rintro e w0 ⟨rfl,b0⟩;go_wp2_with fail;refine (pone _).mono ?_;rintro e w1 ⟨rfl,rfl⟩;go_wp2_with fail;refine (pc1 _).mono ?_;rintro e w2 ⟨rfl,b2⟩;go_wp2_with fail;go_returns;exact jK HY.out ((ae b0 b2))
  have hz':z1<0:=by omega
  have HW3:=Lib.hid (HW2.out.trans (if_neg hz));clear HW2 hz;obtain⟨d,e⟩:=sb;by_cases he:e=0
  ·subst he
   have HW4:=Lib.hid (HW3.out.trans (if_neg (by simp)));clear HW3;obtain⟨D,hD⟩:∃ D:ByteArray,(⟨d.toArray⟩:ByteArray)=D:=⟨_,rfl⟩;have hDd:d=D.data.toList:=by rw [<-hD]
   subst hDd;have psub:∀ W:World,Calls Tryz.prog 185 #[.string ⟨#[49]⟩,.string a] W (fun e w'=>e=.returned (.tuple #[.string D,.int .i64 0])/\Below W.heap.size W w'):=psub;have hds:D.size<=100000:=by rw [Lib.size_eq];exact hsl
   have pdiv:=fun W=>Rat3.Kb ⟨#[49]⟩ D W (by decide) hds
   rw [EJ] at pdiv;obtain⟨q,hq⟩:∃ x,Rat3.lS [49] D.data.toList=x:=⟨_,rfl⟩;have HY:Hid (R=q):=HW4.out.trans hq;rw [hq] at pdiv;clear HW4 hD hq hsl hds;go_enter Tryz.func161,Tryz.ntmps161;go_wp2_with fail;refine (pva _).mono ?_;rintro e w0 ⟨rfl,b0⟩;go_wp2_with fail;refine (pone _).mono ?_;rintro e w1 ⟨rfl,rfl⟩;go_wp2_with fail;refine (pc1 _).mono ?_;rintro e w2 ⟨rfl,b2⟩;go_wp2_with fail;refine (psub _).mono ?_;rintro e w3 ⟨rfl,b3⟩;go_wp2_with fail;refine (pdiv _).mono ?_;rintro e w4 ⟨rfl,b4⟩;go_wp2_with fail;go_returns;exact⟨by rw [HY.out];(try rfl),ae (ae (ae b0 b2) b3) b4⟩
  ·have HY:Hid (R=([],e)):=HW3.out.trans (if_pos he)
   have he':((e:Int) != 0)=true:=by simpa using he
   have psub:∀ W:World,Calls Tryz.prog 185 #[.string ⟨#[49]⟩,.string a] W (fun e' w'=>e'=.returned (.tuple #[.string ⟨d.toArray⟩,.int .i64 e])/\Below W.heap.size W w'):=psub;clear HW3 he hsl;go_enter Tryz.func161,Tryz.ntmps161;go_wp2_with fail;refine (pva _).mono ?_;rintro e w0 ⟨rfl,b0⟩;go_wp2_with fail;refine (pone _).mono ?_;rintro e w1 ⟨rfl,rfl⟩;go_wp2_with fail;refine (pc1 _).mono ?_;rintro e w2 ⟨rfl,b2⟩;go_wp2_with fail;refine (psub _).mono ?_;rintro e w3 ⟨rfl,b3⟩;go_wp2_with fail;go_returns;exact jK HY.out ((ae (ae b0 b2) b3))
def aZ (w:World) (b:Nat) (l:List Bs):Prop:=w.heap[b]? = some (.cells (l.map S).toArray 9)
theorem oM {w:World} {b:Nat} {o:Obj} (h:w.heap[b]? = some o):b<w.heap.size:=by
 rcases Nat.lt_or_ge b w.heap.size with hh|hh
 ·exact hh
 ·rw [Array.getElem?_eq_none hh] at h;cases h
theorem aZ.lt {w:World} {b:Nat} {l:List Bs} (h:aZ w b l):b<w.heap.size:=oM h
theorem aZ.cell {w:World} {b:Nat} {l:List Bs} (h:aZ w b l) {j:Nat} (hj:j<l.length):w.cell? ⟨b,j,none⟩=some (S l[j]):=by
 rw [cell_of_row w b j _ _ (0,0) h];simp [List.getElem?_eq_getElem hj]
theorem aZ.free {w:World} {b:Nat} {l:List Bs} (h:aZ w b l) (j:Nat):w.frozen? ⟨b,j,none⟩=false:=by
 unfold World.frozen?;rw [show w.heap[b]? = some (.cells (l.map S).toArray 9) from h];simp
theorem aZ.set {w:World} {b:Nat} {l:List Bs} (h:aZ w b l) (j:Nat) (x:Bs):aZ (w.setCell ⟨b,j,none⟩ (S x)) b (l.set j x):=by
 unfold aZ World.setCell;simp only [Array.getElem?_modify];rw [show w.heap[b]? = some (.cells (l.map S).toArray 9) from h];simp [List.map_set]
theorem aZ.below {w w':World} {b:Nat} {l:List Bs} (h:aZ w b l) (hb:Below w.heap.size w w'):aZ w' b l:=(hb.block b h.lt).trans h
structure df (b:Nat) (w w':World):Prop where
 low:∀ B,B<=b->B<=w.heap.size->Below B w w'
 same:∀ j,j<w.heap.size->j≠b->w'.heap[j]? = w.heap[j]?
theorem df.of_below {b:Nat} {w w':World} (h:Below w.heap.size w w'):df b w w':=⟨fun B h1 h2=>h.mono h2,fun j hj _=>h.block j hj⟩
theorem df.trans {b:Nat} {w w1 w2:World} (h:df b w w1) (h':df b w1 w2):df b w w2 :=
 ⟨fun B h1 h2=>(h.low B h1 h2).trans (h'.low B h1 (Nat.le_trans h2 (h.low B h1 h2).size)),fun j hj hne=>(h'.same j (Nat.lt_of_lt_of_le hj (h.low 0 (Nat.zero_le _) (Nat.zero_le _)).size) hne).trans (h.same j hj hne)⟩
theorem df.set {b:Nat} {w w1:World} (h:df b w w1) (j:Nat) (v:Value):df b w (w1.setCell ⟨b,j,none⟩ v) :=
 ⟨fun B h1 h2=>(h.low B h1 h2).setCell (p:=⟨b,j,none⟩) h1 _,fun i hi hne=>(Below.heap_setCell w1 ⟨b,j,none⟩ v i hne).trans (h.same i hi hne)⟩
theorem df.size {b:Nat} {w w1:World} (h:df b w w1):w.heap.size<=w1.heap.size:=(h.low 0 (Nat.zero_le _) (Nat.zero_le _)).size
theorem BI (v:Value) (n:Nat):madeCells #[v] (n * 1)=Array.replicate n v:=by
 unfold madeCells;apply Array.ext_getElem?;intro i;simp only [Nat.mul_one,Array.getElem?_map,Array.getElem?_replicate];rcases Nat.lt_or_ge i n with h|h
 ·rw [Array.getElem?_eq_getElem (by simpa using h),if_pos h]
  simp [Nat.mod_one]
 ·rw [Array.getElem?_eq_none (by simpa using h),if_neg (by omega)]
  rfl
theorem Jp (n:Nat) (hn:n<=1000000) (W:World):(Instr.makeSlice 22 (.int .i64 (n:Int)) (.int .i64 (n:Int))).run Tryz.prog W=.ok (.slice (some ⟨W.heap.size,0,none⟩) n n) (W.alloc (.cells (Array.replicate n (.string ⟨#[]⟩)) 9)):=by
 obtain⟨i0,hi,hz0,hz1,hz2⟩:=info_parts rW;have h:=run_make (P:=Tryz.prog) W 22 9 i0 (.string ⟨#[]⟩) Tryz.underlying22 hi hz0 .i64 .i64 (n:Int) (n:Int) (by omega) (Int.le_refl _) (by rw [hz2];omega) (by omega);rw [h,hz1];simp only [Int.toNat_natCast];rw [show (Value.string ⟨#[]⟩).cells=#[.string ⟨#[]⟩] from rfl,BI]
theorem Oj (w:World) (n:Nat):aZ (w.alloc (.cells (Array.replicate n (.string ⟨#[]⟩)) 9)) w.heap.size (List.replicate n []):=by
 unfold aZ;rw [heap_alloc_new];simp [S]
theorem OC {n k:Nat} (z:Bs) (hk:k<n):(List.replicate k z++List.replicate (n-k) ([]:Bs)).set k z=List.replicate (k+1) z++List.replicate (n-(k+1)) []:=by
 apply List.ext_getElem?;intro i;simp only [List.getElem?_set,List.getElem?_append,List.length_append,List.length_replicate,List.getElem?_replicate]
 repeat' split
 all_goals first|rfl|omega|skip
 all_goals simp_all <;> omega
theorem wu (m:aQ) (A:Option Addr) (c:Nat) (w:World) (h1:1<=m.states.length) (h2:m.states.length<=3000):Calls Tryz.prog 63 #[di m A c] w fun e w'=>∃ b,e=.returned (.slice (some ⟨b,0,none⟩) m.states.length m.states.length)/\aZ w' b (eT m)/\w.heap.size<=b/\Below w.heap.size w w':=by
 have HZ:Hid (eT m=List.replicate m.states.length (aF m.kind)):=rfl;unfold di S;have p1:=fun W=>o9 m.kind W
 obtain⟨Z,hZ⟩:∃ Z:ByteArray,(⟨(aF m.kind).toArray⟩:ByteArray)=Z:=⟨_,rfl⟩;have HSZ:Hid (S (aF m.kind)=.string Z):=by unfold Hid S;rw [hZ]
 unfold S at p1;rw [hZ] at p1;clear hZ;generalize eT m=R at *;obtain⟨kd,st,ld,ss⟩:=m;simp only at *;generalize (⟨ld.toArray⟩:ByteArray)=Ld at *;generalize ss.length=n at *;have z0:=az w #[.int .i64 kd,.int .i64 st,.string Ld,.slice A n c] 30 0 _ rfl;have z3:=az w #[.int .i64 kd,.int .i64 st,.string Ld,.slice A n c] 30 3 _ rfl;have hb0:Below w.heap.size w (w.alloc (.cells #[.int .i64 kd,.int .i64 st,.string Ld,.slice A n c] 30)):=(Below.refl _ _).alloc (Nat.le_refl _) _;have hn0:w.heap.size<(w.alloc (.cells #[.int .i64 kd,.int .i64 st,.string Ld,.slice A n c] 30)).heap.size:=by simp
 have d1:(1:Int)<=(n:Int):=by omega
 have d2:(n:Int)<=3000:=by omega
 go_enter Tryz.func63,Tryz.ntmps63;have hmk:=Jp n (by omega);go_wp2_with fail;generalize hw0:w.alloc (.cells #[.int .i64 kd,.int .i64 st,.string Ld,.slice A n c] 30)=w0 at *;have hv0:=Oj w0 n;have hbB:Below w0.heap.size w0 (w0.alloc (.cells (Array.replicate n (.string ⟨#[]⟩)) 9)):=(Below.refl _ _).alloc (Nat.le_refl _) _;generalize w0.alloc (.cells (Array.replicate n (.string ⟨#[]⟩)) 9)=w1 at *;have hs0:w0.heap.size=w.heap.size+1:=by rw [<-hw0];simp
 have hn1:w.heap.size<w0.heap.size:=hn0;rw [hs0] at hv0;have HS0:=Lib.hid hs0;clear hw0 hmk hs0
 go_loopw [4] (fun i wr=>∃ (k:Nat),i=.int .i64 k/\k<=n/\aZ wr (w.heap.size+1) (List.replicate k (aF kd)++List.replicate (n-k) [])/\Below w0.heap.size w0 wr) (fun i _=>n-(intOf i).toNat)
 case atStart=>exact⟨0,rfl,by omega,by simpa using hv0,hbB⟩
 case round =>
  obtain⟨k,rfl,hk,hv,hB⟩:=hrel;have hz0:=(hB.cell (p:=⟨w.heap.size,0,none⟩) hn0).trans z0;by_cases hlt:k<n
  ·have i0:(0:Int)<=(k:Int):=by omega
   have il:(k:Int)<(n:Int):=by omega
   have hlen:(List.replicate k (aF kd)++List.replicate (n-k) ([]:Bs)).length=n:=by simp;omega
   have hc:=hv.cell (j:=k) (by rw [hlen];exact hlt);have hf:=hv.free k;obtain⟨x,hx⟩:∃ x,S (List.replicate k (aF kd)++List.replicate (n-k) ([]:Bs))[k]=x:=⟨_,rfl⟩;rw [hx] at hc;have hv2:=hv.set k (aF kd);rw [OC (aF kd) hlt,HSZ.out] at hv2;have hB2:=hB.setCell (p:=⟨w.heap.size+1,k,none⟩) (by rw [HS0.out];exact Nat.le_refl _) (.string Z);clear hx hlen hv;go_wp2_with fail;refine (p1 _).mono ?_;rintro e w3 ⟨rfl,rfl⟩;go_wp2_with fail;go_roundw
   case rel=>exact⟨k+1,by go_num,by omega,hv2,hB2⟩
   case measure=>simp [intOf];omega
  ·obtain rfl:k=n:=by omega
   go_wp2_with fail;go_returns;refine⟨w.heap.size+1,rfl,?_,Nat.le_succ _,ae hb0 hB⟩;rw [HZ.out]
   simpa using hv
def pz (w:World) (b:Nat) (r:Except Nat Vec) (e:Ending) (w':World):Prop:=df b w w'/\match r with
 | .ok l=>e=.returned (.int .i64 0)/\aZ w' b l
 | .error n=>e=.returned (.int .i64 n)/\n≠0
theorem uy (k:Int) (bv c:Nat) (l:List Bs) (i:Int) (a b:ByteArray) (w:World) (hV:aZ w bv l) (h0:0<=i) (hl:i<l.length) (ha:a.size<=802) (hb:b.size<=802) (hs:(l.getD i.toNat []).length<=802):Calls Tryz.prog 88 #[.int .i64 k,.slice (some ⟨bv,0,none⟩) l.length c,.int .i64 i,.string a,.string b] w (pz w bv (fK k l i.toNat a.data.toList b.data.toList)):=by
 have p1:=fun W=>Mo k a b W (by omega) (by omega)
 have HV:Hid (fK k l i.toNat a.data.toList b.data.toList=if (iV k a.data.toList b.data.toList).2≠0 then .error (iV k a.data.toList b.data.toList).2
 else if (fI k (l.getD i.toNat []) (iV k a.data.toList b.data.toList).1).2≠0 then .error (fI k (l.getD i.toNat []) (iV k a.data.toList b.data.toList).1).2
 else .ok (l.set i.toNat (fI k (l.getD i.toNat []) (iV k a.data.toList b.data.toList).1).1)):=rfl
 have htl:=DW k a.data.toList b.data.toList;generalize fK k l i.toNat a.data.toList b.data.toList=R at *;generalize iV k a.data.toList b.data.toList=tm at *;obtain⟨t,n⟩:=tm;unfold Rat3.aA at p1;obtain⟨T,hT⟩:∃ T:ByteArray,(⟨t.toArray⟩:ByteArray)=T:=⟨_,rfl⟩;have hTd:t=T.data.toList:=by rw [<-hT]
 simp only at p1 HV htl;rw [hT] at p1;subst hTd;have hTs:T.size<=802:=by rw [Lib.size_eq];exact htl
 clear hT htl;by_cases hn:n=0
 ·subst hn
  have HV2:=Lib.hid (HV.out.trans (if_neg (by simp)));clear HV;obtain⟨j,hj⟩:∃ j:Nat,i=(j:Int):=⟨i.toNat,by omega⟩;subst hj;simp only [Int.toNat_natCast] at HV2 hs;have hj:j<l.length:=by omega
  have hx:l.getD j []=l[j]:=by rw [List.getD_eq_getElem?_getD,List.getElem?_eq_getElem hj];rfl
  rw [hx] at HV2 hs;have k0:=hV.cell hj;have f0:=hV.free j;obtain⟨X,hX⟩:∃ X:ByteArray,(⟨l[j].toArray⟩:ByteArray)=X:=⟨_,rfl⟩;have hXd:l[j]=X.data.toList:=by rw [<-hX]
  unfold S at k0;rw [hX] at k0;rw [hXd] at HV2 hs;have hXs:X.size<=802:=by rw [Lib.size_eq];exact hs
  clear hX hx;have p2:=fun W=>yO k X T W (by omega) (by omega)
  generalize fI k X.data.toList T.data.toList=sm at *;obtain⟨u,m⟩:=sm;unfold Rat3.aA at p2;simp only at p2 HV2;obtain⟨U,hU⟩:∃ U:ByteArray,(⟨u.toArray⟩:ByteArray)=U:=⟨_,rfl⟩;have hUd:u=U.data.toList:=by rw [<-hU]
  rw [hU] at p2;subst hUd;have hbl:=hV.lt;clear hU hXd;have i0:(0:Int)<=(j:Int):=by omega
  have il:(j:Int)<(l.length:Int):=by omega
  by_cases hm:m=0
  ·subst hm
   have HY:=Lib.hid (HV2.out.trans (if_neg (by simp)));clear HV2;have HV:=Lib.hid hV;clear hV hs h0 hl;go_enter Tryz.func88,Tryz.ntmps88;go_wp2_with fail;refine (p1 _).mono ?_;rintro e w1 ⟨rfl,b1⟩;have k1:=(b1.cell (p:=⟨bv,j,none⟩) hbl).trans k0;go_wp2_with fail;refine (p2 _).mono ?_;rintro e w2 ⟨rfl,b2⟩;have bb:=ae b1 b2;have k2:=(bb.cell (p:=⟨bv,j,none⟩) hbl).trans k0;have f2:=(bb.frozen (p:=⟨bv,j,none⟩) hbl).trans f0;have HV2:=Lib.hid (HV.out.below bb);go_wp2_with fail;go_returns;unfold pz;rw [HY.out];exact⟨(df.of_below bb).set j _,rfl,HV2.out.set j U.data.toList⟩
  ·have HY:=Lib.hid (HV2.out.trans (if_pos hm))
   have t1:((m:Int) == 0)=false:=by simpa using hm
   have HM:=Lib.hid hm;clear HV2 hm;have HV:=Lib.hid hV;clear hV hs h0 hl;go_enter Tryz.func88,Tryz.ntmps88;go_wp2_with fail;refine (p1 _).mono ?_;rintro e w1 ⟨rfl,b1⟩;have k1:=(b1.cell (p:=⟨bv,j,none⟩) hbl).trans k0;go_wp2_with fail;refine (p2 _).mono ?_;rintro e w2 ⟨rfl,b2⟩;have bb:=ae b1 b2;go_wp2_with fail;go_returns;unfold pz;rw [HY.out];exact⟨df.of_below bb,rfl,HM.out⟩
 ·have HY:=Lib.hid (HV.out.trans (if_pos hn))
  have t1:((n:Int) != 0)=true:=by simpa using hn
  have HM:=Lib.hid hn;clear HV hn;clear hs;go_enter Tryz.func88,Tryz.ntmps88;go_wp2_with fail;refine (p1 _).mono ?_;rintro e w1 ⟨rfl,b1⟩;go_wp2_with fail;go_returns;unfold pz;rw [HY.out];exact⟨df.of_below b1,rfl,HM.out⟩
theorem lh {B:Nat} {a w:World} (h:Below B a w) (n:Nat):Below B a (w.drewN n):=⟨h.os,h.tape,h.output,h.size,h.block⟩
theorem xg {l:List bI} {s:bI} (h:s∈l):s.arcs.length<=dh l:=by
 unfold dh
 induction l with
 | nil=>cases h
 | cons a r ih =>
  rw [List.map_cons,List.sum_cons];rcases List.mem_cons.1 h with rfl|h
  ·omega
  ·have:=ih h;omega
def dK (n:Nat) (l:Vec):Prop:=l.length=n/\∀ x∈l,x.length<=802
theorem wR (m:aQ):dK m.states.length (eT m):=⟨by simp [eT],fun x hx=>by unfold eT at hx;rw [List.eq_of_mem_replicate hx];exact rR _⟩
theorem dK.get {n:Nat} {l:Vec} (h:dK n l) (i:Nat):(l.getD i []).length<=802:=by
 rw [List.getD_eq_getElem?_getD]
 cases hi:l[i]? with
 | none=>simp
 | some x=>exact h.2 x (List.mem_of_getElem? hi)
theorem dK.set {n:Nat} {l:Vec} (h:dK n l) (i:Nat) {x:Bs} (hx:x.length<=802):dK n (l.set i x) :=
 ⟨by rw [List.length_set];exact h.1,fun y hy=>by
  rcases List.mem_or_eq_of_mem_set hy with hy|rfl
  ·exact h.2 y hy
  ·exact hx⟩
theorem uX {n:Nat} {k:Int} {l l':Vec} {i:Nat} {a b:Bs} (h:dK n l) (e:fK k l i a b=.ok l'):dK n l':=by
 unfold fK at e
 split at e
 ·cases e
 ·split at e
  ·cases e
  ·cases e
   exact h.set i (yP (h.get i) (DW _ _ _))
theorem Nq {k inn out:Int} {loose:Bool} {ss:List bI} {v l:Vec} {q:Nat} (hq:q<ss.length) (hv:q<v.length) :
  nu k inn out loose (ss.drop q) (v.drop q) l=if v[q]=aF k then nu k inn out loose (ss.drop (q+1)) (v.drop (q+1)) l else bi (lZ k inn out loose v[q] ss[q].arcs l) (nu k inn out loose (ss.drop (q+1)) (v.drop (q+1))):=by
 rw [List.drop_eq_getElem_cons hq,List.drop_eq_getElem_cons hv]
 rfl
theorem Nb {k inn out:Int} {loose:Bool} {x:Bs} {l:Vec} {arcs:List aO} {j:Nat} (hj:j<arcs.length) :
  lZ k inn out loose x (arcs.drop j) l=if arcs[j].inn≠inn\/(arcs[j].out≠out/\loose=false) then lZ k inn out loose x (arcs.drop (j+1)) l else bi (fK k l arcs[j].to.toNat x arcs[j].w) (lZ k inn out loose x (arcs.drop (j+1))):=by
 rw [List.drop_eq_getElem_cons hj]
 rfl
theorem xu {α β:Type} {x:Except Nat α} {a:α} {f:α->Except Nat β} (h:x=.ok a):bi x f=f a:=by rw [h];rfl
theorem xq {α β:Type} {x:Except Nat α} {e:Nat} {f:α->Except Nat β} (h:x=.error e):bi x f=.error e:=by rw [h];rfl
def sP (w:World) (n:Nat) (R:Except Nat Vec) (e:Ending) (w':World):Prop:=Below w.heap.size w w'/\match R with
 | .ok l=>∃ b,e=.returned (.tuple #[.slice (some ⟨b,0,none⟩) n n,.int .i64 0])/\aZ w' b l/\w.heap.size<=b/\dK n l
 | .error x=>e=.returned (.tuple #[.slice none 0 0,.int .i64 x])/\x≠0
theorem Me (m:aQ) (A:Option Addr) (c bv cv:Nat) (v:Vec) (inn out:Int) (loose:Bool) (w:World) (hm:bM m=true) (hV:dY w A m.states) (hv:aZ w bv v) (hvn:dK m.states.length v) :
  Calls Tryz.prog 65 #[di m A c,.slice (some ⟨bv,0,none⟩) m.states.length cv,.int .i64 inn,.int .i64 out,.bool loose] w (sP w m.states.length (rU m v inn out loose)):=by
 obtain⟨hk,⟨hn1,hn2,hs1,hs2⟩,hld,hst,har⟩:=kV.1 hm;have HAl:Hid (∀ s∈m.states,s.arcs.length<=30000):=fun s hs=>Nat.le_trans (xg hs) har
 clear har;have pZ:=fun W=>wu m A c W hn1 hn2
 have hzn:=wR m;have HR:Hid (rU m v inn out loose=nu m.kind inn out loose m.states v (eT m)):=rfl;generalize rU m v inn out loose=R at *;generalize eT m=Z at *;have HV:=Lib.hid hV;have HSt:Hid (∀ s∈m.states,gY m.kind m.states.length s=true):=hst;unfold di S at *;obtain⟨kd,st,ld,ss⟩:=m;simp only at *;obtain⟨Ld,hLd⟩:∃ Ld:ByteArray,(⟨ld.toArray⟩:ByteArray)=Ld:=⟨_,rfl⟩;rw [hLd] at pZ ⊢;have hbv:=hv.lt;have HVv:=Lib.hid hv;obtain⟨n,hn⟩:∃ n,n=ss.length:=⟨_,rfl⟩;rw [<-hn] at pZ hvn hn1 hn2 hzn HSt ⊢;have HN:=Lib.hid hn.symm;clear hLd hld hm hV hst hs1 hs2 hk hn hv;have z0:=az w #[.int .i64 kd,.int .i64 st,.string Ld,.slice A n c] 30 0 _ rfl;have z1:=az w #[.int .i64 kd,.int .i64 st,.string Ld,.slice A n c] 30 1 _ rfl;have z2:=az w #[.int .i64 kd,.int .i64 st,.string Ld,.slice A n c] 30 2 _ rfl;have z3:=az w #[.int .i64 kd,.int .i64 st,.string Ld,.slice A n c] 30 3 _ rfl;have hb0:Below w.heap.size w (w.alloc (.cells #[.int .i64 kd,.int .i64 st,.string Ld,.slice A n c] 30)):=(Below.refl _ _).alloc (Nat.le_refl _) _;have hn0:w.heap.size<(w.alloc (.cells #[.int .i64 kd,.int .i64 st,.string Ld,.slice A n c] 30)).heap.size:=by simp
 go_enter Tryz.func65,Tryz.ntmps65;go_wp2_with fail;generalize w.alloc (.cells #[.int .i64 kd,.int .i64 st,.string Ld,.slice A n c] 30)=w0 at *;refine (pZ _).mono ?_;rintro e w1 ⟨bl,rfl,hvz,hbl,hb1⟩;have q0:=(hb1.cell (p:=⟨w.heap.size,0,none⟩) hn0).trans z0;have q3:=(hb1.cell (p:=⟨w.heap.size,3,none⟩) hn0).trans z3;have hnb:w.heap.size<bl:=Nat.lt_of_lt_of_le hn0 hbl;have hbw:=ae hb0 hb1;clear z0 z1 z2 z3 pZ;go_wp2_with fail
 go_loopw [13] (fun i wr=>∃ (q:Nat) (l:Vec),i=.int .i64 q/\q<=n/\Below bl w1 wr/\aZ wr bl l/\dK n l/\Hid (R=nu kd inn out loose (ss.drop q) (v.drop q) l)) (fun i _=>n-(intOf i).toNat)
 case atStart=>exact⟨0,Z,rfl,by omega,Below.refl _ _,hvz,hzn,HR.out⟩
 case round =>
  obtain⟨q,l,rfl,hq,hBr,hvr,hlr,HS0⟩:=hrel;have m3:=(hBr.cell (p:=⟨w.heap.size,3,none⟩) hnb).trans q3;by_cases hlt:q<n
  ·have hqs:q<ss.length:=by rw [HN.out];exact hlt
   have hqv:q<v.length:=by rw [hvn.1];exact hlt
   obtain⟨b,o,rfl,hbo,hc0,A',c',hc1,hArcs⟩:=HV.out q hqs;have HAr:=Lib.hid hArcs;have HD:=Lib.hid (HS0.out.trans (Nq hqs hqv));have hso:=HSt.out _ (List.getElem_mem hqs);have hal:=HAl.out _ (List.getElem_mem hqs);have hxl:=hvn.2 _ (List.getElem_mem hqv);have hvc:=HVv.out.cell hqv;have hBw:Below w.heap.size w wr:=hbw.trans (hBr.mono (Nat.le_of_lt hnb));generalize ss[q]=s at *;obtain⟨fin,arcs⟩:=s;simp only at *;obtain⟨X,hX⟩:∃ X:ByteArray,(⟨v[q].toArray⟩:ByteArray)=X:=⟨_,rfl⟩;have hXd:v[q]=X.data.toList:=by rw [<-hX]
   unfold S at hvc;rw [hX] at hvc;rw [hXd] at HD hxl;have hXs:X.size<=802:=by rw [Lib.size_eq];exact hxl
   clear hX hXd hxl;have m0:=(hBr.cell (p:=⟨w.heap.size,0,none⟩) hnb).trans q0;have mv:=(hBw.cell (p:=⟨bv,q,none⟩) hbv).trans hvc;have i0:(0:Int)<=(q:Int):=by omega
   have il:(q:Int)<(n:Int):=by omega
   have ms:=(hBw.cell (p:=⟨b,o+q * 2+1,none⟩) hbo).trans hc1;obtain⟨zk,hzk⟩:∃ zk:ByteArray,(⟨(aF kd).toArray⟩:ByteArray)=zk:=⟨_,rfl⟩;have hzkd:aF kd=zk.data.toList:=by rw [<-hzk]
   have p0:=fun (W:World)=>(o9 kd W).mono (fun e w' (h:e=.returned (S (aF kd))/\W=w')=>(⟨h.1,h.2.symm⟩:e=.returned (S (aF kd))/\w'=W))
   unfold S at p0;rw [hzk] at p0;rw [hzkd] at HD;clear hzk hzkd;by_cases hz:X.data.toList=zk.data.toList
   ·have HX:=Lib.hid (HD.out.trans (if_pos hz))
    have t0:=str_eq hz;clear hz HD HAr hArcs;go_wp2_with fail
    go_quiet (first|(go_at_call 34;with_reducible exact Calls.quiet_of_same (p0 _)))
    go_wp2_with fail;go_roundw
    case rel=>exact⟨q+1,l,by go_num,by omega,lh hBr _,hvr,hlr,HX.out⟩
    case measure=>simp [intOf];omega
   ·have HX:=Lib.hid (HD.out.trans (if_neg hz))
    have t0:=qB hz;clear hz HD hArcs;go_wp2_with fail
    go_quiet (first|(go_at_call 34;with_reducible exact Calls.quiet_of_same (p0 _)))
    go_wp2_with fail;have hB4:Below bl w1 (wr.drewN nq):=lh hBr _;have hv4:aZ (wr.drewN nq) bl l:=hvr;have m0':(wr.drewN nq).cell? ⟨w.heap.size,0,none⟩=_:=m0;generalize wr.drewN nq=w4 at *;obtain⟨F,hF⟩:∃ F,nu kd inn out loose (ss.drop (q+1)) (v.drop (q+1))=F:=⟨_,rfl⟩;have HF:=Lib.hid hF;rw [hF] at HX;have HX0:Hid (R=bi (lZ kd inn out loose X.data.toList (arcs.drop 0) l) F):=HX;clear hF HX hBr hvr m0 m0' m3 mv ms HS0 hBw
    go_loopw [14] (fun i wr=>∃ (j:Nat) (l:Vec),i=.int .i64 j/\j<=arcs.length/\Below bl w1 wr/\aZ wr bl l/\dK n l/\Hid (R=bi (lZ kd inn out loose X.data.toList (arcs.drop j) l) F)) (fun i _=>arcs.length-(intOf i).toNat)
    case atStart=>exact⟨0,l,rfl,by omega,hB4,hv4,hlr,HX0.out⟩
    case round =>
     clear hlr HX0 hB4 hv4;obtain⟨j,l,rfl,hj,hBt,hvt,hln,HJ⟩:=hrel;have hBw:Below w.heap.size w wr:=hbw.trans (hBt.mono (Nat.le_of_lt hnb));have m3:=(hBt.cell (p:=⟨w.heap.size,3,none⟩) hnb).trans q3;have ms:=(hBw.cell (p:=⟨b,o+q * 2+1,none⟩) hbo).trans hc1;by_cases hjl:j<arcs.length
     ·obtain⟨b',o',rfl,hbl',ha0,ha1,ha2,ha3⟩:=HAr.out j hjl
      have hao:=(pg.1 hso).2 _ (List.getElem_mem hjl);have HD:=Lib.hid (HJ.out.trans (congrArg (fun z=>bi z F) (Nb hjl)));generalize arcs[j]=a at *;obtain⟨x,y,wt',tg⟩:=a;simp only at *;obtain⟨ho1,ho2,⟨d0,d1⟩,ho3⟩:=mh.1 hao;simp only at d0 d1 ho3;have hwl:=wC ho3;obtain⟨Wt,hWt⟩:∃ Wt:ByteArray,(⟨wt'.toArray⟩:ByteArray)=Wt:=⟨_,rfl⟩;have hWtd:wt'=Wt.data.toList:=by rw [<-hWt]
      unfold S at ha2;rw [hWt] at ha2;subst hWtd;have hWs:Wt.size<=802:=by rw [Lib.size_eq];exact hwl
      clear hao ho1 ho2 ho3 hwl hWt;have pA:∀ W,aZ W bl l->Calls Tryz.prog 88 #[.int .i64 kd,.slice (some ⟨bl,0,none⟩) n n,.int .i64 tg,.string X,.string Wt] W (pz W bl (fK kd l tg.toNat X.data.toList Wt.data.toList)):=by
       intro W hW;have:=uy kd bl n l tg X Wt W hW d0 (by rw [hln.1];exact d1) hXs hWs (hln.get _);rw [hln.1] at this;exact this
      have HE:Hid (¬ (x≠inn\/(y≠out/\loose=false))->∀ e,fK kd l tg.toNat X.data.toList Wt.data.toList=.error e->R=.error e):=fun hc e he=>by
       rw [HD.out,if_neg hc,xq he];rfl
      have HK:Hid (¬ (x≠inn\/(y≠out/\loose=false))->∀ l',fK kd l tg.toNat X.data.toList Wt.data.toList=.ok l'->R=bi (lZ kd inn out loose X.data.toList (arcs.drop (j+1)) l') F):=fun hc l' he=>by
       rw [HD.out,if_neg hc,xu he]
      have HS:Hid ((x≠inn\/(y≠out/\loose=false))->R=bi (lZ kd inn out loose X.data.toList (arcs.drop (j+1)) l) F):=fun hc=>by
       rw [HD.out,if_pos hc]
      clear HD HJ;have u0:=(hBw.cell (p:=⟨b',o'+j * 4,none⟩) hbl').trans ha0;have u1:=(hBw.cell (p:=⟨b',o'+j * 4+1,none⟩) hbl').trans ha1;have u2:=(hBw.cell (p:=⟨b',o'+j * 4+2,none⟩) hbl').trans ha2;have u3:=(hBw.cell (p:=⟨b',o'+j * 4+3,none⟩) hbl').trans ha3;have hB5:=hBt.alloc (Nat.le_of_lt hvt.lt) (.cells #[.int .i64 x,.int .i64 y,.string Wt,.int .i64 tg] 77);have hB5w:Below w.heap.size w _:=hbw.trans (hB5.mono (Nat.le_of_lt hnb));have hv5:=hvt.below ((Below.refl _ _).alloc (Nat.le_refl _) (.cells #[.int .i64 x,.int .i64 y,.string Wt,.int .i64 tg] 77));have g0:=az wr #[.int .i64 x,.int .i64 y,.string Wt,.int .i64 tg] 77 0 _ rfl;have g1:=az wr #[.int .i64 x,.int .i64 y,.string Wt,.int .i64 tg] 77 1 _ rfl;have g2:=az wr #[.int .i64 x,.int .i64 y,.string Wt,.int .i64 tg] 77 2 _ rfl;have g3:=az wr #[.int .i64 x,.int .i64 y,.string Wt,.int .i64 tg] 77 3 _ rfl;have n0:=(hB5.cell (p:=⟨w.heap.size,0,none⟩) hnb).trans q0;have nv:=(hB5w.cell (p:=⟨bv,q,none⟩) hbv).trans hvc;have ij0:(0:Int)<=(j:Int):=by omega
      have ijl:(j:Int)<(arcs.length:Int):=by omega
      clear ha0 ha1 ha2 ha3 hB5w;by_cases hx:x=inn
      ·have t1:=qY hx
       have t1':=ko hx;by_cases hy:y=out
       ·have t2:=qY hy
        have t2':=ko hy;have hc:¬ (x≠inn\/(y≠out/\loose=false)):=by rintro (h|h);exact h hx;exact h.1 hy
        replace HE:=Lib.hid (HE.out hc);replace HK:=Lib.hid (HK.out hc);clear HS hc hx hy;go_wp2_with fail;generalize wr.alloc (.cells #[.int .i64 x,.int .i64 y,.string Wt,.int .i64 tg] 77)=w5 at *
        go_still_tail 11,(by kernel_rfl)
        change wpList _ _ _ _ _ w5.drew;go_wp2_with fail;have hv5d:aZ w5.drew bl l:=hv5;refine (pA _ hv5d).mono ?_;rintro e w6 ⟨hu,hr⟩;have hb6:Below bl w1 w6:=hB5.drew.trans (hu.low bl (Nat.le_refl _) (Nat.le_of_lt hv5.lt))
        cases hadd:fK kd l tg.toNat X.data.toList Wt.data.toList with
        | error e' =>
         rw [hadd] at hr;obtain⟨rfl,hne⟩:=hr;have HX:=Lib.hid (HE.out e' hadd);have t9:((e':Int) != 0)=true:=by simpa using hne
         have HNE:=Lib.hid hne;clear hadd hne;go_wp2_with fail;go_returns;refine⟨hbw.trans (hb6.mono (Nat.le_of_lt hnb)),?_⟩;rw [HX.out];exact⟨rfl,HNE.out⟩
        | ok l' =>
         rw [hadd] at hr;obtain⟨rfl,hv6⟩:=hr;have HX:=Lib.hid (HK.out l' hadd);have hl6:=uX hln hadd;clear hadd;go_wp2_with fail;go_roundw
         case rel=>exact⟨j+1,l',by go_num,by omega,hb6,hv6,hl6,HX.out⟩
         case measure=>simp [intOf];omega
       ·have t2:=ry hy
        have t2':=jU hy
        cases loose with
        | false =>
         replace HS:=Lib.hid (HS.out (Or.inr ⟨hy,rfl⟩));clear HE HK hx hy pA;go_wp2_with fail;go_roundw
         case rel=>exact⟨j+1,l,by go_num,by omega,hB5,hv5,hln,HS.out⟩
         case measure=>simp [intOf];omega
        | true =>
         have hc:¬ (x≠inn\/(y≠out/\true=false)):=by rintro (h|h);exact h hx;exact absurd h.2 (by simp)
         replace HE:=Lib.hid (HE.out hc);replace HK:=Lib.hid (HK.out hc);clear HS hc hx hy;go_wp2_with fail;generalize wr.alloc (.cells #[.int .i64 x,.int .i64 y,.string Wt,.int .i64 tg] 77)=w5 at *
         go_still_tail 11,(by kernel_rfl)
         change wpList _ _ _ _ _ w5.drew;go_wp2_with fail;have hv5d:aZ w5.drew bl l:=hv5;refine (pA _ hv5d).mono ?_;rintro e w6 ⟨hu,hr⟩;have hb6:Below bl w1 w6:=hB5.drew.trans (hu.low bl (Nat.le_refl _) (Nat.le_of_lt hv5.lt))
         cases hadd:fK kd l tg.toNat X.data.toList Wt.data.toList with
         | error e' =>
          rw [hadd] at hr;obtain⟨rfl,hne⟩:=hr;have HX:=Lib.hid (HE.out e' hadd);have t9:((e':Int) != 0)=true:=by simpa using hne
          have HNE:=Lib.hid hne;clear hadd hne;go_wp2_with fail;go_returns;refine⟨hbw.trans (hb6.mono (Nat.le_of_lt hnb)),?_⟩;rw [HX.out];exact⟨rfl,HNE.out⟩
         | ok l' =>
          rw [hadd] at hr;obtain⟨rfl,hv6⟩:=hr;have HX:=Lib.hid (HK.out l' hadd);have hl6:=uX hln hadd;clear hadd;go_wp2_with fail;go_roundw
          case rel=>exact⟨j+1,l',by go_num,by omega,hb6,hv6,hl6,HX.out⟩
          case measure=>simp [intOf];omega
      ·have t1:=ry hx
       have t1':=jU hx;replace HS:=Lib.hid (HS.out (Or.inl hx));clear HE HK hx pA;go_wp2_with fail;go_roundw
       case rel=>exact⟨j+1,l,by go_num,by omega,hB5,hv5,hln,HS.out⟩
       case measure=>simp [intOf];omega
     ·obtain rfl:j=arcs.length:=by omega
      have HX:Hid (R=nu kd inn out loose (ss.drop (q+1)) (v.drop (q+1)) l):=by
       have:=HJ.out;rw [List.drop_length] at this;rw [Hid,HF.out,this];rfl
      go_wp2_with fail;go_roundw
      case rel=>exact⟨q+1,l,by go_num,by omega,hBt,hvt,hln,HX.out⟩
      case measure=>simp [intOf];omega
  ·obtain rfl:q=n:=by omega
   have HX:Hid (R=.ok l):=by
    have:=HS0.out;rw [List.drop_of_length_le (by rw [HN.out];exact Nat.le_refl _)] at this;exact this
   go_wp2_with fail;go_returns;refine⟨hbw.trans (hBr.mono (Nat.le_of_lt hnb)),?_⟩;rw [HX.out];exact⟨bl,rfl,hvr,Nat.le_of_lt hnb,hlr⟩
theorem Hq {k:Int} {ss:List bI} {v:Vec} {x:Bs} {q:Nat} (hq:q<ss.length) (hv:q<v.length) :
  lH k (ss.drop q) (v.drop q) x=if ss[q].fin=[] then lH k (ss.drop (q+1)) (v.drop (q+1)) x else bi (fK k [x] 0 v[q] ss[q].fin) fun l=>lH k (ss.drop (q+1)) (v.drop (q+1)) (l.headD []):=by
 rw [List.drop_eq_getElem_cons hq,List.drop_eq_getElem_cons hv]
 rfl
theorem Ol {l:Vec} (h:dK 1 l):∃ x,l=[x]/\x.length<=802:=by
 match l,h with
 | [x],h=>exact⟨x,rfl,h.2 x List.mem_cons_self⟩
def qN (w:World) (R:Except Nat Bs) (e:Ending) (w':World):Prop:=Below w.heap.size w w'/\match R with
 | .ok x=>e=.returned (.tuple #[S x,.int .i64 0])/\x.length<=802
 | .error x=>e=.returned (.tuple #[.string ⟨#[]⟩,.int .i64 x])/\x≠0
theorem Lm (m:aQ) (A:Option Addr) (c bv cv:Nat) (v:Vec) (w:World) (hm:bM m=true) (hV:dY w A m.states) (hv:aZ w bv v) (hvn:dK m.states.length v) :
  Calls Tryz.prog 67 #[di m A c,.slice (some ⟨bv,0,none⟩) m.states.length cv] w (qN w (lH m.kind m.states v (aF m.kind))):=by
 obtain⟨hk,⟨hn1,hn2,hs1,hs2⟩,hld,hst,har⟩:=kV.1 hm;clear har;obtain⟨R,hR⟩:∃ R,lH m.kind m.states v (aF m.kind)=R:=⟨_,rfl⟩;have HR:=Lib.hid hR.symm;rw [hR];clear hR;have HV:=Lib.hid hV;have HSt:Hid (∀ s∈m.states,gY m.kind m.states.length s=true):=hst;unfold di S at *;obtain⟨kd,st,ld,ss⟩:=m;simp only at *;generalize (⟨ld.toArray⟩:ByteArray)=Ld at *;have hbv:=hv.lt;have HVv:=Lib.hid hv;obtain⟨n,hn⟩:∃ n,n=ss.length:=⟨_,rfl⟩;rw [<-hn] at hvn hn1 hn2 HSt ⊢;have HN:=Lib.hid hn.symm;obtain⟨zk,hzk⟩:∃ zk:ByteArray,(⟨(aF kd).toArray⟩:ByteArray)=zk:=⟨_,rfl⟩;have hzkd:aF kd=zk.data.toList:=by rw [<-hzk]
 have p0:∀ W,Calls Tryz.prog 34 #[.int .i64 kd] W fun e w'=>e=.returned (.string zk)/\W=w':=fun W=>by
  have:=o9 kd W;unfold S at this;rw [hzk] at this;exact this
 rw [hzkd] at HR;have hzl:zk.data.toList.length<=802:=by rw [<-hzkd];exact rR kd
 clear hld hm hV hst hs1 hs2 hk hn hv hzk hzkd;have z0:=az w #[.int .i64 kd,.int .i64 st,.string Ld,.slice A n c] 30 0 _ rfl;have z3:=az w #[.int .i64 kd,.int .i64 st,.string Ld,.slice A n c] 30 3 _ rfl;have hb0:Below w.heap.size w (w.alloc (.cells #[.int .i64 kd,.int .i64 st,.string Ld,.slice A n c] 30)):=(Below.refl _ _).alloc (Nat.le_refl _) _;have hs0:(w.alloc (.cells #[.int .i64 kd,.int .i64 st,.string Ld,.slice A n c] 30)).heap.size=w.heap.size+1:=by simp
 go_enter Tryz.func67,Tryz.ntmps67;go_wp2_with fail;generalize w.alloc (.cells #[.int .i64 kd,.int .i64 st,.string Ld,.slice A n c] 30)=w0 at *;refine (p0 _).mono ?_;rintro e w1 ⟨rfl,rfl⟩;have q0:=z0;have q3:=z3;have hv1:aZ (w0.alloc (.cells #[.string zk] 9)) (w.heap.size+1) [zk.data.toList]:=by
  have:=heap_alloc_new w0 (.cells #[.string zk] 9);rw [hs0] at this;exact this
 have hB1:Below (w.heap.size+1) w0 (w0.alloc (.cells #[.string zk] 9)):=(Below.refl _ _).alloc (by rw [hs0];exact Nat.le_refl _) _;have HS0:=Lib.hid hs0;go_wp2_with fail;clear hs0 z0 z3;generalize w0.alloc (.cells #[.string zk] 9)=w1 at *
 go_loopw [7] (fun i wr=>∃ (q:Nat) (x:Bs),i=.int .i64 q/\q<=n/\Below (w.heap.size+1) w0 wr/\aZ wr (w.heap.size+1) [x]/\x.length<=802/\Hid (R=lH kd (ss.drop q) (v.drop q) x)) (fun i _=>n-(intOf i).toNat)
 case atStart=>exact⟨0,_,rfl,by omega,hB1,hv1,hzl,HR.out⟩
 case round =>
  clear hB1 hv1;obtain⟨q,x,rfl,hq,hBr,hvr,hxr,HS⟩:=hrel;have hBw:Below w.heap.size w wr:=hb0.trans (hBr.mono (Nat.le_succ _));have m0:=(hBr.cell (p:=⟨w.heap.size,0,none⟩) (Nat.lt_succ_self _)).trans q0;have m3:=(hBr.cell (p:=⟨w.heap.size,3,none⟩) (Nat.lt_succ_self _)).trans q3;by_cases hlt:q<n
  ·have hqs:q<ss.length:=by rw [HN.out];exact hlt
   have hqv:q<v.length:=by rw [hvn.1];exact hlt
   obtain⟨b,o,rfl,hbo,hc0,A',c',hc1,hArcs⟩:=HV.out q hqs;have HD:=Lib.hid (HS.out.trans (Hq hqs hqv));have hso:=HSt.out _ (List.getElem_mem hqs);have hxl:=hvn.2 _ (List.getElem_mem hqv);have hvc:=HVv.out.cell hqv;generalize ss[q]=s at *;obtain⟨fin,arcs⟩:=s;simp only at *;obtain⟨X,hX⟩:∃ X:ByteArray,(⟨v[q].toArray⟩:ByteArray)=X:=⟨_,rfl⟩;have hXd:v[q]=X.data.toList:=by rw [<-hX]
   unfold S at hvc;rw [hX] at hvc;rw [hXd] at HD hxl;have hXs:X.size<=802:=by rw [Lib.size_eq];exact hxl
   obtain⟨Fn,hFn⟩:∃ Fn:ByteArray,(⟨fin.toArray⟩:ByteArray)=Fn:=⟨_,rfl⟩;have hFnd:fin=Fn.data.toList:=by rw [<-hFn]
   unfold S at hc0;rw [hFn] at hc0;subst hFnd;have mv:=(hBw.cell (p:=⟨bv,q,none⟩) hbv).trans hvc;have mf:=(hBw.cell (p:=⟨b,o+q * 2,none⟩) hbo).trans hc0;have i0:(0:Int)<=(q:Int):=by omega
   have il:(q:Int)<(n:Int):=by omega
   clear hX hXd hxl hFn hArcs;by_cases hfn:Fn.size=0
   ·have t1:(Fn.toList != [])=false:=rf (fF hfn)
    have t1':(Fn.toList == [])=true:=iR (fF hfn);have hem:=jF hfn;have HX:=Lib.hid (HD.out.trans (if_pos (fF hfn)));clear hfn HD;go_wp2_with fail;go_roundw
    case rel=>exact⟨q+1,x,by go_num,by omega,hBr,hvr,hxr,HX.out⟩
    case measure=>simp [intOf];omega
   ·have t1:(Fn.toList != [])=true:=rq (gB hfn)
    have t1':(Fn.toList == [])=false:=iT (gB hfn);have hem:=jI hfn;have HX:=Lib.hid (HD.out.trans (if_neg (gB hfn)));have hFs:Fn.size<=802:=by
     rw [Lib.size_eq];rcases (pg.1 hso).1 with h|h
     ·exact absurd h (gB hfn)
     ·exact wC h
    have pA:∀ W,aZ W (w.heap.size+1) [x]->Calls Tryz.prog 88 #[.int .i64 kd,.slice (some ⟨w.heap.size+1,0,none⟩) 1 1,.int .i64 0,.string X,.string Fn] W (pz W (w.heap.size+1) (fK kd [x] 0 X.data.toList Fn.data.toList)):=by
     intro W hW;exact uy kd (w.heap.size+1) 1 [x] 0 X Fn W hW (by omega) (by simp) hXs hFs hxr
    have HE:Hid (∀ e,fK kd [x] 0 X.data.toList Fn.data.toList=.error e->R=.error e):=fun e he=>by rw [HX.out,xq he]
    have HK:Hid (∀ l',fK kd [x] 0 X.data.toList Fn.data.toList=.ok l'->R=lH kd (ss.drop (q+1)) (v.drop (q+1)) (l'.headD [])):=fun l' he=>by rw [HX.out,xu he]
    have hx1:dK 1 [x]:=⟨rfl,fun y hy=>by rw [List.mem_singleton.1 hy];exact hxr⟩;clear hfn HD HX;go_wp2_with fail
    go_still_tail 13,(by kernel_rfl)
    change wpList _ _ _ _ _ wr.drew;go_wp2_with fail;have hvd:aZ wr.drew (w.heap.size+1) [x]:=hvr;refine (pA _ hvd).mono ?_;rintro e w6 ⟨hu,hr⟩;have hb6:Below (w.heap.size+1) w0 w6:=hBr.drew.trans (hu.low _ (Nat.le_refl _) (Nat.le_of_lt hvr.lt))
    cases hadd:fK kd [x] 0 X.data.toList Fn.data.toList with
    | error e' =>
     rw [hadd] at hr;obtain⟨rfl,hne⟩:=hr;have HY:=Lib.hid (HE.out e' hadd);have t9:((e':Int) != 0)=true:=by simpa using hne
     have HNE:=Lib.hid hne;clear hadd hne;go_wp2_with fail;go_returns;refine⟨hb0.trans (hb6.mono (Nat.le_succ _)),?_⟩;rw [HY.out];exact⟨rfl,HNE.out⟩
    | ok l' =>
     rw [hadd] at hr;obtain⟨rfl,hv6⟩:=hr;have HY:=Lib.hid (HK.out l' hadd);obtain⟨x',rfl,hx'⟩:=Ol (uX hx1 hadd);clear hadd;go_wp2_with fail;go_roundw
     case rel=>exact⟨q+1,x',by go_num,by omega,hb6,hv6,hx',HY.out⟩
     case measure=>simp [intOf];omega
  ·obtain rfl:q=n:=by omega
   have HX:Hid (R=.ok x):=by
    have:=HS.out;rw [List.drop_of_length_le (by rw [HN.out];exact Nat.le_refl _)] at this;exact this
   have k0:wr.cell? ⟨w.heap.size+1,0,none⟩=some (.string ⟨x.toArray⟩):=hvr.cell (j:=0) (by simp);go_wp2_with fail;go_returns;refine⟨hBw,?_⟩;rw [HX.out];exact⟨rfl,hxr⟩
end Go.Proofs.YtppnecgeboonbaaGreatDoor
