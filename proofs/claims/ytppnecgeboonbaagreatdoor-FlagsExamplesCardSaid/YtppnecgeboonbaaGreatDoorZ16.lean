/- Walks of the reference of rat: Cmp, Add, Sub, Mul, Div. -/
import Derived.Test.YtppnecgeboonbaaGreatDoorZ15
namespace Go.Proofs.YtppnecgeboonbaaGreatDoor.Rat3
set_option maxRecDepth 100000
set_option linter.unusedVariables false
set_option maxHeartbeats 2000000
open Go.RowKit
theorem F6 {F:ByteArray} {n:Nat} (h:F.data.toList=af n):(af n).length=F.size:=by rw [<-h,Lib.size_eq]
theorem yB (a b:ByteArray) (w:World) (ha:a.size<=100000) (hb:b.size<=100000) :
  Calls Tryz.prog 107 #[.string a,.string b] w (aA w (jW a.data.toList b.data.toList)):=by
 cases hu:aK a.data.toList with
 | none =>
  refine (CJ a b w ha hb (Or.inl hu)).mono ?_;rintro e w' ⟨rfl,h⟩;unfold aA jW fZ;rw [hu];exact⟨rfl,h⟩
 | some x =>
  cases hv:aK b.data.toList with
  | none =>
   refine (CJ a b w ha hb (Or.inr hv)).mono ?_;rintro e w' ⟨rfl,h⟩;unfold aA jW fZ;rw [hu,hv];exact⟨rfl,h⟩
  | some y =>
   obtain⟨A,D,hpA,hNA⟩:=lL hu;obtain⟨B,E,hpB,hNB⟩:=lL hv;have HK:Hid (jW a.data.toList b.data.toList=ik (x+y)):=by unfold Hid jW fZ;rw [hu,hv]
   rw [<-Jj] at HK;have pa:=fun W=>nS a A D _ W ha hpA
   have pb:=fun W=>nS b B E _ W hb hpB
   obtain⟨F,hF⟩:∃ F:ByteArray,(⟨(af (x.num.natAbs * y.den)).toArray⟩:ByteArray)=F:=⟨_,rfl⟩;obtain⟨G,hG⟩:∃ G:ByteArray,(⟨(af (y.num.natAbs * x.den)).toArray⟩:ByteArray)=G:=⟨_,rfl⟩;obtain⟨H,hH⟩:∃ G:ByteArray,(⟨(af (x.den * y.den)).toArray⟩:ByteArray)=G:=⟨_,rfl⟩;have m1:=nU A E _ _ F hF hNA.a hNB.d hNA.sa hNB.sd;have m2:=nU B D _ _ G hG hNB.a hNA.d hNB.sa hNA.sd;have m3:=nU D E _ _ H hH hNA.d hNB.d hNA.sd hNB.sd;obtain⟨hFd,sF⟩:=lK A E _ _ F hF hNA.a hNB.d hNA.sa hNB.sd;obtain⟨hGd,sG⟩:=lK B D _ _ G hG hNB.a hNA.d hNB.sa hNA.sd;obtain⟨hHd,sH⟩:=lK D E _ _ H hH hNA.d hNB.d hNA.sd hNB.sd;have hal:=wZ hFd hGd sF sG;have hpl:=fun W=>Dg (decide (x.num<0)) (decide (y.num<0)) F G _ _ W hFd hGd (by omega) (by omega) (by omega)
   have hle:=tN (Fe (decide (x.num<0)) (x.num.natAbs * y.den) (decide (y.num<0)) (y.num.natAbs * x.den));have hdz:=Nat.mul_ne_zero x.den_nz y.den_nz;generalize (dQ (decide (x.num<0)) (x.num.natAbs * y.den) (decide (y.num<0)) (y.num.natAbs * x.den)).1=sg at *;generalize (dQ (decide (x.num<0)) (x.num.natAbs * y.den) (decide (y.num<0)) (y.num.natAbs * x.den)).2=N at *;obtain⟨S,hS0⟩:∃ S:ByteArray,(⟨(af N).toArray⟩:ByteArray)=S:=⟨_,rfl⟩;have hSd:S.data.toList=af N:=by rw [<-hS0]
   have sS:S.size<=1000:=by rw [<-F6 hSd];omega
   simp only [hS0] at hpl;have pm:=fun W=>vZ sg S H _ _ W hSd hHd sS (by omega) hdz
   generalize x.den * y.den=Dn at *;generalize decide (x.num<0)=p at *;generalize decide (y.num<0)=q at *;clear hu hv hpA hNA hpB hNB hF hG hH hFd hGd hHd hal hle hS0 hSd hdz;go_enter Tryz.func107,Tryz.ntmps107;go_wp2_with fail;refine (pa _).mono ?_;rintro e w1 ⟨rfl,b1⟩;go_wp2_with fail;refine (pb _).mono ?_;rintro e w2 ⟨rfl,b2⟩;have hA2:=ae b1 b2;go_wp2_with fail;refine (m1 _).mono ?_;rintro e w3 ⟨rfl,b3⟩;have hA3:=ae hA2 b3;go_wp2_with fail;refine (m2 _).mono ?_;rintro e w4 ⟨rfl,b4⟩;have hA4:=ae hA3 b4;go_wp2_with fail;refine (hpl _).mono ?_;rintro e w5 ⟨rfl,b5⟩;have hA5:=ae hA4 b5;go_wp2_with fail;refine (m3 _).mono ?_;rintro e w6 ⟨rfl,b6⟩;have hA6:=ae hA5 b6;go_wp2_with fail;refine (pm _).mono ?_;rintro e w7 ⟨rfl,b7⟩;have hA7:=ae hA6 b7;go_wp2_with fail;go_returns;unfold aA;rw [HK.out];exact⟨rfl,hA7⟩
theorem CR (a b:ByteArray) (w:World) (ha:a.size<=100000) (hb:b.size<=100000) :
  Calls Tryz.prog 103 #[.string a,.string b] w fun e w'=>e=.returned (.int .i64 (fB a.data.toList b.data.toList))/\Below w.heap.size w w':=by
 cases hu:aK a.data.toList with
 | none =>
  refine (CS a b w ha hb (Or.inl hu)).mono ?_;rintro e w' ⟨rfl,h⟩;unfold fB;rw [hu];exact⟨rfl,h⟩
 | some x =>
  cases hv:aK b.data.toList with
  | none =>
   refine (CS a b w ha hb (Or.inr hv)).mono ?_;rintro e w' ⟨rfl,h⟩;unfold fB;rw [hu,hv];exact⟨rfl,h⟩
  | some y =>
   obtain⟨A,D,hpA,hNA⟩:=lL hu;obtain⟨B,E,hpB,hNB⟩:=lL hv;have pa:=fun W=>nS a A D _ W ha hpA
   have pb:=fun W=>nS b B E _ W hb hpB
   obtain⟨F,hF⟩:∃ F:ByteArray,(⟨(af (x.num.natAbs * y.den)).toArray⟩:ByteArray)=F:=⟨_,rfl⟩;obtain⟨G,hG⟩:∃ G:ByteArray,(⟨(af (y.num.natAbs * x.den)).toArray⟩:ByteArray)=G:=⟨_,rfl⟩;have m1:=nU A E _ _ F hF hNA.a hNB.d hNA.sa hNB.sd;have m2:=nU B D _ _ G hG hNB.a hNA.d hNB.sa hNA.sd;obtain⟨hFd,sF⟩:=lK A E _ _ F hF hNA.a hNB.d hNA.sa hNB.sd;obtain⟨hGd,sG⟩:=lK B D _ _ G hG hNB.a hNA.d hNB.sa hNA.sd;have hal:=wZ hFd hGd sF sG;have hpl:=fun W=>Dg (decide (x.num<0)) (!decide (y.num<0)) F G _ _ W hFd hGd (by omega) (by omega) (by omega)
   have hcr:=zY x y _ _ (xc (decide (x.num<0)) (!decide (y.num<0)) (x.num.natAbs * y.den) (y.num.natAbs * x.den));have HK:Hid (fB a.data.toList b.data.toList=if x=y then (0:Int) else if x<y then -1 else 1):=by unfold Hid fB;rw [hu,hv]
   rw [hcr] at HK;generalize (dQ (decide (x.num<0)) (x.num.natAbs * y.den) (!decide (y.num<0)) (y.num.natAbs * x.den)).1=sg at *;generalize (dQ (decide (x.num<0)) (x.num.natAbs * y.den) (!decide (y.num<0)) (y.num.natAbs * x.den)).2=N at *;obtain⟨S,hS0⟩:∃ S:ByteArray,(⟨(af N).toArray⟩:ByteArray)=S:=⟨_,rfl⟩;have hS48:(S.toList == [48])=decide (N=0):=qA (by rw [<-hS0]);simp only [hS0] at hpl;generalize decide (x.num<0)=p at *;generalize decide (y.num<0)=q at *;clear hu hv hpA hNA hpB hNB hF hG hFd hGd hal hcr hS0;go_enter Tryz.func103,Tryz.ntmps103;go_wp2_with fail;refine (pa _).mono ?_;rintro e w1 ⟨rfl,b1⟩;go_wp2_with fail;refine (pb _).mono ?_;rintro e w2 ⟨rfl,b2⟩;have hA2:=ae b1 b2;go_wp2_with fail;refine (m1 _).mono ?_;rintro e w3 ⟨rfl,b3⟩;have hA3:=ae hA2 b3;go_wp2_with fail;refine (m2 _).mono ?_;rintro e w4 ⟨rfl,b4⟩;have hA4:=ae hA3 b4;go_wp2_with fail;refine (hpl _).mono ?_;rintro e w5 ⟨rfl,b5⟩;have hA5:=ae hA4 b5;by_cases hN:N=0
   ·rw [decide_eq_true hN] at hS48
    rw [if_pos hN] at HK;clear hN;go_wp2_with fail;go_returns;exact⟨by rw [HK.out];rfl,hA5⟩
   ·rw [decide_eq_false hN] at hS48
    rw [if_neg hN] at HK;clear hN
    cases sg with
    | true =>
     go_wp2_with fail;go_returns;exact⟨by rw [HK.out];rfl,hA5⟩
    | false =>
     go_wp2_with fail;go_returns;exact⟨by rw [HK.out];rfl,hA5⟩
theorem Kq (a b:ByteArray) (w:World) (ha:a.size<=100000) (hb:b.size<=100000) :
  Calls Tryz.prog 130 #[.string a,.string b] w (aA w (mV a.data.toList b.data.toList)):=by
 cases hu:aK a.data.toList with
 | none =>
  refine (De a b w ha hb (Or.inl hu)).mono ?_;rintro e w' ⟨rfl,h⟩;unfold aA mV fZ;rw [hu];exact⟨rfl,h⟩
 | some x =>
  cases hv:aK b.data.toList with
  | none =>
   refine (De a b w ha hb (Or.inr hv)).mono ?_;rintro e w' ⟨rfl,h⟩;unfold aA mV fZ;rw [hu,hv];exact⟨rfl,h⟩
  | some y =>
   obtain⟨A,D,hpA,hNA⟩:=lL hu;obtain⟨B,E,hpB,hNB⟩:=lL hv;have HK:Hid (mV a.data.toList b.data.toList=ik (x * y)):=by unfold Hid mV fZ;rw [hu,hv]
   rw [<-Jm] at HK;have pa:=fun W=>nS a A D _ W ha hpA
   have pb:=fun W=>nS b B E _ W hb hpB
   obtain⟨F,hF⟩:∃ F:ByteArray,(⟨(af (x.num.natAbs * y.num.natAbs)).toArray⟩:ByteArray)=F:=⟨_,rfl⟩;obtain⟨G,hG⟩:∃ G:ByteArray,(⟨(af (x.den * y.den)).toArray⟩:ByteArray)=G:=⟨_,rfl⟩;have m1:=nU A B _ _ F hF hNA.a hNB.a hNA.sa hNB.sa;have m2:=nU D E _ _ G hG hNA.d hNB.d hNA.sd hNB.sd;obtain⟨hFd,sF⟩:=lK A B _ _ F hF hNA.a hNB.a hNA.sa hNB.sa;obtain⟨hGd,sG⟩:=lK D E _ _ G hG hNA.d hNB.d hNA.sd hNB.sd;have pm:=fun W=>vZ (!decide (x.num<0) == decide (y.num<0)) F G _ _ W hFd hGd (by omega) (by omega) (Nat.mul_ne_zero x.den_nz y.den_nz)
   have HK2:Hid (mV a.data.toList b.data.toList=iq (!decide (x.num<0) == decide (y.num<0)) (x.num.natAbs * y.num.natAbs) (x.den * y.den)):=HK.out;generalize x.num.natAbs * y.num.natAbs=N at *;generalize x.den * y.den=Dn at *;generalize decide (x.num<0)=p at *;generalize decide (y.num<0)=q at *;clear hu hv hpA hNA hpB hNB hF hG hFd hGd HK;go_enter Tryz.func130,Tryz.ntmps130;go_wp2_with fail;refine (pa _).mono ?_;rintro e w1 ⟨rfl,b1⟩;go_wp2_with fail;refine (pb _).mono ?_;rintro e w2 ⟨rfl,b2⟩;have hA2:=ae b1 b2;go_wp2_with fail;refine (m1 _).mono ?_;rintro e w3 ⟨rfl,b3⟩;have hA3:=ae hA2 b3;go_wp2_with fail;refine (m2 _).mono ?_;rintro e w4 ⟨rfl,b4⟩;have hA4:=ae hA3 b4;go_wp2_with fail;refine (pm _).mono ?_;rintro e w7 ⟨rfl,b7⟩;have hA7:=ae hA4 b7;go_wp2_with fail;go_returns;unfold aA;rw [HK2.out];exact⟨rfl,hA7⟩
theorem Kb (a b:ByteArray) (w:World) (ha:a.size<=100000) (hb:b.size<=100000) :
  Calls Tryz.prog 186 #[.string a,.string b] w (aA w (lS a.data.toList b.data.toList)):=by
 cases hu:aK a.data.toList with
 | none =>
  refine (CU a b w ha hb (Or.inl hu)).mono ?_;rintro e w' ⟨rfl,h⟩;unfold aA lS fZ;rw [hu];exact⟨rfl,h⟩
 | some x =>
  cases hv:aK b.data.toList with
  | none =>
   refine (CU a b w ha hb (Or.inr hv)).mono ?_;rintro e w' ⟨rfl,h⟩;unfold aA lS fZ;rw [hu,hv];exact⟨rfl,h⟩
  | some y =>
   obtain⟨A,D,hpA,hNA⟩:=lL hu;obtain⟨B,E,hpB,hNB⟩:=lL hv;have pa:=fun W=>nS a A D _ W ha hpA
   have pb:=fun W=>nS b B E _ W hb hpB
   have b48:=qA hNB.a;by_cases hy:y=0
   ·have HK:Hid (lS a.data.toList b.data.toList=([],4)):=by
     unfold Hid lS fZ;rw [hu,hv];exact if_pos hy
    rw [decide_eq_true (by rw [hy];rfl)] at b48;generalize decide (x.num<0)=p at *;generalize decide (y.num<0)=q at *;clear hu hv hpA hNA hpB hNB hy;go_enter Tryz.func186,Tryz.ntmps186;go_wp2_with fail;refine (pa _).mono ?_;rintro e w1 ⟨rfl,b1⟩;go_wp2_with fail;refine (pb _).mono ?_;rintro e w2 ⟨rfl,b2⟩;have hA2:=ae b1 b2;go_wp2_with fail;go_returns;unfold aA;rw [HK.out];exact⟨rfl,hA2⟩
   ·have hyn:=Cj hy
    have HK:Hid (lS a.data.toList b.data.toList=ik (x / y)):=by
     unfold Hid lS fZ;rw [hu,hv];exact if_neg hy
    rw [<-Jk x y hy] at HK;rw [decide_eq_false hyn] at b48;obtain⟨F,hF⟩:∃ F:ByteArray,(⟨(af (x.num.natAbs * y.den)).toArray⟩:ByteArray)=F:=⟨_,rfl⟩;obtain⟨G,hG⟩:∃ G:ByteArray,(⟨(af (x.den * y.num.natAbs)).toArray⟩:ByteArray)=G:=⟨_,rfl⟩;have m1:=nU A E _ _ F hF hNA.a hNB.d hNA.sa hNB.sd;have m2:=nU D B _ _ G hG hNA.d hNB.a hNA.sd hNB.sa;obtain⟨hFd,sF⟩:=lK A E _ _ F hF hNA.a hNB.d hNA.sa hNB.sd;obtain⟨hGd,sG⟩:=lK D B _ _ G hG hNA.d hNB.a hNA.sd hNB.sa;have pm:=fun W=>vZ (!decide (x.num<0) == decide (y.num<0)) F G _ _ W hFd hGd (by omega) (by omega) (Nat.mul_ne_zero x.den_nz hyn)
    have HK2:Hid (lS a.data.toList b.data.toList=iq (!decide (x.num<0) == decide (y.num<0)) (x.num.natAbs * y.den) (x.den * y.num.natAbs)):=HK.out;generalize x.num.natAbs * y.den=N at *;generalize x.den * y.num.natAbs=Dn at *;generalize decide (x.num<0)=p at *;generalize decide (y.num<0)=q at *;clear hu hv hpA hNA hpB hNB hF hG hFd hGd HK hy hyn;go_enter Tryz.func186,Tryz.ntmps186;go_wp2_with fail;refine (pa _).mono ?_;rintro e w1 ⟨rfl,b1⟩;go_wp2_with fail;refine (pb _).mono ?_;rintro e w2 ⟨rfl,b2⟩;have hA2:=ae b1 b2;go_wp2_with fail;refine (m1 _).mono ?_;rintro e w3 ⟨rfl,b3⟩;have hA3:=ae hA2 b3;go_wp2_with fail;refine (m2 _).mono ?_;rintro e w4 ⟨rfl,b4⟩;have hA4:=ae hA3 b4;go_wp2_with fail;refine (pm _).mono ?_;rintro e w7 ⟨rfl,b7⟩;have hA7:=ae hA4 b7;go_wp2_with fail;go_returns;unfold aA;rw [HK2.out];exact⟨rfl,hA7⟩
theorem JE (y:Rat):(-y).num.natAbs=y.num.natAbs/\(-y).den=y.den:=⟨by rw [Rat.neg_num,Int.natAbs_neg],Rat.neg_den y⟩
theorem KS {l:Bs} {y:Rat} (h:aK l=some y):nV l=(iU (-y),0)/\aK (iU (-y))=some (-y)/\(iU (-y)).length<=802:=by
 obtain⟨h1,h2,h3,h4⟩:=uz h;obtain⟨e1,e2⟩:=JE y;have k1:(af (-y).num.natAbs).length<=400:=by rw [e1];exact h2
 have k2:(af (-y).den).length<=400:=by rw [e2];exact h3
 refine⟨?_,Dr k1 k2,?_⟩
 ·unfold nV gV fZ
  rw [nW,h];show ik (0-y)=_;rw [Rat.sub_eq_add_neg,Rat.zero_add];unfold ik;rw [if_neg (by omega)]
 ·unfold iU
  rw [List.length_append,List.length_append];have a1:(if (-y).num<0 then [45] else ([]:Bs)).length<=1:=by split <;> simp
  have a2:(if (-y).den=1 then ([]:Bs) else 47::af (-y).den).length<=401:=by split <;> simp;omega
  omega
theorem KD (a b:ByteArray) (w:World) (ha:a.size<=100000) (hb:b.size<=100000) :
  Calls Tryz.prog 185 #[.string a,.string b] w (aA w (gV a.data.toList b.data.toList)):=by
 have hn:=Kr b w hb;have hv:=fun W=>Di a W ha
 cases hv2:aK b.data.toList with
 | none =>
  have e1:nV b.data.toList=([],1):=by unfold nV gV fZ;rw [nW,hv2]
  have HK:Hid (gV a.data.toList b.data.toList=([],1)):=by unfold Hid gV fZ;rw [hv2];cases aK a.data.toList <;> rfl
  rw [e1] at hn;unfold aA at hn;clear e1 hv2;go_enter Tryz.func185,Tryz.ntmps185;go_wp2_with (go_at_call 202;refine hn.mono ?_;rintro e w1 ⟨rfl,b1⟩);go_returns;unfold aA;rw [HK.out];exact⟨rfl,b1⟩
 | some y =>
  obtain⟨e1,e2,e3⟩:=KS hv2;rw [e1] at hn;unfold aA at hn;obtain⟨C,hC⟩:∃ C:ByteArray,(⟨(iU (-y)).toArray⟩:ByteArray)=C:=⟨_,rfl⟩;have hCd:C.data.toList=iU (-y):=by rw [<-hC]
  have sC:C.size<=100000:=by rw [Lib.size_eq,hCd];omega
  simp only [hC] at hn;have pa:=fun W=>yB a C W ha sC
  rw [hCd] at pa
  cases hu:aK a.data.toList with
  | none =>
   have HK:Hid (gV a.data.toList b.data.toList=([],1)):=by unfold Hid gV fZ;rw [hu]
   rw [hu] at hv;clear e1 e2 e3 hC hCd hv2 hu pa;go_enter Tryz.func185,Tryz.ntmps185
   go_wp2_with (first
    | (go_at_call 202;refine hn.mono ?_;rintro e w1 ⟨rfl,b1⟩)
    | (go_at_call 102;refine (hv _).mono ?_;rintro e w2 ⟨rfl,b2⟩;have hA2:=ae b1 b2))
   go_returns;unfold aA;rw [HK.out];exact⟨rfl,hA2⟩
  | some x =>
   have HK:Hid (gV a.data.toList b.data.toList=jW a.data.toList (iU (-y))):=by
    unfold Hid gV jW fZ;rw [hu,hv2,e2];show ik (x-y)=ik (x + -y);rw [Rat.sub_eq_add_neg]
   rw [<-HK.out] at pa;rw [hu] at hv;unfold aA at pa;clear e1 e2 e3 hC hCd hv2 hu;go_enter Tryz.func185,Tryz.ntmps185
   go_wp2_with (first
    | (go_at_call 202;refine hn.mono ?_;rintro e w1 ⟨rfl,b1⟩)
    | (go_at_call 102;refine (hv _).mono ?_;rintro e w2 ⟨rfl,b2⟩;have hA2:=ae b1 b2)
    | (go_at_call 107;refine (pa _).mono ?_;rintro e w3 ⟨rfl,b3⟩;have hA3:=ae hA2 b3))
   go_returns;unfold aA;exact⟨rfl,hA3⟩
end Go.Proofs.YtppnecgeboonbaaGreatDoor.Rat3
namespace Go.Proofs.YtppnecgeboonbaaGreatDoor
set_option maxRecDepth 100000
set_option linter.unusedVariables false
set_option maxHeartbeats 2000000
open Go.RowKit
theorem az (w:World) (A:Array Value) (t:TypeId) (o:Nat) (v:Value) (h:A[o]? = some v):(w.alloc (.cells A t)).cell? ⟨w.heap.size,o,none⟩=some v:=by
 rw [cell_of_row (w.alloc _) w.heap.size o A t (0,0) (heap_alloc_new w _)];exact h
theorem nO (w:World) (A:Array Value) (t:TypeId) (o:Nat):(w.alloc (.cells A t)).frozen? ⟨w.heap.size,o,none⟩=false:=by
 unfold World.frozen?;rw [heap_alloc_new];simp
theorem allT {α:Type} {p:α->Bool} {l:List α} {k:Nat} (hk:k<l.length) (h:∀ x∈l.take k,p x=true) (hp:p l[k]=true):∀ x∈l.take (k+1),p x=true:=by
 intro x hx;rw [List.take_succ_eq_append_getElem hk] at hx;rcases List.mem_append.1 hx with hx|hx
 ·exact h x hx
 ·simp only [List.mem_singleton] at hx;subst hx;exact hp
theorem p8 {α:Type} {p:α->Bool} {l:List α} {k:Nat} (hk:k<l.length) (hp:p l[k]=false):l.all p=false:=by
 cases h:l.all p with
 | false=>rfl
 | true=>rw [List.all_eq_true] at h;rw [h _ (List.getElem_mem hk)] at hp;cases hp
end Go.Proofs.YtppnecgeboonbaaGreatDoor
