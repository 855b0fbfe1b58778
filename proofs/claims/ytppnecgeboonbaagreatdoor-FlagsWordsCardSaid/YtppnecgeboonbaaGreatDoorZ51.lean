/- Chapter 22's law: FlagsWords. -/
import Derived.Test.YtppnecgeboonbaaGreatDoorZ34
import Derived.Test.YtppnecgeboonbaaGreatDoorZ50
namespace Go.Proofs.YtppnecgeboonbaaGreatDoor
set_option maxRecDepth 100000
set_option linter.unusedVariables false
set_option maxHeartbeats 8000000
open Go Go.RowKit Go.Maps
theorem Sa {m:aQ} {t:List Bs} (hm:bM m=true) :
  (l7 t=true/\∃ xs,lC m t (fG t m.states []) 3001 0 [(m.start,dE (fG t m.states []) [])] [] 0=some xs/\jd m t=(⟨m.kind,0,m.lead,xs⟩,0)/\bM ⟨m.kind,0,m.lead,xs⟩=true) ∨
   ∃ z:Nat,jd m t=(rz,z)/\z≠0/\PG m t (z:Int)=true:=by
 unfold jd;by_cases ht:l7 t=true
 ·rw [if_pos ⟨hm,ht⟩]
  cases h:lC m t (fG t m.states []) 3001 0 [(m.start,dE (fG t m.states []) [])] [] 0 with
  | some xs=>exact Or.inl ⟨ht,xs,rfl,rfl,Sc hm h⟩
  | none =>
   refine Or.inr ⟨2,rfl,by omega,?_⟩;have:=Sb hm h;unfold PG;rw [if_pos ⟨hm,ht⟩]
   simpa using this
 ·rw [if_neg (fun h=>ht h.2)]
  refine Or.inr ⟨1,rfl,by omega,?_⟩;unfold PG;rw [if_neg (fun h=>ht h.2)];simp
theorem Sy {m:aQ} (hm:bM m=true):oH 9223372036854775807 m.states:=by
 intro s hs;obtain⟨-,-,-,h4,h5⟩:=kV.1 hm;obtain⟨h6,h7⟩:=pg.1 (h4 s hs);have ha:=xg hs;refine⟨?_,fun a h=>?_,by omega⟩
 ·rcases h6 with h|h
  ·rw [h];simp
  ·have:=Mr (Pv h).1;omega
 ·have:=Mr (Pv (mh.1 (h7 a h)).2.2.2).1;omega
theorem Rc {m:aQ} {t:List Bs} (h:O3 m t=false):m.states.length<=5/\dh m.states<=20/\t.length<=30:=by
 unfold O3 at h;simp only [Bool.or_eq_false_iff,decide_eq_false_iff_not] at h;omega
theorem Q6 {m:aQ} (h:PQ m.states) (ha:dh m.states<=20):oH 9223372036854775807 m.states/\∀ s∈m.states,s.arcs.length<=20:=by
 refine⟨fun s hs=>?_,fun s hs=>?_⟩
 ·obtain⟨h1,h2,h3⟩:=h s hs
  have:=xg hs;exact⟨by omega,fun a hx=>by have:=h3 a hx;omega,by omega⟩
 ·have:=xg hs;omega
theorem RN {W w':World} {R:Except Nat Bs} {e:Ending} (h:qN W R e w'):Below W.heap.size W w'/\∃ (v:Bs) (f:Nat),e=.returned (.tuple #[S v,.int .i64 (f:Int)])/\(f=0->R=.ok v):=by
 unfold qN at h;obtain⟨h1,h2⟩:=h;refine⟨h1,?_⟩
 cases R with
 | ok x=>exact⟨x,0,h2.1,fun _=>rfl⟩
 | error x=>exact⟨[],x,h2.1,fun h=>absurd h h2.2⟩
theorem Qz {a b:Bs} (h:a=b):(a == b)=true:=by subst h;simp
theorem Rz {a b:Bs} (h:a≠b):(a == b)=false:=by simpa using h
theorem Tw {x:List Int} {t:List Bs} (hw:iY x=true) (ht:l7 t=true):stripL x t=(x.filter fun s=>(dD t s).isNone,jH (x.filterMap (dD t))):=by
 unfold stripL;unfold iY at hw;simp only [Bool.and_eq_true,decide_eq_true_eq] at hw;rw [if_pos ⟨hw.1,ht,hw.2⟩]
theorem RX {m:aQ} {x:List Int} (hw:iY x=true) (ha:qQ m=true) (hm:bM m=true):uV m x=qX m x:=by
 unfold uV;rw [if_pos ⟨hm,hw⟩,if_pos ha]
theorem TA (m:aQ) (A:Option Addr) (c:Nat) (At:Option Addr) (ct:Nat) (t:List Bs) (Ax:Option Addr) (cx:Nat) (x:List Int) (w:World) (hT:fD w) (hS:dY w A m.states) (hl:m.states.length<=140737488355328) (Uu:m.lead.length<=140737488355328) (hh:PQ m.states) (hV:ay w At (t.map S)) (hX:ay w Ax (x.map IV)) (hN:∀ s∈x,-9223372036854775808<=s/\s<=9223372036854775807) :
  Calls Tryz.prog 9 #[di m A c,.slice At t.length ct,.slice Ax x.length cx] w fun e w'=>e=.returned (.bool true)/\Below w.heap.size w w':=by
 have pK:∀ W,Below w.heap.size w W->Calls Tryz.prog 17 #[] W fun e w'=>e=.returned (.bool true)/\Below W.heap.size W w':=fun W hB=>tq W (hT.below hB)
 have pL:∀ W,Below w.heap.size w W->Calls Tryz.prog 26 #[di m A c,.slice At t.length ct] W fun e w'=>e=.returned (.bool (O3 m t))/\Below W.heap.size W w':=fun W hB=>Sr m A At c ct t W (hS.below hB) fun s hs=>(hh s hs).2.1
 have pW:∀ W,Below w.heap.size w W->Calls Tryz.prog 27 #[.slice Ax x.length cx] W fun e w'=>e=.returned (.bool (iY x))/\W=w':=fun W hB=>DT Ax cx x W (hX.below hB)
 have pA:O3 m t=false->∀ W,Below w.heap.size w W->Calls Tryz.prog 33 #[di m A c] W fun e w'=>e=.returned (.bool (qQ m))/\Below W.heap.size W w':=fun h W hB=>KJ m A c W (hS.below hB) hl (by omega) (Q6 hh (Rc h).2.1).1
 have hLen:x.length<=10\/10<x.length:=by omega
 by_cases WO:O3 m t=false/\x.length<=10/\iY x=true/\qQ m=true
 ·obtain⟨gL,gX,gW,gA⟩:=WO
  obtain⟨l5,l20,l30⟩:=Rc gL;have hsw:=Q6 hh l20;have hm:bM m=true:=by
   unfold qQ at gA;rw [Bool.and_eq_true] at gA;exact gA.1
  have pA:=pA gL;rw [gL] at pL;rw [gW] at pW;rw [gA] at pA;have pE:∀ W,Below w.heap.size w W->Calls Tryz.prog 13 #[di m A c,.slice At t.length ct] W (pQ W (jd m t)):=fun W hB=>G6 m A At c ct t W (hT.below hB) (hS.below hB) (hV.below hB) hl (by omega) hsw.1
  rcases Sa (t:=t) hm with⟨ht,xs,hgo,hel,hn⟩|⟨z,hel,hz,aCE⟩
  ·
   rw [hel] at pE;have pZ:∀ W,Calls Tryz.prog 34 #[.int .i64 m.kind] W fun e w'=>e=.returned (S (aF m.kind))/\W=w':=fun W=>o9 m.kind W
   have pV:∀ W,Below w.heap.size w W->Calls Tryz.prog 16 #[di m A c,.slice Ax x.length cx] W fun e w'=>Below W.heap.size W w'/\∃ (v:Bs) (f:Nat),e=.returned (.tuple #[S v,.int .i64 (f:Int)])/\(f=0->qX m x=.ok v):=fun W hB=>by
    have:=KL Rv m A Ax c cx x W (hS.below hB) hl (by omega) hsw.1 (hX.below hB) fun _ _=>trivial
    rw [RX gW gA hm] at this;exact this.mono fun e w' h=>RN h
   have pS:∀ W,Below w.heap.size w W->Calls Tryz.prog 23 #[.slice Ax x.length cx,.slice At t.length ct] W (ET W (x.filter (fun s=>(dD t s).isNone),jH (x.filterMap (dD t)))):=fun W hB=>by
    rw [<-Tw gW ht];exact ND Ax At cx ct x t W (hT.below hB) (hX.below hB) (hV.below hB) (by omega) hN
   have pD:∀ (An AX:Option Addr) (cn cX:Nat) (y:List Int) W,dY W An xs->ay W AX (y.map IV)->Calls Tryz.prog 35 #[di ⟨m.kind,0,m.lead,xs⟩ An cn,.slice AX y.length cX] W fun e w'=>Below W.heap.size W w'/\∃ (v:Bs) (f:Nat),e=.returned (.tuple #[S v,.int .i64 (f:Int)])/\(f=0->qX ⟨m.kind,0,m.lead,xs⟩ y=.ok v):=fun An AX cn cX y W h1 h2=>by
    obtain⟨-,k2,k3,-,-⟩:=kV.1 hn;have:=K8 Rv ⟨m.kind,0,m.lead,xs⟩ An AX cn cX y W h1 (by have:=k2.2.1;omega) (by have:=Mr (Pv k3).1;show m.lead.length<=_;omega) (Sy hn) h2 fun _ _=>trivial
    exact this.mono fun e w' h=>RN h
   obtain⟨F1,F2⟩:=TB hm gA hgo x;have d10:decide ((10:Int)<(x.length:Int))=false:=decide_eq_false (by omega);clear hLen hS hl Uu hh hV hN hT gL gX gW gA l5 l20 l30 hsw hm hel hn hgo;unfold pQ at pE;unfold ET at pS;simp only at pE pS F1 F2;generalize x.filter (fun s=>(dD t s).isNone)=y at *;generalize jH (x.filterMap (dD t))=L at *;generalize qX m x=RV at *;generalize qX (⟨m.kind,0,m.lead,xs⟩:aQ)=DN at *;generalize aF m.kind=Z at *;unfold di S at *;obtain⟨kd,st,ld,ss⟩:=m;simp only at *;generalize (⟨ld.toArray⟩:ByteArray)=Ld at *;have g0:=heap_alloc_new w (.cells #[.int .i64 kd,.int .i64 st,.string Ld,.slice A ss.length c] 30);have hb0:Below w.heap.size w (w.alloc (.cells #[.int .i64 kd,.int .i64 st,.string Ld,.slice A ss.length c] 30)):=(Below.refl _ _).alloc (Nat.le_refl _) _;obtain⟨W1,hW1⟩:∃ W1,W1=w.alloc (.cells #[.int .i64 kd,.int .i64 st,.string Ld,.slice A ss.length c] 30):=⟨_,rfl⟩;rw [<-hW1] at g0 hb0;obtain⟨q0,q1,q2,q3⟩:=OO g0;go_enter Tryz.func9,Tryz.ntmps9;go_upto_region 1 with (fail)
   rw [<-hW1];clear hW1;have pL1:=pL W1 hb0;clear pL;go_upto_region 3 with (first|(go_at_call 26;refine pL1.mono ?_;rintro e w3 ⟨rfl,hb3⟩;have hB3:=ae hb0 hb3;have pW3:=pW w3 hB3;have pA3:=pA w3 hB3;have g3:=(hb3.block _ (lt_of_block g0)).trans g0;obtain⟨q30,q31,q32,q33⟩:=OO g3)|(go_at_call 27;refine pW3.mono ?_;rintro e w5 ⟨rfl,rfl⟩)|(go_at_call 33;refine pA3.mono ?_;rintro e w6 ⟨rfl,hb6⟩;have TV:=ae hB3 hb6;have g6:=(hb6.block _ (lt_of_block g3)).trans g3;obtain⟨q60,q61,q62,q63⟩:=OO g6;have pE6:=pE w6 TV))
   go_upto_region 4 with (first|(go_at_call 13;refine pE6.mono ?_;rintro e w7 ⟨An,cn,rfl,We,Vn⟩))
   have Vl:=(ae TV Vn).alloc (ae TV Vn).size (.cells #[.int .i64 kd,.int .i64 0,.string Ld,.slice An xs.length cn] 30);have g7:=((Vn.alloc Vn.size (.cells #[.int .i64 kd,.int .i64 0,.string Ld,.slice An xs.length cn] 30)).block _ (lt_of_block g6)).trans g6;have k7:=heap_alloc_new w7 (.cells #[.int .i64 kd,.int .i64 0,.string Ld,.slice An xs.length cn] 30);have We:=We.below ((Below.refl w7.heap.size w7).alloc (Nat.le_refl _) (.cells #[.int .i64 kd,.int .i64 0,.string Ld,.slice An xs.length cn] 30));obtain⟨b7,YD⟩:∃ b7,b7=w7.heap.size:=⟨_,rfl⟩;obtain⟨W7,Xp⟩:∃ W7,W7=w7.alloc (.cells #[.int .i64 kd,.int .i64 0,.string Ld,.slice An xs.length cn] 30):=⟨_,rfl⟩;rw [<-Xp,<-YD];rw [<-Xp] at Vl g7 k7 We;rw [<-YD] at k7;obtain⟨q70,q71,q72,q73⟩:=OO g7;obtain⟨k70,k71,k72,k73⟩:=OO k7;clear Xp YD Vn pE6 pE TV g6 q60 q61 q62 q63 pA3 pW3 pA pW hb6 hB3 g3 q30 q31 q32 q33 hb3 pL1 q0 q1 q2 q3 g0 hb0;by_cases XQ:60<xs.length
   ·have d60:decide ((60:Int)<(xs.length:Int))=true:=decide_eq_true (by omega)
    clear XQ;go_wp2_with (first|(go_at_call 17;refine (pK _ Vl).mono ?_;rintro e w9 ⟨rfl,Xv⟩));go_returns;exact⟨rfl,ae Vl Xv⟩
   have d60:decide ((60:Int)<(xs.length:Int))=false:=decide_eq_false (by omega);clear XQ;have pZ7:=pZ W7;have pV7:=pV W7 Vl;go_upto_region 10 with (first|(go_at_call 34;refine pZ7.mono ?_;rintro e w8 ⟨rfl,rfl⟩)|(go_at_call 16;refine pV7.mono ?_;rintro e w9 ⟨Xv,v,f,rfl,hv⟩))
   have V8:=ae Vl Xv;have pS9:=pS w9 V8;go_upto_region 11 with (first|(go_at_call 23;refine pS9.mono ?_;rintro e w10 ⟨AY,cY,rfl,hY,WG⟩))
   have aB9:=ae Xv WG;have U8:=ae V8 WG;have k10:=(aB9.block _ (lt_of_block k7)).trans k7;obtain⟨k100,k101,k102,k103⟩:=OO k10;have aBQ:=We.below aB9;have pD10:=pD An AY cn cY _ w10 aBQ hY;go_upto_region 12 with (first|(go_at_call 35;refine pD10.mono ?_;rintro e w11 ⟨VA,u,g,rfl,hu⟩))
   have Uh:=ae U8 VA;have k11:=(VA.block _ (lt_of_block k10)).trans k10;obtain⟨k110,k111,k112,k113⟩:=OO k11;have hS11:=aBQ.below VA;have pD11:=pD An Ax cn cx x w11 hS11 (hX.below Uh);clear pV pS pV7 pS9 pD10 pZ7 pZ;have nz:∀ (a:Nat),a≠0->((a:Int) != 0)=true/\((a:Int) == 0)=false:=fun a h=>by constructor <;> simp <;> omega
   have ze:∀ (a:Nat),a=0->((a:Int) != 0)=false/\((a:Int) == 0)=true:=fun a h=>by subst h;constructor <;> rfl
   by_cases f0:f=0
   rotate_left
   ·obtain⟨fa,fb⟩:=nz f f0
    clear f0 nz ze;go_wp2_with (first|(go_at_call 17;refine (pK _ Uh).mono ?_;rintro e w12 ⟨rfl,UC⟩));go_returns;exact⟨rfl,ae Uh UC⟩
   obtain⟨fa,fb⟩:=ze f f0;by_cases h0:g=0
   rotate_left
   ·obtain⟨ga,gb⟩:=nz g h0
    clear f0 h0 nz ze;go_wp2_with (first|(go_at_call 17;refine (pK _ Uh).mono ?_;rintro e w12 ⟨rfl,UC⟩));go_returns;exact⟨rfl,ae Uh UC⟩
   obtain⟨ga,gb⟩:=ze g h0;have G1:=F1 v u (hv f0) (hu h0);clear F1 hv hu f0 h0;by_cases hc:L=true/\v≠Z/\u=Z
   ·exact absurd hc.2.2 (G1 hc.1 hc.2.1)
   have Vq:=@Qz v Z;have XH:=@Rz v Z;have huz:=@Qz u Z;have XF:=@Rz u Z;have F2':∀ u2,DN x=.ok u2->y.length<x.length->(u2 == Z)=true:=fun u2 h1 h2=>Qz (F2 u2 h1 h2)
   have hL:(L=false)\/(L=true/\v=Z)\/(L=true/\v≠Z/\u≠Z):=by
    cases L with
    | false=>exact Or.inl rfl
    | true =>
     by_cases e:v=Z
     ·exact Or.inr (Or.inl ⟨rfl,e⟩)
     ·exact Or.inr (Or.inr ⟨rfl,e,G1 rfl e⟩)
   clear hc G1 F2;rcases hL with rfl|⟨rfl,e⟩|⟨rfl,e,e2⟩
   rotate_left
   have va:=Vq e
   rotate_left
   have va:=XH e;have ua:=XF e2
   rotate_left
   all_goals
    clear Vq XH huz XF;go_upto_region 16 with (fail)
    by_cases hlen:y.length<x.length
    rotate_left
    ·have dl:decide (y.length<x.length)=false:=decide_eq_false hlen
     clear hlen nz ze F2';go_wp2_with (first|(go_at_call 17;refine (pK _ Uh).mono ?_;rintro e w12 ⟨rfl,UC⟩));go_returns;exact⟨rfl,ae Uh UC⟩
    have dl:decide (y.length<x.length)=true:=decide_eq_true hlen;go_upto_region 18 with (first|(go_at_call 35;refine pD11.mono ?_;rintro e w13 ⟨VB,u2,h2,rfl,hu2⟩))
    have Uj:=ae Uh VB;by_cases e3:h2=0
    ·obtain⟨na,nb⟩:=ze h2 e3
     have da:=F2' u2 (hu2 e3) hlen;clear hlen nz ze F2' hu2 e3;go_wp2_with (first|(go_at_call 17;refine (pK _ Uj).mono ?_;rintro e w14 ⟨rfl,TR⟩));go_returns;exact⟨rfl,ae Uj TR⟩
    ·obtain⟨na,nb⟩:=nz h2 e3
     clear hlen nz ze F2' hu2 e3;go_wp2_with (first|(go_at_call 17;refine (pK _ Uj).mono ?_;rintro e w14 ⟨rfl,TR⟩));go_returns;exact⟨rfl,ae Uj TR⟩
  ·
   rw [hel] at pE;have pR:∀ W,Below w.heap.size w W->Calls Tryz.prog 30 #[di m A c,.slice At t.length ct,.int .i64 (z:Int)] W fun e w'=>e=.returned (.bool true)/\Below W.heap.size W w':=fun W hB=>by
    have:=SQ m A At c ct t (z:Int) W (hS.below hB) (hV.below hB) l5 (by omega) hsw.1 hsw.2 l20 l30;rwa [aCE] at this
   have z0:((z:Int) != 0)=true:=by simp;omega
   have z1:((z:Int) == 0)=false:=by simp;omega
   have z2:¬ (z:Int)=0:=by omega
   have d10:decide ((10:Int)<(x.length:Int))=false:=decide_eq_false (by omega);clear hLen hS hl Uu hh hV hX hN hT gL gX gW gA l5 l20 l30 hsw hm hel hz aCE;unfold pQ at pE;simp only at pE;unfold rz at pE;unfold di S at *;obtain⟨kd,st,ld,ss⟩:=m;simp only at *;generalize (⟨ld.toArray⟩:ByteArray)=Ld at *;have g0:=heap_alloc_new w (.cells #[.int .i64 kd,.int .i64 st,.string Ld,.slice A ss.length c] 30);have hb0:Below w.heap.size w (w.alloc (.cells #[.int .i64 kd,.int .i64 st,.string Ld,.slice A ss.length c] 30)):=(Below.refl _ _).alloc (Nat.le_refl _) _;obtain⟨W1,hW1⟩:∃ W1,W1=w.alloc (.cells #[.int .i64 kd,.int .i64 st,.string Ld,.slice A ss.length c] 30):=⟨_,rfl⟩;rw [<-hW1] at g0 hb0;obtain⟨q0,q1,q2,q3⟩:=OO g0;go_enter Tryz.func9,Tryz.ntmps9;go_upto_region 1 with (fail)
   rw [<-hW1];clear hW1;have pL1:=pL W1 hb0;clear pL;go_upto_region 3 with (first|(go_at_call 26;refine pL1.mono ?_;rintro e w3 ⟨rfl,hb3⟩;have hB3:=ae hb0 hb3;have pW3:=pW w3 hB3;have pA3:=pA w3 hB3;have g3:=(hb3.block _ (lt_of_block g0)).trans g0;obtain⟨q30,q31,q32,q33⟩:=OO g3)|(go_at_call 27;refine pW3.mono ?_;rintro e w5 ⟨rfl,rfl⟩)|(go_at_call 33;refine pA3.mono ?_;rintro e w6 ⟨rfl,hb6⟩;have TV:=ae hB3 hb6;have g6:=(hb6.block _ (lt_of_block g3)).trans g3;obtain⟨q60,q61,q62,q63⟩:=OO g6;have pE6:=pE w6 TV))
   go_upto_region 4 with (first|(go_at_call 13;refine pE6.mono ?_;rintro e w7 ⟨An,cn,rfl,We,Vn⟩))
   have Vl:=(ae TV Vn).alloc (ae TV Vn).size (.cells #[.int .i64 0,.int .i64 0,.string ⟨#[]⟩,.slice An 0 cn] 30);have g7:=((Vn.alloc Vn.size (.cells #[.int .i64 0,.int .i64 0,.string ⟨#[]⟩,.slice An 0 cn] 30)).block _ (lt_of_block g6)).trans g6;obtain⟨q70,q71,q72,q73⟩:=OO g7;obtain⟨W7,Xp⟩:∃ W7,W7=w7.alloc (.cells #[.int .i64 0,.int .i64 0,.string ⟨#[]⟩,.slice An 0 cn] 30):=⟨_,rfl⟩;rw [<-Xp];rw [<-Xp] at Vl q70 q71 q72 q73;clear Xp g7;go_wp2_with (first|(go_at_call 30;refine (pR W7 Vl).mono ?_;rintro e w8 ⟨rfl,Zv⟩;have hB8:=ae Vl Zv)|(go_at_call 17;refine (pK _ hB8).mono ?_;rintro e w9 ⟨rfl,Xv⟩));go_returns;exact⟨rfl,ae hB8 Xv⟩
 ·
  have hg:O3 m t=true\/(O3 m t=false/\10<x.length)\/(O3 m t=false/\x.length<=10/\iY x=false)\/(O3 m t=false/\x.length<=10/\iY x=true/\qQ m=false):=by
   cases h1:O3 m t with
   | true=>exact Or.inl rfl
   | false =>
    rcases hLen with h2|h2
    ·cases h3:iY x with
     | false=>exact Or.inr (Or.inr (Or.inl ⟨rfl,h2,rfl⟩))
     | true =>
      cases h4:qQ m with
      | false=>exact Or.inr (Or.inr (Or.inr ⟨rfl,h2,rfl,rfl⟩))
      | true=>exact absurd ⟨h1,h2,h3,h4⟩ WO
    ·exact Or.inr (Or.inl ⟨rfl,h2⟩)
  clear WO hLen hS hl Uu hh hV hX hN hT;generalize O3 m t=L at *;generalize iY x=Wd at *;generalize qQ m=Ac at *;unfold di S at *;obtain⟨kd,st,ld,ss⟩:=m;simp only at *;generalize (⟨ld.toArray⟩:ByteArray)=Ld at *;have g0:=heap_alloc_new w (.cells #[.int .i64 kd,.int .i64 st,.string Ld,.slice A ss.length c] 30);have hb0:Below w.heap.size w (w.alloc (.cells #[.int .i64 kd,.int .i64 st,.string Ld,.slice A ss.length c] 30)):=(Below.refl _ _).alloc (Nat.le_refl _) _;obtain⟨W1,hW1⟩:∃ W1,W1=w.alloc (.cells #[.int .i64 kd,.int .i64 st,.string Ld,.slice A ss.length c] 30):=⟨_,rfl⟩;rw [<-hW1] at g0 hb0;obtain⟨q0,q1,q2,q3⟩:=OO g0;go_enter Tryz.func9,Tryz.ntmps9;go_upto_region 1 with (fail)
  rw [<-hW1];clear hW1;have pL1:=pL W1 hb0;clear pL;rcases hg with rfl|⟨rfl,h2⟩|⟨rfl,h2,rfl⟩|⟨rfl,h2,rfl,rfl⟩
  ·go_wp2_with (first|(go_at_call 26;refine pL1.mono ?_;rintro e w3 ⟨rfl,hb3⟩;have hB3:=ae hb0 hb3)|(go_at_call 17;refine (pK _ hB3).mono ?_;rintro e w4 ⟨rfl,hb4⟩))
   go_returns;exact⟨rfl,ae hB3 hb4⟩
  ·have d10:decide ((10:Int)<(x.length:Int))=true:=decide_eq_true (by omega)
   clear h2;go_wp2_with (first|(go_at_call 26;refine pL1.mono ?_;rintro e w3 ⟨rfl,hb3⟩;have hB3:=ae hb0 hb3)|(go_at_call 17;refine (pK _ hB3).mono ?_;rintro e w4 ⟨rfl,hb4⟩));go_returns;exact⟨rfl,ae hB3 hb4⟩
  ·have d10:decide ((10:Int)<(x.length:Int))=false:=decide_eq_false (by omega)
   clear h2;go_wp2_with (first|(go_at_call 26;refine pL1.mono ?_;rintro e w3 ⟨rfl,hb3⟩;have hB3:=ae hb0 hb3;have pW3:=pW w3 hB3)|(go_at_call 27;refine pW3.mono ?_;rintro e w5 ⟨rfl,rfl⟩)|(go_at_call 17;refine (pK _ hB3).mono ?_;rintro e w4 ⟨rfl,hb4⟩));go_returns;exact⟨rfl,ae hB3 hb4⟩
  ·have d10:decide ((10:Int)<(x.length:Int))=false:=decide_eq_false (by omega)
   have pA:=pA rfl;clear h2;go_wp2_with (first|(go_at_call 26;refine pL1.mono ?_;rintro e w3 ⟨rfl,hb3⟩;have hB3:=ae hb0 hb3;have pW3:=pW w3 hB3;have pA3:=pA w3 hB3;have g3:=(hb3.block _ (lt_of_block g0)).trans g0;obtain⟨q30,q31,q32,q33⟩:=OO g3)|(go_at_call 27;refine pW3.mono ?_;rintro e w5 ⟨rfl,rfl⟩)|(go_at_call 33;refine pA3.mono ?_;rintro e w6 ⟨rfl,hb6⟩;have TV:=ae hB3 hb6)|(go_at_call 17;refine (pK _ TV).mono ?_;rintro e w4 ⟨rfl,hb4⟩));go_returns;exact⟨rfl,ae TV hb4⟩
end Go.Proofs.YtppnecgeboonbaaGreatDoor
