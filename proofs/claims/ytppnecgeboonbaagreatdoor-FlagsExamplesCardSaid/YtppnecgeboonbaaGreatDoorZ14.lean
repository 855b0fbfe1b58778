/- Walks of rat: must, parse. -/
import Derived.Test.YtppnecgeboonbaaGreatDoorZ13
import Derived.Deep.RegionHeld2
import Derived.Defers
import Derived.Recover
namespace Go.Proofs.YtppnecgeboonbaaGreatDoor.Rat3
set_option maxRecDepth 100000
set_option linter.unusedVariables false
set_option maxHeartbeats 4000000
open Go.RowKit
def ut (x:Bool × Bs × Bs):Value:=.agg #[.bool x.1,.string ⟨x.2.1.toArray⟩,.string ⟨x.2.2.toArray⟩]
theorem KC (l:Bs) (c:UInt8):Lib.hasPrefix l [c]=decide (l.head? = some c):=by
 cases l with
 | nil=>simp [Lib.hasPrefix]
 | cons x r =>
  simp only [Lib.hasPrefix,List.isPrefixOf,List.head?_cons,Option.some.injEq,Bool.and_true];by_cases h:c=x
  ·subst h;simp
  ·simp [h,Ne.symm h]
theorem Dq (l:Bs):bY l=(Lib.hasPrefix l [45],Lib.trimPrefix l [45]):=by
 unfold bY Lib.trimPrefix;rw [KC];by_cases h:l.head? = some 45
 ·simp [h]
 ·simp [h]
theorem Bf (c:UInt8):∀ l:Bs,(fM c l=none/\Lib.index l [c]=-1)\/∃ p,fM c l=some p/\Lib.index l [c]=(p.1.length:Int)
 | []=>Or.inl ⟨rfl,rfl⟩
 | x::r=>by
  have hp:[c].isPrefixOf (x::r)=(c == x):=by simp [List.isPrefixOf]
  by_cases h:x=c
  ·subst h
   exact Or.inr ⟨([],r),by simp [fM],by unfold Lib.index;rw [hp];simp⟩
  ·have hb:(c == x)=false:=beq_eq_false_iff_ne.2 (fun e=>h e.symm)
   rcases Bf c r with⟨h1,h2⟩|⟨p,h1,h2⟩
   ·exact Or.inl ⟨by simp [fM,h,h1],by unfold Lib.index;rw [hp,hb,h2];rfl⟩
   ·refine Or.inr ⟨(x::p.1,p.2),by simp [fM,h,h1],?_⟩
    unfold Lib.index;have hn:((p.1.length:Int) == -1)=false:=beq_eq_false_iff_ne.2 (by omega);rw [hp,hb,h2,hn];simp
theorem F5 (c:UInt8) (l:Bs):Lib.cut l [c]=match fM c l with
  | some p=>(p.1,p.2,true)
  | none=>(l,[],false):=by
 unfold Lib.cut;rcases Bf c l with⟨h1,h2⟩|⟨p,h1,h2⟩
 ·rw [h1,h2];rfl
 ·rw [h1,h2]
  obtain⟨e1,_⟩:=nM.1 (show fM c l=some (p.1,p.2) by rw [h1]);rw [if_pos (by omega)]
  conv=>lhs;rw [e1]
  simp
theorem KQ (r:Bs):Lib.cut r [47]=((cB r).2.1,if (cB r).1=true then (cB r).2.2 else [],(cB r).1):=by
 rw [F5];unfold cB
 cases h:fM 47 r with
 | none=>simp
 | some p=>simp
theorem KR {r:Bs} (h:(cB r).1=false):(cB r).2.2=[49]:=(yE r).2 h
theorem uo (c:ByteArray) (w:World):Calls Tryz.prog 171 #[.string c,.int .i64 0] w fun e w'=>e=.returned (.string c)/\w=w':=by
 go_enter Tryz.func171,Tryz.ntmps171;go_wp2_with fail;go_returns;exact⟨rfl,rfl⟩
theorem qg {s:ByteArray} {n:Nat} (h:s.data.toList=af n):(s.toList == [49])=decide (n=1):=by
 rw [Lib.toList_data,h];by_cases h0:n=1
 ·subst h0;rfl
 ·have:af n≠[49]:=fun e=>h0 (by rw [<-fq n,e];rfl)
  rw [beq_eq_false_iff_ne.2 this];simp [h0]
theorem dU {w w':World} {b:Nat} (h:w'.heap[b]? = w.heap[b]?) (o:Nat) (hf:w.frozen? ⟨b,o,none⟩=false):w'.frozen? ⟨b,o,none⟩=false:=by
 unfold World.frozen? at hf ⊢;rw [h];exact hf
theorem fO (w:World) (k:Nat) (o:Nat) (v:Value) (h:(#[Value.bool false,.string ⟨#[]⟩,.string ⟨#[]⟩]:Array Value)[o]? = some v):((w.alloc (.cells #[.bool false,.string ⟨#[]⟩,.string ⟨#[]⟩] 215)).drewN k).cell? ⟨w.heap.size,o,none⟩=some v:=by
 show (w.alloc _).cell? _=_;rw [cell_of_row (w.alloc _) w.heap.size o _ _ (0,0) (heap_alloc_new w _)];exact h
theorem fP (w:World) (k:Nat) (o:Nat):((w.alloc (.cells #[.bool false,.string ⟨#[]⟩,.string ⟨#[]⟩] 215)).drewN k).frozen? ⟨w.heap.size,o,none⟩=false:=by
 show (w.alloc _).frozen? _=_;unfold World.frozen?;rw [heap_alloc_new];simp
theorem lM (s:ByteArray) (w:World) (hT:bK w) (hs:s.size<=1000000) :
  Calls Tryz.prog 174 #[.string s] w fun e w'=>e=.returned (.tuple #[ut ((aI s.data.toList).getD (false,[],[])),.bool (aI s.data.toList).isSome])/\Below w.heap.size w w':=by
 have hcp:=fun W=>Tryz.strings_CutPrefix s ⟨#[45]⟩ W
 have e0:((⟨#[45]⟩:ByteArray).data.toList)=[45]:=rfl;have e1:Lib.hasPrefix s.data.toList [45]=(bY s.data.toList).1:=by rw [Dq]
 have e2:Lib.trimPrefix s.data.toList [45]=(bY s.data.toList).2:=by rw [Dq]
 rw [e0,e1,e2] at hcp;have HP:Hid (aI s.data.toList=if mW (bY s.data.toList).1 (cB (bY s.data.toList).2).1 (cB (bY s.data.toList).2).2.1 (cB (bY s.data.toList).2).2.2=true then some ((bY s.data.toList).1,(cB (bY s.data.toList).2).2.1,(cB (bY s.data.toList).2).2.2) else none):=rfl;have hlen:(bY s.data.toList).2.length<=s.size:=by
  have:=congrArg List.length (Dp s.data.toList);rw [List.length_append,<-Lib.size_eq] at this;omega
 obtain⟨R,hR⟩:∃ R:ByteArray,(⟨(bY s.data.toList).2.toArray⟩:ByteArray)=R:=⟨_,rfl⟩;have hRd:R.data.toList=(bY s.data.toList).2:=by rw [<-hR]
 have hRs:R.size<=1000000:=by rw [Lib.size_eq,hRd];omega
 rw [hR] at hcp;rw [<-hRd] at HP;have hct:=fun W m hm=>Tryz.strings_Cut R ⟨#[47]⟩ m W (by omega) hm
 have e3:((⟨#[47]⟩:ByteArray).data.toList)=[47]:=rfl;rw [e3,KQ] at hct;have hrd:=fun h=>KR (r:=R.data.toList) h
 have hre:=(yE R.data.toList).1;obtain⟨A,hA⟩:∃ A:ByteArray,(⟨(cB R.data.toList).2.1.toArray⟩:ByteArray)=A:=⟨_,rfl⟩;have hAd:(cB R.data.toList).2.1=A.data.toList:=by rw [<-hA]
 have hAs:A.size<=1000000:=by
  have:=congrArg List.length hre;rw [List.length_append,<-Lib.size_eq,hAd,<-Lib.size_eq] at this;omega
 have hDs:(cB R.data.toList).2.2.length<=1000000:=by
  by_cases hf:(cB R.data.toList).1=true
  ·have:=congrArg List.length hre
   rw [List.length_append,<-Lib.size_eq,if_pos hf,List.length_cons] at this;omega
  ·rw [hrd (by simpa using hf)];simp
 obtain⟨D,hD⟩:∃ D:ByteArray,(⟨(cB R.data.toList).2.2.toArray⟩:ByteArray)=D:=⟨_,rfl⟩;have hDd:(cB R.data.toList).2.2=D.data.toList:=by rw [<-hD]
 rw [hDd,<-Lib.size_eq] at hDs;rw [hAd,hDd] at HP;simp only [hAd,hDd] at hct hrd;clear hre hA hD hAd hDd hR hRd hlen e0 e1 e2 e3;generalize (bY s.data.toList).1=neg at *;generalize (cB R.data.toList).1=fr at *;obtain⟨M,hM⟩:=hT.mx;have vA:=fun W=>gI A W (by omega)
 have vD:=fun W=>gI D W (by omega)
 have HRD:=Lib.hid hrd;have hA':(⟨A.data.toList.toArray⟩:ByteArray)=A:=qa rfl;have hD':(⟨D.data.toList.toArray⟩:ByteArray)=D:=qa rfl;simp only [hA'] at hct;have hb0:Below w.heap.size w (w.alloc (.cells #[.bool false,.string ⟨#[]⟩,.string ⟨#[]⟩] 215)):=(Below.refl _ w).alloc (Nat.le_refl _) _;have hM0:=(hb0.cell (ax hM)).trans hM;have hgd:aj A.data.toList=true->aj D.data.toList=true->gH A.data.toList D.data.toList=(af (Nat.gcd (ag A.data.toList) (ag D.data.toList)),0):=fun h1 h2=>by unfold gH;rw [if_pos ⟨h1,h2⟩]
 have ng:=fun (h1:aj A.data.toList=true) (h2:aj D.data.toList=true) W h=>(show Calls Tryz.prog 196 #[.string A,.string D] W (aA W (af (Nat.gcd (ag A.data.toList) (ag D.data.toList)),0)) by rw [<-hgd h1 h2];exact JF A D W h (by omega) (by omega))
 have hG:(ByteArray.toList ⟨(af (Nat.gcd (ag A.data.toList) (ag D.data.toList))).toArray⟩ == [49])=decide (Nat.gcd (ag A.data.toList) (ag D.data.toList)=1):=qg rfl;obtain⟨F,hF⟩:∃ F:ByteArray,(⟨(af (Nat.gcd (ag A.data.toList) (ag D.data.toList))).toArray⟩:ByteArray)=F:=⟨_,rfl⟩;unfold aA at ng;simp only [hF] at ng;rw [hF] at hG;unfold mW at HP;have q5:(A.toList == [48])=(A.data.toList == [48]):=by rw [Lib.toList_data]
 have q6:(D.toList == [48])=(D.data.toList == [48]):=by rw [Lib.toList_data]
 have q7:(D.toList == [49])=(D.data.toList == [49]):=by rw [Lib.toList_data]
 rw [<-hG,<-q5,<-q6,<-q7] at HP;rw [<-Lib.size_eq,<-Lib.size_eq] at HP;clear hM hrd hF hG hgd q5 q6 q7
 cases fr with
 | true =>
  simp only [if_true,hD'] at hct;clear hA' hD' HRD;obtain⟨b1,h1⟩:∃ b,aj A.data.toList=b:=⟨_,rfl⟩;obtain⟨b2,h2⟩:∃ b,aj D.data.toList=b:=⟨_,rfl⟩;obtain⟨b3,h3⟩:∃ b,decide (A.size<=400)=b:=⟨_,rfl⟩;obtain⟨b4,h4⟩:∃ b,decide (D.size<=400)=b:=⟨_,rfl⟩;obtain⟨b5,h5⟩:∃ b,(A.toList == [48])=b:=⟨_,rfl⟩;obtain⟨b6,h6⟩:∃ b,(D.toList == [48])=b:=⟨_,rfl⟩;obtain⟨b7,h7⟩:∃ b,(D.toList == [49])=b:=⟨_,rfl⟩;obtain⟨b8,h8⟩:∃ b,(F.toList == [49])=b:=⟨_,rfl⟩;rw [h1,h2,h3,h4,h5,h6,h7,h8] at HP;rw [h1] at vA;rw [h2] at vD;go_enter Tryz.func174,Tryz.ntmps174
  go_wp2_with (first
   | (go_at_call 198;refine (hcp _).mono ?_;rintro e w1 ⟨rfl,rfl⟩))
  refine (hct _ M hM0).mono ?_;rintro e w2 ⟨rfl,k,rfl⟩;have hsz:w.heap.size<((w.alloc (.cells #[.bool false,.string ⟨#[]⟩,.string ⟨#[]⟩] 215)).drewN k).heap.size:=by simp
  have hbk:Below w.heap.size w ((w.alloc (.cells #[.bool false,.string ⟨#[]⟩,.string ⟨#[]⟩] 215)).drewN k):=⟨hb0.os,hb0.tape,hb0.output,hb0.size,hb0.block⟩
  cases b1 with
  | false =>
   have HPR:Hid (aI s.data.toList=none):=by rw [Hid,HP.out];rfl
   clear HP
   go_wp2_with (first
    | (go_at_call_of 192 (Value.string A);refine (vA _).mono ?_;rintro e w2 ⟨rfl,rfl⟩)
    | (go_at_call_of 192 (Value.string D);refine (vD _).mono ?_;rintro e w2 ⟨rfl,rfl⟩))
   go_returns;exact⟨by rw [HPR.out];rfl,((hbk.setCell (p:=⟨w.heap.size,0,none⟩) (Nat.le_refl _) _).setCell (p:=⟨w.heap.size,1,none⟩) (Nat.le_refl _) _).setCell (p:=⟨w.heap.size,2,none⟩) (Nat.le_refl _) _⟩
  | true =>
   cases b2 with
   | false =>
    have HPR:Hid (aI s.data.toList=none):=by rw [Hid,HP.out];rfl
    clear HP
    go_wp2_with (first
     | (go_at_call_of 192 (Value.string A);refine (vA _).mono ?_;rintro e w2 ⟨rfl,rfl⟩)
     | (go_at_call_of 192 (Value.string D);refine (vD _).mono ?_;rintro e w2 ⟨rfl,rfl⟩))
    go_returns;exact⟨by rw [HPR.out];rfl,((hbk.setCell (p:=⟨w.heap.size,0,none⟩) (Nat.le_refl _) _).setCell (p:=⟨w.heap.size,1,none⟩) (Nat.le_refl _) _).setCell (p:=⟨w.heap.size,2,none⟩) (Nat.le_refl _) _⟩
   | true =>
    cases b3 with
    | false =>
     have hl:(400:Int)<(A.size:Int):=by have:=of_decide_eq_false h3;omega
     have HPR:Hid (aI s.data.toList=none):=by rw [Hid,HP.out];rfl
     clear HP
     go_wp2_with (first
      | (go_at_call_of 192 (Value.string A);refine (vA _).mono ?_;rintro e w2 ⟨rfl,rfl⟩)
      | (go_at_call_of 192 (Value.string D);refine (vD _).mono ?_;rintro e w2 ⟨rfl,rfl⟩))
     go_returns;exact⟨by rw [HPR.out];rfl,((hbk.setCell (p:=⟨w.heap.size,0,none⟩) (Nat.le_refl _) _).setCell (p:=⟨w.heap.size,1,none⟩) (Nat.le_refl _) _).setCell (p:=⟨w.heap.size,2,none⟩) (Nat.le_refl _) _⟩
    | true =>
     have hl3:decide ((400:Int)<(A.size:Int))=false:=by have:=of_decide_eq_true h3;exact decide_eq_false (by omega)
     have hm3:(A.size:Int)<=400:=by have:=of_decide_eq_true h3;omega
     cases b4 with
     | false =>
      have hl:(400:Int)<(D.size:Int):=by have:=of_decide_eq_false h4;omega
      have HPR:Hid (aI s.data.toList=none):=by rw [Hid,HP.out];rfl
      clear HP
      go_wp2_with (first
       | (go_at_call_of 192 (Value.string A);refine (vA _).mono ?_;rintro e w2 ⟨rfl,rfl⟩)
       | (go_at_call_of 192 (Value.string D);refine (vD _).mono ?_;rintro e w2 ⟨rfl,rfl⟩))
      go_returns;exact⟨by rw [HPR.out];rfl,((hbk.setCell (p:=⟨w.heap.size,0,none⟩) (Nat.le_refl _) _).setCell (p:=⟨w.heap.size,1,none⟩) (Nat.le_refl _) _).setCell (p:=⟨w.heap.size,2,none⟩) (Nat.le_refl _) _⟩
     | true =>
      have hl4:decide ((400:Int)<(D.size:Int))=false:=by have:=of_decide_eq_true h4;exact decide_eq_false (by omega)
      have hm4:(D.size:Int)<=400:=by have:=of_decide_eq_true h4;omega
      cases neg with
      | true =>
       cases b5 with
       | true =>
        have HPR:Hid (aI s.data.toList=none):=by rw [Hid,HP.out];rfl
        clear HP
        go_wp2_with (first
         | (go_at_call_of 192 (Value.string A);refine (vA _).mono ?_;rintro e w2 ⟨rfl,rfl⟩)
         | (go_at_call_of 192 (Value.string D);refine (vD _).mono ?_;rintro e w2 ⟨rfl,rfl⟩))
        go_returns;exact⟨by rw [HPR.out];rfl,((hbk.setCell (p:=⟨w.heap.size,0,none⟩) (Nat.le_refl _) _).setCell (p:=⟨w.heap.size,1,none⟩) (Nat.le_refl _) _).setCell (p:=⟨w.heap.size,2,none⟩) (Nat.le_refl _) _⟩
       | false =>
        cases b6 with
        | true =>
         have HPR:Hid (aI s.data.toList=none):=by rw [Hid,HP.out];rfl
         clear HP
         go_wp2_with (first
          | (go_at_call_of 192 (Value.string A);refine (vA _).mono ?_;rintro e w2 ⟨rfl,rfl⟩)
          | (go_at_call_of 192 (Value.string D);refine (vD _).mono ?_;rintro e w2 ⟨rfl,rfl⟩))
         go_returns;exact⟨by rw [HPR.out];rfl,((hbk.setCell (p:=⟨w.heap.size,0,none⟩) (Nat.le_refl _) _).setCell (p:=⟨w.heap.size,1,none⟩) (Nat.le_refl _) _).setCell (p:=⟨w.heap.size,2,none⟩) (Nat.le_refl _) _⟩
        | false =>
         cases b7 with
         | true =>
          have HPR:Hid (aI s.data.toList=none):=by rw [Hid,HP.out];rfl
          clear HP
          go_wp2_with (first
           | (go_at_call_of 192 (Value.string A);refine (vA _).mono ?_;rintro e w2 ⟨rfl,rfl⟩)
           | (go_at_call_of 192 (Value.string D);refine (vD _).mono ?_;rintro e w2 ⟨rfl,rfl⟩))
          go_returns;exact⟨by rw [HPR.out];rfl,((hbk.setCell (p:=⟨w.heap.size,0,none⟩) (Nat.le_refl _) _).setCell (p:=⟨w.heap.size,1,none⟩) (Nat.le_refl _) _).setCell (p:=⟨w.heap.size,2,none⟩) (Nat.le_refl _) _⟩
         | false =>
          have ngk:=ng h1 h2
          cases b8 with
          | false =>
           have HPR:Hid (aI s.data.toList=none):=by rw [Hid,HP.out];rfl
           clear HP
           go_wp2_with (first
            | (go_at_call_of 192 (Value.string A);refine (vA _).mono ?_;rintro e w2 ⟨rfl,rfl⟩)
            | (go_at_call_of 192 (Value.string D);refine (vD _).mono ?_;rintro e w2 ⟨rfl,rfl⟩)
            | (go_at_call 196;refine (ngk _ (hT.below hbk)).mono ?_;rintro e w3 ⟨rfl,b3⟩;have hb3:=ae hbk b3;have c0:=(b3.cell (p:=⟨w.heap.size,0,none⟩) hsz).trans (fO w k 0 _ rfl);have c1:=(b3.cell (p:=⟨w.heap.size,1,none⟩) hsz).trans (fO w k 1 _ rfl);have c2:=(b3.cell (p:=⟨w.heap.size,2,none⟩) hsz).trans (fO w k 2 _ rfl);have f0:=dU (b3.block w.heap.size hsz) 0 (fP w k 0);have f1:=dU (b3.block w.heap.size hsz) 1 (fP w k 1);have f2:=dU (b3.block w.heap.size hsz) 2 (fP w k 2)))
           refine bodyPost_ret (by simp [results,Tryz.results174,c0,c1,c2,go_sem];try rfl) rfl ?_;exact⟨by rw [HPR.out];rfl,((hb3.setCell (p:=⟨w.heap.size,0,none⟩) (Nat.le_refl _) _).setCell (p:=⟨w.heap.size,1,none⟩) (Nat.le_refl _) _).setCell (p:=⟨w.heap.size,2,none⟩) (Nat.le_refl _) _⟩
          | true =>
           have HPR:Hid (aI s.data.toList=some (true,A.data.toList,D.data.toList)):=by rw [Hid,HP.out];rfl
           clear HP
           go_wp2_with (first
            | (go_at_call_of 192 (Value.string A);refine (vA _).mono ?_;rintro e w2 ⟨rfl,rfl⟩)
            | (go_at_call_of 192 (Value.string D);refine (vD _).mono ?_;rintro e w2 ⟨rfl,rfl⟩)
            | (go_at_call 196;refine (ngk _ (hT.below hbk)).mono ?_;rintro e w3 ⟨rfl,b3⟩;have hb3:=ae hbk b3;have c0:=(b3.cell (p:=⟨w.heap.size,0,none⟩) hsz).trans (fO w k 0 _ rfl);have c1:=(b3.cell (p:=⟨w.heap.size,1,none⟩) hsz).trans (fO w k 1 _ rfl);have c2:=(b3.cell (p:=⟨w.heap.size,2,none⟩) hsz).trans (fO w k 2 _ rfl);have f0:=dU (b3.block w.heap.size hsz) 0 (fP w k 0);have f1:=dU (b3.block w.heap.size hsz) 1 (fP w k 1);have f2:=dU (b3.block w.heap.size hsz) 2 (fP w k 2)))
           refine bodyPost_ret (by simp [results,Tryz.results174,c0,c1,c2,go_sem];try rfl) rfl ?_;exact⟨by rw [HPR.out];rfl,((hb3.setCell (p:=⟨w.heap.size,0,none⟩) (Nat.le_refl _) _).setCell (p:=⟨w.heap.size,1,none⟩) (Nat.le_refl _) _).setCell (p:=⟨w.heap.size,2,none⟩) (Nat.le_refl _) _⟩
      | false =>
       cases b6 with
       | true =>
        have HPR:Hid (aI s.data.toList=none):=by rw [Hid,HP.out];rfl
        clear HP
        go_wp2_with (first
         | (go_at_call_of 192 (Value.string A);refine (vA _).mono ?_;rintro e w2 ⟨rfl,rfl⟩)
         | (go_at_call_of 192 (Value.string D);refine (vD _).mono ?_;rintro e w2 ⟨rfl,rfl⟩))
        go_returns;exact⟨by rw [HPR.out];rfl,((hbk.setCell (p:=⟨w.heap.size,0,none⟩) (Nat.le_refl _) _).setCell (p:=⟨w.heap.size,1,none⟩) (Nat.le_refl _) _).setCell (p:=⟨w.heap.size,2,none⟩) (Nat.le_refl _) _⟩
       | false =>
        cases b7 with
        | true =>
         have HPR:Hid (aI s.data.toList=none):=by rw [Hid,HP.out];rfl
         clear HP
         go_wp2_with (first
          | (go_at_call_of 192 (Value.string A);refine (vA _).mono ?_;rintro e w2 ⟨rfl,rfl⟩)
          | (go_at_call_of 192 (Value.string D);refine (vD _).mono ?_;rintro e w2 ⟨rfl,rfl⟩))
         go_returns;exact⟨by rw [HPR.out];rfl,((hbk.setCell (p:=⟨w.heap.size,0,none⟩) (Nat.le_refl _) _).setCell (p:=⟨w.heap.size,1,none⟩) (Nat.le_refl _) _).setCell (p:=⟨w.heap.size,2,none⟩) (Nat.le_refl _) _⟩
        | false =>
         have ngk:=ng h1 h2
         cases b8 with
         | false =>
          have HPR:Hid (aI s.data.toList=none):=by rw [Hid,HP.out];rfl
          clear HP
          go_wp2_with (first
           | (go_at_call_of 192 (Value.string A);refine (vA _).mono ?_;rintro e w2 ⟨rfl,rfl⟩)
           | (go_at_call_of 192 (Value.string D);refine (vD _).mono ?_;rintro e w2 ⟨rfl,rfl⟩)
           | (go_at_call 196;refine (ngk _ (hT.below hbk)).mono ?_;rintro e w3 ⟨rfl,b3⟩;have hb3:=ae hbk b3;have c0:=(b3.cell (p:=⟨w.heap.size,0,none⟩) hsz).trans (fO w k 0 _ rfl);have c1:=(b3.cell (p:=⟨w.heap.size,1,none⟩) hsz).trans (fO w k 1 _ rfl);have c2:=(b3.cell (p:=⟨w.heap.size,2,none⟩) hsz).trans (fO w k 2 _ rfl);have f0:=dU (b3.block w.heap.size hsz) 0 (fP w k 0);have f1:=dU (b3.block w.heap.size hsz) 1 (fP w k 1);have f2:=dU (b3.block w.heap.size hsz) 2 (fP w k 2)))
          refine bodyPost_ret (by simp [results,Tryz.results174,c0,c1,c2,go_sem];try rfl) rfl ?_;exact⟨by rw [HPR.out];rfl,((hb3.setCell (p:=⟨w.heap.size,0,none⟩) (Nat.le_refl _) _).setCell (p:=⟨w.heap.size,1,none⟩) (Nat.le_refl _) _).setCell (p:=⟨w.heap.size,2,none⟩) (Nat.le_refl _) _⟩
         | true =>
          have HPR:Hid (aI s.data.toList=some (false,A.data.toList,D.data.toList)):=by rw [Hid,HP.out];rfl
          clear HP
          go_wp2_with (first
           | (go_at_call_of 192 (Value.string A);refine (vA _).mono ?_;rintro e w2 ⟨rfl,rfl⟩)
           | (go_at_call_of 192 (Value.string D);refine (vD _).mono ?_;rintro e w2 ⟨rfl,rfl⟩)
           | (go_at_call 196;refine (ngk _ (hT.below hbk)).mono ?_;rintro e w3 ⟨rfl,b3⟩;have hb3:=ae hbk b3;have c0:=(b3.cell (p:=⟨w.heap.size,0,none⟩) hsz).trans (fO w k 0 _ rfl);have c1:=(b3.cell (p:=⟨w.heap.size,1,none⟩) hsz).trans (fO w k 1 _ rfl);have c2:=(b3.cell (p:=⟨w.heap.size,2,none⟩) hsz).trans (fO w k 2 _ rfl);have f0:=dU (b3.block w.heap.size hsz) 0 (fP w k 0);have f1:=dU (b3.block w.heap.size hsz) 1 (fP w k 1);have f2:=dU (b3.block w.heap.size hsz) 2 (fP w k 2)))
          refine bodyPost_ret (by simp [results,Tryz.results174,c0,c1,c2,go_sem];try rfl) rfl ?_;exact⟨by rw [HPR.out];rfl,((hb3.setCell (p:=⟨w.heap.size,0,none⟩) (Nat.le_refl _) _).setCell (p:=⟨w.heap.size,1,none⟩) (Nat.le_refl _) _).setCell (p:=⟨w.heap.size,2,none⟩) (Nat.le_refl _) _⟩
 | false =>
  have hDe:D=⟨#[49]⟩:=by
   have h:=HRD.out rfl;rw [<-hD',h]
  subst hDe;clear hA' hD' HRD;simp only [Bool.false_eq_true,if_false] at hct;obtain⟨b1,h1⟩:∃ b,aj A.data.toList=b:=⟨_,rfl⟩;obtain⟨b2,h2⟩:∃ b,aj (⟨#[49]⟩:ByteArray).data.toList=b:=⟨_,rfl⟩;obtain⟨b3,h3⟩:∃ b,decide (A.size<=400)=b:=⟨_,rfl⟩;obtain⟨b4,h4⟩:∃ b,decide (ByteArray.size ⟨#[49]⟩<=400)=b:=⟨_,rfl⟩;obtain⟨b5,h5⟩:∃ b,(A.toList == [48])=b:=⟨_,rfl⟩;obtain⟨b6,h6⟩:∃ b,(ByteArray.toList ⟨#[49]⟩ == [48])=b:=⟨_,rfl⟩;obtain⟨b7,h7⟩:∃ b,(ByteArray.toList ⟨#[49]⟩ == [49])=b:=⟨_,rfl⟩;obtain⟨b8,h8⟩:∃ b,(F.toList == [49])=b:=⟨_,rfl⟩;rw [h1,h2,h3,h4,h5,h6,h7,h8] at HP;rw [h1] at vA;rw [h2] at vD;go_enter Tryz.func174,Tryz.ntmps174
  go_wp2_with (first
   | (go_at_call 198;refine (hcp _).mono ?_;rintro e w1 ⟨rfl,rfl⟩))
  refine (hct _ M hM0).mono ?_;rintro e w2 ⟨rfl,k,rfl⟩;have hsz:w.heap.size<((w.alloc (.cells #[.bool false,.string ⟨#[]⟩,.string ⟨#[]⟩] 215)).drewN k).heap.size:=by simp
  have hbk:Below w.heap.size w ((w.alloc (.cells #[.bool false,.string ⟨#[]⟩,.string ⟨#[]⟩] 215)).drewN k):=⟨hb0.os,hb0.tape,hb0.output,hb0.size,hb0.block⟩
  cases b1 with
  | false =>
   have HPR:Hid (aI s.data.toList=none):=by rw [Hid,HP.out];rfl
   clear HP
   go_wp2_with (first
    | (go_at_call_of 192 (Value.string A);refine (vA _).mono ?_;rintro e w2 ⟨rfl,rfl⟩)
    | (go_at_call_of 192 (Value.string (⟨#[49]⟩:ByteArray));refine (vD _).mono ?_;rintro e w2 ⟨rfl,rfl⟩))
   go_returns;exact⟨by rw [HPR.out];rfl,((hbk.setCell (p:=⟨w.heap.size,0,none⟩) (Nat.le_refl _) _).setCell (p:=⟨w.heap.size,1,none⟩) (Nat.le_refl _) _).setCell (p:=⟨w.heap.size,2,none⟩) (Nat.le_refl _) _⟩
  | true =>
   cases b2 with
   | false =>
    have HPR:Hid (aI s.data.toList=none):=by rw [Hid,HP.out];rfl
    clear HP
    go_wp2_with (first
     | (go_at_call_of 192 (Value.string A);refine (vA _).mono ?_;rintro e w2 ⟨rfl,rfl⟩)
     | (go_at_call_of 192 (Value.string (⟨#[49]⟩:ByteArray));refine (vD _).mono ?_;rintro e w2 ⟨rfl,rfl⟩))
    go_returns;exact⟨by rw [HPR.out];rfl,((hbk.setCell (p:=⟨w.heap.size,0,none⟩) (Nat.le_refl _) _).setCell (p:=⟨w.heap.size,1,none⟩) (Nat.le_refl _) _).setCell (p:=⟨w.heap.size,2,none⟩) (Nat.le_refl _) _⟩
   | true =>
    cases b3 with
    | false =>
     have hl:(400:Int)<(A.size:Int):=by have:=of_decide_eq_false h3;omega
     have HPR:Hid (aI s.data.toList=none):=by rw [Hid,HP.out];rfl
     clear HP
     go_wp2_with (first
      | (go_at_call_of 192 (Value.string A);refine (vA _).mono ?_;rintro e w2 ⟨rfl,rfl⟩)
      | (go_at_call_of 192 (Value.string (⟨#[49]⟩:ByteArray));refine (vD _).mono ?_;rintro e w2 ⟨rfl,rfl⟩))
     go_returns;exact⟨by rw [HPR.out];rfl,((hbk.setCell (p:=⟨w.heap.size,0,none⟩) (Nat.le_refl _) _).setCell (p:=⟨w.heap.size,1,none⟩) (Nat.le_refl _) _).setCell (p:=⟨w.heap.size,2,none⟩) (Nat.le_refl _) _⟩
    | true =>
     have hl3:decide ((400:Int)<(A.size:Int))=false:=by have:=of_decide_eq_true h3;exact decide_eq_false (by omega)
     have hm3:(A.size:Int)<=400:=by have:=of_decide_eq_true h3;omega
     cases b4 with
     | false =>
      exact absurd h4 (by decide)
     | true =>
      have hl4:decide ((400:Int)<((⟨#[49]⟩:ByteArray).size:Int))=false:=by have:=of_decide_eq_true h4;exact decide_eq_false (by omega)
      have hm4:((⟨#[49]⟩:ByteArray).size:Int)<=400:=by have:=of_decide_eq_true h4;omega
      cases neg with
      | true =>
       cases b5 with
       | true =>
        have HPR:Hid (aI s.data.toList=none):=by rw [Hid,HP.out];rfl
        clear HP
        go_wp2_with (first
         | (go_at_call_of 192 (Value.string A);refine (vA _).mono ?_;rintro e w2 ⟨rfl,rfl⟩)
         | (go_at_call_of 192 (Value.string (⟨#[49]⟩:ByteArray));refine (vD _).mono ?_;rintro e w2 ⟨rfl,rfl⟩))
        go_returns;exact⟨by rw [HPR.out];rfl,((hbk.setCell (p:=⟨w.heap.size,0,none⟩) (Nat.le_refl _) _).setCell (p:=⟨w.heap.size,1,none⟩) (Nat.le_refl _) _).setCell (p:=⟨w.heap.size,2,none⟩) (Nat.le_refl _) _⟩
       | false =>
        have ngk:=ng h1 h2
        cases b8 with
        | false =>
         have HPR:Hid (aI s.data.toList=none):=by rw [Hid,HP.out];rfl
         clear HP
         go_wp2_with (first
          | (go_at_call_of 192 (Value.string A);refine (vA _).mono ?_;rintro e w2 ⟨rfl,rfl⟩)
          | (go_at_call_of 192 (Value.string (⟨#[49]⟩:ByteArray));refine (vD _).mono ?_;rintro e w2 ⟨rfl,rfl⟩)
          | (go_at_call 196;refine (ngk _ (hT.below hbk)).mono ?_;rintro e w3 ⟨rfl,b3⟩;have hb3:=ae hbk b3;have c0:=(b3.cell (p:=⟨w.heap.size,0,none⟩) hsz).trans (fO w k 0 _ rfl);have c1:=(b3.cell (p:=⟨w.heap.size,1,none⟩) hsz).trans (fO w k 1 _ rfl);have c2:=(b3.cell (p:=⟨w.heap.size,2,none⟩) hsz).trans (fO w k 2 _ rfl);have f0:=dU (b3.block w.heap.size hsz) 0 (fP w k 0);have f1:=dU (b3.block w.heap.size hsz) 1 (fP w k 1);have f2:=dU (b3.block w.heap.size hsz) 2 (fP w k 2)))
         refine bodyPost_ret (by simp [results,Tryz.results174,c0,c1,c2,go_sem];try rfl) rfl ?_;exact⟨by rw [HPR.out];rfl,((hb3.setCell (p:=⟨w.heap.size,0,none⟩) (Nat.le_refl _) _).setCell (p:=⟨w.heap.size,1,none⟩) (Nat.le_refl _) _).setCell (p:=⟨w.heap.size,2,none⟩) (Nat.le_refl _) _⟩
        | true =>
         have HPR:Hid (aI s.data.toList=some (true,A.data.toList,(⟨#[49]⟩:ByteArray).data.toList)):=by rw [Hid,HP.out];rfl
         clear HP
         go_wp2_with (first
          | (go_at_call_of 192 (Value.string A);refine (vA _).mono ?_;rintro e w2 ⟨rfl,rfl⟩)
          | (go_at_call_of 192 (Value.string (⟨#[49]⟩:ByteArray));refine (vD _).mono ?_;rintro e w2 ⟨rfl,rfl⟩)
          | (go_at_call 196;refine (ngk _ (hT.below hbk)).mono ?_;rintro e w3 ⟨rfl,b3⟩;have hb3:=ae hbk b3;have c0:=(b3.cell (p:=⟨w.heap.size,0,none⟩) hsz).trans (fO w k 0 _ rfl);have c1:=(b3.cell (p:=⟨w.heap.size,1,none⟩) hsz).trans (fO w k 1 _ rfl);have c2:=(b3.cell (p:=⟨w.heap.size,2,none⟩) hsz).trans (fO w k 2 _ rfl);have f0:=dU (b3.block w.heap.size hsz) 0 (fP w k 0);have f1:=dU (b3.block w.heap.size hsz) 1 (fP w k 1);have f2:=dU (b3.block w.heap.size hsz) 2 (fP w k 2)))
         refine bodyPost_ret (by simp [results,Tryz.results174,c0,c1,c2,go_sem];try rfl) rfl ?_;exact⟨by rw [HPR.out];rfl,((hb3.setCell (p:=⟨w.heap.size,0,none⟩) (Nat.le_refl _) _).setCell (p:=⟨w.heap.size,1,none⟩) (Nat.le_refl _) _).setCell (p:=⟨w.heap.size,2,none⟩) (Nat.le_refl _) _⟩
      | false =>
       have ngk:=ng h1 h2
       cases b8 with
       | false =>
        have HPR:Hid (aI s.data.toList=none):=by rw [Hid,HP.out];rfl
        clear HP
        go_wp2_with (first
         | (go_at_call_of 192 (Value.string A);refine (vA _).mono ?_;rintro e w2 ⟨rfl,rfl⟩)
         | (go_at_call_of 192 (Value.string (⟨#[49]⟩:ByteArray));refine (vD _).mono ?_;rintro e w2 ⟨rfl,rfl⟩)
         | (go_at_call 196;refine (ngk _ (hT.below hbk)).mono ?_;rintro e w3 ⟨rfl,b3⟩;have hb3:=ae hbk b3;have c0:=(b3.cell (p:=⟨w.heap.size,0,none⟩) hsz).trans (fO w k 0 _ rfl);have c1:=(b3.cell (p:=⟨w.heap.size,1,none⟩) hsz).trans (fO w k 1 _ rfl);have c2:=(b3.cell (p:=⟨w.heap.size,2,none⟩) hsz).trans (fO w k 2 _ rfl);have f0:=dU (b3.block w.heap.size hsz) 0 (fP w k 0);have f1:=dU (b3.block w.heap.size hsz) 1 (fP w k 1);have f2:=dU (b3.block w.heap.size hsz) 2 (fP w k 2)))
        refine bodyPost_ret (by simp [results,Tryz.results174,c0,c1,c2,go_sem];try rfl) rfl ?_;exact⟨by rw [HPR.out];rfl,((hb3.setCell (p:=⟨w.heap.size,0,none⟩) (Nat.le_refl _) _).setCell (p:=⟨w.heap.size,1,none⟩) (Nat.le_refl _) _).setCell (p:=⟨w.heap.size,2,none⟩) (Nat.le_refl _) _⟩
       | true =>
        have HPR:Hid (aI s.data.toList=some (false,A.data.toList,(⟨#[49]⟩:ByteArray).data.toList)):=by rw [Hid,HP.out];rfl
        clear HP
        go_wp2_with (first
         | (go_at_call_of 192 (Value.string A);refine (vA _).mono ?_;rintro e w2 ⟨rfl,rfl⟩)
         | (go_at_call_of 192 (Value.string (⟨#[49]⟩:ByteArray));refine (vD _).mono ?_;rintro e w2 ⟨rfl,rfl⟩)
         | (go_at_call 196;refine (ngk _ (hT.below hbk)).mono ?_;rintro e w3 ⟨rfl,b3⟩;have hb3:=ae hbk b3;have c0:=(b3.cell (p:=⟨w.heap.size,0,none⟩) hsz).trans (fO w k 0 _ rfl);have c1:=(b3.cell (p:=⟨w.heap.size,1,none⟩) hsz).trans (fO w k 1 _ rfl);have c2:=(b3.cell (p:=⟨w.heap.size,2,none⟩) hsz).trans (fO w k 2 _ rfl);have f0:=dU (b3.block w.heap.size hsz) 0 (fP w k 0);have f1:=dU (b3.block w.heap.size hsz) 1 (fP w k 1);have f2:=dU (b3.block w.heap.size hsz) 2 (fP w k 2)))
        refine bodyPost_ret (by simp [results,Tryz.results174,c0,c1,c2,go_sem];try rfl) rfl ?_;exact⟨by rw [HPR.out];rfl,((hb3.setCell (p:=⟨w.heap.size,0,none⟩) (Nat.le_refl _) _).setCell (p:=⟨w.heap.size,1,none⟩) (Nat.le_refl _) _).setCell (p:=⟨w.heap.size,2,none⟩) (Nat.le_refl _) _⟩
def uq (neg:Bool) (n d:Bs):Bs:=(if neg=true then [45] else [])++(n++(if d=[49] then [] else 47::d))
theorem vN {D:ByteArray}:(D.toList == [49])=decide (D.data.toList=[49]):=by
 rw [Lib.toList_data];by_cases h:D.data.toList=[49]
 ·rw [h];rfl
 ·rw [beq_eq_false_iff_ne.2 h,decide_eq_false h]
theorem Ca {l k:Bs} {m n:Nat} (hl:l=af m) (hk:k=af n) (h1:l.length<=1000) (h2:k.length<=1000) (h3:(af (m+n)).length<=1000):mK l k=(af (m+n),0):=by
 subst hl hk;unfold mK jv;rw [if_pos ⟨jV h1,jV h2⟩,fq,fq,if_neg (by omega)]
theorem Cf {l k:Bs} {m n:Nat} (hl:l=af m) (hk:k=af n) (h1:l.length<=1000) (h2:k.length<=1000) (h3:(af (m * n)).length<=1000):mO l k=(af (m * n),0):=by
 subst hl hk;unfold mO jv;rw [if_pos ⟨jV h1,jV h2⟩,fq,fq,if_neg (by omega)]
theorem vR {l k:Bs} {m n:Nat} (hl:l=af m) (hk:k=af n) (h1:l.length<=1000) (h2:k.length<=1000) (h3:n<=m):jT l k=(af (m-n),0):=by
 subst hl hk;unfold jT;rw [if_pos ⟨jV h1,jV h2⟩,fq,fq,if_neg (by omega)]
theorem Cc {l k:Bs} {m n:Nat} (hl:l=af m) (hk:k=af n) (h1:l.length<=1000) (h2:k.length<=1000):mM l k=bZ m n:=by
 subst hl hk;unfold mM;rw [if_pos ⟨jV h1,jV h2⟩,fq,fq]
theorem JA {l k:Bs} {m n:Nat} (hl:l=af m) (hk:k=af n) (h1:l.length<=1000) (h2:k.length<=1000):gH l k=(af (Nat.gcd m n),0):=by
 subst hl hk;unfold gH;rw [if_pos ⟨jV h1,jV h2⟩,fq,fq]
theorem LW (s t:Bool) (a b:ByteArray) (m n:Nat) (w:World) (hT:bK w) (ha:a.data.toList=af m) (hb:b.data.toList=af n) (sa:a.size<=1000) (sb:b.size<=1000) (hs:(af (m+n)).length<=1000) :
  Calls Tryz.prog 170 #[.bool s,.string a,.bool t,.string b] w fun e w'=>e=.returned (.tuple #[.bool (dQ s m t n).1,.string ⟨(af (dQ s m t n).2).toArray⟩])/\Below w.heap.size w w':=by
 have la:a.data.toList.length<=1000:=by rw [<-Lib.size_eq];exact sa
 have lb:b.data.toList.length<=1000:=by rw [<-Lib.size_eq];exact sb
 by_cases hst:s=t
 ·have hq:=Js a b w hT (by omega) (by omega)
  rw [Ca ha hb la lb hs] at hq;unfold aA at hq;have HA:Hid (dQ s m t n=(s,m+n)):=by unfold Hid dQ;rw [if_pos hst]
  obtain⟨F,hF⟩:∃ F:ByteArray,(⟨(af (m+n)).toArray⟩:ByteArray)=F:=⟨_,rfl⟩;simp only [hF] at hq;have HF:=Lib.hid hF;have hm:=fun W=>uo F W
  subst hst;clear hF la lb ha hb hs;go_enter Tryz.func170,Tryz.ntmps170;go_wp2_with (first|(go_at_call 189;refine hq.mono ?_;rintro e w1 ⟨rfl,b1⟩)|(go_at_call 171;refine (hm _).mono ?_;rintro e w2 ⟨rfl,rfl⟩));go_returns;exact⟨by rw [HA.out,HF.out];rfl,b1⟩
 ·have hst2:(s == t)=false:=beq_eq_false_iff_ne.2 hst
  have hc:=JC a b w (by omega) (by omega);rw [Cc ha hb la lb] at hc;rcases Nat.lt_or_ge m n with hlt|hge
  ·rw [lu hlt] at hc
   have HA:Hid (dQ s m t n=(t,n-m)):=by unfold Hid dQ;rw [if_neg hst,if_pos hlt]
   have hq:=fun W hT=>Ci b a W hT (by omega) (by omega)
   rw [vR hb ha lb la (by omega)] at hq;unfold aA at hq;obtain⟨F,hF⟩:∃ F:ByteArray,(⟨(af (n-m)).toArray⟩:ByteArray)=F:=⟨_,rfl⟩;simp only [hF] at hq;have HF:=Lib.hid hF;have hm:=fun W=>uo F W
   clear hF la lb ha hb hs hst;go_enter Tryz.func170,Tryz.ntmps170;go_wp2_with (first|(go_at_call 190;refine hc.mono ?_;rintro e w1 ⟨rfl,b1⟩;have hq1:=hq _ (hT.below b1))|(go_at_call 191;refine hq1.mono ?_;rintro e w2 ⟨rfl,b2⟩;have hA2:=ae b1 b2)|(go_at_call 171;refine (hm _).mono ?_;rintro e w2 ⟨rfl,rfl⟩));go_returns;exact⟨by rw [HA.out,HF.out];rfl,hA2⟩
  ·have hcge:¬ bZ m n<0:=by rw [nL];omega
   obtain⟨cc,hcc⟩:∃ cc,bZ m n=cc:=⟨_,rfl⟩;rw [hcc] at hc hcge;have HA:Hid (dQ s m t n=(s,m-n)):=by unfold Hid dQ;rw [if_neg hst,if_neg (by omega)]
   have hq:=fun W hT=>Ci a b W hT (by omega) (by omega)
   rw [vR ha hb la lb (by omega)] at hq;unfold aA at hq;obtain⟨F,hF⟩:∃ F:ByteArray,(⟨(af (m-n)).toArray⟩:ByteArray)=F:=⟨_,rfl⟩;simp only [hF] at hq;have HF:=Lib.hid hF;have hm:=fun W=>uo F W
   have hc0:0<=cc:=by omega
   clear hF la lb ha hb hs hst hcc hcge;go_enter Tryz.func170,Tryz.ntmps170;go_wp2_with (first|(go_at_call 190;refine hc.mono ?_;rintro e w1 ⟨rfl,b1⟩;have hq1:=hq _ (hT.below b1))|(go_at_call 191;refine hq1.mono ?_;rintro e w2 ⟨rfl,b2⟩;have hA2:=ae b1 b2)|(go_at_call 171;refine (hm _).mono ?_;rintro e w2 ⟨rfl,rfl⟩));go_returns;exact⟨by rw [HA.out,HF.out];rfl,hA2⟩
def o6 (m n:Nat):Bool:=decide (400<(af (m / Nat.gcd m n)).length) || decide (400<(af (n / Nat.gcd m n)).length)
theorem at3 (w:World) (A:Array Value) (t:TypeId) (o:Nat) (v:Value) (h:A[o]? = some v):(w.alloc (.cells A t)).cell? ⟨w.heap.size,o,none⟩=some v:=by
 rw [cell_of_row (w.alloc _) w.heap.size o A t (0,0) (heap_alloc_new w _)];exact h
theorem vJ (w:World) (A:Array Value) (t:TypeId) (o:Nat):(w.alloc (.cells A t)).frozen? ⟨w.heap.size,o,none⟩=false:=by
 unfold World.frozen?;rw [heap_alloc_new];simp
structure pG (w:World) (b:Nat) (x y z:Value):Prop where
 lt:b<w.heap.size
 c0:w.cell? ⟨b,0,none⟩=some x
 c1:w.cell? ⟨b,1,none⟩=some y
 c2:w.cell? ⟨b,2,none⟩=some z
 f0:w.frozen? ⟨b,0,none⟩=false
 f1:w.frozen? ⟨b,1,none⟩=false
 f2:w.frozen? ⟨b,2,none⟩=false
theorem pG.new (w:World) (x y z:Value) (t:TypeId):pG (w.alloc (.cells #[x,y,z] t)) w.heap.size x y z :=
 ⟨by simp,at3 w _ t 0 x rfl,at3 w _ t 1 y rfl,at3 w _ t 2 z rfl,vJ w _ t 0,vJ w _ t 1,vJ w _ t 2⟩
theorem pG.below {w w':World} {b:Nat} {x y z:Value} (h:pG w b x y z) (hb:Below w.heap.size w w'):pG w' b x y z :=
 ⟨Nat.lt_of_lt_of_le h.lt hb.size,(hb.cell (p:=⟨b,0,none⟩) h.lt).trans h.c0,(hb.cell (p:=⟨b,1,none⟩) h.lt).trans h.c1,(hb.cell (p:=⟨b,2,none⟩) h.lt).trans h.c2,dU (hb.block b h.lt) 0 h.f0,dU (hb.block b h.lt) 1 h.f1,dU (hb.block b h.lt) 2 h.f2⟩
theorem BV (a b:ByteArray) (m n:Nat) (F:ByteArray) (hF:(⟨(af (m * n)).toArray⟩:ByteArray)=F) (ha:a.data.toList=af m) (hb:b.data.toList=af n) (sa:a.size<=400) (sb:b.size<=400) (W:World) (hT:bK W) :
  Calls Tryz.prog 172 #[.string a,.string b] W fun e w'=>e=.returned (.tuple #[.string F,.int .i64 0])/\Below W.heap.size W w':=by
 have h:=JH a b W hT (by omega) (by omega);have l1:=Lib.size_eq a;have l2:=Lib.size_eq b;have h3:(af (m * n)).length<=1000:=by
  have:=xC m n;rw [<-ha,<-hb] at this;omega
 rw [Cf ha hb (by omega) (by omega) h3] at h;unfold aA at h;simp only [hF] at h;exact h
theorem lK (a b:ByteArray) (m n:Nat) (F:ByteArray) (hF:(⟨(af (m * n)).toArray⟩:ByteArray)=F) (ha:a.data.toList=af m) (hb:b.data.toList=af n) (sa:a.size<=400) (sb:b.size<=400):F.data.toList=af (m * n)/\F.size<=800:=by
 have e:F.data.toList=af (m * n):=by rw [<-hF]
 refine⟨e,?_⟩;rw [Lib.size_eq,e];have:=xC m n;have l1:=Lib.size_eq a;have l2:=Lib.size_eq b;rw [<-ha,<-hb] at this;omega
structure Num (A D:ByteArray) (m k:Nat):Prop where
 a:A.data.toList=af m
 d:D.data.toList=af k
 sa:A.size<=400
 sd:D.size<=400
 nz:k≠0
theorem Fe (s:Bool) (m:Nat) (t:Bool) (n:Nat):(dQ s m t n).2<=m+n:=by
 unfold dQ
 split
 ·exact Nat.le_refl _
 ·split <;> simp <;> omega
theorem wZ {F G:ByteArray} {M N:Nat} (hF:F.data.toList=af M) (hG:G.data.toList=af N) (sF:F.size<=800) (sG:G.size<=800):(af (M+N)).length<=801:=by
 have:=F7 M N 800 (by omega) (by rw [<-hF,<-Lib.size_eq];exact sF) (by rw [<-hG,<-Lib.size_eq];exact sG);omega
theorem Jl {neg:Bool} {m n:Nat} (hn:n≠0) (h:o6 m n=true):iq neg m n=([],2):=by
 rw [BS neg m hn,if_pos];unfold o6 at h
 simpa using h
theorem Jo {neg:Bool} {m n:Nat} (hn:n≠0) (h:¬ o6 m n=true):iq neg m n=(uq (neg && decide (m≠0)) (af (m / Nat.gcd m n)) (af (n / Nat.gcd m n)),0):=by
 rw [BS neg m hn,if_neg]
 ·unfold uq
  congr 1;congr 1
  ·by_cases h1:neg=true <;> by_cases h2:m=0 <;> simp [h1,h2]
  ·congr 1
   by_cases h1:n / Nat.gcd m n=1
   ·rw [if_pos h1,h1,if_pos Ao]
   ·rw [if_neg h1,if_neg]
    intro e;exact h1 (by rw [<-fq (n / Nat.gcd m n),e];rfl)
 ·unfold o6 at h
  simpa using h
structure sJ (w:World) (b:Nat) (x:Value):Prop where
 lt:b<w.heap.size
 c0:w.cell? ⟨b,0,none⟩=some x
 f0:w.frozen? ⟨b,0,none⟩=false
theorem sJ.new (w:World) (x:Value) (t:TypeId):sJ (w.alloc (.cells #[x] t)) w.heap.size x:=⟨by simp,at3 w _ t 0 x rfl,vJ w _ t 0⟩
theorem sJ.below {w w':World} {b:Nat} {x:Value} (h:sJ w b x) (hb:Below w.heap.size w w'):sJ w' b x :=
 ⟨Nat.lt_of_lt_of_le h.lt hb.size,(hb.cell (p:=⟨b,0,none⟩) h.lt).trans h.c0,dU (hb.block b h.lt) 0 h.f0⟩
theorem lL {a:ByteArray} {x:Rat} (h:aK a.data.toList=some x):∃ A D:ByteArray,aI a.data.toList=some (decide (x.num<0),A.data.toList,D.data.toList)/\Num A D x.num.natAbs x.den:=by
 obtain⟨h1,h2,h3,h4⟩:=uz h;refine⟨⟨(af x.num.natAbs).toArray⟩,⟨(af x.den).toArray⟩,h4,⟨rfl,rfl,?_,?_,x.den_nz⟩⟩
 ·rw [Lib.size_eq];exact h2
 ·rw [Lib.size_eq];exact h3
theorem qw (x:Rat):mkRat (bn (decide (x.num<0)) x.num.natAbs) x.den=x:=by rw [wJ,Rat.mkRat_self]
theorem Jj (x y:Rat):iq (dQ (decide (x.num<0)) (x.num.natAbs * y.den) (decide (y.num<0)) (y.num.natAbs * x.den)).1 (dQ (decide (x.num<0)) (x.num.natAbs * y.den) (decide (y.num<0)) (y.num.natAbs * x.den)).2 (x.den * y.den)=ik (x+y):=by
 unfold iq;rw [<-KY _ _ _ _ _ _ x.den_nz y.den_nz,qw,qw]
theorem D8 (q:Bool) (n:Nat):bn (!q) n=-bn q n:=by unfold bn;cases q <;> simp
theorem Jm (x y:Rat):iq (decide (x.num<0) != decide (y.num<0)) (x.num.natAbs * y.num.natAbs) (x.den * y.den)=ik (x * y):=by
 unfold iq;rw [<-yF,qw,qw]
theorem Cj {y:Rat} (h:y≠0):y.num.natAbs≠0:=by
 intro e;apply h;have:y.num=0:=by omega
 rw [<-Rat.mkRat_self y,this,Rat.zero_mkRat]
theorem Jk (x y:Rat) (h:y≠0):iq (decide (x.num<0) != decide (y.num<0)) (x.num.natAbs * y.den) (x.den * y.num.natAbs)=ik (x / y):=by
 unfold iq;rw [<-yF,qw,<-K3 _ _ _ y.den_nz (Cj h),qw,Rat.div_def]
theorem Dm {l:Bs} (h:aK l=none):aI l=none:=KX.1 h
theorem CL (s:ByteArray) (w:World) (hT:bK w) (hs:s.size<=1000000) (h:aK s.data.toList=none) :
  Calls Tryz.prog 174 #[.string s] w fun e w'=>e=.returned (.tuple #[.agg #[.bool false,.string ⟨#[]⟩,.string ⟨#[]⟩],.bool false])/\Below w.heap.size w w':=by
 have hp:=lM s w hT hs;rw [Dm h] at hp;exact hp
theorem CO (s A D:ByteArray) (p:Bool) (w:World) (hT:bK w) (hs:s.size<=1000000) (h:aI s.data.toList=some (p,A.data.toList,D.data.toList)) :
  Calls Tryz.prog 174 #[.string s] w fun e w'=>e=.returned (.tuple #[.agg #[.bool p,.string A,.string D],.bool true])/\Below w.heap.size w w':=by
 have hp:=lM s w hT hs;rw [h] at hp;have e1:ut (p,A.data.toList,D.data.toList)=.agg #[.bool p,.string A,.string D]:=by
  unfold ut;rw [qa (s:=A) rfl,qa (s:=D) rfl]
 simp only [Option.getD_some,Option.isSome_some,e1] at hp;exact hp
theorem mX (l:Bs):(aI l).isSome=(aK l).isSome:=by unfold aK;rw [Option.isSome_map]
theorem Dj (a:ByteArray) (w:World) (hT:bK w) (ha:a.size<=1000000) :
  Calls Tryz.prog 143 #[.string a] w fun e w'=>e=.returned (.bool (aK a.data.toList).isSome)/\Below w.heap.size w w':=by
 have hc:=lM a w hT ha;rw [mX] at hc;generalize ut ((aI a.data.toList).getD (false,[],[]))=nv at *;generalize (aK a.data.toList).isSome=ok at *;go_enter Tryz.func143,Tryz.ntmps143;go_wp2_with (go_at_call 174;refine hc.mono ?_;rintro e w1 ⟨rfl,b1⟩);go_returns;exact⟨rfl,b1⟩
theorem nW:aK [48]=some 0:=Dr (q:=0) (by decide) (by decide)
def dJ (l:Bs):Value:=.tuple #[.bool ((aI l).getD (false,[],[])).1,.string ⟨((aI l).getD (false,[],[])).2.1.toArray⟩,.string ⟨((aI l).getD (false,[],[])).2.2.toArray⟩,.bool (aI l).isSome]
theorem KZ (x y:Rat):x=y ↔ x.num * y.den=y.num * x.den:=by
 rw [<-Rat.mkRat_eq_iff x.den_nz y.den_nz,Rat.mkRat_self,Rat.mkRat_self]
theorem zY (x y:Rat) (sg:Bool) (N:Nat) (h:bn sg N=bn (decide (x.num<0)) (x.num.natAbs * y.den)+bn (!decide (y.num<0)) (y.num.natAbs * x.den)) :
  (if x=y then (0:Int) else if x<y then -1 else 1)=if N=0 then 0 else if sg=true then -1 else 1:=by
 have e1:bn (decide (x.num<0)) (x.num.natAbs * y.den)=x.num * y.den:=by
  have:=wJ x.num
  conv=>rhs;rw [<-this]
  unfold bn;split <;> simp [Int.neg_mul]
 have e2:bn (!decide (y.num<0)) (y.num.natAbs * x.den)=-(y.num * x.den):=by
  rw [D8];have:=wJ y.num
  conv=>rhs;rw [<-this]
  unfold bn;split <;> simp [Int.neg_mul]
 rw [e1,e2] at h;have h1:=KZ x y;have h2:=Rat.lt_iff x y;generalize x.num * (y.den:Int)=u at *;generalize y.num * (x.den:Int)=v at *;have hN:N=0 ↔ u=v:=by
  unfold bn at h
  split at h <;> omega
 by_cases hxy:x=y
 ·rw [if_pos hxy,if_pos (hN.2 (h1.1 hxy))]
 ·have hne:u≠v:=fun e=>hxy (h1.2 e)
  rw [if_neg hxy,if_neg (fun e=>hne (hN.1 e))];by_cases hlt:x<y
  ·rw [if_pos hlt,if_pos]
   have:=h2.1 hlt;unfold bn at h
   cases sg with
   | true=>rfl
   | false=>simp at h;omega
  ·rw [if_neg hlt,if_neg]
   intro e;rw [e] at h;unfold bn at h;simp at h;apply hlt;apply h2.2;omega
theorem Bj {w w0 w1:World} {bx by':Nat} {p q:Bool} {A D B E:ByteArray} (hb:Below w0.heap.size w0 w1) (h:w0.cell? ⟨bx,0,none⟩=some (.bool p)/\w0.cell? ⟨bx,1,none⟩=some (.string A)/\w0.cell? ⟨bx,2,none⟩=some (.string D)/\w0.cell? ⟨by',0,none⟩=some (.bool q)/\w0.cell? ⟨by',1,none⟩=some (.string B)/\w0.cell? ⟨by',2,none⟩=some (.string E)/\bK w0/\Below w.heap.size w w0):w1.cell? ⟨bx,0,none⟩=some (.bool p)/\w1.cell? ⟨bx,1,none⟩=some (.string A)/\w1.cell? ⟨bx,2,none⟩=some (.string D)/\w1.cell? ⟨by',0,none⟩=some (.bool q)/\w1.cell? ⟨by',1,none⟩=some (.string B)/\w1.cell? ⟨by',2,none⟩=some (.string E)/\bK w1/\Below w.heap.size w w1:=by
 obtain⟨h1,h2,h3,h4,h5,h6,hT,hB⟩:=h;exact⟨(hb.cell (ax h1)).trans h1,(hb.cell (ax h2)).trans h2,(hb.cell (ax h3)).trans h3,(hb.cell (ax h4)).trans h4,(hb.cell (ax h5)).trans h5,(hb.cell (ax h6)).trans h6,hT.below hb,ae hB hb⟩
theorem IB {w w0:World} {bx by':Nat} {p q:Bool} {A D B E:ByteArray} (h:w0.cell? ⟨bx,0,none⟩=some (.bool p)/\w0.cell? ⟨bx,1,none⟩=some (.string A)/\w0.cell? ⟨bx,2,none⟩=some (.string D)/\w0.cell? ⟨by',0,none⟩=some (.bool q)/\w0.cell? ⟨by',1,none⟩=some (.string B)/\w0.cell? ⟨by',2,none⟩=some (.string E)/\bK w0/\Below w.heap.size w w0):w0.drew.cell? ⟨bx,0,none⟩=some (.bool p)/\w0.drew.cell? ⟨bx,1,none⟩=some (.string A)/\w0.drew.cell? ⟨bx,2,none⟩=some (.string D)/\w0.drew.cell? ⟨by',0,none⟩=some (.bool q)/\w0.drew.cell? ⟨by',1,none⟩=some (.string B)/\w0.drew.cell? ⟨by',2,none⟩=some (.string E)/\bK w0.drew/\Below w.heap.size w w0.drew:=Bj ((Below.refl _ _).drew) h
theorem xW {w w0:World} {bx by':Nat} {p q:Bool} {A D B E:ByteArray} (h:w0.cell? ⟨bx,0,none⟩=some (.bool p)/\w0.cell? ⟨bx,1,none⟩=some (.string A)/\w0.cell? ⟨bx,2,none⟩=some (.string D)/\w0.cell? ⟨by',0,none⟩=some (.bool q)/\w0.cell? ⟨by',1,none⟩=some (.string B)/\w0.cell? ⟨by',2,none⟩=some (.string E)/\bK w0/\Below w.heap.size w w0):bK w0:=h.2.2.2.2.2.2.1
theorem IA {w w0:World} {bx by':Nat} {p q:Bool} {A D B E:ByteArray} (h:w0.cell? ⟨bx,0,none⟩=some (.bool p)/\w0.cell? ⟨bx,1,none⟩=some (.string A)/\w0.cell? ⟨bx,2,none⟩=some (.string D)/\w0.cell? ⟨by',0,none⟩=some (.bool q)/\w0.cell? ⟨by',1,none⟩=some (.string B)/\w0.cell? ⟨by',2,none⟩=some (.string E)/\bK w0/\Below w.heap.size w w0):Below w.heap.size w w0:=h.2.2.2.2.2.2.2
theorem KE (a b:ByteArray) (w:World) (hT:bK w) (ha:a.size<=1000000) (hb:b.size<=1000000) :
  Calls Tryz.prog 178 #[.string a,.string b] w fun e w'=>e=.returned (.int .i64 (fB a.data.toList b.data.toList))/\Below w.heap.size w w':=by
 cases hu:aK a.data.toList with
 | none =>
  have HK:Hid (fB a.data.toList b.data.toList=0):=by unfold Hid fB;rw [hu]
  have pa:=fun W h=>CL a W h ha hu
  have pb:=fun W h=>lM b W h hb
  obtain⟨A,D,p,hpb⟩:∃ A D p,ut ((aI b.data.toList).getD (false,[],[]))=.agg #[.bool p,.string A,.string D]:=⟨_,_,_,rfl⟩;rw [hpb] at pb;generalize (aI b.data.toList).isSome=ok at *;clear hu hpb;go_enter Tryz.func178,Tryz.ntmps178;go_wp2_with fail;refine (pa _ hT).mono ?_;rintro e w1 ⟨rfl,b1⟩;go_wp2_with fail;refine (pb _ (hT.below (b1.alloc b1.size _))).mono ?_;rintro e w2 ⟨rfl,b2⟩;have hA2:=ae (b1.alloc b1.size _) b2;go_wp2_with fail;go_returns;exact⟨by rw [HK.out];rfl,hA2.alloc hA2.size _⟩
 | some x =>
  obtain⟨A,D,hpA,hNA⟩:=lL hu;have pa:=fun W h=>CO a A D _ W h ha hpA
  cases hv:aK b.data.toList with
  | none =>
   have HK:Hid (fB a.data.toList b.data.toList=0):=by unfold Hid fB;rw [hu,hv]
   have pb:=fun W h=>CL b W h hb hv
   generalize decide (x.num<0)=p at *;clear hu hv hpA hNA;go_enter Tryz.func178,Tryz.ntmps178;go_wp2_with fail;refine (pa _ hT).mono ?_;rintro e w1 ⟨rfl,b1⟩;go_wp2_with fail;refine (pb _ (hT.below (b1.alloc b1.size _))).mono ?_;rintro e w2 ⟨rfl,b2⟩;have hA2:=ae (b1.alloc b1.size _) b2;go_wp2_with fail;go_returns;exact⟨by rw [HK.out];rfl,hA2.alloc hA2.size _⟩
  | some y =>
   obtain⟨B,E,hpB,hNB⟩:=lL hv;have pb:=fun W h=>CO b B E _ W h hb hpB
   obtain⟨F,hF⟩:∃ F:ByteArray,(⟨(af (x.num.natAbs * y.den)).toArray⟩:ByteArray)=F:=⟨_,rfl⟩;obtain⟨G,hG⟩:∃ G:ByteArray,(⟨(af (y.num.natAbs * x.den)).toArray⟩:ByteArray)=G:=⟨_,rfl⟩;have m1:=BV A E _ _ F hF hNA.a hNB.d hNA.sa hNB.sd;have m2:=BV B D _ _ G hG hNB.a hNA.d hNB.sa hNA.sd;obtain⟨hFd,sF⟩:=lK A E _ _ F hF hNA.a hNB.d hNA.sa hNB.sd;obtain⟨hGd,sG⟩:=lK B D _ _ G hG hNB.a hNA.d hNB.sa hNA.sd;have hal:=wZ hFd hGd sF sG;have hpl:=fun W hT=>LW (decide (x.num<0)) (!decide (y.num<0)) F G _ _ W hT hFd hGd (by omega) (by omega) (by omega)
   have hcr:=zY x y _ _ (xc (decide (x.num<0)) (!decide (y.num<0)) (x.num.natAbs * y.den) (y.num.natAbs * x.den));have HK:Hid (fB a.data.toList b.data.toList=if x=y then (0:Int) else if x<y then -1 else 1):=by unfold Hid fB;rw [hu,hv]
   rw [hcr] at HK;generalize (dQ (decide (x.num<0)) (x.num.natAbs * y.den) (!decide (y.num<0)) (y.num.natAbs * x.den)).1=sg at *;generalize (dQ (decide (x.num<0)) (x.num.natAbs * y.den) (!decide (y.num<0)) (y.num.natAbs * x.den)).2=N at *;obtain⟨S,hS0⟩:∃ S:ByteArray,(⟨(af N).toArray⟩:ByteArray)=S:=⟨_,rfl⟩;have hS48:(S.toList == [48])=decide (N=0):=qA (by rw [<-hS0]);simp only [hS0] at hpl;have hmF:=fun W=>uo F W
   have hmG:=fun W=>uo G W
   generalize decide (x.num<0)=p at *;generalize decide (y.num<0)=q at *;clear hu hv hpA hNA hpB hNB hF hG hFd hGd hal hcr hS0;go_enter Tryz.func178,Tryz.ntmps178;go_wp2_with fail;refine (pa _ hT).mono ?_;rintro e w1 ⟨rfl,b1⟩;go_wp2_with fail;refine (pb _ (hT.below (b1.alloc b1.size _))).mono ?_;rintro e w2 ⟨rfl,b2⟩;have hA2:=ae (b1.alloc b1.size _) b2;have g2:Below w2.heap.size w2 (w2.alloc (.cells #[.bool q,.string B,.string E] 215)):=(Below.refl _ _).alloc (Nat.le_refl _) _;have x3:=((pG.new w1 (.bool p) (.string A) (.string D) 215).below b2).below g2;have y3:=pG.new w2 (.bool q) (.string B) (.string E) 215;have hA3:=ae hA2 g2;have hS':(w2.alloc (.cells #[.bool q,.string B,.string E] 215)).cell? ⟨w1.heap.size,0,none⟩=some (.bool p)/\(w2.alloc (.cells #[.bool q,.string B,.string E] 215)).cell? ⟨w1.heap.size,1,none⟩=some (.string A)/\(w2.alloc (.cells #[.bool q,.string B,.string E] 215)).cell? ⟨w1.heap.size,2,none⟩=some (.string D)/\(w2.alloc (.cells #[.bool q,.string B,.string E] 215)).cell? ⟨w2.heap.size,0,none⟩=some (.bool q)/\(w2.alloc (.cells #[.bool q,.string B,.string E] 215)).cell? ⟨w2.heap.size,1,none⟩=some (.string B)/\(w2.alloc (.cells #[.bool q,.string B,.string E] 215)).cell? ⟨w2.heap.size,2,none⟩=some (.string E)/\bK (w2.alloc (.cells #[.bool q,.string B,.string E] 215))/\Below w.heap.size w (w2.alloc (.cells #[.bool q,.string B,.string E] 215)):=⟨x3.c0,x3.c1,x3.c2,y3.c0,y3.c1,y3.c2,hT.below hA3,hA3⟩;clear x3 y3 hA3 g2;go_wp2_with fail;generalize w2.alloc (.cells #[.bool q,.string B,.string E] 215)=W0 at hS' ⊢
   go_region_held3 (fun w'=>w'.cell? ⟨w1.heap.size,0,none⟩=some (.bool p)/\w'.cell? ⟨w1.heap.size,1,none⟩=some (.string A)/\w'.cell? ⟨w1.heap.size,2,none⟩=some (.string D)/\w'.cell? ⟨w2.heap.size,0,none⟩=some (.bool q)/\w'.cell? ⟨w2.heap.size,1,none⟩=some (.string B)/\w'.cell? ⟨w2.heap.size,2,none⟩=some (.string E)/\bK w'/\Below w.heap.size w w')
    (first|assumption|exact IB hS'|exact Bj hbx (by assumption))
    (first
     | (go_at_call_of 172 (Value.string A);refine (m1 _ (xW (by assumption))).mono ?_;rintro e wx ⟨rfl,hbx⟩)
     | (go_at_call_of 172 (Value.string B);refine (m2 _ (xW (by assumption))).mono ?_;rintro e wx ⟨rfl,hbx⟩)
     | (go_at_call_of 171 (Value.string F);refine (hmF _).mono ?_;rintro e wx ⟨rfl,rfl⟩)
     | (go_at_call_of 171 (Value.string G);refine (hmG _).mono ?_;rintro e wx ⟨rfl,rfl⟩)
     | (go_at_call 170;refine (hpl _ (xW (by assumption))).mono ?_;rintro e wx ⟨rfl,hbx⟩;have HBF:=Lib.hid (ae (IA (by assumption)) hbx)))
   have hBF:=HBF.out;by_cases hN:N=0
   ·rw [decide_eq_true hN] at hS48
    rw [if_pos hN] at HK;clear hN;go_wp2_with fail;go_returns;exact⟨by rw [HK.out];rfl,hBF⟩
   ·rw [decide_eq_false hN] at hS48
    rw [if_neg hN] at HK;clear hN
    cases sg with
    | true =>
     go_wp2_with fail;go_returns;exact⟨by rw [HK.out];rfl,hBF⟩
    | false =>
     go_wp2_with fail;go_returns;exact⟨by rw [HK.out];rfl,hBF⟩
end Go.Proofs.YtppnecgeboonbaaGreatDoor.Rat3
