/- Chapter 22's law: FlagsLegal. -/
import Derived.Test.YtppnecgeboonbaaGreatDoorZ45
import Derived.Test.YtppnecgeboonbaaGreatDoorY02
import Derived.Test.YtppnecgeboonbaaGreatDoorY03
namespace Go.Proofs.YtppnecgeboonbaaGreatDoor
set_option maxRecDepth 100000
set_option linter.unusedVariables false
set_option maxHeartbeats 8000000
open Go Go.RowKit Go.Maps
theorem zu.take {w:World} {A:Option Addr} {l:List aH} (h:zu w A l) (n:Nat):zu w A (l.take n):=by
 intro k hk;have hk':k<l.length:=Nat.lt_of_lt_of_le hk (List.length_take_le' _ _);obtain⟨b,o,e,hlt,h0,h1,h2⟩:=h k hk';exact⟨b,o,e,hlt,by rw [h0,List.getElem_take],by rw [h1,List.getElem_take],by rw [h2,List.getElem_take]⟩
theorem aBj {l:List aH} (h:jH l=true) (n:Nat):jH (l.take n)=true:=by
 have ha:∀ x∈l,aN x=true:=by
  cases hq:l.all aN with
  | false=>rw [IL hq] at h;cases h
  | true=>exact List.all_eq_true.1 hq
 rw [Bq ha,<-List.take_append_drop n l,yN] at h;rw [Bq (fun x hx=>ha x (List.mem_of_mem_take hx))]
 cases hr:jL [] (l.take n) with
 | none=>rw [hr] at h;cases h
 | some m=>rfl
theorem aBk (A:Option Addr) (c:Nat) (l:List aH) (w:World) (hT:fD w) (hc:l.length<=c) (hV:zu w A l) :
  Calls Tryz.prog 5 #[.slice A l.length c] w fun e w'=>e=.returned (.bool true)/\Below w.heap.size w w':=by
 have HV:=Lib.hid hV;clear hV;by_cases h60:60<l.length
 ·have d1:(60:Int)<(l.length:Int):=by omega
  have pK:=tq w hT;go_enter Tryz.func5,Tryz.ntmps5;clear h60;go_wp2_with (first|(go_at_call 17;refine pK.mono ?_;rintro e w1 ⟨rfl,hb1⟩));go_returns;exact⟨rfl,hb1⟩
 have d1:(l.length:Int)<=60:=by omega
 go_enter Tryz.func5,Tryz.ntmps5;go_wp2_with fail
 go_loopw [3] (fun i wr=>∃ (k:Nat),i=.int .i64 k/\k<=l.length/\Below w.heap.size w wr/\Hid (∀ f∈l.take k,f.feat.length<=300/\f.val.length<=300)) (fun i _=>l.length-(intOf i).toNat)
 case atStart=>exact⟨0,rfl,by omega,Below.refl _ _,by simp [Hid]⟩
 case round =>
  obtain⟨k,rfl,hk,hB,HS⟩:=hrel;by_cases hlt:k<l.length
  ·obtain⟨b,o,rfl,hbl,hc0,hc1,hc2⟩:=HV.out k hlt
   have HN:Hid (l[k].feat.length<=300->l[k].val.length<=300->∀ f∈l.take (k+1),f.feat.length<=300/\f.val.length<=300):=fun h1 h2 f hf=>by
    rw [List.take_succ_eq_append_getElem hlt] at hf;rcases List.mem_append.1 hf with hf|hf
    ·exact HS.out f hf
    ·simp only [List.mem_singleton] at hf;subst hf;exact⟨h1,h2⟩
   generalize l[k]=cc at *;obtain⟨F,hF⟩:∃ F:ByteArray,(⟨cc.feat.toArray⟩:ByteArray)=F:=⟨_,rfl⟩;obtain⟨V,hVv⟩:∃ V:ByteArray,(⟨cc.val.toArray⟩:ByteArray)=V:=⟨_,rfl⟩;have hFd:cc.feat.length=F.size:=by rw [<-hF,Lib.size_eq]
   have hVd:cc.val.length=V.size:=by rw [<-hVv,Lib.size_eq]
   have k1:wr.cell? ⟨b,o+k * 3+1,none⟩=some (.string F):=(hB.cell (p:=⟨b,o+k * 3+1,none⟩) hbl).trans (by rw [hc1,S,hF]);have k2:wr.cell? ⟨b,o+k * 3+2,none⟩=some (.string V):=(hB.cell (p:=⟨b,o+k * 3+2,none⟩) hbl).trans (by rw [hc2,S,hVv]);rw [hFd,hVd] at HN;have i0:(0:Int)<=(k:Int):=by omega
   have il:(k:Int)<(l.length:Int):=by omega
   have pK:=tq wr (hT.below hB);clear hF hVv hFd hVd hc0 hc1 hc2 HS;by_cases q1:F.size<=300
   ·have e1:(F.size:Int)<=300:=by omega
    by_cases q2:V.size<=300
    ·have e2:(V.size:Int)<=300:=by omega
     have HX:=Lib.hid (HN.out q1 q2);clear HN q1 q2 pK;go_wp2_with fail;go_roundw
     case rel=>exact⟨k+1,by go_num,by omega,hB,HX.out⟩
     case measure=>simp [intOf];omega
    ·have e2:(300:Int)<(V.size:Int):=by omega
     clear q1 q2;go_wp2_with (first|(go_at_call 17;refine pK.mono ?_;rintro e w1 ⟨rfl,hb1⟩));go_returns;exact⟨rfl,ae hB hb1⟩
   ·have e1:(300:Int)<(F.size:Int):=by omega
    clear q1;go_wp2_with (first|(go_at_call 17;refine pK.mono ?_;rintro e w1 ⟨rfl,hb1⟩));go_returns;exact⟨rfl,ae hB hb1⟩
  ·obtain rfl:k=l.length:=by omega
   have HA:Hid (∀ f∈l,f.feat.length<=300/\f.val.length<=300):=by have:=HS.out;rwa [List.take_length] at this
   have p1:=Bp A c l wr (hT.below hB).t (zu.below HV.out hB) (by omega);have p2:=fun W (h:Below wr.heap.size wr W)=>aAU A c l W (zu.below HV.out (ae hB h)) (by omega) (fun f hf=>by have:=HA.out f hf;omega)
   have HP:Hid (jH l=true->∀ (n:Nat) W,n<=l.length->Below wr.heap.size wr W->Calls Tryz.prog 21 #[.slice A n c] W fun e w'=>e=.returned (.bool true)/\Below W.heap.size W w'):=fun h n W hn hW=>by
    have:=Bp A c (l.take n) W (hT.below (ae hB hW)).t ((zu.below HV.out (ae hB hW)).take n) (by rw [List.length_take];omega);rw [List.length_take,Nat.min_eq_left hn,aBj h] at this;exact this
   clear HS HA;obtain⟨L,hL⟩:∃ L,jH l=L:=⟨_,rfl⟩;rw [hL] at p1 p2 HP;clear hL
   rename World=>w1
   go_wp2_with (first|(go_at_call 21;refine p1.mono ?_;rintro e w2 ⟨rfl,hb2⟩)|(go_at_call 22;refine (p2 w2 hb2).mono ?_;rintro e w3 ⟨rfl,hb3⟩));have hb13:=ae hb2 hb3;clear p1 p2
   cases L with
   | false =>
    have pK:=tq w3 (hT.below (ae hB hb13))
    go_loopw [5] (fun i wr=>i=.int .i64 0/\wr=w3) (fun _ _=>0)
    case atStart=>exact⟨rfl,rfl⟩
    case round =>
     obtain⟨rfl,rfl⟩:=hrel;go_wp2_with (first|(go_at_call 17;refine pK.mono ?_;rintro e w4 ⟨rfl,hb4⟩));go_returns;exact⟨rfl,ae (ae hB hb13) hb4⟩
   | true =>
    have HP':=Lib.hid (HP.out rfl);clear HP
    go_loopw [5] (fun i wr=>∃ (k:Nat),i=.int .i64 k/\k<=l.length/\Below w1.heap.size w1 wr) (fun i _=>l.length-(intOf i).toNat)
    case atStart=>exact⟨0,rfl,by omega,hb13⟩
    case round =>
     obtain⟨k,rfl,hk,hB5⟩:=hrel;by_cases hlt:k<l.length
     ·have i0:(0:Int)<=(k:Int):=by omega
      have il:(k:Int)<(l.length:Int):=by omega
      have ic:(k:Int)<=(c:Int):=by omega
      have pP:=HP'.out k wr (by omega) hB5;go_wp2_with (first|(go_at_call 21;refine pP.mono ?_;rintro e w4 ⟨rfl,hb4⟩));go_roundw
      case rel=>exact⟨k+1,by go_num,by omega,ae hB5 hb4⟩
      case measure=>simp [intOf];omega
     ·obtain rfl:k=l.length:=by omega
      have pK:=tq wr (hT.below (ae hB hB5));go_wp2_with (first|(go_at_call 17;refine pK.mono ?_;rintro e w4 ⟨rfl,hb4⟩));go_returns;exact⟨rfl,ae (ae hB hB5) hb4⟩
end Go.Proofs.YtppnecgeboonbaaGreatDoor
