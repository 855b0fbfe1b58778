/- Walks of the reference of rat: index, short, Parts, Valid. -/
import Derived.Test.YtppnecgeboonbaaGreatDoorZ14
namespace Go.Proofs.YtppnecgeboonbaaGreatDoor.Rat3
set_option maxRecDepth 100000
set_option linter.unusedVariables false
set_option maxHeartbeats 4000000
open Go.RowKit
theorem oP (s:ByteArray):(s.toList == [48])=decide (s.data.toList=[48]):=by
 rw [Lib.toList_data];by_cases h:s.data.toList=[48]
 ·rw [h];rfl
 ·rw [beq_eq_false_iff_ne.2 h,decide_eq_false h]
theorem Ah {c:UInt8} {l a b:Bs} (h:fM c l=some (a,b)):a.length+b.length+1=l.length:=by
 obtain⟨h1,_⟩:=nM.1 h;rw [h1];simp;omega
def oO (c:UInt8) (l:Bs):Int:=match fM c l with
 | some p=>(p.1.length:Int)
 | none=>-1
def sh (l:Bs):Bool:=decide (l.length<=400) && aj l
theorem wh (neg frac:Bool) (n d:Bs):mW neg frac n d=(sh n && sh d && !(neg && n == [48]) && !(frac && (d == [48] || d == [49])) && decide (Nat.gcd (ag n) (ag d)=1)):=by
 unfold mW sh;generalize aj n=a;generalize aj d=b;generalize decide (n.length<=400)=c;generalize decide (d.length<=400)=e
 cases a <;> cases b <;> cases c <;> cases e <;> rfl
theorem yD (s:ByteArray) (c:UInt8) (w:World) (hs:s.size<=1000000) :
  Calls Tryz.prog 150 #[.string s,.int .u8 c.toNat] w fun e w'=>e=.returned (.int .i64 (oO c s.data.toList))/\w=w':=by
 have la:=Lib.size_eq s;go_enter Tryz.func150,Tryz.ntmps150;go_wp2_with fail
 go_loopw [4,5] (fun r i wr=>∃ (k:Nat),r=.int .i64 0/\i=.int .i64 k/\k<=s.size/\w=wr/\Hid (c ∉ s.data.toList.take k)) (fun _ i _=>s.size-(intOf i).toNat)
 case atStart=>exact⟨0,rfl,rfl,by omega,rfl,by simp [Hid]⟩
 case round =>
  obtain⟨k,rfl,rfl,hk,rfl,HN⟩:=hrel;by_cases hlt:k<s.size
  ·have hd:=drop_byte s k hlt
   have hta:s.data.toList=s.data.toList.take k++s[k]::s.data.toList.drop (k+1):=by rw [<-hd,List.take_append_drop]
   by_cases hc:s[k]=c
   ·have HI:Hid (oO c s.data.toList=(k:Int)):=by
     unfold Hid oO;rw [nM.2 ⟨by rw [hc] at hta;exact hta,HN.out⟩];simp [List.length_take,<-la];omega
    obtain⟨x,hx⟩:∃ x,s[k].toNat=x:=⟨_,rfl⟩;have hcx:c.toNat=x:=by rw [<-hc,hx]
    rw [hcx];clear hta hd hc la;go_wp2_with fail;go_returns;exact⟨by rw [HI.out];rfl,rfl⟩
   ·have HN2:Hid (c ∉ s.data.toList.take (k+1)):=by
     rw [Hid,List.take_succ_eq_append_getElem (by rw [<-la];exact hlt)];intro hm;rcases List.mem_append.1 hm with hm|hm
     ·exact HN.out hm
     ·exact hc (List.mem_singleton.1 hm).symm
    have hne:¬ s[k].toNat=c.toNat:=fun e=>hc (UInt8.toNat_inj.1 e)
    obtain⟨x,hx⟩:∃ x,s[k].toNat=x:=⟨_,rfl⟩;obtain⟨y,hy⟩:∃ x,c.toNat=x:=⟨_,rfl⟩;rw [hx,hy] at hne;have hnb:((x:Int) == (y:Int))=false:=beq_eq_false_iff_ne.2 (by omega);rw [hy];clear hta hd hc la hy;go_wp2_with fail;go_roundw
    case rel=>exact⟨k+1,rfl,by go_num,by omega,trivial,HN2⟩
    case measure=>simp [intOf];omega
  ·obtain rfl:k=s.size:=by omega
   have HI:Hid (oO c s.data.toList=-1):=by
    unfold Hid oO;rw [xz.2 ?_];have:=HN.out;rwa [List.take_of_length_le (by omega)] at this
   clear la;go_wp2_with fail;go_returns;exact⟨by rw [HI.out];rfl,rfl⟩
theorem nT (s:ByteArray) (w:World) (hs:s.size<=1000000) :
  Calls Tryz.prog 151 #[.string s] w fun e w'=>e=.returned (.bool (sh s.data.toList))/\w=w':=by
 have hv:=fun W=>eG s W (by omega)
 have la:=Lib.size_eq s;by_cases h:s.size<=400
 ·have HK:Hid (sh s.data.toList=aj s.data.toList):=by unfold Hid sh;rw [decide_eq_true (by omega)];rfl
  have hi:(s.size:Int)<=400:=by omega
  generalize aj s.data.toList=ok at *;clear la;go_enter Tryz.func151,Tryz.ntmps151;go_wp2_with (go_at_call 159;refine (hv _).mono ?_;rintro e w1 ⟨rfl,rfl⟩);go_returns;exact⟨by rw [HK.out];rfl,rfl⟩
 ·have HK:Hid (sh s.data.toList=false):=by unfold Hid sh;rw [decide_eq_false (by omega)];rfl
  have hi:decide ((s.size:Int)<=400)=false:=decide_eq_false (by omega);have hi2:(400:Int)<(s.size:Int):=by omega
  clear la;go_enter Tryz.func151,Tryz.ntmps151;go_wp2_with fail;go_returns;exact⟨by rw [HK.out];rfl,rfl⟩
theorem lW {l:Bs} (h:sh l=true):aj l=true:=by unfold sh at h;rw [Bool.and_eq_true] at h;exact h.2
theorem iI {l:Bs} (h:aI l=none):dJ l=.tuple #[.bool false,.string ⟨#[]⟩,.string ⟨#[]⟩,.bool false]:=by unfold dJ;rw [h];rfl
theorem rD {l:Bs} {p:Bool} {A D:ByteArray} (h:aI l=some (p,A.data.toList,D.data.toList)):dJ l=.tuple #[.bool p,.string A,.string D,.bool true]:=by
 unfold dJ;rw [h];simp only [Option.getD_some,Option.isSome_some]
theorem Lc {n d:Bs} (hn:n=[48]) (hd:sh d=true) (h1:¬ d=[49]):decide (Nat.gcd (ag n) (ag d)=1)=false:=by
 subst hn;apply decide_eq_false;intro e;have e2:Nat.gcd (ag [48]) (ag d)=ag d:=by rw [show ag [48]=0 from rfl,Nat.gcd_zero_left]
 rw [e2] at e;exact h1 ((yg ((iG _).1 (lW hd)).1).1 e)
theorem lQ (s:ByteArray) (w:World) (hs:s.size<=100000) :
  Calls Tryz.prog 119 #[.string s] w fun e w'=>e=.returned (dJ s.data.toList)/\Below w.heap.size w w':=by
 have HP:Hid (aI s.data.toList=if mW (bY s.data.toList).1 (cB (bY s.data.toList).2).1 (cB (bY s.data.toList).2).2.1 (cB (bY s.data.toList).2).2.2=true then some ((bY s.data.toList).1,(cB (bY s.data.toList).2).2.1,(cB (bY s.data.toList).2).2.2) else none):=rfl;have hA:Below w.heap.size w w:=Below.refl _ _;have la:=Lib.size_eq s;by_cases hneg:s.data.toList.head? = some 45
 ·have h0:0<s.size:=by
   rw [la];cases hl:s.data.toList with
   | nil=>rw [hl] at hneg;simp at hneg
   | cons=>simp
  have hb:s[0]=45:=by
   rw [tC s h0]
   cases hl:s.data.toList with
   | nil=>rw [hl] at hneg;simp at hneg
   | cons x r=>rw [hl] at hneg;simp at hneg;simp [hneg]
  have hS:bY s.data.toList=(true,s.data.toList.tail):=by unfold bY;rw [if_pos hneg]
  have hRd:(s.extract 1 s.size).data.toList=s.data.toList.tail:=by
   rw [eH,List.take_of_length_le (by rw [List.length_drop,<-la];omega),List.drop_one]
  have sR:(s.extract 1 s.size).size=s.size-1:=by rw [Lib.size_eq,hRd,List.length_tail,<-la]
  rw [hS] at HP;simp only [<-hRd] at HP;have h45:s[0].toNat=45:=by rw [hb];rfl
  have i0:(0:Int)<(s.size:Int):=by omega
  have i1:(1:Int)<=(s.size:Int):=by omega
  clear hneg hS hRd hb;generalize hRe:s.extract 1 s.size=R at *;have sR2:R.size<=100000:=by omega
  clear sR;have hix:=fun W=>yD R 47 W (by omega)
  unfold oO at hix;unfold cB at HP
  cases h47:fM 47 (R).data.toList with
  | some p =>
   obtain⟨hcut,hnot⟩:=nM.1 (show fM 47 (R).data.toList=some (p.1,p.2) by rw [h47]);have hsz:=Ah (a:=p.1) (b:=p.2) h47;rw [<-Lib.size_eq] at hsz;rw [h47] at hix HP;obtain⟨k,hk⟩:∃ k,p.1.length=k:=⟨_,rfl⟩;have hNd:((R).extract 0 k).data.toList=p.1:=by rw [eH,List.drop_zero,hcut,<-hk];simp
   have hDd:((R).extract (k+1) (R).size).data.toList=p.2:=by rw [eH,hcut,<-hk,List.take_of_length_le (by rw [List.length_drop,<-hcut,<-Lib.size_eq];omega)];simp
   simp only [hk] at hix;rw [hk] at hsz;simp only [<-hNd,<-hDd] at HP;have sN:((R).extract 0 k).size<=100000:=by rw [Lib.size_eq,hNd,hk];omega
   have sD:((R).extract (k+1) (R).size).size<=100000:=by rw [Lib.size_eq,hDd];omega
   have k1:(k:Int)<=((R).size:Int):=by omega
   have k2:(k:Int)+1<=((R).size:Int):=by omega
   have k0:(0:Int)<=(k:Int):=by omega
   have kw:((47:UInt8).toNat:Int)=47:=rfl;clear h47 hcut hnot hNd hDd hk;generalize hNe:(R).extract 0 k=N at *;generalize hDe:(R).extract (k+1) (R).size=D at *;have gN:=fun W=>nT N W (by omega)
   have gD:=fun W=>nT D W (by omega)
   have q5:=oP N;have q6:=oP D;have q7:=vN (D:=D);rw [wh] at HP;have p5:((N).data.toList == [48])=decide ((N).data.toList=[48]):=by rw [<-q5,Lib.toList_data]
   have p6:((D).data.toList == [48])=decide ((D).data.toList=[48]):=by rw [<-q6,Lib.toList_data]
   have p7:((D).data.toList == [49])=decide ((D).data.toList=[49]):=by rw [<-q7,Lib.toList_data]
   rw [p5,p6,p7] at HP;clear p5 p6 p7 la
   cases h1:sh (N).data.toList with
   | false =>
    rw [h1] at HP gN;have HK:Hid (dJ s.data.toList=.tuple #[.bool false,.string ⟨#[]⟩,.string ⟨#[]⟩,.bool false]):=iI (by rw [HP.out];first|rfl|simp);clear HP;go_enter Tryz.func119,Tryz.ntmps119
    go_wp2_with (first
     | (go_at_call 150;refine (hix _).mono ?_;rintro e w1 ⟨rfl,rfl⟩)
     | (go_at_call_of 151 (Value.string N);refine (gN _).mono ?_;rintro e w1 ⟨rfl,rfl⟩)
     | (go_at_call_of 151 (Value.string D);refine (gD _).mono ?_;rintro e w1 ⟨rfl,rfl⟩)
     | (go_at_call 152;refine (gG _).mono ?_;rintro e w1 ⟨rfl,b1⟩))
    go_returns;exact⟨by rw [HK.out],hA⟩
   | true =>
    rw [h1] at HP gN
    cases h2:sh (D).data.toList with
    | false =>
     rw [h2] at HP gD;have HK:Hid (dJ s.data.toList=.tuple #[.bool false,.string ⟨#[]⟩,.string ⟨#[]⟩,.bool false]):=iI (by rw [HP.out];first|rfl|simp);clear HP;go_enter Tryz.func119,Tryz.ntmps119
     go_wp2_with (first
      | (go_at_call 150;refine (hix _).mono ?_;rintro e w1 ⟨rfl,rfl⟩)
      | (go_at_call_of 151 (Value.string N);refine (gN _).mono ?_;rintro e w1 ⟨rfl,rfl⟩)
      | (go_at_call_of 151 (Value.string D);refine (gD _).mono ?_;rintro e w1 ⟨rfl,rfl⟩)
      | (go_at_call 152;refine (gG _).mono ?_;rintro e w1 ⟨rfl,b1⟩))
     go_returns;exact⟨by rw [HK.out],hA⟩
    | true =>
     rw [h2] at HP gD;by_cases z6:(D).data.toList=[48]
     ·rw [decide_eq_true z6] at HP q6
      have HK:Hid (dJ s.data.toList=.tuple #[.bool false,.string ⟨#[]⟩,.string ⟨#[]⟩,.bool false]):=iI (by rw [HP.out];first|rfl|simp);clear HP;go_enter Tryz.func119,Tryz.ntmps119
      go_wp2_with (first
       | (go_at_call 150;refine (hix _).mono ?_;rintro e w1 ⟨rfl,rfl⟩)
       | (go_at_call_of 151 (Value.string N);refine (gN _).mono ?_;rintro e w1 ⟨rfl,rfl⟩)
       | (go_at_call_of 151 (Value.string D);refine (gD _).mono ?_;rintro e w1 ⟨rfl,rfl⟩)
       | (go_at_call 152;refine (gG _).mono ?_;rintro e w1 ⟨rfl,b1⟩))
      go_returns;exact⟨by rw [HK.out],hA⟩
     ·rw [decide_eq_false z6] at HP q6
      by_cases z5:(N).data.toList=[48]
      ·rw [decide_eq_true z5] at HP q5
       have HK:Hid (dJ s.data.toList=.tuple #[.bool false,.string ⟨#[]⟩,.string ⟨#[]⟩,.bool false]):=iI (by rw [HP.out];first|rfl|simp);clear HP;go_enter Tryz.func119,Tryz.ntmps119
       go_wp2_with (first
        | (go_at_call 150;refine (hix _).mono ?_;rintro e w1 ⟨rfl,rfl⟩)
        | (go_at_call_of 151 (Value.string N);refine (gN _).mono ?_;rintro e w1 ⟨rfl,rfl⟩)
        | (go_at_call_of 151 (Value.string D);refine (gD _).mono ?_;rintro e w1 ⟨rfl,rfl⟩)
        | (go_at_call 152;refine (gG _).mono ?_;rintro e w1 ⟨rfl,b1⟩))
       go_returns;exact⟨by rw [HK.out],hA⟩
      ·rw [decide_eq_false z5] at HP q5
       by_cases z7:(D).data.toList=[49]
       ·rw [decide_eq_true z7] at HP q7
        have HK:Hid (dJ s.data.toList=.tuple #[.bool false,.string ⟨#[]⟩,.string ⟨#[]⟩,.bool false]):=iI (by rw [HP.out];first|rfl|simp);clear HP;go_enter Tryz.func119,Tryz.ntmps119
        go_wp2_with (first
         | (go_at_call 150;refine (hix _).mono ?_;rintro e w1 ⟨rfl,rfl⟩)
         | (go_at_call_of 151 (Value.string N);refine (gN _).mono ?_;rintro e w1 ⟨rfl,rfl⟩)
         | (go_at_call_of 151 (Value.string D);refine (gD _).mono ?_;rintro e w1 ⟨rfl,rfl⟩)
         | (go_at_call 152;refine (gG _).mono ?_;rintro e w1 ⟨rfl,b1⟩))
        go_returns;exact⟨by rw [HK.out],hA⟩
       ·rw [decide_eq_false z7] at HP q7
        have gG:=fun W=>rO N D W (by omega) (by omega)
        rw [show gH (N).data.toList (D).data.toList=(af (Nat.gcd (ag (N).data.toList) (ag (D).data.toList)),0) from by unfold gH;rw [if_pos ⟨lW h1,lW h2⟩]] at gG;unfold aA at gG;obtain⟨G,hG⟩:∃ G:ByteArray,(⟨(af (Nat.gcd (ag (N).data.toList) (ag (D).data.toList))).toArray⟩:ByteArray)=G:=⟨_,rfl⟩;have hGd:G.data.toList=af (Nat.gcd (ag (N).data.toList) (ag (D).data.toList)):=by rw [<-hG]
        have q8:=qg hGd;simp only [hG] at gG;clear hG hGd;by_cases z8:Nat.gcd (ag (N).data.toList) (ag (D).data.toList)=1
        ·rw [decide_eq_true z8] at HP q8
         have HK:Hid (dJ s.data.toList=.tuple #[.bool true,.string N,.string D,.bool true]):=rD (A:=N) (D:=D) (by rw [HP.out];rfl);clear HP;go_enter Tryz.func119,Tryz.ntmps119
         go_wp2_with (first
          | (go_at_call 150;refine (hix _).mono ?_;rintro e w1 ⟨rfl,rfl⟩)
          | (go_at_call_of 151 (Value.string N);refine (gN _).mono ?_;rintro e w1 ⟨rfl,rfl⟩)
          | (go_at_call_of 151 (Value.string D);refine (gD _).mono ?_;rintro e w1 ⟨rfl,rfl⟩)
          | (go_at_call 152;refine (gG _).mono ?_;rintro e w1 ⟨rfl,b1⟩))
         go_returns;exact⟨by rw [HK.out],b1⟩
        ·rw [decide_eq_false z8] at HP q8
         have HK:Hid (dJ s.data.toList=.tuple #[.bool false,.string ⟨#[]⟩,.string ⟨#[]⟩,.bool false]):=iI (by rw [HP.out];first|rfl|simp);clear HP;go_enter Tryz.func119,Tryz.ntmps119
         go_wp2_with (first
          | (go_at_call 150;refine (hix _).mono ?_;rintro e w1 ⟨rfl,rfl⟩)
          | (go_at_call_of 151 (Value.string N);refine (gN _).mono ?_;rintro e w1 ⟨rfl,rfl⟩)
          | (go_at_call_of 151 (Value.string D);refine (gD _).mono ?_;rintro e w1 ⟨rfl,rfl⟩)
          | (go_at_call 152;refine (gG _).mono ?_;rintro e w1 ⟨rfl,b1⟩))
         go_returns;exact⟨by rw [HK.out],b1⟩
  | none =>
   rw [h47] at hix HP;have kw:((47:UInt8).toNat:Int)=47:=rfl;have s49:(⟨#[49]⟩:ByteArray).size=1:=rfl;clear h47;have HP':Hid (aI s.data.toList=if mW true false (R).data.toList (⟨#[49]⟩:ByteArray).data.toList=true then some (true,(R).data.toList,(⟨#[49]⟩:ByteArray).data.toList) else none):=HP.out;clear HP;have HP:=HP';clear HP';have gN:=fun W=>nT R W (by omega)
   have gD:=fun W=>nT (⟨#[49]⟩:ByteArray) W (by omega)
   have q5:=oP R;have q6:=oP (⟨#[49]⟩:ByteArray);have q7:=vN (D:=(⟨#[49]⟩:ByteArray));rw [wh] at HP;have p5:((R).data.toList == [48])=decide ((R).data.toList=[48]):=by rw [<-q5,Lib.toList_data]
   have p6:(((⟨#[49]⟩:ByteArray)).data.toList == [48])=decide (((⟨#[49]⟩:ByteArray)).data.toList=[48]):=by rw [<-q6,Lib.toList_data]
   have p7:(((⟨#[49]⟩:ByteArray)).data.toList == [49])=decide (((⟨#[49]⟩:ByteArray)).data.toList=[49]):=by rw [<-q7,Lib.toList_data]
   rw [p5,p6,p7] at HP;clear p5 p6 p7 la
   cases h1:sh (R).data.toList with
   | false =>
    rw [h1] at HP gN;have HK:Hid (dJ s.data.toList=.tuple #[.bool false,.string ⟨#[]⟩,.string ⟨#[]⟩,.bool false]):=iI (by rw [HP.out];first|rfl|simp);clear HP;go_enter Tryz.func119,Tryz.ntmps119
    go_wp2_with (first
     | (go_at_call 150;refine (hix _).mono ?_;rintro e w1 ⟨rfl,rfl⟩)
     | (go_at_call_of 151 (Value.string R);refine (gN _).mono ?_;rintro e w1 ⟨rfl,rfl⟩)
     | (go_at_call_of 151 (Value.string (⟨#[49]⟩:ByteArray));refine (gD _).mono ?_;rintro e w1 ⟨rfl,rfl⟩)
     | (go_at_call 152;refine (gG _).mono ?_;rintro e w1 ⟨rfl,b1⟩))
    go_returns;exact⟨by rw [HK.out],hA⟩
   | true =>
    rw [h1] at HP gN
    cases h2:sh ((⟨#[49]⟩:ByteArray)).data.toList with
    | false =>
     rw [h2] at HP gD;have HK:Hid (dJ s.data.toList=.tuple #[.bool false,.string ⟨#[]⟩,.string ⟨#[]⟩,.bool false]):=iI (by rw [HP.out];first|rfl|simp);clear HP;go_enter Tryz.func119,Tryz.ntmps119
     go_wp2_with (first
      | (go_at_call 150;refine (hix _).mono ?_;rintro e w1 ⟨rfl,rfl⟩)
      | (go_at_call_of 151 (Value.string R);refine (gN _).mono ?_;rintro e w1 ⟨rfl,rfl⟩)
      | (go_at_call_of 151 (Value.string (⟨#[49]⟩:ByteArray));refine (gD _).mono ?_;rintro e w1 ⟨rfl,rfl⟩)
      | (go_at_call 152;refine (gG _).mono ?_;rintro e w1 ⟨rfl,b1⟩))
     go_returns;exact⟨by rw [HK.out],hA⟩
    | true =>
     rw [h2] at HP gD;by_cases z6:((⟨#[49]⟩:ByteArray)).data.toList=[48]
     ·exact absurd z6 (by decide)
     ·rw [decide_eq_false z6] at HP q6
      by_cases z5:(R).data.toList=[48]
      ·rw [decide_eq_true z5] at HP q5
       have HK:Hid (dJ s.data.toList=.tuple #[.bool false,.string ⟨#[]⟩,.string ⟨#[]⟩,.bool false]):=iI (by rw [HP.out];first|rfl|simp);clear HP;go_enter Tryz.func119,Tryz.ntmps119
       go_wp2_with (first
        | (go_at_call 150;refine (hix _).mono ?_;rintro e w1 ⟨rfl,rfl⟩)
        | (go_at_call_of 151 (Value.string R);refine (gN _).mono ?_;rintro e w1 ⟨rfl,rfl⟩)
        | (go_at_call_of 151 (Value.string (⟨#[49]⟩:ByteArray));refine (gD _).mono ?_;rintro e w1 ⟨rfl,rfl⟩)
        | (go_at_call 152;refine (gG _).mono ?_;rintro e w1 ⟨rfl,b1⟩))
       go_returns;exact⟨by rw [HK.out],hA⟩
      ·rw [decide_eq_false z5] at HP q5
       have gG:=fun W=>rO R (⟨#[49]⟩:ByteArray) W (by omega) (by omega)
       rw [show gH (R).data.toList ((⟨#[49]⟩:ByteArray)).data.toList=(af (Nat.gcd (ag (R).data.toList) (ag ((⟨#[49]⟩:ByteArray)).data.toList)),0) from by unfold gH;rw [if_pos ⟨lW h1,lW h2⟩]] at gG;unfold aA at gG;obtain⟨G,hG⟩:∃ G:ByteArray,(⟨(af (Nat.gcd (ag (R).data.toList) (ag ((⟨#[49]⟩:ByteArray)).data.toList))).toArray⟩:ByteArray)=G:=⟨_,rfl⟩;have hGd:G.data.toList=af (Nat.gcd (ag (R).data.toList) (ag ((⟨#[49]⟩:ByteArray)).data.toList)):=by rw [<-hG]
       have q8:=qg hGd;simp only [hG] at gG;clear hG hGd;by_cases z8:Nat.gcd (ag (R).data.toList) (ag ((⟨#[49]⟩:ByteArray)).data.toList)=1
       ·rw [decide_eq_true z8] at HP q8
        have HK:Hid (dJ s.data.toList=.tuple #[.bool true,.string R,.string (⟨#[49]⟩:ByteArray),.bool true]):=rD (A:=R) (D:=(⟨#[49]⟩:ByteArray)) (by rw [HP.out];rfl);clear HP;go_enter Tryz.func119,Tryz.ntmps119
        go_wp2_with (first
         | (go_at_call 150;refine (hix _).mono ?_;rintro e w1 ⟨rfl,rfl⟩)
         | (go_at_call_of 151 (Value.string R);refine (gN _).mono ?_;rintro e w1 ⟨rfl,rfl⟩)
         | (go_at_call_of 151 (Value.string (⟨#[49]⟩:ByteArray));refine (gD _).mono ?_;rintro e w1 ⟨rfl,rfl⟩)
         | (go_at_call 152;refine (gG _).mono ?_;rintro e w1 ⟨rfl,b1⟩))
        go_returns;exact⟨by rw [HK.out],b1⟩
       ·exact absurd (show Nat.gcd (ag (R).data.toList) 1=1 from Nat.gcd_one_right _) z8
 ·have hS:bY s.data.toList=(false,s.data.toList):=by unfold bY;rw [if_neg hneg]
  rw [hS] at HP;by_cases h0:0<s.size
  ·have hb:¬ s[0].toNat=45:=by
    intro e;apply hneg;have e2:s[0]=45:=UInt8.toNat_inj.1 e;rw [tC s h0] at e2
    cases hl:s.data.toList with
    | nil=>rw [la,hl] at h0;simp at h0
    | cons x r=>rw [hl] at e2;simp at e2;simp [e2]
   obtain⟨x,hx⟩:∃ x,s[0].toNat=x:=⟨_,rfl⟩;rw [hx] at hb;have hxb:((x:Int) == 45)=false:=beq_eq_false_iff_ne.2 (by omega);have i0:(0:Int)<(s.size:Int):=by omega
   clear hneg hS;have hix:=fun W=>yD s 47 W (by omega)
   unfold oO at hix;unfold cB at HP
   cases h47:fM 47 (s).data.toList with
   | some p =>
    obtain⟨hcut,hnot⟩:=nM.1 (show fM 47 (s).data.toList=some (p.1,p.2) by rw [h47]);have hsz:=Ah (a:=p.1) (b:=p.2) h47;rw [<-Lib.size_eq] at hsz;rw [h47] at hix HP;obtain⟨k,hk⟩:∃ k,p.1.length=k:=⟨_,rfl⟩;have hNd:((s).extract 0 k).data.toList=p.1:=by rw [eH,List.drop_zero,hcut,<-hk];simp
    have hDd:((s).extract (k+1) (s).size).data.toList=p.2:=by rw [eH,hcut,<-hk,List.take_of_length_le (by rw [List.length_drop,<-hcut,<-Lib.size_eq];omega)];simp
    simp only [hk] at hix;rw [hk] at hsz;simp only [<-hNd,<-hDd] at HP;have sN:((s).extract 0 k).size<=100000:=by rw [Lib.size_eq,hNd,hk];omega
    have sD:((s).extract (k+1) (s).size).size<=100000:=by rw [Lib.size_eq,hDd];omega
    have k1:(k:Int)<=((s).size:Int):=by omega
    have k2:(k:Int)+1<=((s).size:Int):=by omega
    have k0:(0:Int)<=(k:Int):=by omega
    have kw:((47:UInt8).toNat:Int)=47:=rfl;clear h47 hcut hnot hNd hDd hk;generalize hNe:(s).extract 0 k=N at *;generalize hDe:(s).extract (k+1) (s).size=D at *;have gN:=fun W=>nT N W (by omega)
    have gD:=fun W=>nT D W (by omega)
    have q5:=oP N;have q6:=oP D;have q7:=vN (D:=D);rw [wh] at HP;have p5:((N).data.toList == [48])=decide ((N).data.toList=[48]):=by rw [<-q5,Lib.toList_data]
    have p6:((D).data.toList == [48])=decide ((D).data.toList=[48]):=by rw [<-q6,Lib.toList_data]
    have p7:((D).data.toList == [49])=decide ((D).data.toList=[49]):=by rw [<-q7,Lib.toList_data]
    rw [p5,p6,p7] at HP;clear p5 p6 p7 la
    cases h1:sh (N).data.toList with
    | false =>
     rw [h1] at HP gN;have HK:Hid (dJ s.data.toList=.tuple #[.bool false,.string ⟨#[]⟩,.string ⟨#[]⟩,.bool false]):=iI (by rw [HP.out];first|rfl|simp);clear HP;go_enter Tryz.func119,Tryz.ntmps119
     go_wp2_with (first
      | (go_at_call 150;refine (hix _).mono ?_;rintro e w1 ⟨rfl,rfl⟩)
      | (go_at_call_of 151 (Value.string N);refine (gN _).mono ?_;rintro e w1 ⟨rfl,rfl⟩)
      | (go_at_call_of 151 (Value.string D);refine (gD _).mono ?_;rintro e w1 ⟨rfl,rfl⟩)
      | (go_at_call 152;refine (gG _).mono ?_;rintro e w1 ⟨rfl,b1⟩))
     go_returns;exact⟨by rw [HK.out],hA⟩
    | true =>
     rw [h1] at HP gN
     cases h2:sh (D).data.toList with
     | false =>
      rw [h2] at HP gD;have HK:Hid (dJ s.data.toList=.tuple #[.bool false,.string ⟨#[]⟩,.string ⟨#[]⟩,.bool false]):=iI (by rw [HP.out];first|rfl|simp);clear HP;go_enter Tryz.func119,Tryz.ntmps119
      go_wp2_with (first
       | (go_at_call 150;refine (hix _).mono ?_;rintro e w1 ⟨rfl,rfl⟩)
       | (go_at_call_of 151 (Value.string N);refine (gN _).mono ?_;rintro e w1 ⟨rfl,rfl⟩)
       | (go_at_call_of 151 (Value.string D);refine (gD _).mono ?_;rintro e w1 ⟨rfl,rfl⟩)
       | (go_at_call 152;refine (gG _).mono ?_;rintro e w1 ⟨rfl,b1⟩))
      go_returns;exact⟨by rw [HK.out],hA⟩
     | true =>
      rw [h2] at HP gD;by_cases z6:(D).data.toList=[48]
      ·rw [decide_eq_true z6] at HP q6
       have HK:Hid (dJ s.data.toList=.tuple #[.bool false,.string ⟨#[]⟩,.string ⟨#[]⟩,.bool false]):=iI (by rw [HP.out];first|rfl|simp);clear HP;go_enter Tryz.func119,Tryz.ntmps119
       go_wp2_with (first
        | (go_at_call 150;refine (hix _).mono ?_;rintro e w1 ⟨rfl,rfl⟩)
        | (go_at_call_of 151 (Value.string N);refine (gN _).mono ?_;rintro e w1 ⟨rfl,rfl⟩)
        | (go_at_call_of 151 (Value.string D);refine (gD _).mono ?_;rintro e w1 ⟨rfl,rfl⟩)
        | (go_at_call 152;refine (gG _).mono ?_;rintro e w1 ⟨rfl,b1⟩))
       go_returns;exact⟨by rw [HK.out],hA⟩
      ·rw [decide_eq_false z6] at HP q6
       by_cases z5:(N).data.toList=[48]
       ·rw [decide_eq_true z5] at HP q5
        by_cases z7:(D).data.toList=[49]
        ·rw [decide_eq_true z7] at HP q7
         have HK:Hid (dJ s.data.toList=.tuple #[.bool false,.string ⟨#[]⟩,.string ⟨#[]⟩,.bool false]):=iI (by rw [HP.out];first|rfl|simp);clear HP;go_enter Tryz.func119,Tryz.ntmps119
         go_wp2_with (first
          | (go_at_call 150;refine (hix _).mono ?_;rintro e w1 ⟨rfl,rfl⟩)
          | (go_at_call_of 151 (Value.string N);refine (gN _).mono ?_;rintro e w1 ⟨rfl,rfl⟩)
          | (go_at_call_of 151 (Value.string D);refine (gD _).mono ?_;rintro e w1 ⟨rfl,rfl⟩)
          | (go_at_call 152;refine (gG _).mono ?_;rintro e w1 ⟨rfl,b1⟩))
         go_returns;exact⟨by rw [HK.out],hA⟩
        ·rw [decide_eq_false z7] at HP q7
         rw [Lc z5 h2 z7] at HP;have HK:Hid (dJ s.data.toList=.tuple #[.bool false,.string ⟨#[]⟩,.string ⟨#[]⟩,.bool false]):=iI (by rw [HP.out];first|rfl|simp);clear HP;go_enter Tryz.func119,Tryz.ntmps119
         go_wp2_with (first
          | (go_at_call 150;refine (hix _).mono ?_;rintro e w1 ⟨rfl,rfl⟩)
          | (go_at_call_of 151 (Value.string N);refine (gN _).mono ?_;rintro e w1 ⟨rfl,rfl⟩)
          | (go_at_call_of 151 (Value.string D);refine (gD _).mono ?_;rintro e w1 ⟨rfl,rfl⟩)
          | (go_at_call 152;refine (gG _).mono ?_;rintro e w1 ⟨rfl,b1⟩))
         go_returns;exact⟨by rw [HK.out],hA⟩
       ·rw [decide_eq_false z5] at HP q5
        by_cases z7:(D).data.toList=[49]
        ·rw [decide_eq_true z7] at HP q7
         have HK:Hid (dJ s.data.toList=.tuple #[.bool false,.string ⟨#[]⟩,.string ⟨#[]⟩,.bool false]):=iI (by rw [HP.out];first|rfl|simp);clear HP;go_enter Tryz.func119,Tryz.ntmps119
         go_wp2_with (first
          | (go_at_call 150;refine (hix _).mono ?_;rintro e w1 ⟨rfl,rfl⟩)
          | (go_at_call_of 151 (Value.string N);refine (gN _).mono ?_;rintro e w1 ⟨rfl,rfl⟩)
          | (go_at_call_of 151 (Value.string D);refine (gD _).mono ?_;rintro e w1 ⟨rfl,rfl⟩)
          | (go_at_call 152;refine (gG _).mono ?_;rintro e w1 ⟨rfl,b1⟩))
         go_returns;exact⟨by rw [HK.out],hA⟩
        ·rw [decide_eq_false z7] at HP q7
         have gG:=fun W=>rO N D W (by omega) (by omega)
         rw [show gH (N).data.toList (D).data.toList=(af (Nat.gcd (ag (N).data.toList) (ag (D).data.toList)),0) from by unfold gH;rw [if_pos ⟨lW h1,lW h2⟩]] at gG;unfold aA at gG;obtain⟨G,hG⟩:∃ G:ByteArray,(⟨(af (Nat.gcd (ag (N).data.toList) (ag (D).data.toList))).toArray⟩:ByteArray)=G:=⟨_,rfl⟩;have hGd:G.data.toList=af (Nat.gcd (ag (N).data.toList) (ag (D).data.toList)):=by rw [<-hG]
         have q8:=qg hGd;simp only [hG] at gG;clear hG hGd;by_cases z8:Nat.gcd (ag (N).data.toList) (ag (D).data.toList)=1
         ·rw [decide_eq_true z8] at HP q8
          have HK:Hid (dJ s.data.toList=.tuple #[.bool false,.string N,.string D,.bool true]):=rD (A:=N) (D:=D) (by rw [HP.out];rfl);clear HP;go_enter Tryz.func119,Tryz.ntmps119
          go_wp2_with (first
           | (go_at_call 150;refine (hix _).mono ?_;rintro e w1 ⟨rfl,rfl⟩)
           | (go_at_call_of 151 (Value.string N);refine (gN _).mono ?_;rintro e w1 ⟨rfl,rfl⟩)
           | (go_at_call_of 151 (Value.string D);refine (gD _).mono ?_;rintro e w1 ⟨rfl,rfl⟩)
           | (go_at_call 152;refine (gG _).mono ?_;rintro e w1 ⟨rfl,b1⟩))
          go_returns;exact⟨by rw [HK.out],b1⟩
         ·rw [decide_eq_false z8] at HP q8
          have HK:Hid (dJ s.data.toList=.tuple #[.bool false,.string ⟨#[]⟩,.string ⟨#[]⟩,.bool false]):=iI (by rw [HP.out];first|rfl|simp);clear HP;go_enter Tryz.func119,Tryz.ntmps119
          go_wp2_with (first
           | (go_at_call 150;refine (hix _).mono ?_;rintro e w1 ⟨rfl,rfl⟩)
           | (go_at_call_of 151 (Value.string N);refine (gN _).mono ?_;rintro e w1 ⟨rfl,rfl⟩)
           | (go_at_call_of 151 (Value.string D);refine (gD _).mono ?_;rintro e w1 ⟨rfl,rfl⟩)
           | (go_at_call 152;refine (gG _).mono ?_;rintro e w1 ⟨rfl,b1⟩))
          go_returns;exact⟨by rw [HK.out],b1⟩
   | none =>
    rw [h47] at hix HP;have kw:((47:UInt8).toNat:Int)=47:=rfl;have s49:(⟨#[49]⟩:ByteArray).size=1:=rfl;clear h47;have HP':Hid (aI s.data.toList=if mW false false (s).data.toList (⟨#[49]⟩:ByteArray).data.toList=true then some (false,(s).data.toList,(⟨#[49]⟩:ByteArray).data.toList) else none):=HP.out;clear HP;have HP:=HP';clear HP';have gN:=fun W=>nT s W (by omega)
    have gD:=fun W=>nT (⟨#[49]⟩:ByteArray) W (by omega)
    have q5:=oP s;have q6:=oP (⟨#[49]⟩:ByteArray);have q7:=vN (D:=(⟨#[49]⟩:ByteArray));rw [wh] at HP;have p5:((s).data.toList == [48])=decide ((s).data.toList=[48]):=by rw [<-q5,Lib.toList_data]
    have p6:(((⟨#[49]⟩:ByteArray)).data.toList == [48])=decide (((⟨#[49]⟩:ByteArray)).data.toList=[48]):=by rw [<-q6,Lib.toList_data]
    have p7:(((⟨#[49]⟩:ByteArray)).data.toList == [49])=decide (((⟨#[49]⟩:ByteArray)).data.toList=[49]):=by rw [<-q7,Lib.toList_data]
    rw [p5,p6,p7] at HP;clear p5 p6 p7 la
    cases h1:sh (s).data.toList with
    | false =>
     rw [h1] at HP gN;have HK:Hid (dJ s.data.toList=.tuple #[.bool false,.string ⟨#[]⟩,.string ⟨#[]⟩,.bool false]):=iI (by rw [HP.out];first|rfl|simp);clear HP;go_enter Tryz.func119,Tryz.ntmps119
     go_wp2_with (first
      | (go_at_call 150;refine (hix _).mono ?_;rintro e w1 ⟨rfl,rfl⟩)
      | (go_at_call_of 151 (Value.string s);refine (gN _).mono ?_;rintro e w1 ⟨rfl,rfl⟩)
      | (go_at_call_of 151 (Value.string (⟨#[49]⟩:ByteArray));refine (gD _).mono ?_;rintro e w1 ⟨rfl,rfl⟩)
      | (go_at_call 152;refine (gG _).mono ?_;rintro e w1 ⟨rfl,b1⟩))
     go_returns;exact⟨by rw [HK.out],hA⟩
    | true =>
     rw [h1] at HP gN
     cases h2:sh ((⟨#[49]⟩:ByteArray)).data.toList with
     | false =>
      rw [h2] at HP gD;have HK:Hid (dJ s.data.toList=.tuple #[.bool false,.string ⟨#[]⟩,.string ⟨#[]⟩,.bool false]):=iI (by rw [HP.out];first|rfl|simp);clear HP;go_enter Tryz.func119,Tryz.ntmps119
      go_wp2_with (first
       | (go_at_call 150;refine (hix _).mono ?_;rintro e w1 ⟨rfl,rfl⟩)
       | (go_at_call_of 151 (Value.string s);refine (gN _).mono ?_;rintro e w1 ⟨rfl,rfl⟩)
       | (go_at_call_of 151 (Value.string (⟨#[49]⟩:ByteArray));refine (gD _).mono ?_;rintro e w1 ⟨rfl,rfl⟩)
       | (go_at_call 152;refine (gG _).mono ?_;rintro e w1 ⟨rfl,b1⟩))
      go_returns;exact⟨by rw [HK.out],hA⟩
     | true =>
      rw [h2] at HP gD;by_cases z6:((⟨#[49]⟩:ByteArray)).data.toList=[48]
      ·exact absurd z6 (by decide)
      ·rw [decide_eq_false z6] at HP q6
       by_cases z5:(s).data.toList=[48]
       ·rw [decide_eq_true z5] at HP q5
        have gG:=fun W=>rO s (⟨#[49]⟩:ByteArray) W (by omega) (by omega)
        rw [show gH (s).data.toList ((⟨#[49]⟩:ByteArray)).data.toList=(af (Nat.gcd (ag (s).data.toList) (ag ((⟨#[49]⟩:ByteArray)).data.toList)),0) from by unfold gH;rw [if_pos ⟨lW h1,lW h2⟩]] at gG;unfold aA at gG;obtain⟨G,hG⟩:∃ G:ByteArray,(⟨(af (Nat.gcd (ag (s).data.toList) (ag ((⟨#[49]⟩:ByteArray)).data.toList))).toArray⟩:ByteArray)=G:=⟨_,rfl⟩;have hGd:G.data.toList=af (Nat.gcd (ag (s).data.toList) (ag ((⟨#[49]⟩:ByteArray)).data.toList)):=by rw [<-hG]
        have q8:=qg hGd;simp only [hG] at gG;clear hG hGd;by_cases z8:Nat.gcd (ag (s).data.toList) (ag ((⟨#[49]⟩:ByteArray)).data.toList)=1
        ·rw [decide_eq_true z8] at HP q8
         have HK:Hid (dJ s.data.toList=.tuple #[.bool false,.string s,.string (⟨#[49]⟩:ByteArray),.bool true]):=rD (A:=s) (D:=(⟨#[49]⟩:ByteArray)) (by rw [HP.out];rfl);clear HP;go_enter Tryz.func119,Tryz.ntmps119
         go_wp2_with (first
          | (go_at_call 150;refine (hix _).mono ?_;rintro e w1 ⟨rfl,rfl⟩)
          | (go_at_call_of 151 (Value.string s);refine (gN _).mono ?_;rintro e w1 ⟨rfl,rfl⟩)
          | (go_at_call_of 151 (Value.string (⟨#[49]⟩:ByteArray));refine (gD _).mono ?_;rintro e w1 ⟨rfl,rfl⟩)
          | (go_at_call 152;refine (gG _).mono ?_;rintro e w1 ⟨rfl,b1⟩))
         go_returns;exact⟨by rw [HK.out],b1⟩
        ·exact absurd (show Nat.gcd (ag (s).data.toList) 1=1 from Nat.gcd_one_right _) z8
       ·rw [decide_eq_false z5] at HP q5
        have gG:=fun W=>rO s (⟨#[49]⟩:ByteArray) W (by omega) (by omega)
        rw [show gH (s).data.toList ((⟨#[49]⟩:ByteArray)).data.toList=(af (Nat.gcd (ag (s).data.toList) (ag ((⟨#[49]⟩:ByteArray)).data.toList)),0) from by unfold gH;rw [if_pos ⟨lW h1,lW h2⟩]] at gG;unfold aA at gG;obtain⟨G,hG⟩:∃ G:ByteArray,(⟨(af (Nat.gcd (ag (s).data.toList) (ag ((⟨#[49]⟩:ByteArray)).data.toList))).toArray⟩:ByteArray)=G:=⟨_,rfl⟩;have hGd:G.data.toList=af (Nat.gcd (ag (s).data.toList) (ag ((⟨#[49]⟩:ByteArray)).data.toList)):=by rw [<-hG]
        have q8:=qg hGd;simp only [hG] at gG;clear hG hGd;by_cases z8:Nat.gcd (ag (s).data.toList) (ag ((⟨#[49]⟩:ByteArray)).data.toList)=1
        ·rw [decide_eq_true z8] at HP q8
         have HK:Hid (dJ s.data.toList=.tuple #[.bool false,.string s,.string (⟨#[49]⟩:ByteArray),.bool true]):=rD (A:=s) (D:=(⟨#[49]⟩:ByteArray)) (by rw [HP.out];rfl);clear HP;go_enter Tryz.func119,Tryz.ntmps119
         go_wp2_with (first
          | (go_at_call 150;refine (hix _).mono ?_;rintro e w1 ⟨rfl,rfl⟩)
          | (go_at_call_of 151 (Value.string s);refine (gN _).mono ?_;rintro e w1 ⟨rfl,rfl⟩)
          | (go_at_call_of 151 (Value.string (⟨#[49]⟩:ByteArray));refine (gD _).mono ?_;rintro e w1 ⟨rfl,rfl⟩)
          | (go_at_call 152;refine (gG _).mono ?_;rintro e w1 ⟨rfl,b1⟩))
         go_returns;exact⟨by rw [HK.out],b1⟩
        ·exact absurd (show Nat.gcd (ag (s).data.toList) 1=1 from Nat.gcd_one_right _) z8
  ·have i0:decide ((0:Int)<(s.size:Int))=false:=decide_eq_false (by omega)
   have i1:(s.size:Int)<=0:=by omega
   have hsh:sh s.data.toList=false:=by
    have e:s.data.toList=[]:=fF (by omega);rw [e];rfl
   have hz:s.size=0:=by omega
   have gN:=fun W=>nT s W (by omega)
   rw [hsh] at gN;have hix:=fun W=>yD s 47 W (by omega)
   have e:oO 47 s.data.toList=-1:=by rw [fF hz];rfl
   rw [e] at hix;have HK:Hid (dJ s.data.toList=.tuple #[.bool false,.string ⟨#[]⟩,.string ⟨#[]⟩,.bool false]):=by rw [Hid,fF hz];rfl
   clear HP hneg hS h0 hsh e la;go_enter Tryz.func119,Tryz.ntmps119
   go_wp2_with (first
    | (go_at_call 150;refine (hix _).mono ?_;rintro e w1 ⟨rfl,rfl⟩)
    | (go_at_call_of 151 (Value.string s);refine (gN _).mono ?_;rintro e w1 ⟨rfl,rfl⟩))
   go_returns;exact⟨by rw [HK.out],hA⟩
theorem Di (s:ByteArray) (w:World) (hs:s.size<=100000) :
  Calls Tryz.prog 102 #[.string s] w fun e w'=>e=.returned (.bool (aK s.data.toList).isSome)/\Below w.heap.size w w':=by
 have hc:=lQ s w hs;unfold dJ at hc;rw [mX] at hc;generalize (aK s.data.toList).isSome=ok at *;generalize ((aI s.data.toList).getD (false,[],[]))=nv at *;go_enter Tryz.func102,Tryz.ntmps102;go_wp2_with (go_at_call 119;refine hc.mono ?_;rintro e w1 ⟨rfl,b1⟩);go_returns;exact⟨rfl,b1⟩
theorem Ij {m n:Nat} (hn:n≠0):Nat.gcd m n≠0:=Nat.ne_of_gt (Nat.gcd_pos_of_pos_right _ (Nat.pos_of_ne_zero hn))
theorem KH {m n:Nat} (hn:n≠0):m / Nat.gcd m n=0 ↔ m=0:=by
 constructor
 ·intro h
  have h1:=Nat.div_mul_cancel (Nat.gcd_dvd_left m n);rw [h] at h1;omega
 ·rintro rfl;simp
theorem JL (nb:Bool) (a d:Bs):uq nb a d=if d=[49] then (if nb=true then 45::a else a) else (if nb=true then 45::a else a)++([47]++d):=by
 unfold uq;by_cases h:d=[49] <;> cases nb <;> simp [h]
theorem rM {a b:ByteArray} {v:Value} (h:a.data.toList=b.data.toList):Ending.returned (.tuple #[.string a,v])=.returned (.tuple #[.string b,v]):=by
 have:a=b:=by
  cases a;cases b;simp at h;rw [h]
 rw [this]
theorem AA (a b:ByteArray) (m n:Nat) (ha:a.data.toList=af m) (hb:b.data.toList=af n) (sa:a.size<=1000) (sb:b.size<=1000) (hn:n≠0) (W:World) :
  Calls Tryz.prog 160 #[.string a,.string b] W (oI W (af (m / n),af (m % n),0)):=by
 have h:=Dv a b W (by omega) (by omega);rw [Ce ha hb (by rw [<-Lib.size_eq];exact sa) (by rw [<-Lib.size_eq];exact sb) hn] at h;exact h
theorem vZ (neg:Bool) (A D:ByteArray) (m n:Nat) (w:World) (hA:A.data.toList=af m) (hD:D.data.toList=af n) (sA:A.size<=1000) (sD:D.size<=1000) (hn:n≠0) :
  Calls Tryz.prog 124 #[.bool neg,.string A,.string D] w (aA w (iq neg m n)):=by
 have lA:A.data.toList.length<=1000:=by rw [<-Lib.size_eq];exact sA
 have lD:D.data.toList.length<=1000:=by rw [<-Lib.size_eq];exact sD
 have vA:=fun W=>eG A W (by omega)
 have vD:=fun W=>eG D W (by omega)
 rw [show aj A.data.toList=true from by rw [hA];exact jV (by rw [<-hA];exact lA)] at vA;rw [show aj D.data.toList=true from by rw [hD];exact jV (by rw [<-hD];exact lD)] at vD;have d48:=qA hD;rw [decide_eq_false hn] at d48;have gG:=fun W=>rO A D W (by omega) (by omega)
 rw [JA hA hD lA lD] at gG;have hg0:=Ij (m:=m) hn;have hgn:Nat.gcd m n<=n:=Nat.gcd_le_right _ (Nat.pos_of_ne_zero hn);obtain⟨G,hG⟩:∃ G:ByteArray,(⟨(af (Nat.gcd m n)).toArray⟩:ByteArray)=G:=⟨_,rfl⟩;have hGd:G.data.toList=af (Nat.gcd m n):=by rw [<-hG]
 have sG:G.size<=1000:=by
  rw [Lib.size_eq,hGd];refine Nat.le_trans (tN hgn) ?_;rw [<-hD];exact lD
 unfold aA at gG;simp only [hG] at gG;have q1:=AA A G m _ hA hGd sA sG hg0;have q2:=AA D G n _ hD hGd sD sG hg0;unfold oI at q1 q2;obtain⟨F1,hF1⟩:∃ F:ByteArray,(⟨(af (m / Nat.gcd m n)).toArray⟩:ByteArray)=F:=⟨_,rfl⟩;obtain⟨F2,hF2⟩:∃ F:ByteArray,(⟨(af (n / Nat.gcd m n)).toArray⟩:ByteArray)=F:=⟨_,rfl⟩;obtain⟨R1,hR1⟩:∃ F:ByteArray,(⟨(af (m % Nat.gcd m n)).toArray⟩:ByteArray)=F:=⟨_,rfl⟩;obtain⟨R2,hR2⟩:∃ F:ByteArray,(⟨(af (n % Nat.gcd m n)).toArray⟩:ByteArray)=F:=⟨_,rfl⟩;simp only [hF1,hR1] at q1;simp only [hF2,hR2] at q2;have hF1d:F1.data.toList=af (m / Nat.gcd m n):=by rw [<-hF1]
 have hF2d:F2.data.toList=af (n / Nat.gcd m n):=by rw [<-hF2]
 have l1:(af (m / Nat.gcd m n)).length=F1.size:=by rw [<-hF1d,Lib.size_eq]
 have l2:(af (n / Nat.gcd m n)).length=F2.size:=by rw [<-hF2d,Lib.size_eq]
 have f48:=qA hF1d;have f49:=qg hF2d;have HL:Hid (o6 m n=(decide (400<F1.size) || decide (400<F2.size))):=by unfold Hid o6;rw [l1,l2]
 have HLong:Hid (o6 m n=true->iq neg m n=([],2)):=fun h=>Jl hn h
 have HS:Hid (¬ o6 m n=true->iq neg m n=(uq (neg && decide (m≠0)) F1.data.toList F2.data.toList,0)):=fun h=>by rw [hF1d,hF2d];exact Jo hn h
 have HO:Hid (F2.data.toList=[49] ↔ n / Nat.gcd m n=1):=by
  rw [Hid,hF2d];constructor
  ·intro e;rw [<-fq (n / Nat.gcd m n),e];rfl
  ·intro e;rw [e];rfl
 have c45:(⟨#[45]⟩:ByteArray).size=1:=rfl;have c47:(⟨#[47]⟩:ByteArray).size=1:=rfl;have hA0:Below w.heap.size w w:=Below.refl _ _;have hqz:=KH (m:=m) hn;clear hA hD lA lD hn hgn hG hGd sG hF1 hF2 hR1 hR2 hF1d hF2d l1 l2 hg0;rcases Nat.lt_or_ge 400 F1.size with hl1|hl1
 ·have k1:(400:Int)<(F1.size:Int):=by omega
  have HK:Hid (iq neg m n=([],2)):=HLong.out (by rw [HL.out,decide_eq_true hl1];rfl);clear hl1 f48 hqz;go_enter Tryz.func124,Tryz.ntmps124
  go_wp2_with (first
   | (go_at_call_of 159 (Value.string A);refine (vA _).mono ?_;rintro e w2 ⟨rfl,rfl⟩)
   | (go_at_call_of 159 (Value.string D);refine (vD _).mono ?_;rintro e w2 ⟨rfl,rfl⟩)
   | (go_at_call 152;refine (gG _).mono ?_;rintro e w1 ⟨rfl,b1⟩)
   | (go_at_call_of 160 (Value.string A);refine (q1 _).mono ?_;rintro e w2 ⟨rfl,b2⟩;have hA2:=ae b1 b2)
   | (go_at_call_of 160 (Value.string D);refine (q2 _).mono ?_;rintro e w3 ⟨rfl,b3⟩;have hA3:=ae hA2 b3))
  go_returns;unfold aA;rw [HK.out];exact⟨rfl,hA3⟩
 ·have k1:decide ((400:Int)<(F1.size:Int))=false:=decide_eq_false (by omega)
  have k1':(F1.size:Int)<=400:=by omega
  rcases Nat.lt_or_ge 400 F2.size with hl2|hl2
  ·have k2:(400:Int)<(F2.size:Int):=by omega
   have HK:Hid (iq neg m n=([],2)):=HLong.out (by rw [HL.out,decide_eq_true hl2];simp);clear hl1 hl2 f48 hqz;go_enter Tryz.func124,Tryz.ntmps124
   go_wp2_with (first
    | (go_at_call_of 159 (Value.string A);refine (vA _).mono ?_;rintro e w2 ⟨rfl,rfl⟩)
    | (go_at_call_of 159 (Value.string D);refine (vD _).mono ?_;rintro e w2 ⟨rfl,rfl⟩)
    | (go_at_call 152;refine (gG _).mono ?_;rintro e w1 ⟨rfl,b1⟩)
    | (go_at_call_of 160 (Value.string A);refine (q1 _).mono ?_;rintro e w2 ⟨rfl,b2⟩;have hA2:=ae b1 b2)
    | (go_at_call_of 160 (Value.string D);refine (q2 _).mono ?_;rintro e w3 ⟨rfl,b3⟩;have hA3:=ae hA2 b3))
   go_returns;unfold aA;rw [HK.out];exact⟨rfl,hA3⟩
  ·have k2:decide ((400:Int)<(F2.size:Int))=false:=decide_eq_false (by omega)
   have k2':(F2.size:Int)<=400:=by omega
   have HK:=Lib.hid (HS.out (by rw [HL.out,decide_eq_false (by omega),decide_eq_false (by omega)];simp));have z1:¬ 9223372036854775807<1+F1.size:=by omega
   have z2:¬ 9223372036854775807<F1.size+1:=by omega
   have z3:¬ 9223372036854775807<F1.size+1+F2.size:=by omega
   have z4:¬ 9223372036854775807<1+F1.size+1:=by omega
   have z5:¬ 9223372036854775807<1+F1.size+1+F2.size:=by omega
   have f48':(F1.toList == [48])=decide (m=0):=by rw [f48];exact decide_eq_decide.2 hqz
   rw [JL] at HK;clear hl1 hl2 f48 hqz;by_cases h1:n / Nat.gcd m n=1
   ·rw [decide_eq_true h1] at f49
    rw [if_pos (HO.out.2 h1)] at HK;clear h1 HO
    cases neg with
    | false =>
     rw [if_neg (by simp)] at HK;clear f48';go_enter Tryz.func124,Tryz.ntmps124
     go_wp2_with (first
      | (go_at_call_of 159 (Value.string A);refine (vA _).mono ?_;rintro e w2 ⟨rfl,rfl⟩)
      | (go_at_call_of 159 (Value.string D);refine (vD _).mono ?_;rintro e w2 ⟨rfl,rfl⟩)
      | (go_at_call 152;refine (gG _).mono ?_;rintro e w1 ⟨rfl,b1⟩)
      | (go_at_call_of 160 (Value.string A);refine (q1 _).mono ?_;rintro e w2 ⟨rfl,b2⟩;have hA2:=ae b1 b2)
      | (go_at_call_of 160 (Value.string D);refine (q2 _).mono ?_;rintro e w3 ⟨rfl,b3⟩;have hA3:=ae hA2 b3))
     go_returns;unfold aA;rw [HK.out];exact⟨rM (by simp),hA3⟩
    | true =>
     by_cases hm:m=0
     ·rw [decide_eq_true hm] at f48'
      rw [if_neg (by simp [hm])] at HK;clear hm;go_enter Tryz.func124,Tryz.ntmps124
      go_wp2_with (first
       | (go_at_call_of 159 (Value.string A);refine (vA _).mono ?_;rintro e w2 ⟨rfl,rfl⟩)
       | (go_at_call_of 159 (Value.string D);refine (vD _).mono ?_;rintro e w2 ⟨rfl,rfl⟩)
       | (go_at_call 152;refine (gG _).mono ?_;rintro e w1 ⟨rfl,b1⟩)
       | (go_at_call_of 160 (Value.string A);refine (q1 _).mono ?_;rintro e w2 ⟨rfl,b2⟩;have hA2:=ae b1 b2)
       | (go_at_call_of 160 (Value.string D);refine (q2 _).mono ?_;rintro e w3 ⟨rfl,b3⟩;have hA3:=ae hA2 b3))
      go_returns;unfold aA;rw [HK.out];exact⟨rM (by simp),hA3⟩
     ·rw [decide_eq_false hm] at f48'
      rw [if_pos (by simp [hm])] at HK;clear hm;go_enter Tryz.func124,Tryz.ntmps124
      go_wp2_with (first
       | (go_at_call_of 159 (Value.string A);refine (vA _).mono ?_;rintro e w2 ⟨rfl,rfl⟩)
       | (go_at_call_of 159 (Value.string D);refine (vD _).mono ?_;rintro e w2 ⟨rfl,rfl⟩)
       | (go_at_call 152;refine (gG _).mono ?_;rintro e w1 ⟨rfl,b1⟩)
       | (go_at_call_of 160 (Value.string A);refine (q1 _).mono ?_;rintro e w2 ⟨rfl,b2⟩;have hA2:=ae b1 b2)
       | (go_at_call_of 160 (Value.string D);refine (q2 _).mono ?_;rintro e w3 ⟨rfl,b3⟩;have hA3:=ae hA2 b3))
      go_returns;unfold aA;rw [HK.out];exact⟨rM (by simp),hA3⟩
   ·rw [decide_eq_false h1] at f49
    rw [if_neg (fun e=>h1 (HO.out.1 e))] at HK;clear h1 HO
    cases neg with
    | false =>
     rw [if_neg (by simp)] at HK;clear f48';go_enter Tryz.func124,Tryz.ntmps124
     go_wp2_with (first
      | (go_at_call_of 159 (Value.string A);refine (vA _).mono ?_;rintro e w2 ⟨rfl,rfl⟩)
      | (go_at_call_of 159 (Value.string D);refine (vD _).mono ?_;rintro e w2 ⟨rfl,rfl⟩)
      | (go_at_call 152;refine (gG _).mono ?_;rintro e w1 ⟨rfl,b1⟩)
      | (go_at_call_of 160 (Value.string A);refine (q1 _).mono ?_;rintro e w2 ⟨rfl,b2⟩;have hA2:=ae b1 b2)
      | (go_at_call_of 160 (Value.string D);refine (q2 _).mono ?_;rintro e w3 ⟨rfl,b3⟩;have hA3:=ae hA2 b3))
     go_returns;unfold aA;rw [HK.out];exact⟨rM (by simp),hA3⟩
    | true =>
     by_cases hm:m=0
     ·rw [decide_eq_true hm] at f48'
      rw [if_neg (by simp [hm])] at HK;clear hm;go_enter Tryz.func124,Tryz.ntmps124
      go_wp2_with (first
       | (go_at_call_of 159 (Value.string A);refine (vA _).mono ?_;rintro e w2 ⟨rfl,rfl⟩)
       | (go_at_call_of 159 (Value.string D);refine (vD _).mono ?_;rintro e w2 ⟨rfl,rfl⟩)
       | (go_at_call 152;refine (gG _).mono ?_;rintro e w1 ⟨rfl,b1⟩)
       | (go_at_call_of 160 (Value.string A);refine (q1 _).mono ?_;rintro e w2 ⟨rfl,b2⟩;have hA2:=ae b1 b2)
       | (go_at_call_of 160 (Value.string D);refine (q2 _).mono ?_;rintro e w3 ⟨rfl,b3⟩;have hA3:=ae hA2 b3))
      go_returns;unfold aA;rw [HK.out];exact⟨rM (by simp),hA3⟩
     ·rw [decide_eq_false hm] at f48'
      rw [if_pos (by simp [hm])] at HK;clear hm;go_enter Tryz.func124,Tryz.ntmps124
      go_wp2_with (first
       | (go_at_call_of 159 (Value.string A);refine (vA _).mono ?_;rintro e w2 ⟨rfl,rfl⟩)
       | (go_at_call_of 159 (Value.string D);refine (vD _).mono ?_;rintro e w2 ⟨rfl,rfl⟩)
       | (go_at_call 152;refine (gG _).mono ?_;rintro e w1 ⟨rfl,b1⟩)
       | (go_at_call_of 160 (Value.string A);refine (q1 _).mono ?_;rintro e w2 ⟨rfl,b2⟩;have hA2:=ae b1 b2)
       | (go_at_call_of 160 (Value.string D);refine (q2 _).mono ?_;rintro e w3 ⟨rfl,b3⟩;have hA3:=ae hA2 b3))
      go_returns;unfold aA;rw [HK.out];exact⟨rM (by simp),hA3⟩
theorem nU (a b:ByteArray) (m n:Nat) (F:ByteArray) (hF:(⟨(af (m * n)).toArray⟩:ByteArray)=F) (ha:a.data.toList=af m) (hb:b.data.toList=af n) (sa:a.size<=400) (sb:b.size<=400) (w:World) :
  Calls Tryz.prog 121 #[.string a,.string b] w fun e w'=>e=.returned (.string F)/\Below w.heap.size w w':=by
 have h:=LF a b w (by omega) (by omega);have l1:=Lib.size_eq a;have l2:=Lib.size_eq b;have h3:(af (m * n)).length<=1000:=by
  have:=xC m n;rw [<-ha,<-hb] at this;omega
 rw [Cf ha hb (by omega) (by omega) h3] at h;unfold aA at h;simp only [hF] at h;clear ha hb hF h3 l1 l2;go_enter Tryz.func121,Tryz.ntmps121;go_wp2_with (go_at_call 156;refine h.mono ?_;rintro e w1 ⟨rfl,b1⟩);go_returns;exact⟨rfl,b1⟩
theorem Dg (s t:Bool) (a b:ByteArray) (m n:Nat) (w:World) (ha:a.data.toList=af m) (hb:b.data.toList=af n) (sa:a.size<=1000) (sb:b.size<=1000) (hs:(af (m+n)).length<=1000) :
  Calls Tryz.prog 120 #[.bool s,.string a,.bool t,.string b] w fun e w'=>e=.returned (.tuple #[.bool (dQ s m t n).1,.string ⟨(af (dQ s m t n).2).toArray⟩])/\Below w.heap.size w w':=by
 have la:a.data.toList.length<=1000:=by rw [<-Lib.size_eq];exact sa
 have lb:b.data.toList.length<=1000:=by rw [<-Lib.size_eq];exact sb
 by_cases hst:s=t
 ·have hq:=uy a b w (by omega) (by omega)
  rw [Ca ha hb la lb hs] at hq;unfold aA at hq;have HA:Hid (dQ s m t n=(s,m+n)):=by unfold Hid dQ;rw [if_pos hst]
  obtain⟨F,hF⟩:∃ F:ByteArray,(⟨(af (m+n)).toArray⟩:ByteArray)=F:=⟨_,rfl⟩;simp only [hF] at hq;have HF:=Lib.hid hF;subst hst;clear hF la lb ha hb hs;go_enter Tryz.func120,Tryz.ntmps120;go_wp2_with (go_at_call 153;refine hq.mono ?_;rintro e w1 ⟨rfl,b1⟩);go_returns;exact⟨by rw [HA.out,HF.out];rfl,b1⟩
 ·have hst2:(s == t)=false:=beq_eq_false_iff_ne.2 hst
  have hc:=K5 a b w (by omega) (by omega);rw [Cc ha hb la lb] at hc;rcases Nat.lt_or_ge m n with hlt|hge
  ·rw [lu hlt] at hc
   have HA:Hid (dQ s m t n=(t,n-m)):=by unfold Hid dQ;rw [if_neg hst,if_pos hlt]
   have hq:=fun W=>DN b a W (by omega) (by omega)
   rw [vR hb ha lb la (by omega)] at hq;unfold aA at hq;obtain⟨F,hF⟩:∃ F:ByteArray,(⟨(af (n-m)).toArray⟩:ByteArray)=F:=⟨_,rfl⟩;simp only [hF] at hq;have HF:=Lib.hid hF;clear hF la lb ha hb hs hst;go_enter Tryz.func120,Tryz.ntmps120;go_wp2_with (first|(go_at_call 154;refine hc.mono ?_;rintro e w1 ⟨rfl,b1⟩)|(go_at_call 155;refine (hq _).mono ?_;rintro e w2 ⟨rfl,b2⟩;have hA2:=ae b1 b2));go_returns;exact⟨by rw [HA.out,HF.out];rfl,hA2⟩
  ·have hcge:¬ bZ m n<0:=by rw [nL];omega
   obtain⟨cc,hcc⟩:∃ cc,bZ m n=cc:=⟨_,rfl⟩;rw [hcc] at hc hcge;have HA:Hid (dQ s m t n=(s,m-n)):=by unfold Hid dQ;rw [if_neg hst,if_neg (by omega)]
   have hq:=fun W=>DN a b W (by omega) (by omega)
   rw [vR ha hb la lb (by omega)] at hq;unfold aA at hq;obtain⟨F,hF⟩:∃ F:ByteArray,(⟨(af (m-n)).toArray⟩:ByteArray)=F:=⟨_,rfl⟩;simp only [hF] at hq;have HF:=Lib.hid hF;have hc0:0<=cc:=by omega
   clear hF la lb ha hb hs hst hcc hcge;go_enter Tryz.func120,Tryz.ntmps120;go_wp2_with (first|(go_at_call 154;refine hc.mono ?_;rintro e w1 ⟨rfl,b1⟩)|(go_at_call 155;refine (hq _).mono ?_;rintro e w2 ⟨rfl,b2⟩;have hA2:=ae b1 b2));go_returns;exact⟨by rw [HA.out,HF.out];rfl,hA2⟩
theorem KA (s:ByteArray) (w:World) (hs:s.size<=100000) (h:aK s.data.toList=none) :
  Calls Tryz.prog 119 #[.string s] w fun e w'=>e=.returned (.tuple #[.bool false,.string ⟨#[]⟩,.string ⟨#[]⟩,.bool false])/\Below w.heap.size w w':=by
 have hp:=lQ s w hs;rw [iI (Dm h)] at hp;exact hp
theorem nS (s A D:ByteArray) (p:Bool) (w:World) (hs:s.size<=100000) (h:aI s.data.toList=some (p,A.data.toList,D.data.toList)) :
  Calls Tryz.prog 119 #[.string s] w fun e w'=>e=.returned (.tuple #[.bool p,.string A,.string D,.bool true])/\Below w.heap.size w w':=by
 have hp:=lQ s w hs;rw [rD h] at hp;exact hp
theorem Jn (x:Rat):iq (!decide (x.num<0)) x.num.natAbs x.den=ik (-x):=by
 unfold iq;rw [D8,<-Rat.neg_mkRat,qw]
theorem Kr (a:ByteArray) (w:World) (ha:a.size<=100000) :
  Calls Tryz.prog 202 #[.string a] w (aA w (nV a.data.toList)):=by
 cases hu:aK a.data.toList with
 | none =>
  have HK:Hid (nV a.data.toList=([],1)):=by unfold Hid nV gV fZ;rw [nW,hu]
  have pa:=fun W=>KA a W ha hu
  clear hu;go_enter Tryz.func202,Tryz.ntmps202;go_wp2_with (go_at_call 119;refine (pa _).mono ?_;rintro e w1 ⟨rfl,b1⟩);go_returns;unfold aA;rw [HK.out];exact⟨rfl,b1⟩
 | some x =>
  obtain⟨A,D,hpA,hNA⟩:=lL hu;have HK:Hid (nV a.data.toList=iq (!decide (x.num<0)) x.num.natAbs x.den):=by
   unfold Hid nV gV fZ;rw [nW,hu,Jn];show ik (0-x)=_;rw [Rat.sub_eq_add_neg,Rat.zero_add]
  have pa:=fun W=>nS a A D _ W ha hpA
  have pm:=fun W=>vZ (!decide (x.num<0)) A D _ _ W hNA.a hNA.d (by have:=hNA.sa;omega) (by have:=hNA.sd;omega) hNA.nz
  generalize x.num.natAbs=m at *;generalize decide (x.num<0)=p at *;generalize x.den=d at *;clear hu hpA hNA;go_enter Tryz.func202,Tryz.ntmps202
  go_wp2_with (first
   | (go_at_call 119;refine (pa _).mono ?_;rintro e w1 ⟨rfl,b1⟩)
   | (go_at_call 124;refine (pm _).mono ?_;rintro e w2 ⟨rfl,b2⟩;have hA2:=ae b1 b2))
  go_returns;unfold aA;rw [HK.out];exact⟨rfl,hA2⟩
theorem CJ (a b:ByteArray) (w:World) (ha:a.size<=100000) (hb:b.size<=100000) (h:aK a.data.toList=none\/aK b.data.toList=none) :
  Calls Tryz.prog 107 #[.string a,.string b] w fun e w'=>e=.returned (if "add" = "cmp" then .int .i64 0 else .tuple #[.string ⟨#[]⟩,.int .i64 1])/\Below w.heap.size w w':=by
 have pa:=fun W=>lQ a W ha
 have pb:=fun W=>lQ b W hb
 unfold dJ at pa pb;have hok:(aI a.data.toList).isSome=false\/(aI b.data.toList).isSome=false:=by
  rw [mX,mX];rcases h with h|h
  ·left;rw [h];rfl
  ·right;rw [h];rfl
 generalize (aI a.data.toList).isSome=o1 at *;generalize (aI b.data.toList).isSome=o2 at *;generalize (aI a.data.toList).getD (false,[],[])=x at *;generalize (aI b.data.toList).getD (false,[],[])=y at *;clear h
 cases o1 with
 | false =>
  clear hok;go_enter Tryz.func107,Tryz.ntmps107
  go_wp2_with (first
   | (go_at_call_of 119 (Value.string a);refine (pa _).mono ?_;rintro e w1 ⟨rfl,b1⟩)
   | (go_at_call_of 119 (Value.string b);refine (pb _).mono ?_;rintro e w2 ⟨rfl,b2⟩;have hA2:=ae b1 b2))
  go_returns
  first
   | exact⟨rfl,hA2⟩
   | (have hA1:=b1;refine (pb _).mono ?_)
 | true =>
  obtain rfl:o2=false:=by simpa using hok
  clear hok;go_enter Tryz.func107,Tryz.ntmps107;go_wp2_with fail;refine (pa _).mono ?_;rintro e w1 ⟨rfl,b1⟩;go_wp2_with fail;refine (pb _).mono ?_;rintro e w2 ⟨rfl,b2⟩;have hA2:=ae b1 b2;go_wp2_with fail;go_returns;exact⟨rfl,hA2⟩
theorem CS (a b:ByteArray) (w:World) (ha:a.size<=100000) (hb:b.size<=100000) (h:aK a.data.toList=none\/aK b.data.toList=none) :
  Calls Tryz.prog 103 #[.string a,.string b] w fun e w'=>e=.returned (if "cmp" = "cmp" then .int .i64 0 else .tuple #[.string ⟨#[]⟩,.int .i64 1])/\Below w.heap.size w w':=by
 have pa:=fun W=>lQ a W ha
 have pb:=fun W=>lQ b W hb
 unfold dJ at pa pb;have hok:(aI a.data.toList).isSome=false\/(aI b.data.toList).isSome=false:=by
  rw [mX,mX];rcases h with h|h
  ·left;rw [h];rfl
  ·right;rw [h];rfl
 generalize (aI a.data.toList).isSome=o1 at *;generalize (aI b.data.toList).isSome=o2 at *;generalize (aI a.data.toList).getD (false,[],[])=x at *;generalize (aI b.data.toList).getD (false,[],[])=y at *;clear h
 cases o1 with
 | false =>
  clear hok;go_enter Tryz.func103,Tryz.ntmps103
  go_wp2_with (first
   | (go_at_call_of 119 (Value.string a);refine (pa _).mono ?_;rintro e w1 ⟨rfl,b1⟩)
   | (go_at_call_of 119 (Value.string b);refine (pb _).mono ?_;rintro e w2 ⟨rfl,b2⟩;have hA2:=ae b1 b2))
  go_returns
  first
   | exact⟨rfl,hA2⟩
   | (have hA1:=b1;refine (pb _).mono ?_)
 | true =>
  obtain rfl:o2=false:=by simpa using hok
  clear hok;go_enter Tryz.func103,Tryz.ntmps103;go_wp2_with fail;refine (pa _).mono ?_;rintro e w1 ⟨rfl,b1⟩;go_wp2_with fail;refine (pb _).mono ?_;rintro e w2 ⟨rfl,b2⟩;have hA2:=ae b1 b2;go_wp2_with fail;go_returns;exact⟨rfl,hA2⟩
theorem De (a b:ByteArray) (w:World) (ha:a.size<=100000) (hb:b.size<=100000) (h:aK a.data.toList=none\/aK b.data.toList=none) :
  Calls Tryz.prog 130 #[.string a,.string b] w fun e w'=>e=.returned (if "mul" = "cmp" then .int .i64 0 else .tuple #[.string ⟨#[]⟩,.int .i64 1])/\Below w.heap.size w w':=by
 have pa:=fun W=>lQ a W ha
 have pb:=fun W=>lQ b W hb
 unfold dJ at pa pb;have hok:(aI a.data.toList).isSome=false\/(aI b.data.toList).isSome=false:=by
  rw [mX,mX];rcases h with h|h
  ·left;rw [h];rfl
  ·right;rw [h];rfl
 generalize (aI a.data.toList).isSome=o1 at *;generalize (aI b.data.toList).isSome=o2 at *;generalize (aI a.data.toList).getD (false,[],[])=x at *;generalize (aI b.data.toList).getD (false,[],[])=y at *;clear h
 cases o1 with
 | false =>
  clear hok;go_enter Tryz.func130,Tryz.ntmps130
  go_wp2_with (first
   | (go_at_call_of 119 (Value.string a);refine (pa _).mono ?_;rintro e w1 ⟨rfl,b1⟩)
   | (go_at_call_of 119 (Value.string b);refine (pb _).mono ?_;rintro e w2 ⟨rfl,b2⟩;have hA2:=ae b1 b2))
  go_returns
  first
   | exact⟨rfl,hA2⟩
   | (have hA1:=b1;refine (pb _).mono ?_)
 | true =>
  obtain rfl:o2=false:=by simpa using hok
  clear hok;go_enter Tryz.func130,Tryz.ntmps130;go_wp2_with fail;refine (pa _).mono ?_;rintro e w1 ⟨rfl,b1⟩;go_wp2_with fail;refine (pb _).mono ?_;rintro e w2 ⟨rfl,b2⟩;have hA2:=ae b1 b2;go_wp2_with fail;go_returns;exact⟨rfl,hA2⟩
theorem CU (a b:ByteArray) (w:World) (ha:a.size<=100000) (hb:b.size<=100000) (h:aK a.data.toList=none\/aK b.data.toList=none) :
  Calls Tryz.prog 186 #[.string a,.string b] w fun e w'=>e=.returned (if "div" = "cmp" then .int .i64 0 else .tuple #[.string ⟨#[]⟩,.int .i64 1])/\Below w.heap.size w w':=by
 have pa:=fun W=>lQ a W ha
 have pb:=fun W=>lQ b W hb
 unfold dJ at pa pb;have hok:(aI a.data.toList).isSome=false\/(aI b.data.toList).isSome=false:=by
  rw [mX,mX];rcases h with h|h
  ·left;rw [h];rfl
  ·right;rw [h];rfl
 generalize (aI a.data.toList).isSome=o1 at *;generalize (aI b.data.toList).isSome=o2 at *;generalize (aI a.data.toList).getD (false,[],[])=x at *;generalize (aI b.data.toList).getD (false,[],[])=y at *;clear h
 cases o1 with
 | false =>
  clear hok;go_enter Tryz.func186,Tryz.ntmps186
  go_wp2_with (first
   | (go_at_call_of 119 (Value.string a);refine (pa _).mono ?_;rintro e w1 ⟨rfl,b1⟩)
   | (go_at_call_of 119 (Value.string b);refine (pb _).mono ?_;rintro e w2 ⟨rfl,b2⟩;have hA2:=ae b1 b2))
  go_returns
  first
   | exact⟨rfl,hA2⟩
   | (have hA1:=b1;refine (pb _).mono ?_)
 | true =>
  obtain rfl:o2=false:=by simpa using hok
  clear hok;go_enter Tryz.func186,Tryz.ntmps186;go_wp2_with fail;refine (pa _).mono ?_;rintro e w1 ⟨rfl,b1⟩;go_wp2_with fail;refine (pb _).mono ?_;rintro e w2 ⟨rfl,b2⟩;have hA2:=ae b1 b2;go_wp2_with fail;go_returns;exact⟨rfl,hA2⟩
end Go.Proofs.YtppnecgeboonbaaGreatDoor.Rat3
