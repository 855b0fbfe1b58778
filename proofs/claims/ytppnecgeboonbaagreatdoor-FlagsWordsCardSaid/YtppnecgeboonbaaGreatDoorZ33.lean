/- The reference of layer 7: the methods of Sum. -/
import Derived.Test.YtppnecgeboonbaaGreatDoorZ32
namespace Go.Proofs.YtppnecgeboonbaaGreatDoor
set_option maxRecDepth 100000
set_option linter.unusedVariables false
set_option maxHeartbeats 1000000
open Go.RowKit
def dI (w:World) (sb:Nat) (k:Int) (bad:Bool):Prop:=w.heap[sb]? = some (.cells #[.int .i64 k,.bool bad] 171)
theorem dI.lt {w:World} {sb:Nat} {k:Int} {bad:Bool} (h:dI w sb k bad):sb<w.heap.size:=oM h
theorem dI.kind {w:World} {sb:Nat} {k:Int} {bad:Bool} (h:dI w sb k bad):w.cell? ⟨sb,0,none⟩=some (.int .i64 k):=by
 rw [cell_of_row w sb 0 _ _ (0,0) h];rfl
theorem dI.bad {w:World} {sb:Nat} {k:Int} {bad:Bool} (h:dI w sb k bad):w.cell? ⟨sb,1,none⟩=some (.bool bad):=by
 rw [cell_of_row w sb 1 _ _ (0,0) h];rfl
theorem dI.free {w:World} {sb:Nat} {k:Int} {bad:Bool} (h:dI w sb k bad) (j:Nat):w.frozen? ⟨sb,j,none⟩=false:=by
 unfold World.frozen?;rw [show w.heap[sb]? = some (.cells #[.int .i64 k,.bool bad] 171) from h];simp
theorem dI.set {w:World} {sb:Nat} {k:Int} {bad:Bool} (h:dI w sb k bad) (x:Bool):dI (w.setCell ⟨sb,1,none⟩ (.bool x)) sb k x:=by
 unfold dI World.setCell;simp only [Array.getElem?_modify];rw [show w.heap[sb]? = some (.cells #[.int .i64 k,.bool bad] 171) from h];simp
theorem dI.below {w w':World} {sb:Nat} {k:Int} {bad:Bool} (h:dI w sb k bad) (hb:Below w.heap.size w w'):dI w' sb k bad:=(hb.block sb h.lt).trans h
def wW (w:World) (sb:Nat) (k:Int) (r:Bool × Bs) (e:Ending) (w':World):Prop:=e=.returned (S r.2)/\dI w' sb k r.1/\df sb w w'
theorem Ea (sb:Nat) (k:Int) (bad:Bool) (c:ByteArray) (w:World) (hS:dI w sb k bad):Calls Tryz.prog 162 #[.pointer (some ⟨sb,0,none⟩),.string c] w fun e w'=>e=.returned (S (if bad=true then aF k else c.data.toList))/\w=w':=by
 have p1:=fun W=>o9 k W
 have k0:=hS.kind;have k1:=hS.bad
 cases bad with
 | true =>
  go_enter Tryz.func162,Tryz.ntmps162;go_wp2_with fail;refine (p1 _).mono ?_;rintro e w1 ⟨rfl,rfl⟩;go_wp2_with fail;go_returns;exact⟨rfl,rfl⟩
 | false =>
  go_enter Tryz.func162,Tryz.ntmps162;go_wp2_with fail;go_returns;exact⟨rfl,rfl⟩
theorem MX (sb:Nat) (k:Int) (bad:Bool) (a b:ByteArray) (w:World) (hS:dI w sb k bad) (ha:a.size<=802) (hb:b.size<=802):Calls Tryz.prog 127 #[.pointer (some ⟨sb,0,none⟩),.string a,.string b] w (wW w sb k (jG k bad a.data.toList b.data.toList)):=by
 have p1:=fun W=>yO k a b W (by omega) (by omega)
 have HV:Hid (jG k bad a.data.toList b.data.toList=if (bad || decide ((fI k a.data.toList b.data.toList).2≠0))=true then (true,aF k) else (false,(fI k a.data.toList b.data.toList).1)):=rfl;generalize jG k bad a.data.toList b.data.toList=R at *;generalize fI k a.data.toList b.data.toList=tm at *;obtain⟨t,n⟩:=tm;unfold Rat3.aA at p1;obtain⟨T,hT⟩:∃ T:ByteArray,(⟨t.toArray⟩:ByteArray)=T:=⟨_,rfl⟩;have Yt:t=T.data.toList:=by rw [<-hT]
 simp only at p1 HV;rw [hT] at p1;subst Yt;have hlt:=hS.lt;have k0:=hS.kind;have k1:=hS.bad;have f1:=hS.free 1;have HS:=Lib.hid hS;clear hT hS;have pk:=fun W (x:Bool) (h:dI W sb k x)=>Ea sb k x T W h
 have fin:∀ (x:Bool) (w2 w3:World),Below w.heap.size w w2->w3=w2.setCell ⟨sb,1,none⟩ (.bool x)->dI w3 sb k x/\df sb w w3:=fun x w2 w3 hb h=>by
  subst h;exact⟨(HS.out.below hb).set x,(df.of_below hb).set 1 _⟩
 cases bad with
 | true =>
  have HX:Hid (R=(true,aF k)):=HV.out.trans (if_pos rfl);clear HV;go_enter Tryz.func127,Tryz.ntmps127;go_wp2_with fail;refine (p1 _).mono ?_;rintro e w1 ⟨rfl,b1⟩;have j1:=(b1.cell (p:=⟨sb,1,none⟩) hlt).trans k1;have g1:=(b1.frozen (p:=⟨sb,1,none⟩) hlt).trans f1;obtain⟨hA,hB⟩:=fin true w1 _ b1 rfl;go_wp2_with fail;refine (pk _ true hA).mono ?_;rintro e w4 ⟨rfl,rfl⟩;go_wp2_with fail;go_returns;rw [HX.out];exact⟨rfl,hA,hB⟩
 | false =>
  by_cases hn:n=0
  ·subst hn
   have HX:Hid (R=(false,T.data.toList)):=HV.out.trans (if_neg (by simp));clear HV;go_enter Tryz.func127,Tryz.ntmps127;go_wp2_with fail;refine (p1 _).mono ?_;rintro e w1 ⟨rfl,b1⟩;have j1:=(b1.cell (p:=⟨sb,1,none⟩) hlt).trans k1;have g1:=(b1.frozen (p:=⟨sb,1,none⟩) hlt).trans f1;obtain⟨hA,hB⟩:=fin false w1 _ b1 rfl;go_wp2_with fail;refine (pk _ false hA).mono ?_;rintro e w4 ⟨rfl,rfl⟩;go_wp2_with fail;go_returns;rw [HX.out];exact⟨rfl,hA,hB⟩
  ·have HX:Hid (R=(true,aF k)):=HV.out.trans (if_pos (by simp [hn]))
   have t1:((n:Int) != 0)=true:=by simpa using hn
   clear HV hn;go_enter Tryz.func127,Tryz.ntmps127;go_wp2_with fail;refine (p1 _).mono ?_;rintro e w1 ⟨rfl,b1⟩;have j1:=(b1.cell (p:=⟨sb,1,none⟩) hlt).trans k1;have g1:=(b1.frozen (p:=⟨sb,1,none⟩) hlt).trans f1;obtain⟨hA,hB⟩:=fin true w1 _ b1 rfl;go_wp2_with fail;refine (pk _ true hA).mono ?_;rintro e w4 ⟨rfl,rfl⟩;go_wp2_with fail;go_returns;rw [HX.out];exact⟨rfl,hA,hB⟩
theorem RD (sb:Nat) (k:Int) (bad:Bool) (a b:ByteArray) (w:World) (hS:dI w sb k bad) (ha:a.size<=802) (hb:b.size<=802):Calls Tryz.prog 128 #[.pointer (some ⟨sb,0,none⟩),.string a,.string b] w (wW w sb k (q9 k bad a.data.toList b.data.toList)):=by
 have p1:=fun W=>Mo k a b W (by omega) (by omega)
 have HV:Hid (q9 k bad a.data.toList b.data.toList=if (bad || decide ((iV k a.data.toList b.data.toList).2≠0))=true then (true,aF k) else (false,(iV k a.data.toList b.data.toList).1)):=rfl;generalize q9 k bad a.data.toList b.data.toList=R at *;generalize iV k a.data.toList b.data.toList=tm at *;obtain⟨t,n⟩:=tm;unfold Rat3.aA at p1;obtain⟨T,hT⟩:∃ T:ByteArray,(⟨t.toArray⟩:ByteArray)=T:=⟨_,rfl⟩;have Yt:t=T.data.toList:=by rw [<-hT]
 simp only at p1 HV;rw [hT] at p1;subst Yt;have hlt:=hS.lt;have k0:=hS.kind;have k1:=hS.bad;have f1:=hS.free 1;have HS:=Lib.hid hS;clear hT hS;have pk:=fun W (x:Bool) (h:dI W sb k x)=>Ea sb k x T W h
 have fin:∀ (x:Bool) (w2 w3:World),Below w.heap.size w w2->w3=w2.setCell ⟨sb,1,none⟩ (.bool x)->dI w3 sb k x/\df sb w w3:=fun x w2 w3 hb h=>by
  subst h;exact⟨(HS.out.below hb).set x,(df.of_below hb).set 1 _⟩
 cases bad with
 | true =>
  have HX:Hid (R=(true,aF k)):=HV.out.trans (if_pos rfl);clear HV;go_enter Tryz.func128,Tryz.ntmps128;go_wp2_with fail;refine (p1 _).mono ?_;rintro e w1 ⟨rfl,b1⟩;have j1:=(b1.cell (p:=⟨sb,1,none⟩) hlt).trans k1;have g1:=(b1.frozen (p:=⟨sb,1,none⟩) hlt).trans f1;obtain⟨hA,hB⟩:=fin true w1 _ b1 rfl;go_wp2_with fail;refine (pk _ true hA).mono ?_;rintro e w4 ⟨rfl,rfl⟩;go_wp2_with fail;go_returns;rw [HX.out];exact⟨rfl,hA,hB⟩
 | false =>
  by_cases hn:n=0
  ·subst hn
   have HX:Hid (R=(false,T.data.toList)):=HV.out.trans (if_neg (by simp));clear HV;go_enter Tryz.func128,Tryz.ntmps128;go_wp2_with fail;refine (p1 _).mono ?_;rintro e w1 ⟨rfl,b1⟩;have j1:=(b1.cell (p:=⟨sb,1,none⟩) hlt).trans k1;have g1:=(b1.frozen (p:=⟨sb,1,none⟩) hlt).trans f1;obtain⟨hA,hB⟩:=fin false w1 _ b1 rfl;go_wp2_with fail;refine (pk _ false hA).mono ?_;rintro e w4 ⟨rfl,rfl⟩;go_wp2_with fail;go_returns;rw [HX.out];exact⟨rfl,hA,hB⟩
  ·have HX:Hid (R=(true,aF k)):=HV.out.trans (if_pos (by simp [hn]))
   have t1:((n:Int) != 0)=true:=by simpa using hn
   clear HV hn;go_enter Tryz.func128,Tryz.ntmps128;go_wp2_with fail;refine (p1 _).mono ?_;rintro e w1 ⟨rfl,b1⟩;have j1:=(b1.cell (p:=⟨sb,1,none⟩) hlt).trans k1;have g1:=(b1.frozen (p:=⟨sb,1,none⟩) hlt).trans f1;obtain⟨hA,hB⟩:=fin true w1 _ b1 rfl;go_wp2_with fail;refine (pk _ true hA).mono ?_;rintro e w4 ⟨rfl,rfl⟩;go_wp2_with fail;go_returns;rw [HX.out];exact⟨rfl,hA,hB⟩
theorem M0 (sb:Nat) (k:Int) (bad:Bool) (a:ByteArray) (w:World) (hS:dI w sb k bad) (ha:a.size<=802):Calls Tryz.prog 126 #[.pointer (some ⟨sb,0,none⟩),.string a] w (wW w sb k (oQ k bad a.data.toList)):=by
 have p1:=fun W=>Mm k a W (by omega)
 have HV:Hid (oQ k bad a.data.toList=if (bad || decide ((oh k a.data.toList).2≠0))=true then (true,aF k) else (false,(oh k a.data.toList).1)):=rfl;generalize oQ k bad a.data.toList=R at *;generalize oh k a.data.toList=tm at *;obtain⟨t,n⟩:=tm;unfold Rat3.aA at p1;obtain⟨T,hT⟩:∃ T:ByteArray,(⟨t.toArray⟩:ByteArray)=T:=⟨_,rfl⟩;have Yt:t=T.data.toList:=by rw [<-hT]
 simp only at p1 HV;rw [hT] at p1;subst Yt;have hlt:=hS.lt;have k0:=hS.kind;have k1:=hS.bad;have f1:=hS.free 1;have HS:=Lib.hid hS;clear hT hS;have pk:=fun W (x:Bool) (h:dI W sb k x)=>Ea sb k x T W h
 have fin:∀ (x:Bool) (w2 w3:World),Below w.heap.size w w2->w3=w2.setCell ⟨sb,1,none⟩ (.bool x)->dI w3 sb k x/\df sb w w3:=fun x w2 w3 hb h=>by
  subst h;exact⟨(HS.out.below hb).set x,(df.of_below hb).set 1 _⟩
 cases bad with
 | true =>
  have HX:Hid (R=(true,aF k)):=HV.out.trans (if_pos rfl);clear HV;go_enter Tryz.func126,Tryz.ntmps126;go_wp2_with fail;refine (p1 _).mono ?_;rintro e w1 ⟨rfl,b1⟩;have j1:=(b1.cell (p:=⟨sb,1,none⟩) hlt).trans k1;have g1:=(b1.frozen (p:=⟨sb,1,none⟩) hlt).trans f1;obtain⟨hA,hB⟩:=fin true w1 _ b1 rfl;go_wp2_with fail;refine (pk _ true hA).mono ?_;rintro e w4 ⟨rfl,rfl⟩;go_wp2_with fail;go_returns;rw [HX.out];exact⟨rfl,hA,hB⟩
 | false =>
  by_cases hn:n=0
  ·subst hn
   have HX:Hid (R=(false,T.data.toList)):=HV.out.trans (if_neg (by simp));clear HV;go_enter Tryz.func126,Tryz.ntmps126;go_wp2_with fail;refine (p1 _).mono ?_;rintro e w1 ⟨rfl,b1⟩;have j1:=(b1.cell (p:=⟨sb,1,none⟩) hlt).trans k1;have g1:=(b1.frozen (p:=⟨sb,1,none⟩) hlt).trans f1;obtain⟨hA,hB⟩:=fin false w1 _ b1 rfl;go_wp2_with fail;refine (pk _ false hA).mono ?_;rintro e w4 ⟨rfl,rfl⟩;go_wp2_with fail;go_returns;rw [HX.out];exact⟨rfl,hA,hB⟩
  ·have HX:Hid (R=(true,aF k)):=HV.out.trans (if_pos (by simp [hn]))
   have t1:((n:Int) != 0)=true:=by simpa using hn
   clear HV hn;go_enter Tryz.func126,Tryz.ntmps126;go_wp2_with fail;refine (p1 _).mono ?_;rintro e w1 ⟨rfl,b1⟩;have j1:=(b1.cell (p:=⟨sb,1,none⟩) hlt).trans k1;have g1:=(b1.frozen (p:=⟨sb,1,none⟩) hlt).trans f1;obtain⟨hA,hB⟩:=fin true w1 _ b1 rfl;go_wp2_with fail;refine (pk _ true hA).mono ?_;rintro e w4 ⟨rfl,rfl⟩;go_wp2_with fail;go_returns;rw [HX.out];exact⟨rfl,hA,hB⟩
def dV (w:World) (ba n:Nat) (bs:List Nat) (a:ak):Prop :=
 w.heap[ba]? = some (.cells ((bs.map fun r=>Value.slice (some ⟨r,0,none⟩) n n)++List.replicate (n-bs.length) (Value.slice none 0 0)).toArray 22)/\bs.length=a.length/\a.length<=n/\(∀ i,(h:i<a.length)->∀ h':i<bs.length,aZ w bs[i] a[i])/\(∀ r∈a,dK n r)
theorem NG:(Tryz.prog.info? 22).map (fun i=>(i.zero,i.size,i.bytes))=some (some (.slice none 0 0),1,24):=by kernel_rfl
theorem BU (n:Nat) (hn:n<=1000000) (W:World):(Instr.makeSlice 108 (.int .i64 (n:Int)) (.int .i64 (n:Int))).run Tryz.prog W=.ok (.slice (some ⟨W.heap.size,0,none⟩) n n) (W.alloc (.cells (Array.replicate n (.slice none 0 0)) 22)):=by
 obtain⟨i0,hi,hz0,hz1,hz2⟩:=info_parts NG;have h:=run_make (P:=Tryz.prog) W 108 22 i0 (.slice none 0 0) Tryz.underlying108 hi hz0 .i64 .i64 (n:Int) (n:Int) (by omega) (Int.le_refl _) (by rw [hz2];omega) (by omega);rw [h,hz1];simp only [Int.toNat_natCast];rw [show (Value.slice none 0 0).cells=#[.slice none 0 0] from rfl,BI]
theorem I6 (w:World) (n:Nat):dV (w.alloc (.cells (Array.replicate n (.slice none 0 0)) 22)) w.heap.size n [] []:=by
 refine⟨?_,rfl,Nat.zero_le _,fun i h=>absurd h (Nat.not_lt_zero _),fun r h=>absurd h List.not_mem_nil⟩;rw [heap_alloc_new];simp
theorem dV.lt {w:World} {ba n:Nat} {bs:List Nat} {a:ak} (h:dV w ba n bs a):ba<w.heap.size:=oM h.1
theorem dV.row {w:World} {ba n:Nat} {bs:List Nat} {a:ak} (h:dV w ba n bs a) {i:Nat} (hi:i<bs.length):w.cell? ⟨ba,i,none⟩=some (.slice (some ⟨bs[i],0,none⟩) n n):=by
 rw [cell_of_row w ba i _ _ (0,0) h.1];simp [List.getElem?_append,hi]
theorem dV.nil {w:World} {ba n:Nat} {bs:List Nat} {a:ak} (h:dV w ba n bs a) {i:Nat} (hi:bs.length<=i) (hn:i<n):w.cell? ⟨ba,i,none⟩=some (.slice none 0 0):=by
 rw [cell_of_row w ba i _ _ (0,0) h.1];have h1:¬ i<bs.length:=by omega
 simp [List.getElem?_append,List.getElem?_replicate,h1];omega
theorem dV.free {w:World} {ba n:Nat} {bs:List Nat} {a:ak} (h:dV w ba n bs a) (i:Nat):w.frozen? ⟨ba,i,none⟩=false:=by
 unfold World.frozen?;rw [h.1];simp
theorem dV.below {w w':World} {ba n:Nat} {bs:List Nat} {a:ak} (h:dV w ba n bs a) (hb:Below w.heap.size w w'):dV w' ba n bs a :=
 ⟨(hb.block ba h.lt).trans h.1,h.2.1,h.2.2.1,fun i hi hi'=>(h.2.2.2.1 i hi hi').below hb,h.2.2.2.2⟩
theorem dV.push {w w':World} {ba n r:Nat} {bs:List Nat} {a:ak} {row:Vec} (h:dV w ba n bs a) (hb:Below w.heap.size w w') (hr:aZ w' r row) (hrn:dK n row) (hq:a.length<n) (hne:r≠ba) :
  dV (w'.setCell ⟨ba,a.length,none⟩ (.slice (some ⟨r,0,none⟩) n n)) ba n (bs++[r]) (a++[row]):=by
 have hk:∀ j,j≠ba->(w'.setCell ⟨ba,a.length,none⟩ (.slice (some ⟨r,0,none⟩) n n)).heap[j]? = w'.heap[j]?:=fun j hj=>Below.heap_setCell w' ⟨ba,a.length,none⟩ _ j hj
 have hne2:∀ i,(hi:i<a.length)->(hi':i<bs.length)->bs[i]≠ba:=fun i hi hi' e=>by
  have h1:=h.2.2.2.1 i hi hi';rw [e] at h1;have h2:=h.1;rw [show w.heap[ba]? = some (.cells (a[i].map S).toArray 9) from h1] at h2;simp at h2
 refine⟨?_,by simp [h.2.1],by simp;omega,fun i hi hi'=>?_,fun x hx=>?_⟩
 ·unfold World.setCell
  simp only [Array.getElem?_modify];rw [(hb.block ba h.lt).trans h.1];have hl:=h.2.1;simp only [if_true,Option.map_some,Option.isSome_none,Bool.false_eq_true,if_false];congr 2;apply Array.ext_getElem?;intro i;rw [Array.getElem?_setIfInBounds];simp only [List.getElem?_toArray,List.getElem?_append,List.map_append,List.length_append,List.length_map,List.map_cons,List.map_nil,List.length_cons,List.length_nil,List.getElem?_map,List.getElem?_replicate,List.size_toArray,List.length_replicate];rcases Nat.lt_trichotomy i a.length with h1|h1|h1
  ·have h2:i<bs.length:=by omega
   have h3:a.length≠i:=by omega
   have h4:i<bs.length+(0+1):=by omega
   simp [h2,h3,h4]
  ·subst h1
   have h2:¬ a.length<bs.length:=by omega
   have h4:a.length<bs.length+(0+1):=by omega
   have h5:a.length<bs.length+(n-bs.length):=by omega
   have h6:a.length-bs.length=0:=by omega
   simp [h2,h4,h5,h6]
  ·have h2:¬ i<bs.length:=by omega
   have h3:a.length≠i:=by omega
   have h4:¬ i<bs.length+(0+1):=by omega
   simp only [h2,h3,h4,if_false];by_cases h7:i<n
   ·have h8:i-bs.length<n-bs.length:=by omega
    have h9:i-(bs.length+(0+1))<n-(bs.length+(0+1)):=by omega
    simp [h8,h9]
   ·have h8:¬ i-bs.length<n-bs.length:=by omega
    have h9:¬ i-(bs.length+(0+1))<n-(bs.length+(0+1)):=by omega
    simp [h8,h9]
 ·unfold aZ
  have hlen:=h.2.1;rcases Nat.lt_or_ge i a.length with h1|h1
  ·have h2:i<bs.length:=by omega
   have e1:(bs++[r])[i]=bs[i]:=List.getElem_append_left h2;have e2:(a++[row])[i]=a[i]:=List.getElem_append_left h1;rw [e1,e2,hk _ (hne2 i h1 h2)];exact (h.2.2.2.1 i h1 h2).below hb
  ·have h3:i=a.length:=by
    rw [List.length_append] at hi;simp at hi;omega
   subst h3;have e1:(bs++[r])[a.length]=r:=by
    rw [List.getElem_append_right (by omega)];simp
   have e2:(a++[row])[a.length]=row:=by
    rw [List.getElem_append_right (by omega)];simp
   rw [e1,e2,hk _ hne];exact hr
 ·rcases List.mem_append.1 hx with hx|hx
  ·exact h.2.2.2.2 x hx
  ·rw [List.mem_singleton.1 hx];exact hrn
theorem dV.put {w:World} {ba n r:Nat} {bs:List Nat} {a:ak} {row:Vec} (h:dV w ba n (bs++[r]) (a++[row])) (hr:r ∉ bs) (t:Nat) {x:Bs} (hx:x.length<=802) :
  dV (w.setCell ⟨r,t,none⟩ (S x)) ba n (bs++[r]) (a++[row.set t x]):=by
 have hl:bs.length=a.length:=by
  have:=h.2.1
  simpa using this
 have hlast:aZ w r row:=by
  have h1:=h.2.2.2.1 a.length (by simp) (by simp [hl]);have e1:(bs++[r])[a.length]'(by simp [hl])=r:=by rw [List.getElem_append_right (by omega)];simp
  have e2:(a++[row])[a.length]'(by simp)=row:=by rw [List.getElem_append_right (by omega)];simp
  rw [e1,e2] at h1;exact h1
 have hne:ba≠r:=fun e=>by
  have h2:=h.1;rw [e,show w.heap[r]? = some (.cells (row.map S).toArray 9) from hlast] at h2;simp at h2
 have hk:∀ j,j≠r->(w.setCell ⟨r,t,none⟩ (S x)).heap[j]? = w.heap[j]?:=fun j hj=>Below.heap_setCell w ⟨r,t,none⟩ _ j hj
 refine⟨(hk ba hne).trans h.1,by simp [hl],by have:=h.2.2.1;simpa using this,fun i hi hi'=>?_,fun y hy=>?_⟩
 ·rcases Nat.lt_or_ge i a.length with h1|h1
  ·have h2:i<bs.length:=by omega
   have e1:(bs++[r])[i]=bs[i]:=List.getElem_append_left h2;have e2:(a++[row.set t x])[i]=a[i]:=List.getElem_append_left h1;have e3:(a++[row])[i]'(by simp;omega)=a[i]:=List.getElem_append_left h1;have h3:=h.2.2.2.1 i (by simp;omega) hi';rw [e1,e3] at h3;rw [e1,e2];unfold aZ;rw [hk _ (fun e=>hr (e ▸ List.getElem_mem h2))];exact h3
  ·have h3:i=a.length:=by
    rw [List.length_append] at hi;simp at hi;omega
   subst h3;have e1:(bs++[r])[a.length]=r:=by rw [List.getElem_append_right (by omega)];simp
   have e2:(a++[row.set t x])[a.length]=row.set t x:=by rw [List.getElem_append_right (by omega)];simp
   rw [e1,e2];exact hlast.set t x
 ·rcases List.mem_append.1 hy with hy|hy
  ·exact h.2.2.2.2 y (List.mem_append_left _ hy)
  ·rw [List.mem_singleton.1 hy]
   exact (h.2.2.2.2 row (List.mem_append_right _ (List.mem_singleton.2 rfl))).set t hx
theorem dV.last {w:World} {ba n r:Nat} {bs:List Nat} {a:ak} {row:Vec} (h:dV w ba n (bs++[r]) (a++[row])):aZ w r row/\dK n row:=by
 have hl:bs.length=a.length:=by
  have:=h.2.1
  simpa using this
 have h1:=h.2.2.2.1 a.length (by simp) (by simp [hl]);have e1:(bs++[r])[a.length]'(by simp [hl])=r:=by rw [List.getElem_append_right (by omega)];simp
 have e2:(a++[row])[a.length]'(by simp)=row:=by rw [List.getElem_append_right (by omega)];simp
 rw [e1,e2] at h1;exact⟨h1,h.2.2.2.2 row (List.mem_append_right _ (List.mem_singleton.2 rfl))⟩
theorem dV.whole {w:World} {ba n:Nat} {bs:List Nat} {a:ak} (h:dV w ba n bs a) (hn:a.length=n):jP w (some ⟨ba,0,none⟩) a/\iM n a:=by
 refine⟨fun i hi=>?_,hn,h.2.2.2.2⟩;have hi':i<bs.length:=by rw [h.2.1];exact hi
 have hr:=h.row hi';have hv:=h.2.2.2.1 i hi hi';have hlen:a[i].length=n:=(h.2.2.2.2 _ (List.getElem_mem hi)).1;refine⟨ba,0,rfl,h.lt,bs[i],n,?_,hv.lt,fun j hj=>hv.cell hj⟩;rw [hlen,Nat.zero_add];exact hr
open Go
section
variable {P:Program} {ops:Array Oper} {Q:Exit->Act->World->Prop} {md:Region.Mode} {R:World->Prop} {k:Nat}
def wpAnyS (P:Program) (md:Region.Mode) (ops:Array Oper) (Q:Exit->Act->World->Prop) (k:Nat) (R:World->Prop):Nat->Array Bool->Act->World->Prop
 | 0,listed,a,w=>Region.ready md ops listed=[]/\Q .normal a w
 | fuel+1,listed,a,w =>
  (Region.ready md ops listed=[]->Q .normal a w) ∧
  ∀ i∈Region.ready md ops listed,wpOp P ops Q i (fun a' w'=>((listed.setIfInBounds i true).getD k true=false->R w')/\wpAnyS P md ops Q k R fuel (listed.setIfInBounds i true) a' w') a w
theorem zg:∀ (fuel:Nat) (listed:Array Bool) (a:Act) (w:World),wpAnyS P md ops Q k R fuel listed a w->wpAny P md ops Q fuel listed a w
 | 0,_,_,_,h=>h
 | fuel+1,_,_,_,h=>⟨h.1,fun i hi=>wpOp_mono (fun a' w' h'=>zg fuel _ a' w' h'.2) (h.2 i hi)⟩
def Closed (md:Region.Mode) (ops:Array Oper) (s:Array Bool):Prop:=∀ (j:Nat) (o:Oper),ops[j]? = some o->s.getD j true=true->∀ e∈o.after,Region.binds md e=true->s.getD e.on false=true
def zW (md:Region.Mode) (ops:Array Oper) (s:Array Bool):Bool:=(List.range ops.size).all fun j=>match ops[j]? with
 | some o=>!s.getD j true || o.after.toList.all fun e=>!Region.binds md e || s.getD e.on false
 | none=>true
theorem FX {s:Array Bool} (h:zW md ops s=true):Closed md ops s:=by
 intro j o ho hj e he hb;have hlt:j<ops.size:=(Array.getElem?_eq_some_iff.1 ho).1;have h1:=List.all_eq_true.1 h j (List.mem_range.2 hlt);rw [ho] at h1;simp only [hj,Bool.not_true,Bool.false_or] at h1;have h2:=List.all_eq_true.1 h1 e (by simpa using he)
 simpa [hb] using h2
theorem Closed.set {s:Array Bool} {i:Nat} (h:Closed md ops s) (hi:i∈Region.ready md ops s):Closed md ops (s.setIfInBounds i true):=by
 intro j o ho hj e he hb;by_cases hji:i=j
 ·subst hji
  obtain⟨_,o',ho',hall⟩:=mem_ready.1 hi;rw [ho] at ho'
  cases ho'
  exact getD_set_true (hall e he hb)
 ·rw [getD_set_ne true hji] at hj
  exact getD_set_true (h j o ho hj e he hb)
def uP (md:Region.Mode) (ops:Array Oper):Nat->Nat->Nat->Bool
 | 0,_,_=>false
 | f+1,k,i=>match ops[k]? with
  | some o=>o.after.toList.any fun e=>Region.binds md e && (e.on == i || uP md ops f e.on i)
  | none=>false
theorem EE {s:Array Bool} (hc:Closed md ops s):∀ (f k i:Nat),(∀ o,ops[k]? = some o->∀ e∈o.after,Region.binds md e=true->s.getD e.on false=true)->uP md ops f k i=true->s.getD i false=true
 | 0,k,i,_,h=>by cases h
 | f+1,k,i,hk,h=>by
  unfold uP at h
  cases ho:ops[k]? with
  | none=>rw [ho] at h;cases h
  | some o =>
   rw [ho] at h;obtain⟨e,he,hb⟩:=List.any_eq_true.1 h;have he:e∈o.after:=by simpa using he
   simp only [Bool.and_eq_true,Bool.or_eq_true,beq_iff_eq] at hb;have hl:=hk o ho e he hb.1;rcases hb.2 with e1|e1
   ·rw [<-e1];exact hl
   ·refine EE hc f e.on i (fun o' ho' e' he' hb'=>hc e.on o' ho' ?_ e' he' hb') e1
    have hlt:e.on<s.size:=by
     rcases Nat.lt_or_ge e.on s.size with h'|h'
     ·exact h'
     ·simp [Array.getElem?_eq_none h'] at hl
    simp [hlt] at hl ⊢;exact hl
theorem wpAnyS_first {i:Nat} {oi:Oper} {v:Value} (hi:ops[i]? = some oi) (hsel:∀ (j:Nat) (o:Oper) cs b,ops[j]? = some o->o.op ≠ .select cs b)
  (hQ:∀ c a w,Q (.panic c) (a.put oi.dst v) w->Q (.panic c) a w) (hik:i≠k) {f:Nat} (hn:uP md ops f k i=true) :
  ∀ (fuel:Nat) (listed:Array Bool) (a:Act) (w:World),Closed md ops listed->listed.getD k true=false ->
   (∀ j oj,ops[j]? = some oj->j≠i->listed.getD j true=false->(∀ e∈oj.after,Region.binds md e=true->e.on≠i)->oi.apart ops oj=true) ->
   i∈Region.ready md ops listed->YieldsIf P ops R oi v a->R w ->
   wpAnyS P md ops Q k R fuel (listed.setIfInBounds i true) (a.put oi.dst v) w->wpAnyS P md ops Q k R (fuel+1) listed a w:=by
 have hind:∀ s:Array Bool,(s.setIfInBounds i true).getD k true=s.getD k true:=fun s=>getD_set_ne true hik
 intro fuel
 induction fuel with
 | zero =>
  intro listed a w _ _ _ hr hy hS H;refine⟨fun h=>(by rw [h] at hr;cases hr),fun j hj=>?_⟩;by_cases hji:j=i
  ·subst hji;exact hy.wpOp hi hS ⟨fun _=>hS,H⟩
  ·have:=ready_mono hj hji
   rw [H.1] at this
   cases this
 | succ fuel ih =>
  intro listed a w hc hk0 hfree hr hy hS H;refine⟨fun h=>(by rw [h] at hr;cases hr),fun j hj=>?_⟩;by_cases hji:j=i
  ·subst hji;exact hy.wpOp hi hS ⟨fun _=>hS,H⟩
  ·have h1:=H.2 j (ready_mono hj hji)
   obtain⟨hjun,oj,hoj,hall⟩:=mem_ready.1 hj;have hnot:∀ e∈oj.after,Region.binds md e=true->e.on≠i:=fun e he hb heq=>by
    have h1:=hall e he hb;have h0:=(mem_ready.1 hr).1;rw [heq] at h1;rcases Nat.lt_or_ge i listed.size with h'|h'
    ·simp [h'] at h0 h1;rw [h0] at h1;cases h1
    ·simp [Array.getElem?_eq_none h'] at h1
   have h2:=wpOp_putIf hoj (hfree j oj hoj hji hjun hnot) (fun cs b=>hsel i oi cs b hi) (fun cs b=>hsel j oj cs b hoj) hQ hy h1;have hfree':∀ m om,ops[m]? = some om->m≠i->(listed.setIfInBounds j true).getD m true=false ->
     (∀ e∈om.after,Region.binds md e=true->e.on≠i)->oi.apart ops om=true:=fun m om hom hmi hun hno=>by
    refine hfree m om hom hmi ?_ hno;by_cases hjm:j=m
    ·subst hjm;exact hjun
    ·rw [getD_set_ne true hjm] at hun;exact hun
   have hjk:j≠k:=by
    rintro rfl;have:=EE hc f j i (fun o ho e he hb=>by
     rw [hoj] at ho
     cases ho
     exact hall e he hb) hn
    rw [getD_both (mem_ready.1 hr).1] at this
    cases this
   have hk:(listed.setIfInBounds j true).getD k true=false:=by rw [getD_set_ne true hjk];exact hk0
   refine wpOp_mono (fun a' w' h3=>?_) h2;obtain⟨y,r,z⟩:=h3;have hR:R w':=r (by rw [Array.setIfInBounds_comm _ _ (Ne.symm hji),hind];exact hk);refine⟨fun _=>hR,ih (listed.setIfInBounds j true) a' w' (hc.set hj) hk hfree' (ready_mono hr (Ne.symm hji)) y hR ?_⟩;rw [Array.setIfInBounds_comm _ _ hji];exact z
theorem l8 {listed:Array Bool} {a:Act} {w:World} (hr:Region.ready md ops listed=[]) (h:Q .normal a w):∀ fuel,wpAnyS P md ops Q k R fuel listed a w
 | 0=>⟨hr,h⟩
 | _+1=>⟨fun _=>h,by rw [hr];simp⟩
def bS (P:Program) (md:Region.Mode) (ops:Array Oper) (Q:Exit->Act->World->Prop) (k:Nat) (R:World->Prop) (fuel:Nat) (listed:Array Bool) (a:Act) (w:World) (rs:List Nat):Prop :=
 ∀ i∈rs,wpOp P ops Q i (fun a' w'=>((listed.setIfInBounds i true).getD k true=false->R w')/\wpAnyS P md ops Q k R fuel (listed.setIfInBounds i true) a' w') a w
theorem bS.nil {fuel:Nat} {listed:Array Bool} {a:Act} {w:World}:bS P md ops Q k R fuel listed a w []:=fun _ h=>by cases h
theorem dw {fuel:Nat} {listed:Array Bool} {a:Act} {w:World} (rs:List Nat) (hr:Region.ready md ops listed=rs) (hne:rs≠[]) (h:bS P md ops Q k R fuel listed a w rs):wpAnyS P md ops Q k R (fuel+1) listed a w :=
 ⟨fun h0=>absurd (hr ▸ h0) hne,hr ▸ h⟩
end
section
variable {P:Program} {l r:List Oper} {o:Oper} {Q:Exit->Act->World->Prop} {R:World->Prop} {k:Nat} {fuel:Nat} {listed:Array Bool} {a:Act} {w:World}
theorem xh {i:Nat} (hd:l.drop i=o::r):l.toArray[i]? = some o:=by
 have:=congrArg List.head? hd;rw [List.head?_drop] at this
 simpa using this
theorem bV (i:Nat) (hd:l.drop i=o::r) {v:Value} (hs:Region.noSelect l.toArray=true) (hf:Region.free .any l.toArray listed i=true) (hr:(Region.ready .any l.toArray listed).contains i=true) (f:Nat) (hn:uP .any l.toArray f k i=true) (hc:zW .any l.toArray listed=true) (hk:listed.getD k true=false) (hik:i≠k)
  (hQ:∀ c a w,Q (.panic c) (a.put o.dst v) w->Q (.panic c) a w) (hg:Region.wanted o (yielded l.toArray a.tmps)=true) (hy:∀ w,R w->(execOp a.eval o).run P w=.ok (.value v) w) (hS:R w)
  (h:wpAnyS P .any l.toArray Q k R fuel (listed.setIfInBounds i true) (a.put o.dst v) w):wpAnyS P .any l.toArray Q k R (fuel+1) listed a w :=
 wpAnyS_first (xh hd) (Region.noSelect_spec hs) hQ hik hn fuel listed a w (FX hc) hk (Region.free_spec (xh hd) hf) (by simpa using hr) (Or.inl ⟨hg,hy⟩) hS h
theorem takeB (i:Nat) {v:Value}
  (h:wpAnyS P .any l.toArray Q k R fuel (listed.setIfInBounds i true) (a.put o.dst v) w)
  (hd:l.drop i=o::r:=by rfl) (hs:Region.noSelect l.toArray=true:=by kernel_rfl) (hf:Region.free .any l.toArray listed i=true:=by kernel_rfl) (hr:(Region.ready .any l.toArray listed).contains i=true:=by kernel_rfl) (hn:uP .any l.toArray 30 k i=true:=by kernel_rfl) (hc:zW .any l.toArray listed=true:=by kernel_rfl) (hk:listed.getD k true=false:=by rfl) (hik:i≠k:=by decide)
  (hQ:∀ c a w,Q (.panic c) (a.put o.dst v) w->Q (.panic c) a w:=by exact fun c a w h=>h) (hy:∀ w,R w->(execOp a.eval o).run P w=.ok (.value v) w:=by intro w hSw;(try dsimp only at hSw);go_simp;try with_reducible rfl) (hg:Region.wanted o (yielded l.toArray a.tmps)=true:=by rfl) (hS:R w:=by assumption):wpAnyS P .any l.toArray Q k R (fuel+1) listed a w :=
 bV i hd hs hf hr 30 hn hc hk hik hQ hg hy hS h
theorem takeC (i:Nat) {v:Value}
  (h:wpAnyS P .any l.toArray Q k R fuel (listed.setIfInBounds i true) (a.put o.dst v) w)
  (hd:l.drop i=o::r:=by rfl) (hs:Region.noSelect l.toArray=true:=by kernel_rfl) (hf:Region.free .any l.toArray listed i=true:=by kernel_rfl) (hr:(Region.ready .any l.toArray listed).contains i=true:=by kernel_rfl) (hn:uP .any l.toArray 30 k i=true:=by kernel_rfl) (hc:zW .any l.toArray listed=true:=by kernel_rfl) (hk:listed.getD k true=false:=by rfl) (hik:i≠k:=by decide)
  (hQ:∀ c a w,Q (.panic c) (a.put o.dst v) w->Q (.panic c) a w:=by exact fun c a w h=>h) (hy:∀ w,R w->(execOp a.eval o).run P w=.ok (.value v) w:=by intro w hSw;(try dsimp only at hSw);(repeat (obtain⟨hq,hSw⟩:=hSw));go_simp;try with_reducible rfl) (hg:Region.wanted o (yielded l.toArray a.tmps)=true:=by rfl) (hS:R w:=by assumption):wpAnyS P .any l.toArray Q k R (fuel+1) listed a w :=
 bV i hd hs hf hr 30 hn hc hk hik hQ hg hy hS h
theorem qO:(∀ (a:Act) (d:Option Tmp) (v:Value),a.put d v=match d with|some t=>{ a with tmps:=a.tmps.setIfInBounds t v }|none=>a)/\(∀ (l:List Value) (i:Nat) (v:Value),l.toArray.setIfInBounds i v=(l.set i v).toArray)/\(∀ (x v:Value) (l:List Value),(x::l).set 0 v=v::l)/\∀ (x v:Value) (l:List Value) (n:Nat),(x::l).set (n+1) v=x::l.set n v :=
 ⟨fun a d v=>by cases d <;> rfl,fun l i v=>List.setIfInBounds_toArray l i v,fun x v l=>rfl,fun x v l n=>rfl⟩
theorem bL {rs:List Nat} (i:Nat) (hd:l.drop i=o::r)
  (h:∀ K':Act->World->Prop,Shut (∀ a w,((listed.setIfInBounds i true).getD k true=false->R w)->wpAnyS P .any l.toArray Q k R fuel (listed.setIfInBounds i true) a w->K' a w)->if Region.wanted o (yielded l.toArray a.tmps)=true then Oper.wp P o a w K' Q else K' (a.put o.dst undef) w)
  (hs:bS P .any l.toArray Q k R fuel listed a w rs):bS P .any l.toArray Q k R fuel listed a w (i::rs):=fun j hj=>by
 rcases List.mem_cons.1 hj with rfl|hj
 ·exact wpOp_step (xh hd) (fun K' hK=>h K' (fun a w hS hW=>hK a w ⟨hS,hW⟩))
 ·exact hs j hj
theorem zh {id:Nat} (k:Nat) (R:World->Prop) (hm:P.follows .mixedOrders=true) (h:wpAnyS P .any l.toArray Q k R l.toArray.size (Array.replicate l.toArray.size false) a w.drew):(Code.region id l.toArray true).wp P Q a w :=
 wp_region_any hm (zg _ _ _ _ h)
theorem Oy {id n m:Nat} (k:Nat) (R:World->Prop) (hm:P.follows .mixedOrders=true) (hd:∀ (i:Nat) (o:Oper) c,l.toArray[i]? = some o->o.op ≠ .defer c) (hQ:¬ LetsOut Q)
  (h:wpAnyS P .any l.toArray Q k R l.toArray.size (Array.replicate l.toArray.size false) a w.drew):(Code.region id l.toArray true).wpIn (Fence.wide.inRound m) n P Q a w :=
 wpIn_region_any hm (uY hd hQ _ _ _ _ (zg _ _ _ _ h))
end
end Go.Proofs.YtppnecgeboonbaaGreatDoor
