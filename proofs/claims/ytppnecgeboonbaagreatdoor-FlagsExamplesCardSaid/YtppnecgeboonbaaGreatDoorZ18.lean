/- Layer 22: maps of memories. -/
import Derived.Test.YtppnecgeboonbaaGreatDoorZ17
import Derived.Test.YtppnecgeboonbaaGreatDoorZ16
import Derived.Test.YtppnecgeboonbaaGreatDoorZ03
import Derived.MapKept
import Derived.DeepKeys5
import Derived.Deep.AppendLies
import Derived.Deep.RegionLaw
import Derived.RangeFuncNested
import Derived.RangeFuncBox
import Derived.RangeFuncCalls
import Derived.RangeFuncLeaves
import Derived.Deep.Quiet
import Derived.StillTail
import Derived.StillTailTactics
namespace Go.Proofs.YtppnecgeboonbaaGreatDoor
set_option maxRecDepth 100000
set_option linter.unusedVariables false
set_option maxHeartbeats 4000000
open Go.RowKit Go.Maps
abbrev bz (a:Bs):Prop:=a.length<=40
theorem qJ:Enc Tryz.prog 9 S bz where
 inj:=fun {a b} h=>by
  simp only [S,Value.string.injEq,ByteArray.mk.injEq] at h;have:=congrArg Array.toList h
  simpa using this
 key:=fun a ha=>⟨.string a,(keyOf_string Tryz.underlying9 _).trans (by
  have hs:(⟨a.toArray⟩:ByteArray).size<=maxLen:=by
   rw [Lib.size_eq];exact Nat.le_trans ha (by decide)
  simp [mapKey,Tryz.underlying9,S,hs])⟩
def jw (m:eU):Value:=.agg #[.int .i64 m.kind,.string ⟨m.of.toArray⟩]
abbrev jC (w:World) (b:Nat) (L:dz):Prop:=bN Tryz.prog 9 S jw w b L
theorem BM (w:World):(zeroValue 141).run Tryz.prog w=.ok (jw iF) w:=(zero_of_info (n:=2) (by kernel_rfl)).1 w
theorem qK:Keyed Tryz.prog 9:=string_keyed Tryz.underlying9
theorem Bb:∀ (L:dz) (f:Bs),aP L f=(bO L f).getD iF
 | [],f=>rfl
 | (k,v)::r,f=>by
  unfold aP bO
  split
  ·rfl
  ·exact Bb r f
theorem uK:∀ (L:dz) (f:Bs) (x:eU),iW L f x=bQ L f x
 | [],f,x=>rfl
 | (k,v)::r,f,x=>by
  unfold iW bQ
  split
  ·rfl
  ·rw [uK r f x]
theorem BP (W:World) (b:Nat) (L:dz) (h:jC W b L) (hl:∀ p∈L,bz p.1) (f:Bs) (hf:bz f):(Instr.lookup 89 (.map (some b)) (S f) false).run Tryz.prog W=.ok (jw (aP L f)) W:=by
 have:=bN.look qK qJ Tryz.underlying89 (BM W) h hl f hf false;rw [this,Bb]
 cases bO L f <;> rfl
theorem BQ (W:World) (b:Nat) (L:dz) (h:jC W b L) (hl:∀ p∈L,bz p.1) (f:Bs) (hf:bz f) (x:eU):∃ o,(Instr.mapUpdate 89 (.map (some b)) (S f) (jw x)).run Tryz.prog W=.ok () (aU W b o)/\jC (aU W b o) b (iW L f x):=by
 rw [uK];exact bN.put qK qJ Tryz.underlying89 h hl f hf x
abbrev pJ (op:UInt8) (g:Nat) (d:Bool):Prop:=∀ (m:eU) (v:ByteArray) (W:World),Calls Tryz.prog g #[jw m,.string v] W fun e w'=>e=.returned (.tuple #[jw (eu m op v.data.toList).1,.bool (eu m op v.data.toList).2])/\w'=if d=true then (two W m.kind ⟨m.of.toArray⟩ (eu m op v.data.toList).1.kind ⟨(eu m op v.data.toList).1.of.toArray⟩).drew else two W m.kind ⟨m.of.toArray⟩ (eu m op v.data.toList).1.kind ⟨(eu m op v.data.toList).1.of.toArray⟩
theorem xm (v:ByteArray):(⟨v.data.toList.toArray⟩:ByteArray)=v:=by cases v;simp
theorem Cg (v:ByteArray):(v.data.toList=[])=(v.size=0):=by
 apply propext;rw [Lib.size_eq,List.length_eq_zero_iff]
theorem BN (m:eU) (v:Bs):(m=⟨1,v⟩)=(m.kind=1/\m.of=v):=by
 apply propext
 cases m
 simp
theorem GD:pJ 80 92 false:=fun m v W=>by
 have h:=Gy m.kind ⟨m.of.toArray⟩ v W;rw [show eu m 80 v.data.toList=(⟨1,v.data.toList⟩,true) by unfold eu;rw [if_pos rfl]];simp only [jw,xm];exact h
theorem GG:pJ 78 93 false:=fun m v W=>by
 have h:=Gx m.kind ⟨m.of.toArray⟩ v W;rw [show eu m 78 v.data.toList=(⟨2,v.data.toList⟩,true) by unfold eu;rw [if_neg (by decide),if_pos rfl]];simp only [jw,xm];exact h
theorem GH:pJ 67 94 false:=fun m v W=>by
 have h:=Gv m.kind ⟨m.of.toArray⟩ v W;rw [show eu m 67 v.data.toList=(iF,true) by unfold eu;rw [if_neg (by decide),if_neg (by decide),if_pos rfl]];exact h
theorem GI:pJ 82 95 true:=fun m v W=>by
 have h:=Gz m.kind ⟨m.of.toArray⟩ v W;rw [show eu m 82 v.data.toList=(m,if v.data.toList=[] then decide (m.kind≠0) else decide (m=⟨1,v.data.toList⟩)) by unfold eu;rw [if_neg (by decide),if_neg (by decide),if_neg (by decide),if_pos rfl]];simp only [Cg,BN];exact h
theorem GJ:pJ 68 96 true:=fun m v W=>by
 have h:=Gw m.kind ⟨m.of.toArray⟩ v W;rw [show eu m 68 v.data.toList=(m,if v.data.toList=[] then decide (m.kind=0) else decide (m≠⟨1,v.data.toList⟩)) by unfold eu;rw [if_neg (by decide),if_neg (by decide),if_neg (by decide),if_neg (by decide),if_pos rfl]];simp only [Cg,BN,ne_eq];exact h
theorem GK:pJ 85 97 false:=fun m v W=>by
 have h:=GA m.kind ⟨m.of.toArray⟩ v W;rw [show eu m 85 v.data.toList=(⟨1,v.data.toList⟩,decide (m.kind=0\/(m.kind=1/\m.of=v.data.toList)\/(m.kind=2/\m.of≠v.data.toList))) by unfold eu;rw [if_neg (by decide),if_neg (by decide),if_neg (by decide),if_neg (by decide),if_neg (by decide)]];simp only [jw,xm];exact h
theorem row_of {α:Type} {f:α->Value} {w:World} {A:Option Addr} {l:List α} (h:ay w A (l.map f)) {k:Nat} (hk:k<l.length):∃ b o,A=some ⟨b,o,none⟩/\b<w.heap.size/\w.cell? ⟨b,o+k,none⟩=some (f l[k]):=by
 obtain⟨b,o,rfl,hlt,hcell⟩:=h (by intro e;rw [List.map_eq_nil_iff] at e;subst e;simp at hk);exact⟨b,o,rfl,hlt,hcell k _ (by rw [List.getElem?_map,List.getElem?_eq_getElem hk];rfl)⟩
theorem Jw {s:Bs} (h:40<s.length):gT s=false:=by unfold gT;rw [decide_eq_false (show ¬ s.length<=40 by omega)];simp
theorem Jy {s:Bs} (h0:s≠[]) (h:s.length<=40):gT s=decide (eQ s=0):=by
 unfold gT;rw [decide_eq_true h]
 cases s with
 | nil=>exact absurd rfl h0
 | cons a r=>simp
theorem Iy (s:ByteArray) (w:World) (hT:bK w):Calls Tryz.prog 75 #[.string s] w fun e w'=>e=.returned (.bool (gT s.data.toList))/\Below w.heap.size w w':=by
 by_cases h0:s.size=0
 ·have HX:Hid (gT s.data.toList=false):=by rw [Hid,fF h0];rfl
  have hem:=jF h0;have t0:(s.toList == [])=true:=by rw [Lib.toList_data,fF h0];rfl
  clear h0;go_enter Tryz.func75,Tryz.ntmps75;go_wp2_with fail;go_returns;exact⟨by rw [HX.out];(try rfl),Below.refl _ _⟩
 have hem:=jI h0;have t0:(s.toList == [])=false:=by rw [Lib.toList_data];simpa using gB h0
 by_cases h4:40<s.size
 ·have HX:Hid (gT s.data.toList=false):=Jw (by rw [<-Lib.size_eq];exact h4)
  have d4:40<(s.size:Int):=by omega
  clear h0 h4;go_enter Tryz.func75,Tryz.ntmps75;go_wp2_with fail;go_returns;exact⟨by rw [HX.out];(try rfl),Below.refl _ _⟩
 have HX:=Lib.hid (Jy (gB h0) (show s.data.toList.length<=40 by rw [<-Lib.size_eq];omega));have d4:(s.size:Int)<=40:=by omega
 have c1:=Ee s w hT (by omega);unfold qL at c1;generalize gW s.data.toList=l at *;generalize kY s.data.toList=at' at *;generalize eQ s.data.toList=e' at *;clear h0 h4;by_cases he:e'=0
 ·have HY:Hid (gT s.data.toList=true):=by rw [Hid,HX.out,decide_eq_true he]
  subst he;clear HX;go_enter Tryz.func75,Tryz.ntmps75;go_wp2_with fail;refine c1.mono ?_;rintro e w1 ⟨A,c,rfl,_,_,b1⟩;go_wp2_with fail;go_returns;exact⟨by rw [HY.out];(try rfl),b1⟩
 ·have HY:Hid (gT s.data.toList=false):=by rw [Hid,HX.out,decide_eq_false he]
  have t1:(((e':Nat):Int) == 0)=false:=by simpa using he
  clear HX he;go_enter Tryz.func75,Tryz.ntmps75;go_wp2_with fail;refine c1.mono ?_;rintro e w1 ⟨A,c,rfl,_,_,b1⟩;go_wp2_with fail;go_returns;exact⟨by rw [HY.out];(try rfl),b1⟩
theorem Ff (A:Option Addr) (c:Nat) (t:List Bs) (w:World) (hT:bK w) (hV:ay w A (t.map S)) (hl:t.length<=500):Calls Tryz.prog 74 #[.slice A t.length c,.func (.func 75) #[] #[]] w fun e w'=>e=.returned (.bool (t.all gT))/\Below w.heap.size w w':=by
 have HV:=Lib.hid hV;clear hV;go_enter Tryz.func74,Tryz.ntmps74;go_wp2_with fail
 go_loopw [9] (fun i wr=>∃ (k:Nat),i=.int .i64 k/\k<=t.length/\Below w.heap.size w wr/\Hid (∀ s∈t.take k,gT s=true)) (fun i _=>t.length-(intOf i).toNat)
 case atStart=>exact⟨0,rfl,by omega,Below.refl _ _,by simp [Hid]⟩
 case round =>
  obtain⟨k,rfl,hk,hB,HN⟩:=hrel;by_cases hlt:k<t.length
  ·obtain⟨b,o,rfl,hbl,hc0⟩:=row_of HV.out hlt
   have HF:Hid (gT t[k]=false->t.all gT=false):=p8 hlt;have HT:Hid (gT t[k]=true->∀ s∈t.take (k+1),gT s=true):=allT hlt HN.out;generalize t[k]=s at *;obtain⟨Z,hZ⟩:∃ Z:ByteArray,(⟨s.toArray⟩:ByteArray)=Z:=⟨_,rfl⟩;have hZd:s=Z.data.toList:=by rw [<-hZ]
   have k0:=(hB.cell (p:=⟨b,o+k,none⟩) hbl).trans (hc0.trans (by rw [S,hZ]));subst hZd;have i0:(0:Int)<=(k:Int):=by omega
   have il:(k:Int)<(t.length:Int):=by omega
   have p1:=fun W hW=>Iy Z W hW
   clear hZ hc0
   cases hq:gT Z.data.toList with
   | false =>
    have HX:=Lib.hid (HF.out hq);rw [hq] at p1;clear hq HT HF;go_wp2_with fail;refine (p1 _ (hT.below hB)).mono ?_;rintro e w2 ⟨rfl,b2⟩;go_wp2_with fail;go_returns;exact⟨by rw [HX.out];(try rfl),ae hB b2⟩
   | true =>
    have HX:=Lib.hid (HT.out hq);rw [hq] at p1;clear hq HT HF;go_wp2_with fail;refine (p1 _ (hT.below hB)).mono ?_;rintro e w2 ⟨rfl,b2⟩;go_wp2_with fail;go_roundw
    case rel=>exact⟨k+1,by go_num,by omega,ae hB b2,HX.out⟩
    case measure=>simp [intOf];omega
  ·obtain rfl:k=t.length:=by omega
   have HX:Hid (t.all gT=true):=by
    have:=HN.out;rw [List.take_length] at this;exact List.all_eq_true.2 this
   go_wp2_with fail;go_returns;exact⟨by rw [HX.out];(try rfl),hB⟩
abbrev qI (w:World) (b:Nat) (L:List (Bs × Nat)):Prop:=bN Tryz.prog 9 S (fun n=>.int .i64 ((n:Nat):Int)) w b L
theorem Cn:∀ (t:List Bs) (i:Nat) (l:List (Bs × Nat)),(∀ p∈l,bz p.1)->(∀ s∈t,bz s)->∀ p∈iw t i l,bz p.1
 | [],i,l,hl,_=>hl
 | s::r,i,l,hl,ht=>Cn r (i+1) (bQ l s (i+1)) (rC (ht s List.mem_cons_self) hl) fun x hx=>ht x (List.mem_cons_of_mem _ hx)
theorem Co:∀ (t:List Bs) (i:Nat) (l:List (Bs × Nat)) (k:Nat) (hk:k<t.length),iw (t.take (k+1)) i l=bQ (iw (t.take k) i l) t[k] (i+k+1)
 | s::r,i,l,0,hk=>by simp [iw]
 | s::r,i,l,k+1,hk=>by
  have hk':k<r.length:=by simpa using hk
  rw [List.take_succ_cons,List.take_succ_cons];show iw (r.take (k+1)) (i+1) (bQ l s (i+1))=bQ (iw (r.take k) (i+1) (bQ l s (i+1))) r[k] (i+(k+1)+1);rw [Co r (i+1) _ k hk',show i+1+k+1=i+(k+1)+1 by omega]
theorem JP (W:World) (b:Nat) (L:List (Bs × Nat)) (h:qI W b L) (hl:∀ p∈L,bz p.1) (f:Bs) (hf:bz f) (x:Nat):∃ o,(Instr.mapUpdate 129 (.map (some b)) (S f) (.int .i64 (x:Int))).run Tryz.prog W=.ok () (aU W b o)/\qI (aU W b o) b (bQ L f x) :=
 bN.put qK qJ Tryz.underlying129 h hl f hf x
theorem JO (A:Option Addr) (c:Nat) (t:List Bs) (w:World) (hV:ay w A (t.map S)) (hl:t.length<=500) (hN:∀ s∈t,bz s):Calls Tryz.prog 76 #[.slice A t.length c] w fun e w'=>∃ b,e=.returned (.map (some b))/\qI w' b (iw t 0 [])/\Below w.heap.size w w':=by
 have HV:=Lib.hid hV;have HN:=Lib.hid hN;have hmk:∀ W:World,(Instr.makeMap 129 (some (.int .i64 (t.length:Int)))).run Tryz.prog W=.ok (.map (some W.heap.size)) (W.alloc (.map #[] 0)):=by
  intro W;simp [Instr.makeMap,asInt,asIntOf,go_sem]
 have hM0:qI (w.alloc (.map #[] 0)) w.heap.size []:=bN.new w;have hb0:Below w.heap.size w (w.alloc (.map #[] 0)):=(Below.refl _ _).alloc (Nat.le_refl _) _;clear hV hN;go_enter Tryz.func76,Tryz.ntmps76;go_wp2_with fail
 go_loopw [11] (fun i wr=>∃ (k:Nat),i=.int .i64 k/\k<=t.length/\qI wr w.heap.size (iw (t.take k) 0 [])/\Below w.heap.size w wr) (fun i _=>t.length-(intOf i).toNat)
 case atStart=>exact⟨0,rfl,by omega,by simpa [iw] using hM0,hb0⟩
 case round =>
  obtain⟨k,rfl,hk,hM,hB⟩:=hrel;by_cases hlt:k<t.length
  ·obtain⟨b,o,rfl,hbl,hc0⟩:=row_of HV.out hlt
   have hfk:=HN.out _ (List.getElem_mem hlt);have HE:=Lib.hid (Co t 0 [] k hlt);have hkeys:∀ p∈iw (t.take k) 0 [],bz p.1:=Cn _ _ _ (fun p hp=>absurd hp List.not_mem_nil) (fun s hs=>HN.out s (List.mem_of_mem_take hs));generalize iw (t.take k) 0 []=L at *;generalize t[k]=s at *;obtain⟨o',hput,hM2⟩:=JP wr w.heap.size L hM hkeys s hfk (k+1);obtain⟨Z,hZ⟩:∃ Z:ByteArray,(⟨s.toArray⟩:ByteArray)=Z:=⟨_,rfl⟩;have k0:=(hB.cell (p:=⟨b,o+k,none⟩) hbl).trans (hc0.trans (by rw [S,hZ]));unfold S at hput;rw [hZ] at hput;rw [show ((k+1:Nat):Int)=(k:Int)+1 by omega] at hput;have hB2:=hB.trans (yQ wr w.heap.size o' (Nat.le_refl _));have i0:(0:Int)<=(k:Int):=by omega
   have il:(k:Int)<(t.length:Int):=by omega
   have HM2:Hid (qI (aU wr w.heap.size o') w.heap.size (bQ L s (0+k+1))):=by rw [Nat.zero_add];exact hM2
   clear hZ hc0 hM hM2 hkeys hfk;go_wp2_with fail;go_roundw
   case rel=>exact⟨k+1,by go_num,by omega,by rw [HE.out];exact HM2.out,hB2⟩
   case measure=>simp [intOf];omega
  ·obtain rfl:k=t.length:=by omega
   rw [List.take_length] at hM;go_wp2_with fail;go_returns;exact⟨_,rfl,hM,hB⟩
theorem Er (A:Option Addr) (c:Nat) (t:List Bs) (w:World) (hT:bK w) (hV:ay w A (t.map S)):Calls Tryz.prog 40 #[.slice A t.length c] w fun e w'=>e=.returned (.bool (l7 t))/\Below w.heap.size w w':=by
 have HT:Hid (l7 t=(decide (t.length<=500) && t.all gT && decide t.Nodup)):=rfl;by_cases hl:t.length<=500
 ·have d1:(t.length:Int)<=500:=by omega
  have p1:=Ff A c t w hT hV hl
  cases ha:t.all gT with
  | false =>
   have HX:Hid (l7 t=false):=by rw [Hid,HT.out,ha];simp
   rw [ha] at p1;clear ha HT;go_enter Tryz.func40,Tryz.ntmps40;go_wp2_with fail;refine p1.mono ?_;rintro e w1 ⟨rfl,b1⟩;go_wp2_with fail;go_returns;exact⟨by rw [HX.out];(try rfl),b1⟩
  | true =>
   have hN:∀ s∈t,bz s:=fun s hs=>by
    have:=List.all_eq_true.1 ha s hs;unfold gT at this;simp at this;exact this.1.2
   have HX:Hid (l7 t=(((iw t 0 []).length:Int) == (t.length:Int))):=by
    rw [Hid,HT.out,ha,decide_eq_true hl,Bool.true_and,Bool.true_and];by_cases hd:t.Nodup
    ·rw [decide_eq_true hd,(Cm t).2 hd];simp
    ·rw [decide_eq_false hd]
     symm;rw [beq_eq_false_iff_ne];intro e;exact hd ((Cm t).1 (by omega))
   have p2:=fun W hW=>JO A c t W hW hl hN
   rw [ha] at p1;have HV:=Lib.hid hV;clear ha HT hN hV;generalize iw t 0 []=L at *;go_enter Tryz.func40,Tryz.ntmps40;go_wp2_with fail;refine p1.mono ?_;rintro e w1 ⟨rfl,b1⟩;go_wp2_with fail;refine (p2 _ (HV.out.below b1)).mono ?_;rintro e w2 ⟨b,rfl,hM,b2⟩;obtain⟨es,clock,hm1,hm2⟩:=hM.size;have hln:(Builtin.len_ #[129] 3 #[.map (some b)]).run Tryz.prog w2=.ok (.int .i64 ((L.length:Nat):Int)) w2:=by
    simp [Builtin.len_,run_underlying Tryz.underlying129,MapKept.run_getObj_map hm1,goInt,Result.andThen,hm2]
   go_wp2_with fail;go_returns;exact⟨by rw [HX.out];(try rfl),ae b1 b2⟩
 ·have d1:500<(t.length:Int):=by omega
  have HX:Hid (l7 t=false):=by rw [Hid,HT.out,decide_eq_false hl];rfl
  clear hl HT;go_enter Tryz.func40,Tryz.ntmps40;go_wp2_with fail;go_returns;exact⟨by rw [HX.out];(try rfl),Below.refl _ _⟩
open Go.RowKit
def oG (w:World) (A:Option Addr) (l:List aO):Prop:=∀ k,(h:k<l.length)->∃ b o,A=some ⟨b,o,none⟩/\b<w.heap.size/\w.cell? ⟨b,o+k * 4,none⟩=some (.int .i64 l[k].inn)/\w.cell? ⟨b,o+k * 4+1,none⟩=some (.int .i64 l[k].out)/\w.cell? ⟨b,o+k * 4+2,none⟩=some (S l[k].w)/\w.cell? ⟨b,o+k * 4+3,none⟩=some (.int .i64 l[k].to)
def dY (w:World) (A:Option Addr) (l:List bI):Prop:=∀ k,(h:k<l.length)->∃ b o,A=some ⟨b,o,none⟩/\b<w.heap.size/\w.cell? ⟨b,o+k * 2,none⟩=some (S l[k].fin)/\∃ A' c',w.cell? ⟨b,o+k * 2+1,none⟩=some (.slice A' l[k].arcs.length c')/\oG w A' l[k].arcs
theorem oG.below {w w':World} {A:Option Addr} {l:List aO} (h:oG w A l) (hb:Below w.heap.size w w'):oG w' A l:=by
 intro k hk;obtain⟨b,o,hA,hlt,h0,h1,h2,h3⟩:=h k hk;exact⟨b,o,hA,Nat.lt_of_lt_of_le hlt hb.size,(hb.cell (p:=⟨b,_,none⟩) hlt).trans h0,(hb.cell (p:=⟨b,_,none⟩) hlt).trans h1,(hb.cell (p:=⟨b,_,none⟩) hlt).trans h2,(hb.cell (p:=⟨b,_,none⟩) hlt).trans h3⟩
theorem dY.below {w w':World} {A:Option Addr} {l:List bI} (h:dY w A l) (hb:Below w.heap.size w w'):dY w' A l:=by
 intro k hk;obtain⟨b,o,hA,hlt,h0,A',c',h1,h2⟩:=h k hk;exact⟨b,o,hA,Nat.lt_of_lt_of_le hlt hb.size,(hb.cell (p:=⟨b,_,none⟩) hlt).trans h0,A',c',(hb.cell (p:=⟨b,_,none⟩) hlt).trans h1,h2.below hb⟩
def di (m:aQ) (A:Option Addr) (c:Nat):Value:=.agg #[.int .i64 m.kind,.int .i64 m.start,S m.lead,.slice A m.states.length c]
def EL (n:Nat) (l:List aO):Prop:=∀ a∈l,a.w.length<=n
def oH (n:Nat) (l:List bI):Prop:=∀ s∈l,s.fin.length<=n/\EL n s.arcs/\s.arcs.length<=1000000
theorem sW {l:List bI} {k:Nat} (hk:k<l.length):dh (l.take (k+1))=dh (l.take k)+l[k].arcs.length:=by
 unfold dh;rw [List.take_succ_eq_append_getElem hk,List.map_append,List.sum_append];simp
theorem u7 (l:List bI) (k:Nat):dh (l.take k)<=dh l:=by
 unfold dh
 conv=>rhs;rw [<-List.take_append_drop k l]
 rw [List.map_append,List.sum_append];omega
def jB (m:aQ) (i:Nat):Prop:=(∀ s∈m.states.take i,gY m.kind m.states.length s=true)/\dh (m.states.take i)<=30000
def l9 (m:aQ):Prop:=kindOk m.kind=true/\(1<=m.states.length/\m.states.length<=3000/\0<=m.start/\m.start<m.states.length)/\bg m.kind m.lead=true
theorem BD {m:aQ} (h:¬ l9 m):bM m=false:=by
 cases hm:bM m with
 | false=>rfl
 | true =>
  obtain⟨h1,h2,h3,-⟩:=kV.1 hm;exact absurd ⟨h1,h2,h3⟩ h
theorem BC {m:aQ} {i:Nat} (h:30000<dh (m.states.take i)):bM m=false:=by
 cases hm:bM m with
 | false=>rfl
 | true =>
  obtain⟨-,-,-,-,h5⟩:=kV.1 hm;have:=u7 m.states i;omega
theorem BF {m:aQ} {i:Nat} (hi:i<m.states.length) (h:gY m.kind m.states.length m.states[i]=false):bM m=false:=by
 cases hm:bM m with
 | false=>rfl
 | true =>
  obtain⟨-,-,-,h4,-⟩:=kV.1 hm;rw [h4 _ (List.getElem_mem hi)] at h;cases h
theorem Bz {m:aQ} (h:l9 m) (ht:jB m m.states.length):bM m=true:=by
 rw [kV];obtain⟨h1,h2,h3⟩:=h;unfold jB at ht;rw [List.take_length] at ht;exact⟨h1,h2,h3,ht.1,ht.2⟩
theorem BH (m:aQ):jB m 0:=⟨by simp,by simp [dh]⟩
theorem BG {m:aQ} {i:Nat} (hi:i<m.states.length) (h:jB m i) (hs:gY m.kind m.states.length m.states[i]=true) (hn:dh (m.states.take (i+1))<=30000):jB m (i+1) :=
 ⟨allT hi h.1 hs,hn⟩
theorem Eg {k:Int} {n:Nat} {s:bI} (h1:s.fin≠[]) (h2:bg k s.fin=false):gY k n s=false:=by
 unfold gY;rw [h2,decide_eq_false h1];rfl
theorem wO {k:Int} {n:Nat} {s:bI} {i:Nat} (hi:i<s.arcs.length) (h:dZ k n s.arcs[i]=false):gY k n s=false:=by
 unfold gY;rw [p8 hi h,Bool.and_false]
theorem wM {k:Int} {n:Nat} {s:bI} (h1:s.fin=[]\/bg k s.fin=true) (h:∀ a∈s.arcs.take s.arcs.length,dZ k n a=true):gY k n s=true:=by
 rw [List.take_length] at h;rw [pg];exact⟨h1,h⟩
abbrev j6 (n:Nat):Prop:=n<=501
def vO (n:Nat):Value:=.int .i64 (n:Int)
theorem Bl:Enc Tryz.prog 3 vO j6 where
 inj:=fun {a b} h=>by
  simp only [vO,Value.int.injEq,true_and] at h;omega
 key:=fun a ha=>⟨_,keyOf_int_mk Tryz.underlying3 (by
  unfold j6 at ha;show (decide (IntKind.i64.min<=(a:Int)) && decide ((a:Int)<=IntKind.i64.max))=true;rw [Bool.and_eq_true,decide_eq_true_eq,decide_eq_true_eq];show (-9223372036854775808:Int)<=(a:Int)/\(a:Int)<=9223372036854775807;omega)⟩
abbrev ji (w:World) (b:Nat) (L:List (Nat × aH)):Prop:=bN Tryz.prog 3 vO kR w b L
theorem Ib (w:World):(zeroValue 24).run Tryz.prog w=.ok (kR dX) w:=(zero_of_info (n:=3) (by kernel_rfl)).1 w
theorem Bn:Keyed Tryz.prog 3:=int_keyed Tryz.underlying3
theorem Ic (w:World) (b:Nat) (L:List (Nat × aH)) (h:ji w b L) (hl:∀ p∈L,j6 p.1) (s:Nat) (hs:j6 s) :
  (Instr.lookup 66 (.map (some b)) (.int .i64 (s:Int)) true).run Tryz.prog w=.ok (.tuple #[kR ((bO L s).getD dX),.bool (bO L s).isSome]) w:=by
 have:=bN.look Bn Bl Tryz.underlying66 (Ib w) h hl s hs true;rw [show Value.int .i64 (s:Int)=vO s from rfl,this]
 cases bO L s <;> rfl
theorem Ig (W:World) (b:Nat) (L:List (Nat × aH)) (h:ji W b L) (hl:∀ p∈L,j6 p.1) (s:Nat) (hs:j6 s) (f:aH):∃ o,(Instr.mapUpdate 66 (.map (some b)) (.int .i64 (s:Int)) (kR f)).run Tryz.prog W=.ok () (aU W b o)/\ji (aU W b o) b (bQ L s f) :=
 bN.put Bn Bl Tryz.underlying66 h hl s hs f
theorem vH:∀ (t:List Bs) (i:Nat) (l:List (Nat × aH)),(∀ p∈l,j6 p.1)->i+t.length<=500->∀ p∈dW t i l,j6 p.1
 | [],i,l,hl,_=>hl
 | s::r,i,l,hl,hi=>by
  unfold dW;simp only [List.length_cons] at hi
  cases bR s with
  | some f=>exact vH r (i+1) _ (rC (show j6 (i+1) by unfold j6;omega) hl) (by omega)
  | none=>exact vH r (i+1) l hl (by omega)
theorem xO:∀ (t:List Bs) (i:Nat) (l:List (Nat × aH)) (k:Nat) (hk:k<t.length),dW (t.take (k+1)) i l=match bR t[k] with|some f=>bQ (dW (t.take k) i l) (i+k+1) f|none=>dW (t.take k) i l
 | s::r,i,l,0,hk=>by
  simp only [List.take_succ_cons,List.take_zero,List.getElem_cons_zero];unfold dW
  cases bR s <;> rfl
 | s::r,i,l,k+1,hk=>by
  have hk':k<r.length:=by simpa using hk
  rw [List.take_succ_cons,List.take_succ_cons];unfold dW;simp only [List.getElem_cons_succ]
  cases bR s with
  | some f=>simp only;rw [xO r (i+1) _ k hk',show i+1+k+1=i+(k+1)+1 by omega]
  | none=>simp only;rw [xO r (i+1) _ k hk',show i+1+k+1=i+(k+1)+1 by omega]
theorem lI (f:aH):∃ F V:ByteArray,kR f=.agg #[.int .u8 f.op.toNat,.string F,.string V]/\f.feat=F.data.toList/\f.val=V.data.toList:=⟨⟨f.feat.toArray⟩,⟨f.val.toArray⟩,rfl,rfl,rfl⟩
theorem AZ (A:Option Addr) (c:Nat) (t:List Bs) (w:World) (hT:fD w) (hV:ay w A (t.map S)) (hl:t.length<=500):Calls Tryz.prog 41 #[.slice A t.length c] w fun e w'=>∃ b,e=.returned (.map (some b))/\ji w' b (dW t 0 [])/\w.heap.size<=b/\Below w.heap.size w w':=by
 have HV:=Lib.hid hV;have hmk:∀ W:World,(Instr.makeMap 66 none).run Tryz.prog W=.ok (.map (some W.heap.size)) (W.alloc (.map #[] 0)):=fun _=>rfl
 have hM0:ji (w.alloc (.map #[] 0)) w.heap.size []:=bN.new w;have hb0:Below w.heap.size w (w.alloc (.map #[] 0)):=(Below.refl _ _).alloc (Nat.le_refl _) _;clear hV;go_enter Tryz.func41,Tryz.ntmps41;go_wp2_with fail
 go_loopw [11] (fun i wr=>∃ (k:Nat),i=.int .i64 k/\k<=t.length/\ji wr w.heap.size (dW (t.take k) 0 [])/\Below w.heap.size w wr) (fun i _=>t.length-(intOf i).toNat)
 case atStart=>exact⟨0,rfl,by omega,by simpa [dW] using hM0,hb0⟩
 case round =>
  obtain⟨k,rfl,hk,hM,hB⟩:=hrel;by_cases hlt:k<t.length
  ·obtain⟨b,o,rfl,hbl,hc0⟩:=row_of HV.out hlt
   have HE:=Lib.hid (xO t 0 [] k hlt);have hkeys:∀ p∈dW (t.take k) 0 [],j6 p.1:=vH _ _ _ (fun p hp=>absurd hp List.not_mem_nil) (by rw [List.length_take];omega);generalize dW (t.take k) 0 []=L at *;generalize t[k]=s at *;obtain⟨Z,hZ⟩:∃ Z:ByteArray,(⟨s.toArray⟩:ByteArray)=Z:=⟨_,rfl⟩;have hZd:s=Z.data.toList:=by rw [<-hZ]
   have k0:=(hB.cell (p:=⟨b,o+k,none⟩) hbl).trans (hc0.trans (by rw [S,hZ]));subst hZd;have p1:=lM Z wr (hT.below hB);unfold ma at p1;have i0:(0:Int)<=(k:Int):=by omega
   have il:(k:Int)<(t.length:Int):=by omega
   have hmlt:=hM.lt;clear hZ hc0
   cases hp:bR Z.data.toList with
   | none =>
    have HX:Hid (dW (t.take (k+1)) 0 []=L):=by have:=HE.out;rw [hp] at this;exact this
    rw [hp] at p1;obtain⟨F,V,hf,-,-⟩:=lI (Option.getD none dX);rw [hf] at p1;generalize (Option.getD none dX).op=oo at *;clear hp HE hf;go_wp2_with fail;refine p1.mono ?_;rintro e w2 ⟨rfl,b2⟩;have b3:=b2.alloc b2.size (.cells #[.int .u8 oo.toNat,.string F,.string V] 24);have hM2:=hM.below b3;have hB2:=ae hB b3;go_wp2_with fail;go_roundw
    case rel=>exact⟨k+1,by go_num,by omega,by rw [HX.out];exact hM2,hB2⟩
    case measure=>simp [intOf];omega
   | some f =>
    have HX:Hid (dW (t.take (k+1)) 0 []=bQ L (k+1) f):=by have:=HE.out;rw [hp,Nat.zero_add] at this;exact this
    rw [hp] at p1;obtain⟨F,V,hf,-,-⟩:=lI f;simp only [Option.getD_some] at p1;have hput:=fun W h=>Ig W w.heap.size L h hkeys (k+1) (by unfold j6;omega) f
    rw [hf] at p1 hput;generalize f.op=oo at *;clear hp HE hf;go_wp2_with fail;refine p1.mono ?_;rintro e w2 ⟨rfl,b2⟩;have b3:=b2.alloc b2.size (.cells #[.int .u8 oo.toNat,.string F,.string V] 24);have hM2:=hM.below b3;have hB2:=ae hB b3;have c0:=az w2 #[.int .u8 oo.toNat,.string F,.string V] 24 0 _ rfl;have c1:=az w2 #[.int .u8 oo.toNat,.string F,.string V] 24 1 _ rfl;have c2:=az w2 #[.int .u8 oo.toNat,.string F,.string V] 24 2 _ rfl;obtain⟨o',ho,hM3⟩:=hput _ hM2;rw [show ((k+1:Nat):Int)=(k:Int)+1 by omega] at ho;have HM3:=Lib.hid hM3;have hB3:=hB2.trans (yQ _ w.heap.size o' (Nat.le_refl _));clear hM hM2 hM3 hput p1;go_wp2_with fail;go_roundw
    case rel=>exact⟨k+1,by go_num,by omega,by rw [HX.out];exact HM3.out,hB3⟩
    case measure=>simp [intOf];omega
  ·obtain rfl:k=t.length:=by omega
   rw [List.take_length] at hM;go_wp2_with fail;go_returns;exact⟨_,rfl,hM,Nat.le_refl _,hB⟩
theorem xP (w:World) (b:Nat) (t:List Bs) (h:ji w b (dW t 0 [])) (ht:t.length<=500) (s:Int) (h0:0<=s) (h1:s<=500) :
  (Instr.lookup 66 (.map (some b)) (.int .i64 s) true).run Tryz.prog w=.ok (.tuple #[kR ((dD t s).getD dX),.bool (dD t s).isSome]) w:=by
 obtain⟨n,rfl⟩:∃ n:Nat,s=n:=⟨s.toNat,by omega⟩;have hf:=Hr t (n:Int);rw [if_pos h0,Int.toNat_natCast] at hf;rw [<-hf];exact Ic w b _ h (vH t 0 [] (fun p hp=>absurd hp List.not_mem_nil) (by omega)) n (by unfold j6;omega)
theorem Ep (b:Nat) (t:List Bs) (w:World) (h:ji w b (dW t 0 [])) (ht:t.length<=500) (s:Int) (h0:0<=s) (h1:s<=500) :
  Calls Tryz.prog 46 #[.map (some b),.int .i64 s] w fun e w'=>e=.returned (.int .i64 (fE t s))/\Below w.heap.size w w':=by
 have l0:=xP w b t h ht s h0 h1;obtain⟨F,V,hf,-,-⟩:=lI ((dD t s).getD dX);rw [hf] at l0;have hB:fE t s=if (dD t s).isSome=true then 0 else s:=rfl;have HB:=Lib.hid hB;generalize fE t s=r at *;generalize (dD t s).isSome=q at *;generalize ((dD t s).getD dX).op=oo at *;clear hf hB
 cases q with
 | true =>
  go_enter Tryz.func46,Tryz.ntmps46;go_wp2_with fail;go_returns;exact⟨by rw [HB.out];rfl,(Below.refl _ _).alloc (Nat.le_refl _) _⟩
 | false =>
  go_enter Tryz.func46,Tryz.ntmps46;go_wp2_with fail;go_returns;exact⟨by rw [HB.out];rfl,(Below.refl _ _).alloc (Nat.le_refl _) _⟩
def qR (a:aO):Value:=.agg #[.int .i64 a.inn,.int .i64 a.out,S a.w,.int .i64 a.to]
theorem qD (w0:World) (n:Nat) (hn:w0.heap.size=n) (A B:Array Value) (T U:TypeId) (o:Nat) (v:Value) (h:A[o]? = some v):((w0.alloc (.cells A T)).alloc (.cells B U)).cell? ⟨n,o,none⟩=some v:=by
 subst hn;exact (((Below.refl _ (w0.alloc (.cells A T))).alloc (Nat.le_refl _) (.cells B U)).cell (p:=⟨w0.heap.size,o,none⟩) (by simp)).trans (az w0 A T o v h)
abbrev vS (w:World) (x y:Int) (W:ByteArray) (tg:Int) (oo:UInt8) (F V:ByteArray):World:=((w.alloc (.cells #[.int .i64 x,.int .i64 y,.string W,.int .i64 tg] 77)).alloc (.cells #[.int .u8 oo.toNat,.string F,.string V] 24)).alloc (.cells #[.int .u8 oo.toNat,.string F,.string V] 24)
theorem Cr (b:Nat) (t:List Bs) (w:World) (h:ji w b (dW t 0 [])) (ht:t.length<=500) (x y:Int) (W:ByteArray) (tg:Int) (hx0:0<=x) (hx1:x<=500) (hy0:0<=y) (hy1:y<=500) :
  Calls Tryz.prog 42 #[.map (some b),.agg #[.int .i64 x,.int .i64 y,.string W,.int .i64 tg]] w fun e w'=>e=.returned (.tuple #[kR ((eO t ⟨x,y,W.data.toList,tg⟩).getD dX),.bool (eO t ⟨x,y,W.data.toList,tg⟩).isSome])/\w'=vS w x y W tg ((eO t ⟨x,y,W.data.toList,tg⟩).getD dX).op ⟨((eO t ⟨x,y,W.data.toList,tg⟩).getD dX).feat.toArray⟩ ⟨((eO t ⟨x,y,W.data.toList,tg⟩).getD dX).val.toArray⟩:=by
 have hlk:∀ W',Below w.heap.size w W'->∀ s:Int,0<=s->s<=500->(Instr.lookup 66 (.map (some b)) (.int .i64 s) true).run Tryz.prog W'=.ok (.tuple #[kR ((dD t s).getD dX),.bool (dD t s).isSome]) W':=fun W' hW s h0 h1=>xP W' b t (h.below hW) ht s h0 h1
 obtain⟨F1,V1,hf1,hF1,hV1⟩:=lI ((dD t x).getD dX);obtain⟨F2,V2,hf2,hF2,hV2⟩:=lI ((dD t y).getD dX);have l1:=fun W' hW=>hlk W' hW x hx0 hx1
 have l2:=fun W' hW=>hlk W' hW y hy0 hy1
 rw [hf1] at l1;rw [hf2] at l2;have z0:=az w #[.int .i64 x,.int .i64 y,.string W,.int .i64 tg] 77 0 _ rfl;have z1:=az w #[.int .i64 x,.int .i64 y,.string W,.int .i64 tg] 77 1 _ rfl;have hb0:Below w.heap.size w (w.alloc (.cells #[.int .i64 x,.int .i64 y,.string W,.int .i64 tg] 77)):=(Below.refl _ _).alloc (Nat.le_refl _) _;have hn0:w.heap.size<(w.alloc (.cells #[.int .i64 x,.int .i64 y,.string W,.int .i64 tg] 77)).heap.size:=by simp
 have hsz:(w.alloc (.cells #[.int .i64 x,.int .i64 y,.string W,.int .i64 tg] 77)).heap.size=w.heap.size+1:=by simp
 have HFV1:=Lib.hid (And.intro hF1 hV1);have HFV2:=Lib.hid (And.intro hF2 hV2);clear hlk hF1 hV1 hF2 hV2;obtain⟨r,hr⟩:∃ r,r=eO t ⟨x,y,W.data.toList,tg⟩:=⟨_,rfl⟩;rw [<-hr];have HR:=Lib.hid hr;clear hr;go_enter Tryz.func42,Tryz.ntmps42;go_upto_region 1 with (fail)
 generalize hw0:w.alloc (.cells #[.int .i64 x,.int .i64 y,.string W,.int .i64 tg] 77)=w0 at *;have HW:=Lib.hid hw0;clear hw0;have hb1:Below w.heap.size w (w0.alloc (.cells #[.int .u8 0,.string ⟨#[]⟩,.string ⟨#[]⟩] 24)):=hb0.alloc (by omega) _;have bA:=(Below.refl w0.heap.size w0).alloc (Nat.le_refl _) (.cells #[.int .u8 0,.string ⟨#[]⟩,.string ⟨#[]⟩] 24);have y0:=(bA.cell (p:=⟨w.heap.size,0,none⟩) hn0).trans z0;have y1:=(bA.cell (p:=⟨w.heap.size,1,none⟩) hn0).trans z1;have k1:=l1 _ hb1;have yb:=z1;clear z0 z1 bA;have HF:=Lib.hid hf1;have HG:=Lib.hid hf2;obtain⟨oo,hoo⟩:∃ oo,((dD t x).getD dX).op=oo:=⟨_,rfl⟩;obtain⟨pp,hpp⟩:∃ oo,((dD t y).getD dX).op=oo:=⟨_,rfl⟩;rw [hoo] at k1 HF l1;rw [hpp] at HG l2;have HO1:=Lib.hid hoo;have HO2:=Lib.hid hpp;clear hf1 hf2 hoo hpp;obtain⟨q,hq⟩:∃ q,(dD t x).isSome=q:=⟨_,rfl⟩;rw [hq] at k1 l1
 cases q with
 | true =>
  have HX:Hid (r=dD t x):=by
   obtain⟨f,hf⟩:=Option.isSome_iff_exists.1 hq;rw [Hid,HR.out];unfold eO;rw [hf]
  have HQ:=Lib.hid hq;have e0:=qD w0 _ hsz #[.int .u8 oo.toNat,.string F1,.string V1] #[.int .u8 oo.toNat,.string F1,.string V1] 24 24 0 (.int .u8 oo.toNat) rfl;have e1:=qD w0 _ hsz #[.int .u8 oo.toNat,.string F1,.string V1] #[.int .u8 oo.toNat,.string F1,.string V1] 24 24 1 (.string F1) rfl;have e2:=qD w0 _ hsz #[.int .u8 oo.toNat,.string F1,.string V1] #[.int .u8 oo.toNat,.string F1,.string V1] 24 24 2 (.string V1) rfl;clear l1 l2 hq HG;go_wp2_with fail;refine bodyPost_ret (by simp [results,Tryz.results42,go_sem,e0,e1,e2];try rfl) rfl ?_;exact⟨by rw [HX.out,HF.out,HQ.out],by rw [HX.out,HO1.out,HFV1.out.1,HFV1.out.2,<-HW.out,Array.toArray_toList,Array.toArray_toList]⟩
 | false =>
  have HX:Hid (r=dD t y):=by
   rw [Hid,HR.out];unfold eO
   cases hf:dD t x with
   | none=>rfl
   | some f=>rw [hf] at hq;cases hq
  obtain⟨q2,hq2⟩:∃ q,(dD t y).isSome=q:=⟨_,rfl⟩;rw [hq2] at l2;have HQ:=Lib.hid hq2;clear l1 hq hq2 HF;have e0:=qD w0 _ hsz #[.int .u8 pp.toNat,.string F2,.string V2] #[.int .u8 pp.toNat,.string F2,.string V2] 24 24 0 (.int .u8 pp.toNat) rfl;have e1:=qD w0 _ hsz #[.int .u8 pp.toNat,.string F2,.string V2] #[.int .u8 pp.toNat,.string F2,.string V2] 24 24 1 (.string F2) rfl;have e2:=qD w0 _ hsz #[.int .u8 pp.toNat,.string F2,.string V2] #[.int .u8 pp.toNat,.string F2,.string V2] 24 24 2 (.string V2) rfl;have hb2:Below w.heap.size w ((w0.alloc (.cells #[.int .u8 0,.string ⟨#[]⟩,.string ⟨#[]⟩] 24)).alloc (.cells #[.int .u8 oo.toNat,.string F1,.string V1] 24)):=hb1.alloc (by simp;omega) _;have k2:=l2 _ hb2;have y2:=qD w0 _ hsz #[.int .u8 0,.string ⟨#[]⟩,.string ⟨#[]⟩] #[.int .u8 oo.toNat,.string F1,.string V1] 24 24 0 (.int .u8 0) rfl;have bB:=((Below.refl w0.heap.size w0).alloc (Nat.le_refl _) (.cells #[.int .u8 0,.string ⟨#[]⟩,.string ⟨#[]⟩] 24)).alloc (by simp) (.cells #[.int .u8 oo.toNat,.string F1,.string V1] 24);have y3:=(bB.cell (p:=⟨w.heap.size,1,none⟩) hn0).trans yb;go_wp2_with fail;refine bodyPost_ret (by simp [results,Tryz.results42,go_sem,e0,e1,e2];try rfl) rfl ?_;exact⟨by rw [HX.out,HG.out,HQ.out],by rw [HX.out,HO2.out,HFV2.out.1,HFV2.out.2,<-HW.out,Array.toArray_toList,Array.toArray_toList]⟩
abbrev kK (p:aR):Prop:=(-9223372036854775808<=p.1/\p.1<=9223372036854775807)/\p.2.length<=10000000
def iy (p:aR):Value:=.agg #[.int .i64 p.1,S p.2]
def Cb (n:Nat):Value:=.int .i64 (n:Int)
theorem IK:laidOutB Tryz.prog=true:=by kernel_rfl
theorem Kk:WideMaps.KeyLaw Tryz.prog 82:=deep_law_laid IK (m:=2) (by omega) (of_decide_eq_true (by kernel_rfl)) (by kernel_rfl) (by rw [Tryz.underlying82])
theorem Dc:Keyed Tryz.prog 82:=Keyed.of_law Kk
theorem Kl:Tryz.prog.keyType 82=true:=by kernel_rfl
theorem Da:Tryz.prog.cellsOf 82=2:=by kernel_rfl
theorem Db:Enc Tryz.prog 82 iy kK where
 inj:=fun {a b} h=>by
  obtain⟨a1,a2⟩:=a;obtain⟨b1,b2⟩:=b;simp only [iy,S,Value.agg.injEq,Array.mk.injEq,List.cons.injEq,Value.int.injEq,Value.string.injEq,ByteArray.mk.injEq,true_and,and_true] at h;rw [h.1,h.2]
 key:=fun a ha=>by
  obtain⟨a1,a2⟩:=a;obtain⟨⟨h1,h2⟩,h3⟩:=ha;obtain⟨d,hd⟩:∃ d,Tryz.prog.types.size=d+1:=⟨Tryz.prog.types.size-1,by have:0<Tryz.prog.types.size:=of_decide_eq_true (by kernel_rfl);omega⟩;have hsz:(⟨a2.toArray⟩:ByteArray).size<=maxLen:=by
   rw [Lib.size_eq];unfold maxLen;simp only at h3;show a2.length<=_;omega
  have hwf:(Lit.int .i64 a1).wf=true:=by
   show (decide (IntKind.i64.min<=a1) && decide (a1<=IntKind.i64.max))=true;rw [Bool.and_eq_true,decide_eq_true_eq,decide_eq_true_eq];exact⟨h1,h2⟩
  have hfm:(iy (a1,a2)).formed Tryz.prog 82=true:=by simp [iy,Value.formed,Tryz.underlying82,Da]
  have hl:(Tryz.prog.keyLits (Tryz.prog.types.size+1) 82 (iy (a1,a2)).cells.toList).isSome=true:=by
   rw [hd];have e1:(iy (a1,a2)).cells.toList=[.int .i64 a1,S a2]:=rfl;rw [e1];unfold Program.keyLits;rw [Tryz.underlying82];have q1:Tryz.prog.keyLits (d+1) 3 [.int .i64 a1]=some [.int .i64 a1]:=by
    unfold Program.keyLits;rw [Tryz.underlying3];simp only;rw [if_pos ⟨trivial,hwf⟩]
   have q2:Tryz.prog.keyLits (d+1) 9 [S a2]=some [.string a2]:=by
    unfold Program.keyLits;rw [Tryz.underlying9];unfold S;simp only;rw [if_pos hsz]
   have n1:Tryz.prog.cellsOf 3=1:=by kernel_rfl
   have n2:Tryz.prog.cellsOf 9=1:=by kernel_rfl
   simp only [Da];rw [if_pos ⟨rfl,by simp⟩];simp only [List.mapM_cons,List.mapM_nil,n1,n2,List.drop_zero,List.take_succ_cons,List.take_zero,List.drop_succ_cons,q1,q2]
   rfl
  obtain⟨ls,hls⟩:=Option.isSome_iff_exists.1 hl;refine⟨.string (keyBytes ls),?_⟩;unfold keyOf;rw [Tryz.underlying82];simp only [Kl,hfm,Bool.and_self,if_true];rw [hls]
  rfl
abbrev kJ (w:World) (b:Nat) (l:List aR):Prop:=bN Tryz.prog 82 iy Cb w b l.zipIdx
theorem zn:∀ (l:List aR) (k:Nat) (p:aR),bO (l.zipIdx k) p=(jr l p).map (· + k)
 | [],k,p=>rfl
 | q::r,k,p=>by
  rw [List.zipIdx_cons];unfold bO jr;by_cases h:q=p
  ·rw [if_pos h,if_pos h];simp
  ·rw [if_neg h,if_neg h,zn r (k+1) p]
   cases jr r p with
   | none=>rfl
   | some n=>simp;omega
theorem EK {l:List aR} (h:∀ p∈l,kK p):∀ q∈l.zipIdx,kK q.1:=fun q hq=>h _ (List.mem_zipIdx' hq |>.2 ▸ List.getElem_mem _)
theorem OE {l:List aR} {p:aR} (h:jr l p=none):bQ l.zipIdx p l.length=(l++[p]).zipIdx:=by
 have hz:=zn l 0 p;rw [h] at hz;rw [vX (yz.1 hz),List.zipIdx_append];simp
theorem JB (w:World):(zeroValue 3).run Tryz.prog w=.ok (Cb 0) w:=by kernel_rfl
theorem JM (w:World) (b:Nat) (l:List aR) (h:kJ w b l) (hl:∀ p∈l,kK p) (p:aR) (hp:kK p) :
  (Instr.lookup 68 (.map (some b)) (iy p) true).run Tryz.prog w=.ok (.tuple #[.int .i64 ((jr l p).getD 0:Nat),.bool (jr l p).isSome]) w:=by
 have:=bN.look Dc Db Tryz.underlying68 (JB w) h (EK hl) p hp true;rw [this,zn]
 cases jr l p <;> rfl
theorem JN (w:World) (b:Nat) (l:List aR) (h:kJ w b l) (hl:∀ p∈l,kK p) (p:aR) (hp:kK p) (hn:jr l p=none) :
  ∃ o,(Instr.mapUpdate 68 (.map (some b)) (iy p) (.int .i64 (l.length:Int))).run Tryz.prog w=.ok () (aU w b o)/\kJ (aU w b o) b (l++[p]):=by
 have:=bN.put Dc Db Tryz.underlying68 h (EK hl) p hp l.length;rw [OE hn] at this;exact this
open Go Go.RowKit
variable {P:Program} {F:Fence} {n:Nat}
variable {P:Program}
structure aB (X:Nat->Prop) (w w':World):Prop where
 os:w'.os=w.os
 tape:w'.tape=w.tape
 output:w'.output=w.output
 size:w.heap.size<=w'.heap.size
 block:∀ b,b<w.heap.size->¬ X b->w'.heap[b]? = w.heap[b]?
theorem aB.refl (X:Nat->Prop) (w:World):aB X w w:=⟨rfl,rfl,rfl,Nat.le_refl _,fun _ _ _=>rfl⟩
theorem aB.trans {X Y:Nat->Prop} {w w1 w2:World} (h:aB X w w1) (k:aB Y w1 w2) (hY:∀ b,b<w.heap.size->Y b->X b):aB X w w2 :=
 ⟨k.os.trans h.os,k.tape.trans h.tape,k.output.trans h.output,Nat.le_trans h.size k.size,fun b hb hx=>(k.block b (Nat.lt_of_lt_of_le hb h.size) (fun e=>hx (hY b hb e))).trans (h.block b hb hx)⟩
theorem aB.mono {X Y:Nat->Prop} {w w':World} (h:aB X w w') (hY:∀ b,b<w.heap.size->X b->Y b):aB Y w w' :=
 ⟨h.os,h.tape,h.output,h.size,fun b hb hy=>h.block b hb (fun e=>hy (hY b hb e))⟩
theorem aB.below {B:Nat} {w w':World} (h:aB (fun b=>B<=b) w w') (hB:B<=w.heap.size):Below B w w' :=
 ⟨h.os,h.tape,h.output,h.size,fun b hb=>h.block b (Nat.lt_of_lt_of_le hb hB) (Nat.not_le_of_lt hb)⟩
theorem aB.of_new {X:Nat->Prop} {w w':World} (h:Below w.heap.size w w'):aB X w w' :=
 ⟨h.os,h.tape,h.output,h.size,fun b hb _=>h.block b hb⟩
theorem aB.of_grown {w w':World} {row:Option Nat} (h:w.grownBy w' row):aB (fun b=>row=some b) w w' :=
 ⟨h.os,h.tape,h.output,h.size,fun b hb hx=>h.block b hb (fun e=>hx e.symm)⟩
def lg (X:Nat->Prop) (w:World) (R:World->Prop):Prop:=∀ w',w.heap.size<=w'.heap.size->(∀ b,b<w.heap.size->¬ X b->w'.heap[b]? = w.heap[b]?)->R w'
theorem lg.now {X:Nat->Prop} {w:World} {R:World->Prop} (h:lg X w R):R w:=h w (Nat.le_refl _) (fun _ _ _=>rfl)
theorem lg.step {X X' Y:Nat->Prop} {w w':World} {R:World->Prop} (h:lg X w R) (hc:aB Y w w') (hY:∀ b,b<w.heap.size->Y b->X b) (hX:∀ b,b<w.heap.size->X' b->X b):lg X' w' R :=
 fun w2 hs hb=>h w2 (Nat.le_trans hc.size hs) fun b hlt hx=>(hb b (Nat.lt_of_lt_of_le hlt hc.size) (fun e=>hx (hX b hlt e))).trans (hc.block b hlt (fun e=>hx (hY b hlt e)))
theorem lg.mono {X:Nat->Prop} {w:World} {R S:World->Prop} (h:lg X w R) (k:∀ w,R w->S w):lg X w S:=fun w' hs hb=>k _ (h w' hs hb)
theorem lm {w w':World} {b o:Nat} {s:Option Nat} (h:w'.heap[b]? = w.heap[b]?):w'.cell? ⟨b,o,s⟩=w.cell? ⟨b,o,s⟩:=by unfold World.cell?;simp only [h]
theorem dU {w w':World} {b:Nat} (h:w'.heap[b]? = w.heap[b]?) (o:Nat) (hf:w.frozen? ⟨b,o,none⟩=false):w'.frozen? ⟨b,o,none⟩=false:=by
 unfold World.frozen? at hf ⊢;rw [h];exact hf
theorem eP {X:Nat->Prop} {w w':World} {base:Nat} {e:TypeId} {size:Nat} {v:Value} {n:Nat} {xs:List Value} (h:w.ownsRow base e size v n xs) (hc:aB X w w') (hX:∀ g,v.ownBlock=some g->¬ X g):w'.ownsRow base e size v n xs:=by
 refine⟨h.1,?_⟩;rcases h.2 with hn|⟨g,cap,cur,rfl,hb,hg,rest⟩
 ·exact Or.inl hn
 ·exact Or.inr ⟨g,cap,cur,rfl,hb,(hc.block g (lt_of_block hg) (hX g rfl)).trans hg,rest⟩
theorem zS (w:World) (b:Nat) (o:Obj):aB (fun c=>c=b) w (w.putObj b o):=⟨rfl,rfl,rfl,by simp,fun c _ hx=>World.putObj_heap_other hx⟩
theorem dP (w:World) (b k:Nat) (u:Value):aB (fun c=>c=b) w (w.setCell ⟨b,k,none⟩ u):=⟨rfl,rfl,rfl,by simp,fun c _ hx=>Below.heap_setCell _ _ _ _ hx⟩
theorem ve (X:Nat->Prop) (w:World) (k:Nat):aB X w (w.drewN k):=⟨rfl,rfl,rfl,Nat.le_refl _,fun _ _ _=>rfl⟩
theorem zR (X:Nat->Prop) (w:World):aB X w w.drew:=⟨rfl,rfl,rfl,Nat.le_refl _,fun _ _ _=>rfl⟩
theorem p9 (X:Nat->Prop) (w:World) (o:Obj):aB X w (w.alloc o):=aB.of_new ((Below.refl _ _).alloc (Nat.le_refl _) _)
open Go
section
variable {P:Program} {ops:Array Oper} {md:Region.Mode} {C:World->Prop}
def j5 (P:Program) (md:Region.Mode) (ops:Array Oper) (C:World->Prop) (n:Nat) (L:Array Bool->Act->Prop):Nat->Array Bool->Act->Prop
 | 0,s,a=>L s a
 | f+1,s,a=>Region.ready md ops s≠[]/\∀ i∈Region.ready md ops s,i<n/\qOp P ops C i (j5 P md ops C n L f (s.setIfInBounds i true)) a
theorem j5.any {n g:Nat} {L:Array Bool->Act->Prop} {R:Exit->Act->World->Prop} (hL:∀ s a w,C w->L s a->wpAny P md ops R g s a w) :
  ∀ (f:Nat) (s:Array Bool) (a:Act) (w:World),C w->j5 P md ops C n L f s a->wpAny P md ops R (f+g) s a w
 | 0,s,a,w,hw,h=>by rw [Nat.zero_add];exact hL _ _ _ hw h
 | f+1,s,a,w,hw,h=>by
  rw [Nat.add_right_comm];exact⟨fun e=>absurd e h.1,fun i hi=>wpOp_of_qOp hw (fun a' w' hw' k=>j5.any hL f _ a' w' hw' k) (h.2 i hi).2⟩
theorem j5.first {n i:Nat} {o:Oper} {v:Value} {L:Array Bool->Act->Prop} (ho:ops[i]? = some o) (hns:Region.noSelect ops=true)
  (hs:Region.sinkB md ops n=true) (hc:Region.chainB md ops n=true) (hn:n<ops.size) (hin:i<n) (hL:∀ s a,L s a->∀ j∈Region.ready md ops s,n<=j) :
  ∀ (f:Nat) (s:Array Bool) (a:Act),HeadInv md ops n s ->
   (∀ j p,ops[j]? = some p->j≠i->s.getD j true=false->(∀ e∈p.after,Region.binds md e=true->e.on≠i)->o.apart ops p=true) ->
   i∈Region.ready md ops s->YieldsIn P ops C o v a->j5 P md ops C n L f (s.setIfInBounds i true) (a.put o.dst v)->j5 P md ops C n L (f+1) s a:=by
 have hsel:=Region.noSelect_spec hns;intro f
 induction f with
 | zero =>
  intro s a inv _ hr hy H;refine⟨List.ne_nil_of_mem hr,fun j hj=>?_⟩;have hjn:j<n:=Nat.lt_of_not_le fun h=>tail_waits hs hc hn inv _ i rfl hin (mem_ready.1 hr).1 j h hj
  by_cases e:j=i
  ·subst e;exact⟨hjn,hy.qOp ho H⟩
  ·exact absurd (hL _ _ H j (ready_mono hj e)) (by omega)
 | succ f ih =>
  intro s a inv hf hr hy H;refine⟨List.ne_nil_of_mem hr,fun j hj=>?_⟩;have hjn:j<n:=Nat.lt_of_not_le fun h=>tail_waits hs hc hn inv _ i rfl hin (mem_ready.1 hr).1 j h hj
  refine⟨hjn,?_⟩;by_cases e:j=i
  ·subst e;exact hy.qOp ho H
  ·obtain⟨hu,p,hp,hall⟩:=mem_ready.1 hj
   have hno:∀ x∈p.after,Region.binds md x=true->x.on≠i:=by
    intro x hx hb heq;have k:=hall x hx hb;rw [heq,getD_both (mem_ready.1 hr).1] at k
    cases k
   refine qOp_mono (fun a' k=>ih _ a' (inv.set hj hjn) (fun m q hq hm hu' hno'=>hf m q hq hm ?_ hno') (ready_mono hr (Ne.symm e)) k.1 ?_)
    (qOp_put hp (hf j p hp e hu hno) (fun cs b=>hsel i o cs b ho) (fun cs b=>hsel j p cs b hp) hy (H.2 j (ready_mono hj e)).2)
   ·by_cases hjm:j=m
    ·subst hjm;exact hu
    ·rwa [getD_set_ne true hjm] at hu'
   ·rw [Array.setIfInBounds_comm _ _ e];exact k.2
theorem j5.lex {n g:Nat} {K:Act->Prop} (hns:Region.noSelect ops=true) (hs:Region.sinkB md ops n=true) (hc:Region.chainB md ops n=true) (hn:n<ops.size) :
  ∀ (l:List Oper) (k:Nat) (s:Array Bool) (a:Act),(∀ j,j<l.length->l[j]? = ops[k+j]?)->k+l.length=n->HeadInv md ops n s->Region.lexHead md ops g l.length k s=true ->
  wpQuiet P ops C K l a->j5 P md ops C n (fun s' a'=>Region.seqB md ops g n s'=true/\K a') l.length s a
 | [],k,s,a,_,hk,_,hB,h=>by
  obtain rfl:k=n:=by simpa using hk
  exact⟨by simpa [Region.lexHead] using hB,h⟩
 | o::l,k,s,a,hl,hk,inv,hB,h=>by
  have h0:ops[k]? = some o:=by simpa using (hl 0 (by simp)).symm
  simp only [List.length_cons,Region.lexHead,Bool.and_eq_true] at hB;simp only [List.length_cons] at hk;have hr:k∈Region.ready md ops s:=by simpa using hB.1.1
  obtain⟨v,hy,hK⟩:=yieldsIn_of_qOp (C:=C) (K:=wpQuiet P ops C K l) h0 (by unfold qOp;simp only [h0];exact h);exact j5.first h0 hns hs hc hn (by omega) (fun s' a' hL=>seqB_ready hL.1) l.length s a inv (Region.free_spec h0 hB.1.2) hr hy
   (j5.lex hns hs hc hn l (k+1) _ _ (fun j hj=>by have:=hl (j+1) (by simp;omega);simpa [Nat.add_assoc,Nat.add_comm 1 j] using this) (by omega) (inv.set hr (by omega)) hB.2 hK)
theorem zi {id:Nat} {Q:Exit->Act->World->Prop} {a:Act} {w:World} {l:List Oper} (n:Nat) (C:World->Prop) (hm:P.follows .mixedOrders=true) (hB:Region.lexTailB .any l.toArray n=true) (hC:C w.drew)
  (h:wpQuiet P l.toArray C (fun a'=>∀ w',C w'->wpList P l.toArray Q (l.drop n) a' w') (l.take n) a):(Code.region id l.toArray true).wp P Q a w:=by
 simp only [Region.lexTailB,Bool.and_eq_true,decide_eq_true_eq] at hB;obtain⟨⟨⟨⟨hns,hn⟩,hs⟩,hc⟩,hlex⟩:=hB;have hn':n<l.length:=by simpa using hn
 have htl:(l.take n).length=n:=by simp;omega
 have inv0:HeadInv .any l.toArray n (Array.replicate l.toArray.size false) :=
  ⟨by simp,fun j oj _ hl=>(by rw [getD_replicate_false] at hl;cases hl),fun t _ ht=>getD_in (by simpa using ht) (getD_replicate_false _ _)⟩
 have H:=j5.lex (C:=C) (md:=.any) (g:=l.toArray.size-n) hns hs hc hn (l.take n) 0 _ a (fun j hj=>by rw [htl] at hj;simp [hj]) (by simpa using htl) inv0 (by rw [htl];exact hlex) h;refine wp_region_any hm ?_;have hdl:(l.drop n).length=l.toArray.size-n:=by simp
 have G:=j5.any (R:=Q) (g:=l.toArray.size-n) (fun s a' w' hw' hL=>by
  have:=wpAny_of_seq (md:=.any) (Q':=Q) (l.drop n) n s a' w' (fun j=>by simp [List.getElem?_drop]) (by rw [hdl];exact hL.1) (hL.2 w' hw');rwa [hdl] at this) _ _ _ _ hC H
 rw [htl,show n+(l.toArray.size-n)=l.toArray.size by omega] at G;exact G
end
theorem Nr {P:Program} {ops:Array Oper} {o:Oper} {a:Act} {w:World} {K:Act->World->Prop} {Q:Exit->Act->World->Prop} {E:Prop}
  (hg:o.guard=none) (f:FuncId) (x:Operand) (t:TypeId) (hop:o.op=Op.call { callee:=Callee.value (Operand.func f),args:=#[x],argTypes:=#[t] })
  (he:∀ args w,(callFunc f args).run P w=.ok (.enter f args) w) (v:Value) (hx:a.eval x=v) {R:Value->World->Prop} (hc:Calls P f #[v] w fun e w'=>∃ u,e=.returned u/\R u w') (hK:∀ u w',R u w'->K (a.put o.dst u) w') :
  if Region.wanted o (yielded ops a.tmps)=true then Oper.wp P o a w K Q else E:=by
 have hw:Region.wanted o (yielded ops a.tmps)=true:=by simp [Region.wanted,hg]
 rw [if_pos hw];obtain⟨dst,op,ty,pos,after,guard⟩:=o;simp only at hop hg hK;subst hop;unfold Oper.wp;rw [execOp_call_go,show (#[] ++ #[x].map a.eval ++ #[]:Array Value)=#[v] by simp [hx],he,Oper.upon_enter];refine hc.mono ?_;rintro e w' ⟨u,rfl,h⟩;exact hK u w' h
structure gy (W:World) where
 w:World
 h:Below W.heap.size W w
theorem gy.ne (W:World):Nonempty (gy W):=⟨⟨W,Below.refl _ _⟩⟩
theorem gy.cell {W:World} {p:Addr} {v:Value} (h:W.cell? p=some v) (hp:p.block<W.heap.size) (z:gy W):z.w.cell? p=some v:=(z.h.cell hp).trans h
structure dH where
 k:Int
 st:Int
 ld:ByteArray
 A:Option Addr
 n:Nat
 c:Nat
 fb:Nat
 nb:Nat
 fv:Value
def aW (D:dH) (pv:Value):Array Value:=#[.int .i64 D.k,.int .i64 D.st,.string D.ld,.slice D.A D.n D.c,.map (some D.fb),D.fv,.map (some D.nb),pv]
def nQ (l:List aR):List Value:=l.flatMap fun p=>[.int .i64 p.1,S p.2]
theorem Ki (l:List aR) (p:aR):nQ (l++[p])=nQ l++[.int .i64 p.1,S p.2]:=by simp [nQ]
structure jA (w:World) (X B:Nat) (D:dH) (pv:Value) (pl:List aR):Prop where
 x:w.heap[X]? = some (.cells (aW D pv) 71 (0,0))
 nm:kJ w D.nb pl
 own:w.ownsRow B 82 2 pv pl.length (nQ pl)
 ne:X≠D.nb
 pb:∀ g,pv.ownBlock=some g->g≠X/\g≠D.nb
theorem jA.chg {Y:Nat->Prop} {w w':World} {X B:Nat} {D:dH} {pv:Value} {pl:List aR} (h:jA w X B D pv pl) (hc:aB Y w w') (h1:¬ Y X) (h2:¬ Y D.nb) (h3:∀ g,pv.ownBlock=some g->¬ Y g):jA w' X B D pv pl :=
 ⟨(hc.block X (lt_of_block h.x) h1).trans h.x,h.nm.same (hc.block D.nb h.nm.lt h2),eP h.own hc h3,h.ne,h.pb⟩
theorem jA.below {w w':World} {X B:Nat} {D:dH} {pv:Value} {pl:List aR} (h:jA w X B D pv pl) (hb:Below w.heap.size w w'):jA w' X B D pv pl :=
 h.chg (aB.of_new (X:=fun _=>False) hb) (fun e=>e) (fun e=>e) (fun _ _ e=>e)
theorem jA.cell {w:World} {X B:Nat} {D:dH} {pv:Value} {pl:List aR} (h:jA w X B D pv pl) (o:Nat) (v:Value) (hv:(aW D pv)[o]? = some v):w.cell? ⟨X,o,none⟩=some v:=by
 rw [cell_of_row w X o _ _ _ h.x];exact hv
theorem tJ (w:World) (b:Nat) (o:Obj):aB (fun c=>c=b) w (aU w b o):=⟨rfl,rfl,rfl,by simp [aU],fun c _ hx=>wH w b o c hx⟩
theorem IY {a b n:Nat} (h:a<=b) (k:n<a):n<b:=Nat.lt_of_lt_of_le k h
theorem dO {w:World} {b:Nat} {A A':Array Value} {T:TypeId} (h:w.heap[b]? = some (.cells A T (0,0))) (k:Nat) (v:Value) (e:A.setIfInBounds k v=A'):(w.setCell ⟨b,k,none⟩ v).heap[b]? = some (.cells A' T (0,0)):=by
 subst e;unfold World.setCell;simp only [Array.getElem?_modify];rw [h];simp
theorem Kj:(Tryz.prog.info? 82).map (fun i=>(i.zero,i.size,i.bytes))=some (some (.agg #[.int .i64 0,.string ⟨#[]⟩]),2,24):=by kernel_rfl
theorem oZ {w:World} {base:Nat} {e:TypeId} {size:Nat} {v:Value} {n:Nat} {xs:List Value} (h:w.ownsRow base e size v n xs):∃ A c,v=.slice A n c:=by
 rcases h.2 with⟨rfl,rfl⟩|⟨g,cap,cur,rfl,hB,hg,hn,hm,hc,ht⟩
 ·exact⟨none,0,rfl⟩
 ·exact⟨_,_,rfl⟩
abbrev sQ (X B:Nat) (D:dH) (pv:Value) (pl:List aR) (p:aR) (w:World) (e:Ending) (w':World):Prop :=
 ∃ pv',e=.returned (.int .i64 (((dG pl p).1:Nat):Int))/\jA w' X B D pv' (dG pl p).2/\aB (fun b=>b=X\/b=D.nb\/pv.ownBlock=some b) w w'/\∀ g,pv'.ownBlock=some g->pv.ownBlock=some g\/w.heap.size<=g
theorem ED (X B:Nat) (D:dH) (pv:Value) (pl:List aR) (p:aR) (w:World) (h:jA w X B D pv pl) (hl:∀ p∈pl,kK p) (hp:kK p) (hn:pl.length<=100000) (hB:B<=w.heap.size) :
  Calls Tryz.prog 43 #[.pointer (some ⟨X,0,none⟩),iy p] w (sQ X B D pv pl p w):=by
 obtain⟨q,M⟩:=p;obtain⟨Ap,cp,rfl⟩:=oZ h.own;obtain⟨Z,hZ⟩:∃ Z:ByteArray,(⟨M.toArray⟩:ByteArray)=Z:=⟨_,rfl⟩;have hP:iy (q,M)=.agg #[.int .i64 q,.string Z]:=by unfold iy S;rw [hZ]
 rw [hP];have bA:=(Below.refl w.heap.size w).alloc (Nat.le_refl _) (.cells #[.int .i64 q,.string Z] 82);have hE:=h.below bA;have z0:=az w #[.int .i64 q,.string Z] 82 0 (.int .i64 q) rfl;have z1:=az w #[.int .i64 q,.string Z] 82 1 (.string Z) rfl;have hsz:(w.alloc (.cells #[.int .i64 q,.string Z] 82)).heap.size=w.heap.size+1:=by simp
 have hX:=lt_of_block h.x;have hNb:=h.nm.lt;go_enter Tryz.func43,Tryz.ntmps43;go_upto_region 1 with (fail)
 generalize w.alloc (.cells #[.int .i64 q,.string Z] 82)=w0 at *;have x6:=hE.cell 6 (.map (some D.nb)) rfl;have x7:=hE.cell 7 (.slice Ap pl.length cp) rfl;have lk:=fun k=>JM (w0.drewN k) D.nb pl (hE.chg (ve (fun _=>False) w0 k) (fun e=>e) (fun e=>e) (fun _ _ e=>e)).nm hl (q,M) hp
 rw [hP] at lk;have Hh:=Lib.hid h;have HE:=Lib.hid hE;have Hl:=Lib.hid hl;clear h hE hl
 cases hf:jr pl (q,M) with
 | some n =>
  have HV:Hid (dG pl (q,M)=(n,pl)):=by rw [Hid];unfold dG;rw [hf]
  rw [hf] at lk;simp only [Option.getD_some,Option.isSome_some] at lk
  go_quiet (fail)
  go_wp2_with fail;go_returns;refine⟨_,?_,?_,?_,fun g hg=>Or.inl hg⟩
  ·rw [HV.out];rfl
  ·rw [HV.out];exact HE.out.chg (ve (fun _=>False) _ _) (fun e=>e) (fun e=>e) (fun _ _ e=>e)
  ·exact (aB.of_new bA).trans (ve (fun _=>False) _ _) (fun _ _ e=>e.elim)
 | none =>
  have HV:Hid (dG pl (q,M)=(pl.length,pl++[(q,M)])):=by rw [Hid];unfold dG;rw [hf]
  rw [hf] at lk;simp only [Option.getD_none,Option.isSome_none] at lk
  go_quiet (fail)
  have e1:=HE.out.chg (ve (fun _=>False) w0 nq) (fun e=>e) (fun e=>e) (fun _ _ e=>e);have b1:Below w.heap.size w (w0.drewN nq):=⟨bA.os,bA.tape,bA.output,bA.size,bA.block⟩;have y0:(w0.drewN nq).cell? ⟨w.heap.size,0,none⟩=some (.int .i64 q):=z0;have y1:(w0.drewN nq).cell? ⟨w.heap.size,1,none⟩=some (.string Z):=z1;have hs1:(w0.drewN nq).heap.size=w.heap.size+1:=hsz;generalize w0.drewN nq=w1 at *;have x6':=e1.cell 6 (.map (some D.nb)) rfl;have x7':=e1.cell 7 (.slice Ap pl.length cp) rfl;have e2:jA w1.drew X B D (.slice Ap pl.length cp) pl:=e1.chg (zR (fun _=>False) _) (fun e=>e) (fun e=>e) (fun _ _ e=>e);obtain⟨o,ho,hN⟩:=JN w1.drew D.nb pl e2.nm Hl.out (q,M) hp hf;rw [hP] at ho;have HN:=Lib.hid hN;have HE1:=Lib.hid e1;clear e1 e2 hN lk;go_wp2_with fail
  go_still_tail 6,(by kernel_rfl)
  change wpList _ _ _ _ _ w1.drew;go_wp2_with fail;have hx2:(aU w1.drew D.nb o).heap[X]? = some (.cells (aW D (.slice Ap pl.length cp)) 71 (0,0)):=(wH w1.drew D.nb o X HE1.out.ne).trans HE1.out.x;have c2:aB (fun b=>b=D.nb) w1 (aU w1.drew D.nb o):=(zR _ w1).trans (tJ w1.drew D.nb o) (fun _ _ e=>e);have own2:=eP HE1.out.own c2 (fun g hg e=>(HE1.out.pb g hg).2 e);have hs2:(aU w1.drew D.nb o).heap.size=w.heap.size+1:=by rw [<-hs1];simp [aU]
  have v0:(aU w1.drew D.nb o).cell? ⟨w.heap.size,0,none⟩=some (.int .i64 q):=(lm (c2.block w.heap.size (by omega) (by omega))).trans y0;have v1:(aU w1.drew D.nb o).cell? ⟨w.heap.size,1,none⟩=some (.string Z):=(lm (c2.block w.heap.size (by omega) (by omega))).trans y1;have c12:aB (fun b=>b=D.nb) w (aU w1.drew D.nb o):=(aB.of_new b1).trans c2 (fun _ _ e=>e);clear ho y0 y1 x6' x7' z0 z1 hsz hs1 bA c2 b1 x6 x7 HE HE1;generalize aU w1.drew D.nb o=w2 at *;have x7:w2.cell? ⟨X,7,none⟩=some (.slice Ap pl.length cp):=by rw [cell_of_row w2 X 7 _ _ _ hx2];rfl
  have f7:w2.frozen? ⟨X,7,none⟩=false:=by unfold World.frozen?;rw [hx2];simp
  obtain⟨ic,ci,cz0,cz1,cz2⟩:=info_parts Kj;have bT:Below w2.heap.size w2 ((w2.alloc (.cells #[.int .i64 q,.string Z] 82)).drew):=((Below.refl _ _).alloc (Nat.le_refl _) _).drew;have hown5:=eP own2 (aB.of_new (X:=fun _=>False) bT) (fun _ _ e=>e);have hnews:∀ j u,(#[Value.int .i64 q,.string Z]).toList[j]? = some u->((w2.alloc (.cells #[.int .i64 q,.string Z] 82)).drew).cell? ((⟨w2.heap.size,0,none⟩:Addr).add j)=some u:=World.news_of_block (heap_alloc_new w2 (.cells #[.int .i64 q,.string Z] 82));have h63:pl.length+1<=maxLen:=by unfold maxLen;omega
  have hby:(pl.length+1) * 24<=140737488355328:=by omega
  have hbase:B<=((w2.alloc (.cells #[.int .i64 q,.string Z] 82)).drew).heap.size:=by have:=bT.size;omega
  have hX2:X<w2.heap.size:=by omega
  have HS2:=Lib.hid hs2;clear hs2;have KK:Hid (∀ w5,((w2.alloc (.cells #[.int .i64 q,.string Z] 82)).drew).grownBy w5 (Value.slice Ap pl.length cp).ownBlock->w5.cell? ⟨X,7,none⟩=some (.slice Ap pl.length cp)/\w5.frozen? ⟨X,7,none⟩=false/\w5.heap[X]? = some (.cells (aW D (.slice Ap pl.length cp)) 71 (0,0))):=by
   intro w5 hg;have h1:w5.heap[X]? = w2.heap[X]?:=(hg.block X (Nat.lt_of_lt_of_le hX2 bT.size) (fun e=>(Hh.out.pb X e.symm).1 rfl)).trans (bT.block X hX2);exact⟨(lm h1).trans x7,dU h1 _ f7,h1.trans hx2⟩
  have HOwn:=Lib.hid own2;clear own2
  go_region_law
   ((refine step_append_lies _ (by rfl) (.tmp 33) (.tmp 35) 69 (by rfl) B 82 ic _ 2 24 Tryz.underlying69 ci cz0 cz1 cz2 (by rfl) (by decide) _ pl.length (nQ pl) (by rfl) hown5 ⟨w2.heap.size,0,none⟩ 1 1 [.int .i64 q,.string Z] (by rfl) rfl hnews (by simp [Value.oneCell']) (by decide) h63 hby hbase (w2.heap.size+1) (by simp) ?_;intro g2 cap w5 hown6 hgr5 hat5 hlt5;obtain⟨q1,q2,q3⟩:=KK.out w5 hgr5))
  all_goals
   go_wp2_with fail;go_returns;have g1:aB (fun b=>(Value.slice Ap pl.length cp).ownBlock=some b) w2 w5:=(aB.of_new bT).trans (aB.of_grown hgr5) (fun _ _ e=>e);have g2':=dP w5 X 7 (.slice (some ⟨g2,0,none⟩) (pl.length+1) cap);have hgn:(Value.slice Ap pl.length cp).ownBlock=some g2\/w2.heap.size<=g2:=hat5.imp id (fun e=>by rw [e];omega);have hgX:g2≠X/\g2≠D.nb:=by
    rcases hgn with e|e
    ·exact Hh.out.pb g2 e
    ·have:=HS2.out;exact⟨by omega,by omega⟩
   refine⟨.slice (some ⟨g2,0,none⟩) (pl.length+1) cap,?_,⟨?_,?_,?_,Hh.out.ne,?_⟩,?_,?_⟩
   ·rw [HV.out];rfl
   ·exact dO q3 7 _ (by unfold aW;rfl)
   ·rw [HV.out]
    exact ((HN.out.same (g1.block D.nb (by have:=HS2.out;omega) (fun e=>(Hh.out.pb D.nb e).2 rfl))).same (g2'.block D.nb (IY (g1.size) (by have:=HS2.out;omega)) (fun e=>Hh.out.ne e.symm)))
   ·rw [HV.out]
    have:=eP hown6 g2' (fun g hg e=>by simp only [Value.ownBlock,Option.some.injEq] at hg;omega);rw [List.length_append,Ki,show S (q,M).2=.string Z from by unfold S;rw [hZ]];exact this
   ·intro g hg
    simp only [Value.ownBlock,Option.some.injEq] at hg;subst hg;exact hgX
   ·refine ((c12.mono (fun b _ e=>Or.inr (Or.inl e))).trans g1 (fun b _ e=>Or.inr (Or.inr e))).trans g2' (fun b _ e=>Or.inl e)
   ·intro g hg
    simp only [Value.ownBlock,Option.some.injEq] at hg;subst hg;rcases hgn with e|e
    ·exact Or.inl e
    ·exact Or.inr (by have:=HS2.out;omega)
theorem kN {w0 wx:World} {b:Nat} (hb:b<w0.heap.size) (h:Below w0.heap.size w0 wx):wx.heap[b]? = w0.heap[b]?:=h.block b hb
structure iN (b:Nat) (w w':World):Prop where
 low:∀ B,B<=b->B<=w.heap.size->Below B w w'
 same:∀ j,j<w.heap.size->j≠b->w'.heap[j]? = w.heap[j]?
abbrev pY (w:World) (b:Nat) (bb:Bool) (R:World->Prop) (e:Ending) (w':World):Prop:=e=.returned (.bool bb)/\iN b w w'/\(bb=true->R w')
theorem iN.of_below {b:Nat} {w w':World} (hb:b<w.heap.size) (h:Below w.heap.size w w'):iN b w w':=⟨fun B h1 h2=>h.mono h2,fun j hj _=>h.block j hj⟩
theorem iN.set {b:Nat} {w w':World} (hb:b<w.heap.size) (h:Below w.heap.size w w') (o:Obj):iN b w (aU w' b o) :=
 ⟨fun B h1 h2=>(h.mono h2).trans (yQ w' b o h1),fun j hj hne=>(wH w' b o j hne).trans (h.block j hj)⟩
theorem qZ (a b:Bool) (k:Nat) (W:World):(Instr.field 123 (.agg #[.bool a,.bool b,.func (.func k) #[] #[]]) 2).run Tryz.prog W=.ok (.func (.func k) #[] #[]) W:=by
 simp [Instr.field,go_sem,run_underlying Tryz.underlying123,asAgg]
end Go.Proofs.YtppnecgeboonbaaGreatDoor
