/- Walks of layer 22: a step of the memories, whatever the operation. -/
import Derived.Test.YtppnecgeboonbaaGreatDoorZ19
import Derived.Test.YtppnecgeboonbaaGreatDoorZ20
import Derived.Test.YtppnecgeboonbaaGreatDoorZ21
import Derived.Test.YtppnecgeboonbaaGreatDoorZ22
import Derived.Test.YtppnecgeboonbaaGreatDoorZ23
import Derived.Test.YtppnecgeboonbaaGreatDoorZ24
import Derived.Maps.OwnSet
import Derived.Laws.Concat
import Derived.OrdersIn
import Derived.OrdersHeld
import Derived.Deep.RegionHeld
import Derived.RangeFuncIn
import Derived.Sort.QuietIn
import Derived.Shelf.Abstract
import Derived.Shelf.RegionOpen
import Derived.OwnWalkIn
import Derived.TacticsInMore
import Derived.LoopNIn
import Derived.LoopIn
namespace Go.Proofs.YtppnecgeboonbaaGreatDoor
set_option maxRecDepth 100000
set_option linter.unusedVariables false
set_option maxHeartbeats 8000000
open Go.RowKit Go.Maps
def pX (op:UInt8) (g:Nat) (d:Bool):Prop:=∀ (t v:ByteArray) (b k0:Nat) (T0:ByteArray) (k':Nat) (T':ByteArray) (bb:Bool) (R:World->Prop) (w:World),b<w.heap.size ->
  (∀ W,W.heap[b]? = w.heap[b]?->(Instr.lookup 89 (.map (some b)) (.string t) false).run Tryz.prog W=.ok (au k0 T0) W) ->
  (∀ W,Calls Tryz.prog g #[au k0 T0,.string v] W fun e w'=>e=.returned (.tuple #[au k' T',.bool bb])/\w'=if d=true then (two W k0 T0 k' T').drew else two W k0 T0 k' T') ->
  (∀ W,W.heap[b]? = w.heap[b]?->∃ o,(Instr.mapUpdate 89 (.map (some b)) (.string t) (au k' T')).run Tryz.prog W=.ok () (aU W b o)/\R (aU W b o)) ->
  Calls Tryz.prog 50 #[.map (some b),.agg #[.int .u8 op.toNat,.string t,.string v]] w (pY w b bb R)
theorem Nc:pX 80 92 false:=fun t v b k0 T0 k' T' bb R w hb h1 h2 h3=>step1 80 rfl t v b k0 T0 k' T' bb R w hb h1 h2 h3
theorem Nf:pX 78 93 false:=fun t v b k0 T0 k' T' bb R w hb h1 h2 h3=>step2 78 rfl t v b k0 T0 k' T' bb R w hb h1 h2 h3
theorem Ng:pX 67 94 false:=fun t v b k0 T0 k' T' bb R w hb h1 h2 h3=>M7 67 rfl t v b k0 T0 k' T' bb R w hb h1 h2 h3
theorem Nh:pX 82 95 true:=fun t v b k0 T0 k' T' bb R w hb h1 h2 h3=>M8 82 rfl t v b k0 T0 k' T' bb R w hb h1 h2 h3
theorem Ni:pX 68 96 true:=fun t v b k0 T0 k' T' bb R w hb h1 h2 h3=>M9 68 rfl t v b k0 T0 k' T' bb R w hb h1 h2 h3
theorem Nj:pX 85 97 false:=fun t v b k0 T0 k' T' bb R w hb h1 h2 h3=>Na 85 rfl t v b k0 T0 k' T' bb R w hb h1 h2 h3
abbrev qM (op:UInt8) (t v:ByteArray) (L:dz) (b:Nat) (w:World) (e:Ending) (w':World):Prop :=
 e=.returned (.bool (fT L (aD op t v)).isSome)/\iN b w w'/\∀ L',fT L (aD op t v)=some L'->jC w' b L'
theorem rV {op:UInt8} {g:Nat} {d:Bool} (hS:pX op g d) (hD:pJ op g d) (t v:ByteArray) (ht:bz t.data.toList) (L:dz) (hL:∀ p∈L,bz p.1) (b:Nat) (w:World) (hM:jC w b L) :
  Calls Tryz.prog 50 #[.map (some b),.agg #[.int .u8 op.toNat,.string t,.string v]] w (qM op t v L b w):=by
 have hSt:S t.data.toList=.string t:=eX t;refine (hS t v b (aP L t.data.toList).kind ⟨(aP L t.data.toList).of.toArray⟩ (eu (aP L t.data.toList) op v.data.toList).1.kind ⟨(eu (aP L t.data.toList) op v.data.toList).1.of.toArray⟩ (eu (aP L t.data.toList) op v.data.toList).2 (fun W=>jC W b (iW L t.data.toList (eu (aP L t.data.toList) op v.data.toList).1)) w hM.lt ?_ (fun W=>hD _ v W) ?_).mono ?_
 ·intro W hW
  have:=BP W b L (hM.same hW) hL t.data.toList ht;rw [hSt] at this;exact this
 ·intro W hW
  have:=BQ W b L (hM.same hW) hL t.data.toList ht (eu (aP L t.data.toList) op v.data.toList).1;rw [hSt] at this;exact this
 ·rintro e w' ⟨rfl,hu,hR⟩
  have hs:fT L (aD op t v)=if (eu (aP L t.data.toList) op v.data.toList).2=true then some (iW L t.data.toList (eu (aP L t.data.toList) op v.data.toList).1) else none:=by
   unfold fT;show (jZ (aP L t.data.toList) op v.data.toList).map (iW L t.data.toList)=_;rw [Nk]
   split <;> rfl
  cases hb:(eu (aP L t.data.toList) op v.data.toList).2 with
  | true =>
   rw [hb,if_pos rfl] at hs;refine⟨by rw [hs];rfl,hu,fun L' hL'=>?_⟩;rw [hs] at hL'
   cases hL'
   exact hR hb
  | false =>
   rw [hb,if_neg (by decide)] at hs;refine⟨by rw [hs];rfl,hu,fun L' hL'=>?_⟩;rw [hs] at hL'
   cases hL'
theorem IJ {op:UInt8} (h:eD op=true):op=80\/op=78\/op=85\/op=82\/op=68\/op=67:=by
 unfold eD at h;exact of_decide_eq_true h
theorem Eh (op:UInt8) (hk:eD op=true) (t v:ByteArray) (ht:bz t.data.toList) (L:dz) (hL:∀ p∈L,bz p.1) (b:Nat) (w:World) (hM:jC w b L) :
  Calls Tryz.prog 50 #[.map (some b),.agg #[.int .u8 op.toNat,.string t,.string v]] w (qM op t v L b w):=by
 rcases IJ hk with rfl|rfl|rfl|rfl|rfl|rfl
 ·exact rV Nc GD t v ht L hL b w hM
 ·exact rV Nf GG t v ht L hL b w hM
 ·exact rV Nj GK t v ht L hL b w hM
 ·exact rV Nh GI t v ht L hL b w hM
 ·exact rV Ni GJ t v ht L hL b w hM
 ·exact rV Ng GH t v ht L hL b w hM
theorem Jc (fs:List Bs) (L:dz) (k:Nat) (hk:k<fs.length):dE (fs.take (k+1)) L=dE (fs.take k) L++memT (aP L fs[k]):=by
 unfold dE;rw [List.take_succ_eq_append_getElem hk,List.flatMap_append];simp
abbrev wT (m:eU):Prop:=m.kind<=2/\m.of.length<=40
theorem I8 {m:eU} (h:wT m):(memT m).length<=42:=by
 unfold memT lY;simp only [List.length_append,List.length_cons,List.length_nil];have:=h.2
 split
 ·simp;omega
 ·split <;> simp <;> omega
theorem FH {B:Nat} {a w:World} (h:Below B a w) (n:Nat):Below B a (w.drewN n):=⟨h.os,h.tape,h.output,h.size,h.block⟩
theorem I9 (k:Int) (G:ByteArray) (W:World):(Instr.field 141 (.agg #[.int .i64 k,.string G]) 0).run Tryz.prog W=.ok (.int .i64 k) W:=by
 simp [Instr.field,go_sem,run_underlying Tryz.underlying141,asAgg]
theorem Ja (k:Int) (G:ByteArray) (W:World):(Instr.field 141 (.agg #[.int .i64 k,.string G]) 1).run Tryz.prog W=.ok (.string G) W:=by
 simp [Instr.field,go_sem,run_underlying Tryz.underlying141,asAgg]
theorem MO (k:Nat) (hk:k=0\/k=1\/k=2) (W:World):(Instr.index 139 (.agg #[.string ⟨#[]⟩,.string ⟨#[61]⟩,.string ⟨#[94]⟩]) (.int .i64 (k:Int))).run Tryz.prog W=.ok (.string ⟨(lY k).toArray⟩) W:=by
 rcases hk with rfl|rfl|rfl <;> simp [Instr.index,run_underlying Tryz.underlying139,asIntOf,go_sem,lY]
theorem EI (X:Nat) (Af:Option Addr) (cf:Nat) (fs:List Bs) (m:Option Nat) (L:dz) (w:World) (hX:X<w.heap.size) (hx:w.cell? ⟨X,5,none⟩=some (.slice Af fs.length cf)) (hV:ay w Af (fs.map S)) (hn:fs.length<=1000000)
  (hlk:∀ W,Below w.heap.size w W->∀ f∈fs,(Instr.lookup 89 (.map m) (S f) false).run Tryz.prog W=.ok (jw (aP L f)) W) (hL:∀ f,wT (aP L f)) :
  Calls Tryz.prog 44 #[.pointer (some ⟨X,0,none⟩),.map m] w fun e w'=>e=.returned (.string ⟨(dE fs L).toArray⟩)/\Below w.heap.size w w':=by
 have HV:=Lib.hid hV;have b0:Below w.heap.size w (w.alloc (.cells #[.pointer none,.slice none 0 0] 134)):=(Below.refl _ _).alloc (Nat.le_refl _) _;have hx0:=(b0.cell (p:=⟨X,5,none⟩) hX).trans hx;have B0:=Rat3.fC.new w;have HL:=Lib.hid hL;have HLK:=Lib.hid hlk;clear hV hx hL hlk;go_enter Tryz.func44,Tryz.ntmps44;go_wp2_with fail
 go_loopw [13] (fun i wr=>∃ (q:Nat),i=.int .i64 q/\q<=fs.length/\Below w.heap.size w wr/\Rat3.fC w.heap.size w.heap.size (dE (fs.take q) L) wr/\(dE (fs.take q) L).length<=42 * q) (fun i _=>fs.length-(intOf i).toNat)
 case atStart=>exact⟨0,rfl,by omega,b0,by simpa [dE] using B0,by simp [dE]⟩
 case round =>
  clear B0 b0 hx0;obtain⟨q,rfl,hq,hB,hBl,hlen⟩:=hrel;by_cases hlt:q<fs.length
  ·obtain⟨b,o,rfl,hbl,hc0⟩:=row_of HV.out hlt
   have HE:=Lib.hid (Jc fs L q hlt);have hm:=HL.out fs[q];have lk0:=fun W hW=>HLK.out W hW fs[q] (List.getElem_mem hlt)
   have hmt:=I8 hm;generalize aP L fs[q]=mm at *;obtain⟨kk,F⟩:=mm;obtain⟨Z,hZ⟩:∃ Z:ByteArray,(⟨fs[q].toArray⟩:ByteArray)=Z:=⟨_,rfl⟩;obtain⟨G,hG⟩:∃ Z:ByteArray,(⟨F.toArray⟩:ByteArray)=Z:=⟨_,rfl⟩;have hGd:F=G.data.toList:=by rw [<-hG]
   unfold S jw at lk0;simp only [hZ,hG] at lk0;have k0:=(hB.cell (p:=⟨b,o+q,none⟩) hbl).trans (hc0.trans (by rw [S,hZ]));have i0:(0:Int)<=(q:Int):=by omega
   have il:(q:Int)<(fs.length:Int):=by omega
   have lk:=lk0 wr.drew hB.drew;have hkk:kk=0\/kk=1\/kk=2:=by have:=hm.1;simp only at this;omega
   have hGs:G.size<=40:=by rw [Lib.size_eq,<-hGd];exact hm.2
   have HB2:=Lib.hid hBl;clear hc0 hZ hG lk0 hm hBl;have hf0:=fun (k:Int) W=>I9 k G W
   have hf1:=fun (k:Int) W=>Ja k G W
   have hsg:=fun W=>MO kk hkk W
   obtain⟨K,hK⟩:∃ Z:ByteArray,(⟨(lY kk).toArray⟩:ByteArray)=Z:=⟨_,rfl⟩;have hKd:lY kk=K.data.toList:=by rw [<-hK]
   have hKs:K.size<=1:=by
    rw [Lib.size_eq,<-hKd];rcases hkk with rfl|rfl|rfl <;> decide
   rw [hK] at hsg;have HT:Hid (memT ⟨kk,F⟩=((K++G)++(⟨#[46]⟩:ByteArray)).data.toList):=by
    rw [Hid,memT,hKd,hGd];simp
   have hc1:=fun W=>run_string_add_sum (P:=Tryz.prog) W K G (by omega)
   have hc2:=fun W=>run_string_add_sum (P:=Tryz.prog) W (K++G) ⟨#[46]⟩ (by rw [ByteArray.size_append];show K.size+G.size+1<=_;omega)
   have hT3:((K++G)++(⟨#[46]⟩:ByteArray)).size<=42:=by rw [ByteArray.size_append,ByteArray.size_append];show K.size+G.size+1<=_;omega
   clear hK hKd hGd hkk;go_wp2_with fail
   go_still_tail 12,(by kernel_rfl)
   change wpList _ _ _ _ _ wr.drew;generalize (K++G)++(⟨#[46]⟩:ByteArray)=T at *;have hBd:Rat3.fC w.heap.size w.heap.size (dE (fs.take q) L) wr.drew:=HB2.out.below (Below.refl _ _).drew;have pw:=Rat3.uU w.heap.size w.heap.size _ T wr.drew hBd (by omega) hB.drew.size;clear hc1 hc2 hsg hf0 hf1 lk;go_wp2_with fail;refine pw.mono ?_;rintro e w2 ⟨rfl,hB3,b3⟩;go_wp2_with fail;go_roundw
   case rel=>exact⟨q+1,by go_num,by omega,hB.drew.trans b3,by rw [HE.out,HT.out];exact hB3,by rw [HE.out,HT.out,List.length_append,<-Lib.size_eq];omega⟩
   case measure=>simp [intOf];omega
  ·obtain rfl:q=fs.length:=by omega
   rw [List.take_length] at hBl;have hstr:=Rat3.zq _ _ _ _ hBl hB.size;go_wp2_with fail;refine hstr.mono ?_;rintro e w2 ⟨rfl,b2⟩;go_wp2_with fail;go_returns;exact⟨rfl,hB.trans b2⟩
theorem IU (f:Bs) (hf:bz f) (W:World):(Instr.lookup 89 (.map none) (S f) false).run Tryz.prog W=.ok (jw iF) W:=by
 obtain⟨kl,hkl⟩:=qJ.key f hf;have:=Maps.look_nil (w:=W) false qK Tryz.underlying89 (BM W) hkl;exact this
theorem OA (X:Nat) (Af:Option Addr) (cf:Nat) (fs:List Bs) (w:World) (hX:X<w.heap.size) (hx:w.cell? ⟨X,5,none⟩=some (.slice Af fs.length cf)) (hV:ay w Af (fs.map S)) (hn:fs.length<=1000000) (hf:∀ f∈fs,bz f) :
  Calls Tryz.prog 44 #[.pointer (some ⟨X,0,none⟩),.map none] w fun e w'=>e=.returned (.string ⟨(dE fs []).toArray⟩)/\Below w.heap.size w w' :=
 EI X Af cf fs none [] w hX hx hV hn (fun W _ f h=>IU f (hf f h) W) (fun f=>⟨by show (0:Nat)<=2;omega,by show (0:Nat)<=40;omega⟩)
theorem OB (X b:Nat) (Af:Option Addr) (cf:Nat) (fs:List Bs) (L:dz) (w:World) (hX:X<w.heap.size) (hx:w.cell? ⟨X,5,none⟩=some (.slice Af fs.length cf)) (hV:ay w Af (fs.map S)) (hn:fs.length<=1000000) (hf:∀ f∈fs,bz f)
  (hM:jC w b L) (hk:∀ p∈L,bz p.1) (hL:∀ f,wT (aP L f)) :
  Calls Tryz.prog 44 #[.pointer (some ⟨X,0,none⟩),.map (some b)] w fun e w'=>e=.returned (.string ⟨(dE fs L).toArray⟩)/\Below w.heap.size w w' :=
 EI X Af cf fs (some b) L w hX hx hV hn (fun W hW f h=>BP W b L (hM.below hW) hk f (hf f h)) hL
theorem NZ (Z:ByteArray) (h:0<Z.size):((((Z[0]'h).toNat:Nat):Int) == 61)=decide (Z[0]'h=61):=by
 by_cases e:Z[0]'h=61
 ·rw [e];rfl
 ·rw [decide_eq_false e,beq_eq_false_iff_ne]
  intro k;exact e (UInt8.toNat_inj.1 (by have:((61:UInt8).toNat:Int)=61:=rfl;omega))
theorem K9 (f:Bs) (r:List Bs) (p:Bs) (ps:List Bs) (L:dz):iJ (f::r) (p::ps) L=iJ r ps (if p=[] then L else iW L f (mY p)):=by
 show (if p=[] then iJ r ps L else iJ r ps (iW L f (mY p)))=_;by_cases h:p=[]
 ·rw [if_pos h,if_pos h]
 ·rw [if_neg h,if_neg h]
theorem La (fs ps:List Bs) (L:dz) (q:Nat) (hq:q<fs.length) (hp:q<ps.length):iJ (fs.drop q) (ps.drop q) L=iJ (fs.drop (q+1)) (ps.drop (q+1)) (if ps[q]=[] then L else iW L fs[q] (mY ps[q])):=by
 rw [List.drop_eq_getElem_cons hq,List.drop_eq_getElem_cons hp];exact K9 _ _ _ _ _
theorem AO (Z:ByteArray) (h:Z.size≠0):(Z.extract 1 Z.size).data.toList=Z.data.toList.tail:=by
 rw [eH,List.take_of_length_le (by rw [List.length_drop,<-Lib.size_eq];omega),List.drop_one]
theorem Ii (s:ByteArray) (w:World) (hT:fD w) (hs:s.size<=100000000):Calls Tryz.prog 36 #[.string s,.string ⟨#[46]⟩] w fun e w'=>∃ b,e=.returned (.slice (some ⟨b,0,none⟩) (dots s.data.toList).length (dots s.data.toList).length)/\(∀ j,(hj:j<(dots s.data.toList).length)->w'.cell? ⟨b,j,none⟩=some (S (dots s.data.toList)[j]))/\w.heap.size<=b/\b<w'.heap.size/\Below w.heap.size w w':=by
 obtain⟨m,hm⟩:=hT.r.mx;refine (Tryz.strings_Split s ⟨#[46]⟩ m w (by omega) hm (by decide)).mono ?_;have hd:=Eb s;have hl:(dots s.data.toList).length=Lib.countB s ⟨#[46]⟩+1:=by
  rw [<-hd,List.length_map];exact Lib.splitB_all _ (by decide) 0 _ s rfl
 rintro e w' ⟨rfl,rfl⟩;refine⟨w.heap.size,by rw [hl],fun j hj=>?_,Nat.le_refl _,by simp,(Below.refl _ _).alloc (Nat.le_refl _) _⟩;refine aJ w _ _ j _ ?_;rw [List.getElem?_toArray,List.getElem?_map];have hj':j<(Lib.splitB ⟨#[46]⟩ 0 (Lib.countB s ⟨#[46]⟩) s).length:=by
  have:=congrArg List.length hd;rw [List.length_map] at this;omega
 rw [List.getElem?_eq_getElem hj',Option.map_some];congr 1;have:(dots s.data.toList)[j]=(Lib.splitB ⟨#[46]⟩ 0 (Lib.countB s ⟨#[46]⟩) s)[j].data.toList:=by
  simp only [<-hd,List.getElem_map]
 rw [this,eX]
theorem GL (s:Bs):∀ p∈dots s,p.length<=s.length:=by
 have key:∀ (s cur:Bs),∀ p∈ja cur s,p.length<=cur.length+s.length:=by
  intro s
  induction s with
  | nil=>intro cur p hp;simp only [ja,List.mem_singleton] at hp;subst hp;simp
  | cons c r ih =>
   intro cur p hp;unfold ja at hp
   split at hp
   ·rcases List.mem_cons.1 hp with rfl|hp
    ·simp
    ·have:=ih [] p hp;simp at this ⊢;omega
   ·have:=ih _ p hp;simp at this ⊢;omega
 intro p hp;have:=key s [] p hp
 simpa using this
theorem lq {Y:Nat->Prop} {B:Nat} {w w1 w2:World} (h:Below B w w1) (hc:aB Y w1 w2) (hB:B<=w.heap.size) (hY:∀ b,b<B->¬ Y b):Below B w w2 :=
 h.trans ⟨hc.os,hc.tape,hc.output,hc.size,fun b hb=>hc.block b (Nat.lt_of_lt_of_le hb (Nat.le_trans hB h.size)) (hY b hb)⟩
theorem Lb (X:Nat) (Af:Option Addr) (cf:Nat) (fs:List Bs) (T:ByteArray) (w:World) (hT:fD w) (hX:X<w.heap.size) (hx:w.cell? ⟨X,5,none⟩=some (.slice Af fs.length cf)) (hV:ay w Af (fs.map S)) (hn:fs.length<=1000000) (hf:∀ f∈fs,bz f)
  (hs:T.size<=100000000) (hd:fs.length<=(dots T.data.toList).length) :
  Calls Tryz.prog 80 #[.pointer (some ⟨X,0,none⟩),.string T] w fun e w'=>∃ b,e=.returned (.map (some b))/\jC w' b (jg fs T.data.toList)/\(∀ p∈jg fs T.data.toList,bz p.1)/\w.heap.size<=b/\Below w.heap.size w w':=by
 have hmk:∀ W:World,(Instr.makeMap 89 none).run Tryz.prog W=.ok (.map (some W.heap.size)) (W.alloc (.map #[] 0)):=fun _=>rfl
 have hM0:jC (w.alloc (.map #[] 0)) w.heap.size []:=bN.new w;have b0:Below w.heap.size w (w.alloc (.map #[] 0)):=(Below.refl _ _).alloc (Nat.le_refl _) _;have hsz:w.heap.size<(w.alloc (.map #[] 0)).heap.size:=by simp
 have pS:=fun W hW=>Ii T W hW hs
 have hple:=GL T.data.toList;rw [<-Lib.size_eq] at hple;obtain⟨ps,hps⟩:∃ ps,ps=dots T.data.toList:=⟨_,rfl⟩;have HR:Hid (jg fs T.data.toList=iJ fs ps []):=by rw [Hid,jg,hps]
 rw [<-hps] at pS hple hd;obtain⟨R,hR⟩:∃ R,R=jg fs T.data.toList:=⟨_,rfl⟩;rw [<-hR] at HR ⊢;have HV:=Lib.hid hV;have HF:=Lib.hid hf;clear hps hR hV hf;go_enter Tryz.func80,Tryz.ntmps80;go_wp2_with fail;generalize w.alloc (.map #[] 0)=w0 at *;refine (pS _ (hT.below b0)).mono ?_;rintro e w1 ⟨b,rfl,hcell,hb0,hb1,bb⟩;have x5:=((b0.trans (bb.mono b0.size)).cell (p:=⟨X,5,none⟩) hX).trans hx;have hbw:=b0.trans (bb.mono b0.size);have hM1:=hM0.below bb;have hne:b≠w.heap.size:=by omega
 clear pS hmk hM0;go_wp2_with fail
 go_loopw [17] (fun i wr=>∃ (q:Nat) (L:dz),i=.int .i64 q/\q<=fs.length/\jC wr w.heap.size L/\(∀ p∈L,bz p.1)/\aB (fun b=>b=w.heap.size) w1 wr/\Hid (R=iJ (fs.drop q) (ps.drop q) L)) (fun i _=>fs.length-(intOf i).toNat)
 case atStart=>exact⟨0,[],rfl,by omega,hM1,(fun p hp=>absurd hp List.not_mem_nil),aB.refl _ _,HR.out⟩
 case round =>
  clear hM1;obtain⟨q,L,rfl,hq,hM,hok,hC,HJ⟩:=hrel;by_cases hlt:q<fs.length
  ·have hpq:q<ps.length:=by omega
   have HJ2:=Lib.hid (HJ.out.trans (La fs ps L q hlt hpq));obtain⟨bf,o,rfl,hbl,hc0⟩:=row_of HV.out hlt;have hfk:bz fs[q]:=HF.out _ (List.getElem_mem hlt);have hc1:=hcell q hpq;have hpl:=hple _ (List.getElem_mem hpq);obtain⟨F,hF⟩:∃ Z:ByteArray,(⟨fs[q].toArray⟩:ByteArray)=Z:=⟨_,rfl⟩;obtain⟨Z,hZ⟩:∃ Z:ByteArray,(⟨ps[q].toArray⟩:ByteArray)=Z:=⟨_,rfl⟩;have hZd:ps[q]=Z.data.toList:=by rw [<-hZ]
   have hput:=fun x=>BQ wr w.heap.size L hM hok fs[q] hfk x
   unfold S at hc0 hc1 hput;rw [hF] at hc0 hput;rw [hZ] at hc1;rw [hZd] at HJ2 hpl;rw [<-Lib.size_eq] at hpl;have k0:=(lm (hC.block bf (Nat.lt_of_lt_of_le hbl hbw.size) (by omega))).trans ((hbw.cell (p:=⟨bf,o+q,none⟩) hbl).trans hc0);have k1:=(lm (s:=none) (o:=q) (hC.block b hb1 hne)).trans hc1;have i0:(0:Int)<=(q:Int):=by omega
   have il:(q:Int)<(fs.length:Int):=by omega
   have il2:(q:Int)<(ps.length:Int):=by omega
   have HOK:Hid (∀ x,∀ p∈iW L fs[q] x,bz p.1):=fun x=>by
    rw [uK];exact rC hfk hok
   clear hc0 hc1 hF hZ hZd HJ hcell hple;by_cases hz:Z.size=0
   ·have HX:Hid (R=iJ (fs.drop (q+1)) (ps.drop (q+1)) L):=by rw [Hid,HJ2.out,if_pos (fF hz)]
    have HM2:=Lib.hid hM;have HC2:=Lib.hid hC;have hok2:=hok;have hem:=jF hz;clear hput HJ2 hM hC;go_wp2_with fail;go_roundw
    case rel=>exact⟨q+1,_,by go_num,by omega,HM2.out,hok2,HC2.out,HX.out⟩
    case measure=>simp [intOf];omega
   ·have hem:=jI hz
    have d1:(1:Int)<=(Z.size:Int):=by omega
    have d2:(0:Int)<(Z.size:Int):=by omega
    have hb61:=NZ Z (by omega);by_cases h61:Z[0]'(by omega)=61
    ·have hrm:mY Z.data.toList=⟨1,Z.data.toList.tail⟩:=by
      unfold mY;rw [<-tC Z (by omega),if_pos h61]
     rw [decide_eq_true h61] at hb61;have hb61':((((Z[0]'(by omega)).toNat:Nat):Int) == 61)=true:=hb61;obtain⟨o',ho,hM3⟩:=hput ⟨1,Z.data.toList.tail⟩;have hme:jw ⟨1,Z.data.toList.tail⟩=.agg #[.int .i64 1,.string (Z.extract 1 Z.size)]:=by
      unfold jw;rw [<-AO Z hz]
      rfl
     rw [hme] at ho;have HX:Hid (R=iJ (fs.drop (q+1)) (ps.drop (q+1)) (iW L fs[q] ⟨1,Z.data.toList.tail⟩)):=by rw [Hid,HJ2.out,if_neg (gB hz),hrm]
     have HM2:=Lib.hid hM3;have HC2:=Lib.hid (hC.trans (tJ wr w.heap.size o') (fun _ _ e=>e));have hok2:=HOK.out ⟨1,Z.data.toList.tail⟩;clear hput HJ2 hM hC hM3 hme hrm h61 hz hok HOK;go_wp2_with fail;go_roundw
     case rel=>exact⟨q+1,_,by go_num,by omega,HM2.out,hok2,HC2.out,HX.out⟩
     case measure=>simp [intOf];omega
    ·have hrm:mY Z.data.toList=⟨2,Z.data.toList.tail⟩:=by
      unfold mY;rw [<-tC Z (by omega),if_neg h61]
     rw [decide_eq_false h61] at hb61;have hb61':((((Z[0]'(by omega)).toNat:Nat):Int) == 61)=false:=hb61;obtain⟨o',ho,hM3⟩:=hput ⟨2,Z.data.toList.tail⟩;have hme:jw ⟨2,Z.data.toList.tail⟩=.agg #[.int .i64 2,.string (Z.extract 1 Z.size)]:=by
      unfold jw;rw [<-AO Z hz]
      rfl
     rw [hme] at ho;have HX:Hid (R=iJ (fs.drop (q+1)) (ps.drop (q+1)) (iW L fs[q] ⟨2,Z.data.toList.tail⟩)):=by rw [Hid,HJ2.out,if_neg (gB hz),hrm]
     have HM2:=Lib.hid hM3;have HC2:=Lib.hid (hC.trans (tJ wr w.heap.size o') (fun _ _ e=>e));have hok2:=HOK.out ⟨2,Z.data.toList.tail⟩;clear hput HJ2 hM hC hM3 hme hrm h61 hz hok HOK;go_wp2_with fail;go_roundw
     case rel=>exact⟨q+1,_,by go_num,by omega,HM2.out,hok2,HC2.out,HX.out⟩
     case measure=>simp [intOf];omega
  ·obtain rfl:q=fs.length:=by omega
   have HX:Hid (R=L):=by
    have:=HJ.out;rw [List.drop_length] at this;rw [Hid,this];unfold iJ;rfl
   go_wp2_with fail;go_returns;exact⟨_,rfl,by rw [HX.out];exact hM,by rw [HX.out];exact hok,Nat.le_refl _,lq hbw hC (Nat.le_refl _) (fun b hb=>by omega)⟩
def zu (w:World) (A:Option Addr) (l:List aH):Prop:=∀ k,(h:k<l.length)->∃ b o,A=some ⟨b,o,none⟩/\b<w.heap.size/\w.cell? ⟨b,o+k * 3,none⟩=some (.int .u8 l[k].op.toNat)/\w.cell? ⟨b,o+k * 3+1,none⟩=some (S l[k].feat)/\w.cell? ⟨b,o+k * 3+2,none⟩=some (S l[k].val)
theorem xQ {α:Type} {p:α->Bool} {l:List α} {k:Nat} (hk:k<l.length) (h:∀ x∈l.take k,p x=true) (hp:p l[k]=true):∀ x∈l.take (k+1),p x=true:=by
 intro x hx;rw [List.take_succ_eq_append_getElem hk] at hx;rcases List.mem_append.1 hx with hx|hx
 ·exact h x hx
 ·simp only [List.mem_singleton] at hx;subst hx;exact hp
theorem Ie {α:Type} {p:α->Bool} {l:List α} {k:Nat} (hk:k<l.length) (hp:p l[k]=false):l.all p=false:=by
 cases h:l.all p with
 | false=>rfl
 | true=>rw [List.all_eq_true] at h;rw [h _ (List.getElem_mem hk)] at hp;cases hp
theorem IL {l:List aH} (h:l.all aN=false):jH l=false:=by unfold jH;rw [h];rfl
theorem Bq {l:List aH} (h:∀ x∈l,aN x=true):jH l=(jL [] l).isSome:=by unfold jH;rw [List.all_eq_true.2 h];rfl
theorem yN:∀ (a b:List aH) (m:dz),jL m (a++b)=match jL m a with|some m'=>jL m' b|none=>none
 | [],b,m=>rfl
 | f::a,b,m=>by
  show (match fT m f with|some m'=>jL m' (a++b)|none=>none)=match (match fT m f with|some m'=>jL m' a|none=>none) with|some m'=>jL m' b|none=>none
  cases fT m f with
  | none=>rfl
  | some m'=>exact yN a b m'
theorem DR {l:List aH} {k:Nat} (hk:k<l.length) {L:dz} (h:jL [] (l.take k)=some L):jL [] (l.take (k+1))=fT L l[k]:=by
 rw [List.take_succ_eq_append_getElem hk,yN,h];show (match fT L l[k] with|some m'=>some m'|none=>none)=_
 cases fT L l[k] <;> rfl
theorem Mh {l:List aH} {k:Nat} (hk:k<l.length) {L:dz} (h:jL [] (l.take k)=some L) (hs:fT L l[k]=none):jL [] l=none:=by
 have:=DR hk h;rw [hs] at this;rw [<-List.take_append_drop (k+1) l,yN,this]
theorem Og {f:aH} (h:aN f=true):eD f.op=true/\bz f.feat:=by
 unfold aN at h;rw [Bool.and_eq_true,decide_eq_true_eq] at h;have:=qf f;exact⟨(qd h.1).1,by unfold bz;omega⟩
theorem Ns {L L':dz} {f:aH} (hf:bz f.feat) (hL:∀ p∈L,bz p.1) (h:fT L f=some L'):∀ p∈L',bz p.1:=by
 unfold fT at h
 cases hs:jZ (aP L f.feat) f.op f.val with
 | none=>rw [hs] at h;cases h
 | some x =>
  rw [hs] at h
  cases h
  rw [uK];exact rC hf hL
theorem Jv (f:aH):(fH f).2=aN f:=by
 unfold fH
 split
 ·rename_i h;exact h.symm
 ·rename_i h
  cases hf:aN f
  ·rfl
  ·exact absurd hf h
theorem Bp (A:Option Addr) (c:Nat) (l:List aH) (w:World) (hT:bK w) (hV:zu w A l) (hl:l.length<=1000000) :
  Calls Tryz.prog 21 #[.slice A l.length c] w fun e w'=>e=.returned (.bool (jH l))/\Below w.heap.size w w':=by
 have HV:=Lib.hid hV;clear hV;have hmk:∀ W,(Instr.makeMap 89 none).run Tryz.prog W=.ok (.map (some W.heap.size)) (W.alloc (.map #[] 0)):=fun _=>rfl
 go_enter Tryz.func21,Tryz.ntmps21;go_wp2_with fail
 go_loopw [12] (fun i wr=>∃ (k:Nat),i=.int .i64 k/\k<=l.length/\Below w.heap.size w wr/\Hid (∀ x∈l.take k,aN x=true)) (fun i _=>l.length-(intOf i).toNat)
 case atStart=>exact⟨0,rfl,by omega,Below.refl _ _,by simp [Hid]⟩
 case round =>
  obtain⟨k,rfl,hk,hB,HN⟩:=hrel;by_cases hlt:k<l.length
  ·obtain⟨b,o,rfl,hbl,hc0,hc1,hc2⟩:=HV.out k hlt
   have HF:Hid (aN l[k]=false->jH l=false):=fun h=>IL (Ie hlt h)
   have HT:Hid (aN l[k]=true->∀ x∈l.take (k+1),aN x=true):=xQ hlt HN.out;generalize l[k]=cc at *;obtain⟨F,hF⟩:∃ F:ByteArray,(⟨cc.feat.toArray⟩:ByteArray)=F:=⟨_,rfl⟩;obtain⟨V,hVv⟩:∃ V:ByteArray,(⟨cc.val.toArray⟩:ByteArray)=V:=⟨_,rfl⟩;have hFd:cc.feat=F.data.toList:=by rw [<-hF]
   have hVd:cc.val=V.data.toList:=by rw [<-hVv]
   have k0:wr.cell? ⟨b,o+k * 3,none⟩=some (.int .u8 cc.op.toNat):=(hB.cell (p:=⟨b,o+k * 3,none⟩) hbl).trans hc0;have k1:wr.cell? ⟨b,o+k * 3+1,none⟩=some (.string F):=(hB.cell (p:=⟨b,o+k * 3+1,none⟩) hbl).trans (by rw [hc1,S,hF]);have k2:wr.cell? ⟨b,o+k * 3+2,none⟩=some (.string V):=(hB.cell (p:=⟨b,o+k * 3+2,none⟩) hbl).trans (by rw [hc2,S,hVv]);have p1:=fun W hW=>vQ cc.op F V W hW
   have hcc:aD cc.op F V=cc:=by cases cc;simp only at hFd hVd;subst hFd;subst hVd;rfl
   rw [hcc] at p1;have hq:=Jv cc;obtain⟨N1,hN1⟩:∃ x:ByteArray,(⟨(fH cc).1.toArray⟩:ByteArray)=x:=⟨_,rfl⟩;rw [hN1,hq] at p1;obtain⟨op,hop⟩:∃ x,cc.op=x:=⟨_,rfl⟩;rw [hop] at p1 k0;have i0:(0:Int)<=(k:Int):=by omega
   have il:(k:Int)<(l.length:Int):=by omega
   have bC:Below wr.heap.size wr (wr.alloc (.cells #[.int .u8 op.toNat,.string F,.string V] 24)):=(Below.refl _ _).alloc (Nat.le_refl _) _;clear hF hVv hFd hVd hc0 hc1 hc2 hcc hq hN1 hop
   cases hq:aN cc with
   | false =>
    have HX:=Lib.hid (HF.out hq);rw [hq] at p1;clear hq;go_wp2_with fail;refine (p1 _ (hT.below (ae hB bC))).mono ?_;rintro e W3 ⟨rfl,b3⟩;go_wp2_with fail;go_returns;exact⟨by rw [HX.out];(try rfl),ae (ae hB bC) b3⟩
   | true =>
    have HX:=Lib.hid (HT.out hq);rw [hq] at p1;clear hq;go_wp2_with fail;refine (p1 _ (hT.below (ae hB bC))).mono ?_;rintro e W3 ⟨rfl,b3⟩;go_wp2_with fail;go_roundw
    case rel=>exact⟨k+1,by go_num,by omega,ae (ae hB bC) b3,HX.out⟩
    case measure=>simp [intOf];omega
  ·obtain rfl:k=l.length:=by omega
   have HA:Hid (∀ x∈l,aN x=true):=by have:=HN.out;rwa [List.take_length] at this
   rename World=>w1
   have hM0:jC (w1.alloc (.map #[] 0)) w1.heap.size []:=bN.new w1;have hB0:=hB.alloc (hB.size) (.map #[] 0);have hB1:=hB.size;clear HN hk hB;go_wp2_with fail
   go_loopw [27] (fun i w2=>∃ (m:Nat) (L:dz),i=.int .i64 m/\m<=l.length/\Below w.heap.size w w2/\Below w1.heap.size w1 w2/\w1.heap.size<w2.heap.size/\jC w2 w1.heap.size L/\(∀ p∈L,bz p.1)/\Hid (jL [] (l.take m)=some L)) (fun i _=>l.length-(intOf i).toNat)
   case atStart=>exact⟨0,[],rfl,by omega,hB0,(Below.refl _ _).alloc (Nat.le_refl _) _,by simp,hM0,(fun p hp=>absurd hp List.not_mem_nil),rfl⟩
   case round =>
    obtain⟨m,L,rfl,hm,hBw,hBr,hgt,hM,hLk,HR⟩:=hrel;by_cases hlt2:m<l.length
    ·obtain⟨b,o,rfl,hbl,hc0,hc1,hc2⟩:=HV.out m hlt2
     have hfv:=Og (HA.out _ (List.getElem_mem hlt2));have HF:Hid (fT L l[m]=none->jH l=false):=fun h=>by rw [Bq HA.out,Mh hlt2 HR.out h];rfl
     have HT:Hid (∀ L',fT L l[m]=some L'->jL [] (l.take (m+1))=some L'/\∀ p∈L',bz p.1):=fun L' h=>⟨(DR hlt2 HR.out).trans h,Ns hfv.2 hLk h⟩
     generalize l[m]=cc at *;obtain⟨F,hF⟩:∃ F:ByteArray,(⟨cc.feat.toArray⟩:ByteArray)=F:=⟨_,rfl⟩;obtain⟨V,hVv⟩:∃ V:ByteArray,(⟨cc.val.toArray⟩:ByteArray)=V:=⟨_,rfl⟩;have hFd:cc.feat=F.data.toList:=by rw [<-hF]
     have hVd:cc.val=V.data.toList:=by rw [<-hVv]
     have k0:wr.cell? ⟨b,o+m * 3,none⟩=some (.int .u8 cc.op.toNat):=(hBw.cell (p:=⟨b,o+m * 3,none⟩) hbl).trans hc0;have k1:wr.cell? ⟨b,o+m * 3+1,none⟩=some (.string F):=(hBw.cell (p:=⟨b,o+m * 3+1,none⟩) hbl).trans (by rw [hc1,S,hF]);have k2:wr.cell? ⟨b,o+m * 3+2,none⟩=some (.string V):=(hBw.cell (p:=⟨b,o+m * 3+2,none⟩) hbl).trans (by rw [hc2,S,hVv]);have hcc:aD cc.op F V=cc:=by cases cc;simp only at hFd hVd;subst hFd;subst hVd;rfl
     have bA:Below w1.heap.size w1 (wr.alloc (.cells #[.int .u8 cc.op.toNat,.string F,.string V] 24)):=hBr.alloc hBr.size _;have bW:Below w.heap.size w (wr.alloc (.cells #[.int .u8 cc.op.toNat,.string F,.string V] 24)):=hBw.alloc hBw.size _;have hM2:jC (wr.alloc (.cells #[.int .u8 cc.op.toNat,.string F,.string V] 24)) w1.heap.size L:=hM.below ((Below.refl _ _).alloc (Nat.le_refl _) _);have p2:=Eh cc.op hfv.1 F V (by rw [<-hFd];exact hfv.2) L hLk w1.heap.size _ hM2;unfold qM at p2;rw [hcc] at p2;have hsz:w1.heap.size<(wr.alloc (.cells #[.int .u8 cc.op.toNat,.string F,.string V] 24)).heap.size:=by simp;omega
     obtain⟨op,hop⟩:∃ x,cc.op=x:=⟨_,rfl⟩;rw [hop] at p2 k0 bA bW hsz;have i0:(0:Int)<=(m:Int):=by omega
     have il:(m:Int)<(l.length:Int):=by omega
     clear hF hVv hFd hVd hc0 hc1 hc2 hcc hop hfv hM2 hM hM0 hLk HR
     cases hs:fT L cc with
     | none =>
      have HX:=Lib.hid (HF.out hs);simp only [hs] at p2;clear hs;go_wp2_with fail;refine p2.mono ?_;rintro e W3 ⟨rfl,hu,-⟩;go_wp2_with fail;go_returns;exact⟨by rw [HX.out];(try rfl),bW.trans (hu.low _ hB1 bW.size)⟩
     | some L' =>
      have HX:=Lib.hid (HT.out L' hs);simp only [hs] at p2;clear hs;go_wp2_with fail;refine p2.mono ?_;rintro e W3 ⟨rfl,hu,hm3⟩;have hlow:=hu.low w1.heap.size (Nat.le_refl _) bA.size;go_wp2_with fail;go_roundw
      case rel=>exact⟨m+1,L',by go_num,by omega,bW.trans (hu.low _ hB1 bW.size),bA.trans hlow,Nat.lt_of_lt_of_le hsz (hu.low 0 (Nat.zero_le _) (Nat.zero_le _)).size,hm3 L' rfl,HX.out.2,HX.out.1⟩
      case measure=>simp [intOf];omega
    ·obtain rfl:m=l.length:=by omega
     have HX:Hid (jH l=true):=by
      have:=HR.out;rw [List.take_length] at this;rw [Hid,Bq HA.out,this];rfl
     go_wp2_with fail;go_returns;exact⟨by rw [HX.out];(try rfl),hBw⟩
open Rat3
def fU (t fs:List Bs) (mem:Bs) (arcs:List aO):List (aO × Bs):=arcs.filterMap fun a=>(jy t fs mem a).map (fun x=>(a,x))
def jc (t:List Bs):List (aO × Bs)->List aR->List aO->List aO × List aR
 | [],l,out=>(out,l)
 | (a,x)::r,l,out=>jc t r (dG l (a.to,x)).2 (out++[⟨fE t a.inn,fE t a.out,a.w,(dG l (a.to,x)).1⟩])
theorem vC (t fs:List Bs) (mem:Bs):∀ (arcs:List aO) (l:List aR) (out:List aO),iO t fs mem arcs l out=jc t (fU t fs mem arcs) l out
 | [],l,out=>rfl
 | a::r,l,out=>by
  unfold iO fU;rw [List.filterMap_cons]
  cases h:jy t fs mem a with
  | none=>simp only [Option.map_none];exact vC t fs mem r l out
  | some x=>simp only [Option.map_some];unfold jc;exact vC t fs mem r _ _
theorem AC (t:List Bs) (a:aO) (x:Bs):∀ (pre:List (aO × Bs)) (l:List aR) (out:List aO),jc t (pre++[(a,x)]) l out=((jc t pre l out).1++[⟨fE t a.inn,fE t a.out,a.w,(dG (jc t pre l out).2 (a.to,x)).1⟩],(dG (jc t pre l out).2 (a.to,x)).2)
 | [],l,out=>rfl
 | (b,y)::r,l,out=>by
  rw [List.cons_append];unfold jc;exact AC t a x r _ _
theorem xM (t:List Bs):∀ (pre:List (aO × Bs)) (l:List aR) (out:List aO),(jc t pre l out).1.length=out.length+pre.length/\(jc t pre l out).2.length<=l.length+pre.length/\l.length<=(jc t pre l out).2.length/\∀ x∈(jc t pre l out).2,x∈l\/∃ q∈pre,x=(q.1.to,q.2)
 | [],l,out=>⟨rfl,Nat.le_refl _,Nat.le_refl _,fun x hx=>Or.inl hx⟩
 | (b,y)::r,l,out=>by
  unfold jc;obtain⟨h1,h2,h3,h4⟩:=xM t r (dG l (b.to,y)).2 (out++[⟨fE t b.inn,fE t b.out,b.w,(dG l (b.to,y)).1⟩]);obtain⟨v1,v2,v3,v4⟩:=Om l (b.to,y);have v5:(dG l (b.to,y)).2.length<=l.length+1:=by
   unfold dG
   cases jr l (b.to,y) <;> simp
  refine⟨by rw [h1];simp;omega,by simp only [List.length_cons];omega,by omega,fun x hx=>?_⟩;rcases h4 x hx with h|⟨q,hq,rfl⟩
  ·rcases v3 x h with h|rfl
   ·exact Or.inl h
   ·exact Or.inr ⟨(b,y),List.mem_cons_self,rfl⟩
  ·exact Or.inr ⟨q,List.mem_cons_of_mem _ hq,rfl⟩
theorem Nu (t fs:List Bs) (mem:Bs) (arcs:List aO) (j:Nat) (hj:j<arcs.length):fU t fs mem (arcs.take (j+1))=match jy t fs mem arcs[j] with|some x=>fU t fs mem (arcs.take j)++[(arcs[j],x)]|none=>fU t fs mem (arcs.take j):=by
 unfold fU;rw [List.take_succ_eq_append_getElem hj,List.filterMap_append]
 cases h:jy t fs mem arcs[j] with
 | none=>simp [h]
 | some x=>simp [h]
theorem Nt (t fs:List Bs) (mem:Bs) (arcs:List aO) (j:Nat) (hj:j<arcs.length) (x:Bs) (h:jy t fs mem arcs[j]=some x):fU t fs mem arcs=fU t fs mem (arcs.take j)++(arcs[j],x)::fU t fs mem (arcs.drop (j+1)):=by
 unfold fU
 conv=>lhs;rw [<-List.take_append_drop j arcs,List.drop_eq_getElem_cons hj]
 rw [List.filterMap_append,List.filterMap_cons,h]
 rfl
theorem Ei (t fs:List Bs) (mem:Bs) (arcs:List aO):(fU t fs mem arcs).length<=arcs.length:=List.length_filterMap_le _ _
theorem Ej {t fs:List Bs} {mem:Bs} {arcs:List aO} {q:aO × Bs} (h:q∈fU t fs mem arcs):q.1∈arcs/\jy t fs mem q.1=some q.2:=by
 unfold fU at h;obtain⟨a,ha,h⟩:=List.mem_filterMap.1 h
 cases hn:jy t fs mem a with
 | none=>rw [hn] at h;cases h
 | some x=>rw [hn] at h;simp only [Option.map_some,Option.some.injEq] at h;subst h;exact⟨ha,hn⟩
def jk (fs:List Bs) (mem:Bs):Prop:=∃ m:dz,mem=dE fs m/\(∀ f,oU (aP m f))/\(∀ f,f ∉ fs->aP m f=iF)/\∀ f,(aP m f).kind<=2/\(aP m f).of.length<=40
theorem vI {f:aH} (h:aN f=true):f.feat.length<=40/\f.val.length<=40:=by
 unfold aN at h;rw [Bool.and_eq_true,decide_eq_true_eq] at h;have h2:=h.2;unfold bU gZ at h2
 split at h2
 ·rename_i e
  simp at h2;rw [e];exact⟨by omega,by simp⟩
 ·simp at h2
  exact⟨by omega,by omega⟩
theorem Bc (fs:List Bs):jk fs (dE fs []):=⟨[],rfl,fun _=>I7,fun _ _=>rfl,fun _=>⟨Nat.zero_le _,Nat.zero_le _⟩⟩
theorem Np {m x:eU} {f:aH} (hm:m.kind<=2/\m.of.length<=40) (hf:aN f=true) (h:jZ m f.op f.val=some x):x.kind<=2/\x.of.length<=40:=by
 have hv:=(vI hf).2;have h0:iF.kind<=2/\iF.of.length<=40:=⟨Nat.zero_le _,Nat.zero_le _⟩;unfold jZ at h
 split at h
 ·cases h;exact⟨by show (1:Nat)<=2;omega,hv⟩
 ·split at h
  ·cases h;exact⟨by show (2:Nat)<=2;omega,hv⟩
  ·split at h
   ·cases h;exact h0
   ·split at h
    ·split at h <;> split at h <;> cases h <;> exact hm
    ·split at h
     ·split at h <;> split at h <;> cases h <;> exact hm
     ·split at h
      ·cases h;exact⟨by show (1:Nat)<=2;omega,hv⟩
      ·cases h
theorem Bd {t fs:List Bs} {mem:Bs} {a:aO} {f:aH} {L:dz} (hn:fs.Nodup) (h:jk fs mem) (ha:eO t a=some f) (hf:f.feat∈fs) (hs:fT (jg fs mem) f=some L):(∀ g,(aP L g).kind<=2/\(aP L g).of.length<=40)/\jk fs (dE fs L):=by
 obtain⟨m,rfl,ft,ou,sm⟩:=h;have hv:=vT ha;have hg:∀ g,aP (jg fs (dE fs m)) g=aP m g:=fun g=>Jb hn ft ou g
 obtain⟨x,hx,hget⟩:∃ x,jZ (aP m f.feat) f.op f.val=some x/\∀ g,aP L g=if f.feat=g then x else aP m g:=by
  unfold fT at hs;rw [hg] at hs
  cases hx:jZ (aP m f.feat) f.op f.val with
  | none=>rw [hx] at hs;cases hs
  | some x =>
   rw [hx] at hs;simp only [Option.map_some,Option.some.injEq] at hs;exact⟨x,rfl,fun g=>by rw [<-hs,vK,hg]⟩
 have hsm:∀ g,(aP L g).kind<=2/\(aP L g).of.length<=40:=fun g=>by
  rw [hget]
  split
  ·exact Np (sm _) hv hx
  ·exact sm g
 refine⟨hsm,L,rfl,fun g=>?_,fun g hout=>?_,hsm⟩
 ·rw [hget]
  split
  ·exact Nl (ft _) hv hx
  ·exact ft g
 ·rw [hget,if_neg (fun e:f.feat=g=>hout (e ▸ hf))]
  exact ou g hout
theorem xR {fs:List Bs} {mem:Bs} (h:jk fs mem):mem.length<=42 * fs.length/\fs.length<=(dots mem).length:=by
 obtain⟨m,rfl,ft,ou,sm⟩:=h;constructor
 ·have key:∀ l:List Bs,(dE l m).length<=42 * l.length:=by
   intro l
   induction l with
   | nil=>simp [dE]
   | cons f r ih =>
    unfold dE at ih ⊢;rw [List.flatMap_cons,List.length_append,List.length_cons];have:(memT (aP m f)).length<=42:=by
     unfold memT lY;simp only [List.length_append,List.length_cons,List.length_nil];have:=(sm f).2
     split
     ·simp;omega
     ·split <;> simp <;> omega
    omega
  exact key fs
 ·rw [BO,xJ _ (fun p hp=>by
   obtain⟨f,_,rfl⟩:=List.mem_map.1 hp;exact CV (ft f))]
  simp
theorem Be {t fs:List Bs} {mem:Bs} {a:aO} {x:Bs} (hn:fs.Nodup) (h:jk fs mem) (hf:∀ f,eO t a=some f->f.feat∈fs) (hx:jy t fs mem a=some x):jk fs x:=by
 unfold jy at hx
 cases ha:eO t a with
 | none=>rw [ha] at hx;cases hx;exact h
 | some f =>
  rw [ha] at hx;simp only at hx
  cases hs:fT (jg fs mem) f with
  | none=>rw [hs] at hx;cases hx
  | some L =>
   rw [hs] at hx
   cases hx
   exact (Bd hn h ha (hf f ha) hs).2
open Go Go.RowKit
section
variable {P:Program} {n l:Nat} {ops:Array Oper} {Q:Exit->Act->World->Prop} {md:Region.Mode}
theorem JY {o:Oper} {a:Act} {w:World} {K:Act->World->Prop} (hd:∀ c,o.op ≠ .defer c) (h:Oper.wp P o a w K Q):Oper.wpIn (Fence.wide.inRound l) n P o a w K Q:=by
 refine⟨fun _ _=>trivial,?_⟩;unfold Oper.wp at h;rw [show (Fence.wide.inRound l).round=some l from rfl,Oper.semAt_some l _ _ hd];generalize (execOp a.eval o).run P w=r at *
 cases r with
 | ok nx w' =>
  cases nx
  case value v=>exact h
  case skip=>exact h
  case defer d=>exact h
  case enter f args=>exact And.intro (fun e=>by cases e) (CallsIn.inRound l ((callsIn_wide (n:=n-1)).2 h))
  case row row args =>
   refine And.intro (fun e=>by cases e) ?_;intro c cs _;obtain⟨v,w1,r,s⟩:=h c cs;exact⟨v,w1,r,stepsIn_wide.2 s⟩
  all_goals exact h.elim
 | halt x w' =>
  cases x <;> first|exact h|exact h.elim
theorem uY (hd:∀ (i:Nat) (o:Oper) c,ops[i]? = some o->o.op ≠ .defer c) (hQ:¬ LetsOut Q):∀ (fuel:Nat) (listed:Array Bool) (a:Act) (w:World),wpAny P md ops Q fuel listed a w->wpAnyIn (Fence.wide.inRound l) n P md ops Q fuel listed a w
 | 0,_,_,_,h=>h
 | fuel+1,listed,a,w,h=>by
  refine⟨h.1,fun i hi=>?_⟩;have h2:=h.2 i hi;unfold wpOp at h2;unfold wpOpIn
  cases ho:ops[i]? with
  | none =>
   rw [ho] at h2;exact uY hd hQ fuel _ _ _ h2
  | some o =>
   rw [ho] at h2;simp only at h2 ⊢
   split at h2
   ·rename_i hw
    rw [if_pos hw];rcases h2 with h2|h2
    ·have:=JY (l:=l) (n:=n) (fun c=>hd i o c ho) h2
     exact Oper.wpIn_mono (fun a' w' h3=>uY hd hQ fuel _ _ _ h3) this
    ·exact absurd h2.2 hQ
   ·rename_i hw
    rw [if_neg hw];exact⟨fun _ _=>trivial,uY hd hQ fuel _ _ _ h2⟩
end
variable {P:Program}
def zw {α:Type} (P:Program) (gf:Nat) (lb:Array Value) (encs:α->Array Value) (xs:List α) (Hc:World->Prop):Prop :=
 ∀ (l:Nat) (J:List α->World->Prop),(∀ pre W,J pre W->Hc W)->(∀ pre W W',J pre W->Below W.heap.size W W'->J pre W') ->
  (∀ pre x post W,xs=pre++x::post->J pre W->YieldAt Fence.wide 4 P l (encs x) W fun e W'=>e=.returned (.bool true)/\J (pre++[x]) W') ->
  ∀ W,J [] W->CallsIn Fence.wide 5 P gf (#[.func (.yield l) #[] #[]]++lb) W fun e W'=>e=.returned (.tuple #[])/\J xs W'
def FO {α:Type} (l D:Nat) (I:List α->World->Prop) (pre:List α) (x:α) (W:World):Exit->Act->World->Prop
 | .normal,_,W'=>W'.heap[l]? = W.heap[l]?/\W'.heap[D]? = W.heap[D]?/\I (pre++[x]) W'
 | _,_,_=>False
def qi (ds:List Nat):List Deferred:=ds.map fun D=>{ target:=.collected D,args:=#[] }
def kQ:List Nat->World->World
 | [],w=>w
 | D::r,w=>kQ r (w.putObj D (.deferred none))
theorem zU:∀ (ds:List Nat) (w:World) (b:Nat),b ∉ ds->(kQ ds w).heap[b]? = w.heap[b]?
 | [],w,b,_=>rfl
 | D::r,w,b,h=>by
  simp only [List.mem_cons,not_or] at h;rw [kQ,zU r _ b h.2,World.putObj_heap_other h.1]
theorem zT {B:Nat}:∀ (ds:List Nat) (w:World),(∀ D∈ds,B<=D)->Below B w (kQ ds w)
 | [],w,_=>Below.refl _ _
 | D::r,w,h=>by
  have h1:=zS w D (.deferred none);have:Below B w (w.putObj D (.deferred none)):=⟨h1.os,h1.tape,h1.output,h1.size,fun b hb=>World.putObj_heap_other (by have:=h D List.mem_cons_self;omega)⟩;exact this.trans (zT r _ fun D' hD=>h D' (List.mem_cons_of_mem _ hD))
theorem Bo {F:Fence} {n:Nat} {fn:Func} {tmps:Array Value} {R:Ending->World->Prop}:∀ (ds:List Nat) (w:World),(∀ D∈ds,w.heap[D]? = some (.deferred (some [])))->ds.Nodup ->
  LeavesIn F n P fn tmps R [] .returning (kQ ds w)->LeavesInM F n P fn tmps R (qi ds) .returning w
 | [],w,_,_,h=>h
 | D::r,w,h,hn,hl=>by
  rw [List.nodup_cons] at hn;refine⟨by simp,Or.inl ⟨D,_,rfl,run_takeDeferred (h D List.mem_cons_self),?_⟩⟩;refine Bo r _ (fun D' hD=>?_) hn.2 hl;rw [World.putObj_heap_other (by rintro rfl;exact hn.1 hD)];exact h D' (List.mem_cons_of_mem _ hD)
open Go.RowKit Go.Maps Go.Shelf
attribute [local go_sem] Oper.semAt_some
structure uR (t fs:List Bs) (arcs:List aO) (bs os n c:Nat) (A':Option Addr) (c' fb:Nat) (Af:Option Addr) (cf X bx bp q:Nat) (M:ByteArray) (W:World):Prop where
 tab:fD W
 bx:W.cell? ⟨bx,0,none⟩=some (.pointer (some ⟨X,0,none⟩))
 p0:W.cell? ⟨bp,0,none⟩=some (.int .i64 (q:Int))
 p1:W.cell? ⟨bp,1,none⟩=some (.string M)
 x3:W.cell? ⟨X,3,none⟩=some (.slice (some ⟨bs,os,none⟩) n c)
 x4:W.cell? ⟨X,4,none⟩=some (.map (some fb))
 x5:W.cell? ⟨X,5,none⟩=some (.slice Af fs.length cf)
 sa:W.cell? ⟨bs,os+q * 2+1,none⟩=some (.slice A' arcs.length c')
 ar:oG W A' arcs
 fl:ji W fb (dW t 0 [])
 ft:ay W Af (fs.map S)
theorem uR.below {t fs:List Bs} {arcs:List aO} {bs os n c:Nat} {A':Option Addr} {c' fb:Nat} {Af:Option Addr} {cf X bx bp q:Nat} {M:ByteArray} {W W':World} (h:uR t fs arcs bs os n c A' c' fb Af cf X bx bp q M W) (hb:Below W.heap.size W W'):uR t fs arcs bs os n c A' c' fb Af cf X bx bp q M W' where
 tab:=h.tab.below hb
 bx:=(hb.cell (p:=⟨bx,0,none⟩) (ax h.bx)).trans h.bx
 p0:=(hb.cell (p:=⟨bp,0,none⟩) (ax h.p0)).trans h.p0
 p1:=(hb.cell (p:=⟨bp,1,none⟩) (ax h.p1)).trans h.p1
 x3:=(hb.cell (p:=⟨X,3,none⟩) (ax h.x3)).trans h.x3
 x4:=(hb.cell (p:=⟨X,4,none⟩) (ax h.x4)).trans h.x4
 x5:=(hb.cell (p:=⟨X,5,none⟩) (ax h.x5)).trans h.x5
 sa:=(hb.cell (p:=⟨bs,_,none⟩) (ax h.sa)).trans h.sa
 ar:=h.ar.below hb
 fl:=h.fl.below hb
 ft:=h.ft.below hb
theorem eZ {s:Int}:gm s=true ↔ 0<=s/\s<=500:=by unfold gm;rw [Bool.and_eq_true,decide_eq_true_eq,decide_eq_true_eq]
theorem Nv (X:Nat) (q:Int) (Z:ByteArray) (w:World):Calls Tryz.prog 45 #[.pointer (some ⟨X,0,none⟩),.agg #[.int .i64 q,.string Z]] w fun e w'=>e=.returned (.func (.func 79) #[] #[.pointer (some ⟨w.heap.size,0,none⟩),.pointer (some ⟨w.heap.size+1,0,none⟩)])/\w'=(w.alloc (.cells #[.pointer (some ⟨X,0,none⟩)] 64)).alloc (.cells #[.int .i64 q,.string Z] 82):=by
 have hmf:∀ (fn:Fn) (first cap:Array Value) (w:World),(Instr.makeFunc fn first cap).run Tryz.prog w=.ok (.func fn first cap) w:=fun _ _ _ _=>rfl
 go_enter Tryz.func45,Tryz.ntmps45;go_wp2_with fail;go_returns;exact⟨rfl,rfl⟩
theorem Cq (w:World) (x y:Int) (W:ByteArray) (tg:Int) (oo:UInt8) (F V:ByteArray):Below w.heap.size w (vS w x y W tg oo F V):=(((Below.refl _ _).alloc (Nat.le_refl _) _).alloc (by simp) _).alloc (by simp;omega) _
abbrev wP (x:aO × Bs):Array Value:=#[qR x.1,iy (x.1.to,x.2)]
theorem Nw (t fs:List Bs) (arcs:List aO) (bs os n c:Nat) (A':Option Addr) (c' fb:Nat) (Af:Option Addr) (cf X bx bp q:Nat) (M:ByteArray) (hq:q<n) (ht:t.length<=500) (hfn:fs.Nodup) (hfo:∀ f∈fs,bz f) (hfl:fs.length<=30000)
  (hg:jk fs M.data.toList) (harc:∀ a∈arcs,gm a.inn=true/\gm a.out=true) (hfe:∀ a∈arcs,∀ f,eO t a=some f->f.feat∈fs) (hlen:arcs.length<=30000) :
  zw Tryz.prog 79 #[.pointer (some ⟨bx,0,none⟩),.pointer (some ⟨bp,0,none⟩)] wP (fU t fs M.data.toList arcs) (uR t fs arcs bs os n c A' c' fb Af cf X bx bp q M):=by
 intro l J hJc hJb hY W h0;have HC0:=hJc _ _ h0;have k0:=HC0.bx;have k1:=HC0.p0;have k3:=HC0.x3;have k4:=HC0.sa;have i0:(0:Int)<=(q:Int):=by omega
 have il:(q:Int)<(n:Int):=by omega
 have HJC:=Lib.hid hJc;have HJB:=Lib.hid hJb;have HY:=Lib.hid hY;have HARC:=Lib.hid harc;have HFE:=Lib.hid hfe;have HFO:=Lib.hid hfo;have HG:=Lib.hid hg;clear hJc hJb hY harc hfe hfo hg;refine callsIn_of_wp Tryz.func79 rfl trivial ?_ rfl;simp only [Tryz.ntmps79,List.size_toArray,List.length_cons,List.length_nil,Nat.reduceAdd,Nat.reduceSub,Array.replicate_succ,Array.replicate_zero,List.push_toArray,List.append_toArray,List.nil_append,List.cons_append]
 gi_wp2
 gi_quiet (fail)
 have hJ0:=HJB.out _ _ _ h0 (FH (Below.refl _ W) nq);generalize W.drewN nq=W0 at *;clear HC0 k0 k1 k3 k4 i0 il h0
 gi_wp2
 gi_loopw [21] (fun v wr=>∃ (j:Nat),v=.int .i64 j/\j<=arcs.length/\J (fU t fs M.data.toList (arcs.take j)) wr)
  (fun v _=>arcs.length-(intOf v).toNat)
 case atStart=>exact⟨0,rfl,by omega,by simpa [fU] using hJ0⟩
 case round =>
  clear hJ0;obtain⟨j,rfl,hj,hJ⟩:=hrel;by_cases hlt:j<arcs.length
  ·have HC:=HJC.out _ _ hJ
   obtain⟨b,o,rfl,hbl,a0,a1,a2,a3⟩:=HC.ar j hlt;have HT1:=Lib.hid (Nu t fs M.data.toList arcs j hlt);have HS1:=Lib.hid (Nt t fs M.data.toList arcs j hlt);have hmem:=List.getElem_mem hlt;have hsy:=HARC.out _ hmem;have hfe:=HFE.out _ hmem;generalize arcs[j]=ar at *;obtain⟨x,y,wt,tg⟩:=ar;obtain⟨Wt,hWt⟩:∃ Z:ByteArray,(⟨wt.toArray⟩:ByteArray)=Z:=⟨_,rfl⟩;have hWd:wt=Wt.data.toList:=by rw [<-hWt]
   subst hWd;unfold S at a2;rw [hWt] at a2;simp only at a0 a1 a2 a3 hsy hfe;clear hWt;have i0:(0:Int)<=(j:Int):=by omega
   have il:(j:Int)<(arcs.length:Int):=by omega
   have p1:=HC.p1;have p1':=((Below.refl _ wr).alloc (Nat.le_refl _) (.cells #[.int .i64 x,.int .i64 y,.string Wt,.int .i64 tg] 77)).cell (p:=⟨bp,1,none⟩) (ax p1) |>.trans p1
   have HHC:=Lib.hid HC;clear HC
   gi_wp2
   have b2:Below wr.heap.size wr ((wr.alloc (.cells #[.int .i64 x,.int .i64 y,.string Wt,.int .i64 tg] 77)).alloc (.cells #[.int .i64 tg,.string M] 82)):=((Below.refl _ _).alloc (Nat.le_refl _) _).alloc (by simp) _;have bq:=(Below.refl (wr.alloc (.cells #[.int .i64 x,.int .i64 y,.string Wt,.int .i64 tg] 77)).heap.size (wr.alloc (.cells #[.int .i64 x,.int .i64 y,.string Wt,.int .i64 tg] 77))).alloc (Nat.le_refl _) (.cells #[.int .i64 tg,.string M] 82);have hsa:(wr.alloc (.cells #[.int .i64 x,.int .i64 y,.string Wt,.int .i64 tg] 77)).heap.size=wr.heap.size+1:=by simp
   have c0:=(bq.cell (p:=⟨wr.heap.size,0,none⟩) (by simp)).trans (az wr #[.int .i64 x,.int .i64 y,.string Wt,.int .i64 tg] 77 0 (.int .i64 x) rfl);have c1:=(bq.cell (p:=⟨wr.heap.size,1,none⟩) (by simp)).trans (az wr #[.int .i64 x,.int .i64 y,.string Wt,.int .i64 tg] 77 1 (.int .i64 y) rfl);have c2:=(bq.cell (p:=⟨wr.heap.size,2,none⟩) (by simp)).trans (az wr #[.int .i64 x,.int .i64 y,.string Wt,.int .i64 tg] 77 2 (.string Wt) rfl);have c3:=(bq.cell (p:=⟨wr.heap.size,3,none⟩) (by simp)).trans (az wr #[.int .i64 x,.int .i64 y,.string Wt,.int .i64 tg] 77 3 (.int .i64 tg) rfl);have d0:=az (wr.alloc (.cells #[.int .i64 x,.int .i64 y,.string Wt,.int .i64 tg] 77)) #[.int .i64 tg,.string M] 82 0 (.int .i64 tg) rfl;have d1:=az (wr.alloc (.cells #[.int .i64 x,.int .i64 y,.string Wt,.int .i64 tg] 77)) #[.int .i64 tg,.string M] 82 1 (.string M) rfl;have f1:=nO (wr.alloc (.cells #[.int .i64 x,.int .i64 y,.string Wt,.int .i64 tg] 77)) #[.int .i64 tg,.string M] 82 1;rw [hsa] at d0 d1 f1;have hs2:((wr.alloc (.cells #[.int .i64 x,.int .i64 y,.string Wt,.int .i64 tg] 77)).alloc (.cells #[.int .i64 tg,.string M] 82)).heap.size=wr.heap.size+2:=by simp
   clear bq hsa p1';generalize (wr.alloc (.cells #[.int .i64 x,.int .i64 y,.string Wt,.int .i64 tg] 77)).alloc (.cells #[.int .i64 tg,.string M] 82)=w2 at *;have HC2:=HHC.out.below b2;have mk:∀ W',Below w2.heap.size w2 W'->(W'.cell? ⟨bx,0,none⟩=some (.pointer (some ⟨X,0,none⟩))/\W'.cell? ⟨X,4,none⟩=some (.map (some fb))/\W'.cell? ⟨wr.heap.size,0,none⟩=some (.int .i64 x)/\W'.cell? ⟨wr.heap.size,1,none⟩=some (.int .i64 y)/\W'.cell? ⟨wr.heap.size,2,none⟩=some (.string Wt)/\W'.cell? ⟨wr.heap.size,3,none⟩=some (.int .i64 tg)/\Below w2.heap.size w2 W'):=fun W' hb =>
    ⟨(hb.cell (p:=⟨bx,0,none⟩) (ax HC2.bx)).trans HC2.bx,(hb.cell (p:=⟨X,4,none⟩) (ax HC2.x4)).trans HC2.x4,(hb.cell (p:=⟨wr.heap.size,0,none⟩) (ax c0)).trans c0,(hb.cell (p:=⟨wr.heap.size,1,none⟩) (ax c1)).trans c1,(hb.cell (p:=⟨wr.heap.size,2,none⟩) (ax c2)).trans c2,(hb.cell (p:=⟨wr.heap.size,3,none⟩) (ax c3)).trans c3,hb⟩
   obtain⟨r,hr⟩:∃ r,r=eO t ⟨x,y,Wt.data.toList,tg⟩:=⟨_,rfl⟩;obtain⟨F,V,hfc,hFd,hVd⟩:=lI (r.getD dX);obtain⟨oo,hoo⟩:∃ oo,(r.getD dX).op=oo:=⟨_,rfl⟩;obtain⟨is,his⟩:∃ q,r.isSome=q:=⟨_,rfl⟩;have hsx:=eZ.1 hsy.1;have hsy2:=eZ.1 hsy.2;have pO:∀ W',(W'.cell? ⟨bx,0,none⟩=some (.pointer (some ⟨X,0,none⟩))/\W'.cell? ⟨X,4,none⟩=some (.map (some fb))/\W'.cell? ⟨wr.heap.size,0,none⟩=some (.int .i64 x)/\W'.cell? ⟨wr.heap.size,1,none⟩=some (.int .i64 y)/\W'.cell? ⟨wr.heap.size,2,none⟩=some (.string Wt)/\W'.cell? ⟨wr.heap.size,3,none⟩=some (.int .i64 tg)/\Below w2.heap.size w2 W')->Calls Tryz.prog 42 #[.map (some fb),.agg #[.int .i64 x,.int .i64 y,.string Wt,.int .i64 tg]] W' fun e w'=>e=.returned (.tuple #[.agg #[.int .u8 oo.toNat,.string F,.string V],.bool is])/\w'=vS W' x y Wt tg oo F V:=fun W' hS=>by
    have:=Cr fb t W' (HC2.fl.below hS.2.2.2.2.2.2) ht x y Wt tg hsx.1 hsx.2 hsy2.1 hsy2.2;rw [<-hr,hfc,hoo,his,hFd,hVd,Array.toArray_toList,Array.toArray_toList] at this;exact this
   have kD:∀ W',(W'.cell? ⟨bx,0,none⟩=some (.pointer (some ⟨X,0,none⟩))/\W'.cell? ⟨X,4,none⟩=some (.map (some fb))/\W'.cell? ⟨wr.heap.size,0,none⟩=some (.int .i64 x)/\W'.cell? ⟨wr.heap.size,1,none⟩=some (.int .i64 y)/\W'.cell? ⟨wr.heap.size,2,none⟩=some (.string Wt)/\W'.cell? ⟨wr.heap.size,3,none⟩=some (.int .i64 tg)/\Below w2.heap.size w2 W')->_:=fun W' h=>mk _ h.2.2.2.2.2.2.drew
   have kA:=fun W' (o:Obj) (h:(W'.cell? ⟨bx,0,none⟩=some (.pointer (some ⟨X,0,none⟩))/\W'.cell? ⟨X,4,none⟩=some (.map (some fb))/\W'.cell? ⟨wr.heap.size,0,none⟩=some (.int .i64 x)/\W'.cell? ⟨wr.heap.size,1,none⟩=some (.int .i64 y)/\W'.cell? ⟨wr.heap.size,2,none⟩=some (.string Wt)/\W'.cell? ⟨wr.heap.size,3,none⟩=some (.int .i64 tg)/\Below w2.heap.size w2 W'))=>mk _ (h.2.2.2.2.2.2.alloc h.2.2.2.2.2.2.size o)
   have kC:=fun W' (a:Addr) u (ha:w2.heap.size<=a.block) (h:(W'.cell? ⟨bx,0,none⟩=some (.pointer (some ⟨X,0,none⟩))/\W'.cell? ⟨X,4,none⟩=some (.map (some fb))/\W'.cell? ⟨wr.heap.size,0,none⟩=some (.int .i64 x)/\W'.cell? ⟨wr.heap.size,1,none⟩=some (.int .i64 y)/\W'.cell? ⟨wr.heap.size,2,none⟩=some (.string Wt)/\W'.cell? ⟨wr.heap.size,3,none⟩=some (.int .i64 tg)/\Below w2.heap.size w2 W'))=>mk _ (h.2.2.2.2.2.2.setCell ha u)
   have kO:=fun W' (h:(W'.cell? ⟨bx,0,none⟩=some (.pointer (some ⟨X,0,none⟩))/\W'.cell? ⟨X,4,none⟩=some (.map (some fb))/\W'.cell? ⟨wr.heap.size,0,none⟩=some (.int .i64 x)/\W'.cell? ⟨wr.heap.size,1,none⟩=some (.int .i64 y)/\W'.cell? ⟨wr.heap.size,2,none⟩=some (.string Wt)/\W'.cell? ⟨wr.heap.size,3,none⟩=some (.int .i64 tg)/\Below w2.heap.size w2 W'))=>mk _ (h.2.2.2.2.2.2.trans ((Cq W' x y Wt tg oo F V).mono h.2.2.2.2.2.2.size))
   have z0:=mk _ (Below.refl w2.heap.size w2);have HS2:=Lib.hid hs2;have HOO:=Lib.hid hoo;clear hfc hoo hs2 a0 a1 a2 a3;refine wpIn_wide.2 ?_;go_cut [7,8] (fun p v wx=>∃ z,p=.pointer (some ⟨z,0,none⟩)/\v=.bool is/\wx.cell? ⟨z,0,none⟩=some (.int .u8 oo.toNat)/\wx.cell? ⟨z,1,none⟩=some (.string F)/\wx.cell? ⟨z,2,none⟩=some (.string V)/\Below w2.heap.size w2 wx)
   case first =>
    go_region_held3 (fun W'=>(W'.cell? ⟨bx,0,none⟩=some (.pointer (some ⟨X,0,none⟩))/\W'.cell? ⟨X,4,none⟩=some (.map (some fb))/\W'.cell? ⟨wr.heap.size,0,none⟩=some (.int .i64 x)/\W'.cell? ⟨wr.heap.size,1,none⟩=some (.int .i64 y)/\W'.cell? ⟨wr.heap.size,2,none⟩=some (.string Wt)/\W'.cell? ⟨wr.heap.size,3,none⟩=some (.int .i64 tg)/\Below w2.heap.size w2 W'))
     (repeat' (first|assumption|exact z0|refine kD _ ?_|refine kA _ _ ?_|refine kC _ _ _ (by simp) ?_|(refine kO _ ?_)))
     (first|(go_at_call 42;refine (pO _ (by assumption)).mono ?_;rintro e w3 ⟨rfl,rfl⟩))
    all_goals
     go_wp2_with fail
     go_meet
     refine⟨_,rfl,rfl,by simp [go_sem],by simp [go_sem],by simp [go_sem],?_⟩
     first|assumption|(repeat' (first|exact Below.refl _ _|refine Below.drew ?_|refine Below.alloc ?_ (by simp <;> omega) _))
   case rest =>
    obtain⟨z,rfl,rfl,g0,g1,g2,b4⟩:=hcut;clear mk pO kD kA kC kO z0;have b24:Below wr.heap.size wr wc:=ae b2 b4;have hJ4:=HJB.out _ _ _ hJ b24;have w0:=(b4.cell (p:=⟨wr.heap.size,0,none⟩) (ax c0)).trans c0;have w1:=(b4.cell (p:=⟨wr.heap.size,1,none⟩) (ax c1)).trans c1;have w2':=(b4.cell (p:=⟨wr.heap.size,2,none⟩) (ax c2)).trans c2;have w3:=(b4.cell (p:=⟨wr.heap.size,3,none⟩) (ax c3)).trans c3;have v0:=(b4.cell (p:=⟨wr.heap.size+1,0,none⟩) (ax d0)).trans d0;have v1:=(b4.cell (p:=⟨wr.heap.size+1,1,none⟩) (ax d1)).trans d1;have HC4:=HC2.below b4;have f4:=(b4.frozen (p:=⟨wr.heap.size+1,1,none⟩) (ax d1)).trans f1;clear c0 c1 c2 c3 d0 d1 f1 b2 b4 HC2
    cases is with
    | false =>
     have hN:jy t fs M.data.toList ⟨x,y,Wt.data.toList,tg⟩=some M.data.toList:=by
      unfold jy;rw [<-hr]
      cases r with
      | none=>rfl
      | some f=>cases his
     have HX:Hid (fU t fs M.data.toList (arcs.take (j+1))=fU t fs M.data.toList (arcs.take j)++[(⟨x,y,Wt.data.toList,tg⟩,M.data.toList)]):=by
      have:=HT1.out;rw [hN] at this;exact this
     obtain⟨fn,tmps,assign,body,hy,hR⟩:=HY.out _ _ _ wc (HS1.out M.data.toList hN) hJ4;simp only [wP,qR,iy,eX] at hy;clear hN HT1 HS1 hr his hfe hsy hsx hsy2 g0 g1 g2 f4 HC4
     gi_wp2
     refine hR.mono ?_;rintro e W3 ⟨rfl,hJ3⟩
     gi_wp2
     go_roundw
     case rel=>exact⟨j+1,by go_num,by omega,by rw [HX.out];exact hJ3⟩
     case measure=>simp [intOf] <;> omega
    | true =>
     obtain⟨f,rfl⟩:=Option.isSome_iff_exists.1 his;simp only [Option.getD_some] at hFd hVd HOO;obtain⟨op,fe,va⟩:=f;simp only at hFd hVd HOO;subst hFd hVd;obtain rfl:=HOO.out;have hval:=vT hr.symm;have hkn:eD op=true:=by
      unfold aN at hval;rw [Bool.and_eq_true] at hval;exact (qd hval.1).1
     have hfo:bz F.data.toList:=(vI hval).1;have hin:=hfe _ hr.symm;have hNx:jy t fs M.data.toList ⟨x,y,Wt.data.toList,tg⟩=(fT (jg fs M.data.toList) (aD op F V)).map (dE fs):=by
      unfold jy;rw [<-hr]
     have hgl:=xR HG.out;have pR:=Lb X Af cf fs M wc HC4.tab (ax HC4.x5) HC4.x5 HC4.ft (by omega) HFO.out (by rw [Lib.size_eq];omega) hgl.2;have kbx:=HC4.bx;have kp1:=HC4.p1;have HC4':=Lib.hid HC4;have pSt:∀ W5 b5,jC W5 b5 (jg fs M.data.toList)->(∀ p∈jg fs M.data.toList,bz p.1)->Calls Tryz.prog 50 #[.map (some b5),.agg #[.int .u8 op.toNat,.string F,.string V]] W5 (qM op F V (jg fs M.data.toList) b5 W5):=fun W5 b5 hM hk=>Eh op hkn F V hfo _ hk b5 W5 hM
     obtain⟨z',hz'⟩:∃ z',z'=wr.heap.size+1:=⟨_,rfl⟩;clear hsx hsy2 hsy HC4 hkn hgl his
     cases hst:fT (jg fs M.data.toList) (aD op F V) with
     | none =>
      have HX:Hid (fU t fs M.data.toList (arcs.take (j+1))=fU t fs M.data.toList (arcs.take j)):=by
       have:=HT1.out;rw [hNx,hst] at this;exact this
      gi_wp2_with (first
       | (refine⟨trivial,?_⟩;gi_at_call 80;refine (callsIn_wide.2 pR).mono ?_;rintro e W5 ⟨b5,rfl,hM5,hk5,hb5,b45⟩;have e0:=(b45.cell (p:=⟨z,0,none⟩) (ax g0)).trans g0;have e1:=(b45.cell (p:=⟨z,1,none⟩) (ax g1)).trans g1;have e2:=(b45.cell (p:=⟨z,2,none⟩) (ax g2)).trans g2;have pS:=pSt W5 b5 hM5 hk5;unfold qM at pS;rw [hst] at pS;simp only [Option.isSome_none] at pS))
      refine⟨trivial,(callsIn_wide.2 pS).mono ?_⟩;rintro e W6 ⟨rfl,hU,-⟩
      gi_wp2
      go_roundw
      case rel=>exact⟨j+1,by go_num,by omega,by rw [HX.out];exact HJB.out _ _ _ hJ4 (b45.trans (hU.low _ hb5 b45.size))⟩
      case measure=>simp [intOf] <;> omega
     | some L' =>
      have hN:jy t fs M.data.toList ⟨x,y,Wt.data.toList,tg⟩=some (dE fs L'):=by rw [hNx,hst];rfl
      have HX:Hid (fU t fs M.data.toList (arcs.take (j+1))=fU t fs M.data.toList (arcs.take j)++[(⟨x,y,Wt.data.toList,tg⟩,dE fs L')]):=by
       have:=HT1.out;rw [hN] at this;exact this
      have hgn:=Bd hfn HG.out hr.symm hin hst
      gi_wp2_with (first
       | (refine⟨trivial,?_⟩;gi_at_call 80;refine (callsIn_wide.2 pR).mono ?_;rintro e W5 ⟨b5,rfl,hM5,hk5,hb5,b45⟩;have e0:=(b45.cell (p:=⟨z,0,none⟩) (ax g0)).trans g0;have e1:=(b45.cell (p:=⟨z,1,none⟩) (ax g1)).trans g1;have e2:=(b45.cell (p:=⟨z,2,none⟩) (ax g2)).trans g2;have pS:=pSt W5 b5 hM5 hk5;unfold qM at pS;rw [hst] at pS;simp only [Option.isSome_some] at pS))
      refine⟨trivial,(callsIn_wide.2 pS).mono ?_⟩;rintro e W6 ⟨rfl,hU,hM6⟩;have hM6':=hM6 _ rfl;have b46:Below wc.heap.size wc W6:=b45.trans (hU.low _ hb5 b45.size);have hk6:∀ p∈L',bz p.1:=by
       unfold fT at hst
       cases hx:jZ (aP (jg fs M.data.toList) (aD op F V).feat) (aD op F V).op (aD op F V).val with
       | none=>rw [hx] at hst;cases hst
       | some x0 =>
        rw [hx] at hst;simp only [Option.map_some,Option.some.injEq] at hst;rw [<-hst,uK];exact rC hfo hk5
      have HC6:=HC4'.out.below b46;have pW:=OB X b5 Af cf fs L' W6 (ax HC6.x5) HC6.x5 HC6.ft (by omega) HFO.out hM6' hk6 hgn.1;have kbx6:=HC6.bx;have u0:=(b46.cell (p:=⟨wr.heap.size,0,none⟩) (ax w0)).trans w0;have u1:=(b46.cell (p:=⟨wr.heap.size,1,none⟩) (ax w1)).trans w1;have u2:=(b46.cell (p:=⟨wr.heap.size,2,none⟩) (ax w2')).trans w2';have u3:=(b46.cell (p:=⟨wr.heap.size,3,none⟩) (ax w3)).trans w3;have t0:=(b46.cell (p:=⟨wr.heap.size+1,0,none⟩) (ax v0)).trans v0;have t1:=(b46.cell (p:=⟨wr.heap.size+1,1,none⟩) (ax v1)).trans v1;have ft1:=(b46.frozen (p:=⟨wr.heap.size+1,1,none⟩) (ax v1)).trans f4;clear pSt pS hM6 hM5 hk5 hst e0 e1 e2 g0 g1 g2 w0 w1 w2' w3 v0 v1 f4 kbx kp1 hval hin hNx
      gi_wp2
      refine⟨trivial,(callsIn_wide.2 pW).mono ?_⟩;rintro e W7 ⟨rfl,b7⟩;have b17:Below wr.heap.size wr W7:=ae (b24.trans (b46.mono b24.size)) b7;have hJ8:=HJB.out _ _ (W7.setCell ⟨wr.heap.size+1,1,none⟩ (.string ⟨(dE fs L').toArray⟩)) hJ (b17.setCell (p:=⟨wr.heap.size+1,1,none⟩) (by show wr.heap.size<=wr.heap.size+1;omega) _);have y0:=(b7.cell (p:=⟨wr.heap.size,0,none⟩) (ax u0)).trans u0;have y1:=(b7.cell (p:=⟨wr.heap.size,1,none⟩) (ax u1)).trans u1;have y2:=(b7.cell (p:=⟨wr.heap.size,2,none⟩) (ax u2)).trans u2;have y3:=(b7.cell (p:=⟨wr.heap.size,3,none⟩) (ax u3)).trans u3;have s0:=(b7.cell (p:=⟨wr.heap.size+1,0,none⟩) (ax t0)).trans t0;have s1:=(b7.cell (p:=⟨wr.heap.size+1,1,none⟩) (ax t1)).trans t1;have fs1:=(b7.frozen (p:=⟨wr.heap.size+1,1,none⟩) (ax t1)).trans ft1;obtain⟨fn,tmps,assign,body,hy,hR⟩:=HY.out _ _ _ _ (HS1.out _ hN) hJ8;simp only [wP,qR,iy,eX] at hy;unfold S at hy;generalize (⟨(dE fs L').toArray⟩:ByteArray)=T at *;clear u0 u1 u2 u3 t0 t1 ft1 pW HC6 HC4' hJ8
      gi_wp2
      refine hR.mono ?_;rintro e W9 ⟨rfl,hJ9⟩
      gi_wp2
      go_roundw
      case rel=>exact⟨j+1,by go_num,by omega,by rw [HX.out];exact hJ9⟩
      case measure=>simp [intOf] <;> omega
  ·obtain rfl:j=arcs.length:=by omega
   rw [List.take_length] at hJ
   gi_wp2
   refine bodyPost_end (results_none rfl _ _ _) rfl ?_;exact⟨rfl,hJ⟩
end Go.Proofs.YtppnecgeboonbaaGreatDoor
