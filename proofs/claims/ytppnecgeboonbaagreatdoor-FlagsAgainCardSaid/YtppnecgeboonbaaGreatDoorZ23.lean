/- Walks. -/
import Derived.MapKept
import Derived.Test.YtppnecgeboonbaaGreatDoorZ22
import Derived.RangeFuncNested
import Derived.RangeFuncBox
import Derived.RangeFuncCalls
import Derived.RangeFuncLeaves
import Derived.Deep.Quiet
import Derived.Deep.AppendLies
namespace Go.Proofs.YtppnecgeboonbaaGreatDoor
set_option maxRecDepth 100000
set_option linter.all false
set_option maxHeartbeats 4000000
def abK:=@Go.World.news_of_block
def abM:=@Go.World.putObj_heap_other
def ac6:=@Go.wpList_append_lies
def adO:=@Go.step_append_lies
open Go.RowKit Go.Maps
def row_of{α:Type}{f:α->Value}{w:World}{A:Option Addr}{l:List α}(h:ay w A (l.map f)){k:Nat}(hk:k<l.length):∃b o,A=some ⟨b,o,none⟩/\b<w.heap.size/\w.cell? ⟨b,o+k,none⟩=some (f l[k]):=by
 obtain⟨b,o,rfl,hlt,hcell⟩:=h (by intro e;rw[aaO]at e;subst e;simp at hk);exact⟨b,o,rfl,hlt,hcell k _ (by rw[abA,aak hk];rfl)⟩
def Jw{s:Bs}(h:40<s.length):gT s=false:=by unfold gT;rw[aai (show ¬ s.length<=40 by omega)];simp
def Jy{s:Bs}(h0:s≠[])(h:s.length<=40):gT s=decide (eQ s=0):=by
 unfold gT;rw[aaA h]
 cases s with
 |nil=>exact absurd rfl h0
 |cons a r=>simp
def Iy(s:ByteArray)(w:World)(hT:bK w):Calls Tryz.prog 75 #[.string s] w fun e w'=>e=.returned (.bool (gT s.data.toList))/\Below w w w':=by
 by_cases h0:s.size=0
 ·have HX:Hid (gT s.data.toList=false):=by rw[Hid,fF h0];rfl
  have hem:=jF h0;have t0:(s.toList==[])=true:=by rw[aan,fF h0];rfl
  clear h0;go_enter Tryz.func75,Tryz.ntmps75;go_wp2_with fail;go_returns;exact⟨by rw[HX.out];(try rfl),aac _ _⟩
 have hem:=jI h0;have t0:(s.toList==[])=false:=by rw[aan];simpa using gB h0
 by_cases h4:40<s.size
 ·have HX:Hid (gT s.data.toList=false):=Jw (by rw[<-aae];exact h4)
  have d4:40<(s.size:Int):=by omega
  clear h0 h4;go_enter Tryz.func75,Tryz.ntmps75;go_wp2_with fail;go_returns;exact⟨by rw[HX.out];(try rfl),aac _ _⟩
 have HX:=Pd (Jy (gB h0) (show s.data.toList.length<=40 by rw[<-aae];omega));have d4:(s.size:Int)<=40:=by omega
 have c1:=Ee s w hT (by omega);unfold qL at c1;generalize H6 s.data.toList=l at*;generalize kY s.data.toList=at' at*;generalize eQ s.data.toList=e' at*;clear h0 h4;by_cases he:e'=0
 ·have HY:Hid (gT s.data.toList=true):=by rw[Hid,HX.out,aaA he]
  subst he;clear HX;go_enter Tryz.func75,Tryz.ntmps75;go_wp2_with fail;refine c1.mono ?_;rintro e w1 ⟨A,c,rfl,_,_,b1⟩;go_wp2_with fail;go_returns;exact⟨by rw[HY.out];(try rfl),b1⟩
 ·have HY:Hid (gT s.data.toList=false):=by rw[Hid,HX.out,aai he]
  have t1:(((e':Nat):Int)==0)=false:=by simpa using he
  clear HX he;go_enter Tryz.func75,Tryz.ntmps75;go_wp2_with fail;refine c1.mono ?_;rintro e w1 ⟨A,c,rfl,_,_,b1⟩;go_wp2_with fail;go_returns;exact⟨by rw[HY.out];(try rfl),b1⟩
def Ff(A:Option Addr)(c:Nat)(t:List Bs)(w:World)(hT:bK w)(hV:ay w A (t.map S))(hl:t.length<=500):Calls Tryz.prog 74 #[.slice A t.length c,.func (.func 75) #[] #[]] w fun e w'=>e=.returned (.bool (t.all gT))/\Below w w w':=by
 have HV:=Pd hV;clear hV;go_enter Tryz.func74,Tryz.ntmps74;go_wp2_with fail
 go_loopw [9] (fun i wr=>∃(k:Nat),i=.int .i64 k/\k<=t.length/\Below w w wr/\Hid (∀s∈t.take k,gT s=true)) (fun i _=>t.length-(intOf i).toNat)
 case atStart=>exact⟨0,rfl,by omega,aac _ _,by simp[Hid]⟩
 case round=>
  obtain⟨k,rfl,hk,hB,HN⟩:=hrel;by_cases hlt:k<t.length
  ·obtain⟨b,o,rfl,hbl,hc0⟩:=row_of HV.out hlt
   have HF:Hid (gT t[k]=false->t.all gT=false):=p8 hlt;have HT:Hid (gT t[k]=true->∀s∈t.take (k+1),gT s=true):=allT hlt HN.out;generalize t[k]=s at*;obtain⟨Z,hZ⟩:∃Z:ByteArray,(⟨s.toArray⟩:ByteArray)=Z:=⟨_,rfl⟩;have Un:s=Z.data.toList:=by rw[<-hZ]
   have k0:=(hB.cell (p:=⟨b,o+k,none⟩) hbl).trans (hc0.trans (by rw[S,hZ]));subst Un;have i0:(0:Int)<=(k:Int):=by omega
   have il:(k:Int)<(t.length:Int):=(by omega);have p1:=fun W hW=>Iy Z W hW
   clear hZ hc0
   cases hq:gT Z.data.toList with
   |false=>
    have HX:=Pd (HF.out hq);rw[hq]at p1;clear hq HT HF;go_wp2_with fail;refine(p1 _ (hT.below hB)).mono ?_;rintro e w2 ⟨rfl,b2⟩;go_wp2_with fail;go_returns;exact⟨by rw[HX.out];(try rfl),ae hB b2⟩
   |true=>
    have HX:=Pd (HT.out hq);rw[hq]at p1;clear hq HT HF;go_wp2_with fail;refine(p1 _ (hT.below hB)).mono ?_;rintro e w2 ⟨rfl,b2⟩;go_wp2_with fail;go_roundw
    case rel=>exact⟨k+1,by go_num,by omega,ae hB b2,HX.out⟩
    case measure=>simp[intOf];omega
  ·obtain rfl:k=t.length:=by omega
   have HX:Hid (t.all gT=true):=by
    have:=HN.out;rw[aaJ]at this;exact aaT.2 this
   go_wp2_with fail;go_returns;exact⟨by rw[HX.out];(try rfl),hB⟩
abbrev qI(w:World)(b:Nat)(L:List (Bs×Nat)):Prop:=bN Tryz.prog 9 S (fun n=>.int .i64 ((n:Nat):Int)) w b L
theorem Cn:∀(t:List Bs) (i:Nat) (l:List (Bs×Nat)),(∀p∈l,bz p.1)->(∀s∈t,bz s)->∀p∈iw t i l,bz p.1
 |[],i,l,hl,_=>hl
 |s::r,i,l,hl,ht=>Cn r (i+1) (bQ l s (i+1)) (rC (ht s aal) hl) fun x hx=>ht x (aaj _ hx)
theorem Co:∀(t:List Bs) (i:Nat) (l:List (Bs×Nat)) (k:Nat) (hk:k<t.length),iw (t.take (k+1)) i l=bQ (iw (t.take k) i l) t[k] (i+k+1)
 |s::r,i,l,0,hk=>by simp[iw]
 |s::r,i,l,k+1,hk=>by
  have hk':k<r.length:=by simpa using hk
  rw[aa1,aa1];show iw (r.take (k+1)) (i+1) (bQ l s (i+1))=bQ (iw (r.take k) (i+1) (bQ l s (i+1))) r[k] (i+(k+1)+1);rw[Co r (i+1) _ k hk',show i+1+k+1=i+(k+1)+1 by omega]
def JP(W:World)(b:Nat)(L:List (Bs×Nat))(h:qI W b L)(hl:∀p∈L,bz p.1)(f:Bs)(hf:bz f)(x:Nat):∃o,(Instr.mapUpdate 129 (.map (some b)) (S f) (.int .i64 (x:Int))).run Tryz.prog W=.ok () (aU W b o)/\qI (aU W b o) b (bQ L f x):=
 bN.put qK qJ Tryz.underlying129 h hl f hf x
def JO(A:Option Addr)(c:Nat)(t:List Bs)(w:World)(hV:ay w A (t.map S))(hl:t.length<=500)(hN:∀s∈t,bz s):Calls Tryz.prog 76 #[.slice A t.length c] w fun e w'=>∃b,e=.returned (.map (some b))/\qI w' b (iw t 0 [])/\Below w w w':=by
 have HV:=Pd hV;have HN:=Pd hN;have hmk:∀W:World,(Instr.makeMap 129 (some (.int .i64 (t.length:Int)))).run Tryz.prog W=.ok (.map (some W.heap.size)) (W.alloc (.map #[] 0)):=by
  intro W;simp[Instr.makeMap,asInt,asIntOf,go_sem]
 have hM0:qI (w.alloc (.map #[] 0)) w.heap.size []:=bN.new w;have hb0:Below w w (w.alloc (.map #[] 0)):=(aac _ _).alloc (Pe _) _;clear hV hN;go_enter Tryz.func76,Tryz.ntmps76;go_wp2_with fail
 go_loopw [11] (fun i wr=>∃(k:Nat),i=.int .i64 k/\k<=t.length/\qI wr w.heap.size (iw (t.take k) 0 [])/\Below w w wr) (fun i _=>t.length-(intOf i).toNat)
 case atStart=>exact⟨0,rfl,by omega,by simpa[iw]using hM0,hb0⟩
 case round=>
  obtain⟨k,rfl,hk,hM,hB⟩:=hrel;by_cases hlt:k<t.length
  ·obtain⟨b,o,rfl,hbl,hc0⟩:=row_of HV.out hlt
   have YN:=HN.out _ (aag hlt);have HE:=Pd (Co t 0 [] k hlt);have hkeys:∀p∈iw (t.take k) 0 [],bz p.1:=Cn _ _ _ (fun p hp=>absurd hp aaK) (fun s hs=>HN.out s (ach hs));generalize iw (t.take k) 0 []=L at*;generalize t[k]=s at*;obtain⟨o',hput,hM2⟩:=JP wr w.heap.size L hM hkeys s YN (k+1);obtain⟨Z,hZ⟩:∃Z:ByteArray,(⟨s.toArray⟩:ByteArray)=Z:=⟨_,rfl⟩;have k0:=(hB.cell (p:=⟨b,o+k,none⟩) hbl).trans (hc0.trans (by rw[S,hZ]));unfold S at hput;rw[hZ]at hput;rw[show((k+1:Nat):Int)=(k:Int)+1 by omega]at hput;have hB2:=hB.trans (yQ wr w.heap.size o' (Pe _));have i0:(0:Int)<=(k:Int):=by omega
   have il:(k:Int)<(t.length:Int):=(by omega);have Vs:Hid (qI (aU wr w.heap.size o') w.heap.size (bQ L s (0+k+1))):=by rw[aaP];exact hM2
   clear hZ hc0 hM hM2 hkeys YN;go_wp2_with fail;go_roundw
   case rel=>exact⟨k+1,by go_num,by omega,by rw[HE.out];exact Vs.out,hB2⟩
   case measure=>simp[intOf];omega
  ·obtain rfl:k=t.length:=by omega
   rw[aaJ]at hM;go_wp2_with fail;go_returns;exact⟨_,rfl,hM,hB⟩
def Er(A:Option Addr)(c:Nat)(t:List Bs)(w:World)(hT:bK w)(hV:ay w A (t.map S)):Calls Tryz.prog 40 #[.slice A t.length c] w fun e w'=>e=.returned (.bool (l7 t))/\Below w w w':=by
 have HT:Hid (l7 t=(decide (t.length<=500)&&t.all gT&&decide t.Nodup)):=rfl;by_cases hl:t.length<=500
 ·have d1:(t.length:Int)<=500:=by omega
  have p1:=Ff A c t w hT hV hl
  cases ha:t.all gT with
  |false=>
   have HX:Hid (l7 t=false):=by rw[Hid,HT.out,ha];simp
   rw[ha]at p1;clear ha HT;go_enter Tryz.func40,Tryz.ntmps40;go_wp2_with fail;refine p1.mono ?_;rintro e w1 ⟨rfl,b1⟩;go_wp2_with fail;go_returns;exact⟨by rw[HX.out];(try rfl),b1⟩
  |true=>
   have hN:∀s∈t,bz s:=fun s hs=>by
    have:=aaT.1 ha s hs;unfold gT at this;simp at this;exact this.1.2
   have HX:Hid (l7 t=(((iw t 0 []).length:Int)==(t.length:Int))):=by
    rw[Hid,HT.out,ha,aaA hl,aeD,aeD];by_cases hd:t.Nodup
    ·rw[aaA hd,(Cm t).2 hd];simp
    ·rw[aai hd]
     symm;rw[aaN];intro e;exact hd ((Cm t).1 (by omega))
   have p2:=fun W hW=>JO A c t W hW hl hN
   rw[ha]at p1;have HV:=Pd hV;clear ha HT hN hV;generalize iw t 0 []=L at*;go_enter Tryz.func40,Tryz.ntmps40;go_wp2_with fail;refine p1.mono ?_;rintro e w1 ⟨rfl,b1⟩;go_wp2_with fail;refine(p2 _ (HV.out.below b1)).mono ?_;rintro e w2 ⟨b,rfl,hM,b2⟩;obtain⟨es,clock,hm1,hm2⟩:=hM.size;have hln:(Builtin.len_ #[129] 3 #[.map (some b)]).run Tryz.prog w2=.ok (.int .i64 ((L.length:Nat):Int)) w2:=by
    simp[Builtin.len_,acv Tryz.underlying129,acz hm1,goInt,Result.andThen,hm2]
   go_wp2_with fail;go_returns;exact⟨by rw[HX.out];(try rfl),ae b1 b2⟩
 ·have d1:500<(t.length:Int):=by omega
  have HX:Hid (l7 t=false):=by rw[Hid,HT.out,aai hl];rfl
  clear hl HT;go_enter Tryz.func40,Tryz.ntmps40;go_wp2_with fail;go_returns;exact⟨by rw[HX.out];(try rfl),aac _ _⟩
abbrev j6(n:Nat):Prop:=n<=501
def vO(n:Nat):Value:=.int .i64 (n:Int)
def Bl:Enc Tryz.prog 3 vO j6 where
 inj:=fun {a b} h=>by
  simp only[vO,af2,aeg]at h;omega
 key:=fun a ha=>⟨_,keyOf_int_mk aaX (by
  unfold j6 at ha;show(decide (IntKind.i64.min<=(a:Int))&&decide ((a:Int)<=IntKind.i64.max))=true;rw[aaE,aax,aax];show(-9223372036854775808:Int)<=(a:Int)/\(a:Int)<=9223372036854775807;omega)⟩
abbrev ji(w:World)(b:Nat)(L:List (Nat×aH)):Prop:=bN Tryz.prog 3 vO kR w b L
def Ib(w:World):(zeroValue 24).run Tryz.prog w=.ok (kR dX) w:=(afT (n:=3) (by kernel_rfl)).1 w
def Bn:Keyed Tryz.prog 3:=int_keyed aaX
def Ic(w:World)(b:Nat)(L:List (Nat×aH))(h:ji w b L)(hl:∀p∈L,j6 p.1)(s:Nat)(hs:j6 s) :
  (Instr.lookup 66 (.map (some b)) (.int .i64 (s:Int)) true).run Tryz.prog w=.ok (.tuple #[kR ((bO L s).getD dX),.bool (bO L s).isSome]) w:=by
 have:=bN.look Bn Bl Tryz.underlying66 (Ib w) h hl s hs true;rw[show Value.int .i64 (s:Int)=vO s from rfl,this]
 cases bO L s<;>rfl
def Ig(W:World)(b:Nat)(L:List (Nat×aH))(h:ji W b L)(hl:∀p∈L,j6 p.1)(s:Nat)(hs:j6 s)(f:aH):∃o,(Instr.mapUpdate 66 (.map (some b)) (.int .i64 (s:Int)) (kR f)).run Tryz.prog W=.ok () (aU W b o)/\ji (aU W b o) b (bQ L s f):=
 bN.put Bn Bl Tryz.underlying66 h hl s hs f
theorem vH:∀(t:List Bs) (i:Nat) (l:List (Nat×aH)),(∀p∈l,j6 p.1)->i+t.length<=500->∀p∈dW t i l,j6 p.1
 |[],i,l,hl,_=>hl
 |s::r,i,l,hl,hi=>by
  unfold dW;simp only[aaF]at hi
  cases bR s with
  |some f=>exact vH r (i+1) _ (rC (show j6 (i+1) by unfold j6;omega) hl) (by omega)
  |none=>exact vH r (i+1) l hl (by omega)
theorem xO:∀(t:List Bs) (i:Nat) (l:List (Nat×aH)) (k:Nat) (hk:k<t.length),dW (t.take (k+1)) i l=match bR t[k] with|some f=>bQ (dW (t.take k) i l) (i+k+1) f|none=>dW (t.take k) i l
 |s::r,i,l,0,hk=>by
  simp only[aa1,ab7,acy];unfold dW
  cases bR s<;>rfl
 |s::r,i,l,k+1,hk=>by
  have hk':k<r.length:=by simpa using hk
  rw[aa1,aa1];unfold dW;simp only[abP]
  cases bR s with
  |some f=>simp only;rw[xO r (i+1) _ k hk',show i+1+k+1=i+(k+1)+1 by omega]
  |none=>simp only;rw[xO r (i+1) _ k hk',show i+1+k+1=i+(k+1)+1 by omega]
def lI(f:aH):∃F V:ByteArray,kR f=.agg #[.int .u8 f.op.toNat,.string F,.string V]/\f.feat=F.data.toList/\f.val=V.data.toList:=⟨⟨f.feat.toArray⟩,⟨f.val.toArray⟩,rfl,rfl,rfl⟩
def AZ(A:Option Addr)(c:Nat)(t:List Bs)(w:World)(hT:fD w)(hV:ay w A (t.map S))(hl:t.length<=500):Calls Tryz.prog 41 #[.slice A t.length c] w fun e w'=>∃b,e=.returned (.map (some b))/\ji w' b (dW t 0 [])/\w.heap.size<=b/\Below w w w':=by
 have HV:=Pd hV;have hmk:∀W:World,(Instr.makeMap 66 none).run Tryz.prog W=.ok (.map (some W.heap.size)) (W.alloc (.map #[] 0)):=fun _=>rfl
 have hM0:ji (w.alloc (.map #[] 0)) w.heap.size []:=bN.new w;have hb0:Below w w (w.alloc (.map #[] 0)):=(aac _ _).alloc (Pe _) _;clear hV;go_enter Tryz.func41,Tryz.ntmps41;go_wp2_with fail
 go_loopw [11] (fun i wr=>∃(k:Nat),i=.int .i64 k/\k<=t.length/\ji wr w.heap.size (dW (t.take k) 0 [])/\Below w w wr) (fun i _=>t.length-(intOf i).toNat)
 case atStart=>exact⟨0,rfl,by omega,by simpa[dW]using hM0,hb0⟩
 case round=>
  obtain⟨k,rfl,hk,hM,hB⟩:=hrel;by_cases hlt:k<t.length
  ·obtain⟨b,o,rfl,hbl,hc0⟩:=row_of HV.out hlt
   have HE:=Pd (xO t 0 [] k hlt);have hkeys:∀p∈dW (t.take k) 0 [],j6 p.1:=vH _ _ _ (fun p hp=>absurd hp aaK) (by rw[aaI];omega);generalize dW (t.take k) 0 []=L at*;generalize t[k]=s at*;obtain⟨Z,hZ⟩:∃Z:ByteArray,(⟨s.toArray⟩:ByteArray)=Z:=⟨_,rfl⟩;have Un:s=Z.data.toList:=by rw[<-hZ]
   have k0:=(hB.cell (p:=⟨b,o+k,none⟩) hbl).trans (hc0.trans (by rw[S,hZ]));subst Un;have p1:=lM Z wr (hT.below hB);unfold ma at p1;have i0:(0:Int)<=(k:Int):=by omega
   have il:(k:Int)<(t.length:Int):=(by omega);have YT:=hM.lt;clear hZ hc0
   cases hp:bR Z.data.toList with
   |none=>
    have HX:Hid (dW (t.take (k+1)) 0 []=L):=by have:=HE.out;rw[hp]at this;exact this
    rw[hp]at p1;obtain⟨F,V,hf,-,-⟩:=lI (Option.getD none dX);rw[hf]at p1;generalize (Option.getD none dX).op=oo at*;clear hp HE hf;go_wp2_with fail;refine p1.mono ?_;rintro e w2 ⟨rfl,b2⟩;have b3:=b2.alloc b2.size (.cells #[.int .u8 oo.toNat,.string F,.string V] 24);have hM2:=hM.below b3;have hB2:=ae hB b3;go_wp2_with fail;go_roundw
    case rel=>exact⟨k+1,by go_num,by omega,by rw[HX.out];exact hM2,hB2⟩
    case measure=>simp[intOf];omega
   |some f=>
    have HX:Hid (dW (t.take (k+1)) 0 []=bQ L (k+1) f):=by have:=HE.out;rw[hp,aaP]at this;exact this
    rw[hp]at p1;obtain⟨F,V,hf,-,-⟩:=lI f;simp only[abL]at p1;have hput:=fun W h=>Ig W w.heap.size L h hkeys (k+1) (by unfold j6;omega) f
    rw[hf]at p1 hput;generalize f.op=oo at*;clear hp HE hf;go_wp2_with fail;refine p1.mono ?_;rintro e w2 ⟨rfl,b2⟩;have b3:=b2.alloc b2.size (.cells #[.int .u8 oo.toNat,.string F,.string V] 24);have hM2:=hM.below b3;have hB2:=ae hB b3;have c0:=az w2 #[.int .u8 oo.toNat,.string F,.string V] 24 0 _ rfl;have c1:=az w2 #[.int .u8 oo.toNat,.string F,.string V] 24 1 _ rfl;have c2:=az w2 #[.int .u8 oo.toNat,.string F,.string V] 24 2 _ rfl;obtain⟨o',ho,V9⟩:=hput _ hM2;rw[show((k+1:Nat):Int)=(k:Int)+1 by omega]at ho;have HM3:=Pd V9;have hB3:=hB2.trans (yQ _ w.heap.size o' (Pe _));clear hM hM2 V9 hput p1;go_wp2_with fail;go_roundw
    case rel=>exact⟨k+1,by go_num,by omega,by rw[HX.out];exact HM3.out,hB3⟩
    case measure=>simp[intOf];omega
  ·obtain rfl:k=t.length:=by omega
   rw[aaJ]at hM;go_wp2_with fail;go_returns;exact⟨_,rfl,hM,Pe _,hB⟩
open Go Go.RowKit Go.Maps
def aBs(A:Option Addr)(c:Nat)(t:List Bs)(s:Int)(w:World)(hV:ay w A (t.map S))(hl:t.length<=1000000)(h1:-9223372036854775808<=s)(h2:s<=9223372036854775807) :
  Calls Tryz.prog 52 #[.slice A t.length c,.int .i64 s] w (ma w (dD t s)):=by
 have HV:=Pd hV;clear hV;have hb0:Below w w (w.alloc (.cells #[.int .u8 0,.string ⟨#[]⟩,.string ⟨#[]⟩] 24)):=(aac _ _).alloc (Pe _) _;have c0:=aJ w #[.int .u8 0,.string ⟨#[]⟩,.string ⟨#[]⟩] 24 0 _ rfl;have c1:=aJ w #[.int .u8 0,.string ⟨#[]⟩,.string ⟨#[]⟩] 24 1 _ rfl;have c2:=aJ w #[.int .u8 0,.string ⟨#[]⟩,.string ⟨#[]⟩] 24 2 _ rfl;by_cases q1:s<1
 ·have HX:Hid (dD t s=none):=by unfold Hid dD;rw[aab (by omega)]
  clear h1 h2 hl;go_enter Tryz.func52,Tryz.ntmps52;go_wp2_with fail;refine aaD (by simp[results,Tryz.results52,go_sem,c0,c1,c2];try rfl) rfl ?_;rw[HX.out];exact⟨rfl,hb0⟩
 by_cases q2:(t.length:Int)<s
 ·have HX:Hid (dD t s=none):=by unfold Hid dD;rw[aab (by omega)]
  have d1:(1:Int)<=s:=by omega
  clear h1 h2 hl q1;go_enter Tryz.func52,Tryz.ntmps52;go_wp2_with fail;refine aaD (by simp[results,Tryz.results52,go_sem,c0,c1,c2];try rfl) rfl ?_;rw[HX.out];exact⟨rfl,hb0⟩
 obtain⟨k,rfl⟩:∃k:Nat,s=((k+1:Nat):Int):=⟨(s-1).toNat,by omega⟩;have hk:k<t.length:=by omega
 have hd:dD t ((k+1:Nat):Int)=bR t[k]:=by
  unfold dD;rw[aaa (by omega),show(((k+1:Nat):Int)-1).toNat=k by omega,aaf,aak hk]
  rfl
 obtain⟨b,o,rfl,hbl,hc0⟩:=DI HV.out hk;rw[hd];generalize t[k]=z at*;obtain⟨Z,hZ⟩:∃Z:ByteArray,(⟨z.toArray⟩:ByteArray)=Z:=⟨_,rfl⟩;have Un:z=Z.data.toList:=by rw[<-hZ]
 have k0:(w.alloc (.cells #[.int .u8 0,.string ⟨#[]⟩,.string ⟨#[]⟩] 24)).cell? ⟨b,o+k,none⟩=some (.string Z):=(hb0.cell (p:=⟨b,o+k,none⟩) hbl).trans (hc0.trans (by rw[S,hZ]));subst Un;have p1:=fun W=>LQ Z W
 rw[J8]at p1;obtain⟨F,V,hfc,-,-⟩:=lI ((bR Z.data.toList).getD dX);obtain⟨r,hr⟩:∃r,bR Z.data.toList=r:=⟨_,rfl⟩;unfold ma at p1;rw[hr]at p1 hfc;rw[hfc]at p1;have HF:=Pd hfc;have HR:=Pd hr;obtain⟨is,his⟩:∃is,r.isSome=is:=⟨_,rfl⟩;rw[his]at p1;have HI:=Pd his;generalize (r.getD dX).op=oo at*;have f0:=kU w #[.int .u8 0,.string ⟨#[]⟩,.string ⟨#[]⟩] 24 0;have f1:=kU w #[.int .u8 0,.string ⟨#[]⟩,.string ⟨#[]⟩] 24 1;have f2:=kU w #[.int .u8 0,.string ⟨#[]⟩,.string ⟨#[]⟩] 24 2;have e0:(0:Int)<=(k:Int):=by omega
 have e1:(k:Int)<(t.length:Int):=by omega
 have e2:((k+1:Nat):Int)=(k:Int)+1:=by omega
 have e3:(k:Int)+1-1=(k:Int):=by omega
 have hlt:w.heap.size<(w.alloc (.cells #[.int .u8 0,.string ⟨#[]⟩,.string ⟨#[]⟩] 24)).heap.size:=by simp
 rw[e2];clear hZ hc0 hr his hfc q1 q2 h1 h2 hd hk e2;go_enter Tryz.func52,Tryz.ntmps52;go_wp2_with fail;generalize w.alloc (.cells #[.int .u8 0,.string ⟨#[]⟩,.string ⟨#[]⟩] 24)=w0 at*;refine(p1 _).mono ?_;rintro e w3 ⟨rfl,b3⟩;have r0:=(b3.cell (p:=⟨w.heap.size,0,none⟩) hlt).trans c0;have r1:=(b3.cell (p:=⟨w.heap.size,1,none⟩) hlt).trans c1;have r2:=(b3.cell (p:=⟨w.heap.size,2,none⟩) hlt).trans c2;have g0:=(b3.frozen (p:=⟨w.heap.size,0,none⟩) hlt).trans f0;have g1:=(b3.frozen (p:=⟨w.heap.size,1,none⟩) hlt).trans f1;have g2:=(b3.frozen (p:=⟨w.heap.size,2,none⟩) hlt).trans f2;have hB:=ae hb0 b3;clear c0 c1 c2 f0 f1 f2 b3 p1 k0;go_wp2_with fail;refine aaD (by simp[results,Tryz.results52,go_sem,r0,r1,r2];try rfl) rfl ?_;rw[HR.out];refine⟨?_,jm hB _ (Pe _) _ _ _⟩;rw[HF.out,HI.out]
open Go Go.RowKit
variable {P:Program} {F:Fence} {n:Nat}
variable {P:Program}
structure aB (X:Nat->Prop) (w w':World):Prop where
 os:w'.os=w.os
 tape:w'.tape=w.tape
 output:w'.output=w.output
 size:w.heap.size<=w'.heap.size
 block:∀b,b<w.heap.size->¬ X b->w'.heap[b]? = w.heap[b]?
def aB.refl(X:Nat->Prop)(w:World):aB X w w:=⟨rfl,rfl,rfl,Pe _,fun _ _ _=>rfl⟩
def aB.trans{X Y:Nat->Prop}{w w1 w2:World}(h:aB X w w1)(k:aB Y w1 w2)(hY:∀b,b<w.heap.size->Y b->X b):aB X w w2:=
 ⟨k.os.trans h.os,k.tape.trans h.tape,k.output.trans h.output,aaB h.size k.size,fun b hb hx=>(k.block b (aah hb h.size) (fun e=>hx (hY b hb e))).trans (h.block b hb hx)⟩
def aB.mono{X Y:Nat->Prop}{w w':World}(h:aB X w w')(hY:∀b,b<w.heap.size->X b->Y b):aB Y w w':=
 ⟨h.os,h.tape,h.output,h.size,fun b hb hy=>h.block b hb (fun e=>hy (hY b hb e))⟩
def aB.below{B:Nat}{w w':World}(h:aB (fun b=>B<=b) w w')(hB:B<=w.heap.size):Below B w w':=
 ⟨h.os,h.tape,h.output,h.size,fun b hb=>h.block b (aah hb hB) (Nat.not_le_of_lt hb)⟩
def aB.of_new{X:Nat->Prop}{w w':World}(h:Below w w w'):aB X w w':=
 ⟨h.os,h.tape,h.output,h.size,fun b hb _=>h.block b hb⟩
def aB.of_grown{w w':World}{row:Option Nat}(h:w.grownBy w' row):aB (fun b=>row=some b) w w':=
 ⟨h.os,h.tape,h.output,h.size,fun b hb hx=>h.block b hb (fun e=>hx e.symm)⟩
def lg(X:Nat->Prop)(w:World)(R:World->Prop):Prop:=∀w',w.heap.size<=w'.heap.size->(∀b,b<w.heap.size->¬ X b->w'.heap[b]? = w.heap[b]?)->R w'
def lg.now{X:Nat->Prop}{w:World}{R:World->Prop}(h:lg X w R):R w:=h w (Pe _) (fun _ _ _=>rfl)
def lg.step{X X' Y:Nat->Prop}{w w':World}{R:World->Prop}(h:lg X w R)(hc:aB Y w w')(hY:∀b,b<w.heap.size->Y b->X b)(hX:∀b,b<w.heap.size->X' b->X b):lg X' w' R:=
 fun w2 hs hb=>h w2 (aaB hc.size hs) fun b hlt hx=>(hb b (aah hlt hc.size) (fun e=>hx (hX b hlt e))).trans (hc.block b hlt (fun e=>hx (hY b hlt e)))
def lg.and{X:Nat->Prop}{w:World}{R S:World->Prop}(h:lg X w R)(k:lg X w S):lg X w (fun w=>R w/\S w):=fun w' hs hb=>⟨h w' hs hb,k w' hs hb⟩
def lg.mono{X:Nat->Prop}{w:World}{R S:World->Prop}(h:lg X w R)(k:∀w,R w->S w):lg X w S:=fun w' hs hb=>k _ (h w' hs hb)
def lm{w w':World}{b o:Nat}{s:Option Nat}(h:w'.heap[b]? = w.heap[b]?):w'.cell? ⟨b,o,s⟩=w.cell? ⟨b,o,s⟩:=by unfold World.cell?;simp only[h]
def dU{w w':World}{b:Nat}(h:w'.heap[b]? = w.heap[b]?)(o:Nat)(hf:w.frozen? ⟨b,o,none⟩=false):w'.frozen? ⟨b,o,none⟩=false:=by
 unfold World.frozen? at hf ⊢;rw[h];exact hf
def eP{X:Nat->Prop}{w w':World}{base:Nat}{e:TypeId}{size:Nat}{v:Value}{n:Nat}{xs:List Value}(h:w.ownsRow base e size v n xs)(hc:aB X w w')(hX:∀g,v.ownBlock=some g->¬ X g):w'.ownsRow base e size v n xs:=by
 refine⟨h.1,?_⟩;rcases h.2 with hn|⟨g,cap,cur,rfl,hb,hg,rest⟩
 ·exact aam hn
 ·exact aad ⟨g,cap,cur,rfl,hb,(hc.block g (lt_of_block hg) (hX g rfl)).trans hg,rest⟩
def zS(w:World)(b:Nat)(o:Obj):aB (fun c=>c=b) w (w.putObj b o):=⟨rfl,rfl,rfl,by simp,fun c _ hx=>abM hx⟩
def dP(w:World)(b k:Nat)(u:Value):aB (fun c=>c=b) w (w.setCell ⟨b,k,none⟩ u):=⟨rfl,rfl,rfl,by simp,fun c _ hx=>aa2 _ _ _ _ hx⟩
def ve(X:Nat->Prop)(w:World)(k:Nat):aB X w (w.drewN k):=⟨rfl,rfl,rfl,Pe _,fun _ _ _=>rfl⟩
def zR(X:Nat->Prop)(w:World):aB X w w.drew:=⟨rfl,rfl,rfl,Pe _,fun _ _ _=>rfl⟩
def p9(X:Nat->Prop)(w:World)(o:Obj):aB X w (w.alloc o):=aB.of_new ((aac _ _).alloc (Pe _) _)
def aAN{W:World}{b:Nat}{x y z:Value}{T:TypeId}(h:W.heap[b]? = some (.cells #[x,y,z] T (0,0))):W.cell? ⟨b,0,none⟩=some x/\W.cell? ⟨b,1,none⟩=some y/\W.cell? ⟨b,2,none⟩=some z:=
 ⟨by rw[aap W b _ _ _ _ h];rfl,by rw[aap W b _ _ _ _ h];rfl,by rw[aap W b _ _ _ _ h];rfl⟩
def aAu.below{w w':World}{A:Option Addr}{l:List OH}(h:aAu w A l)(hb:Below w w w'):aAu w' A l:=by
 intro k hk;obtain⟨b,o,e,hlt,h0,h1,h2⟩:=h k hk;exact⟨b,o,e,aah hlt hb.size,(hb.cell hlt).trans h0,(hb.cell hlt).trans h1,(hb.cell hlt).trans h2⟩
open Go.RowKit
def jK{r:Bs×Nat}{w w':World}{x:Bs}{n:Nat}(h:r=(x,n))(b:Below w w w'):Rat3.aA w r (.returned (.tuple #[.string ⟨x.toArray⟩,.int .i64 n])) w':=by subst h;exact⟨rfl,b⟩
def rJ{r:Bs×Nat}{w w':World}{x:ByteArray}{n:Nat}(h:r=(x.data.toList,n))(b:Below w w w'):Rat3.aA w r (.returned (.tuple #[.string x,.int .i64 n])) w':=by subst h;exact⟨rfl,b⟩
def EJ:((⟨#[49]⟩:ByteArray).data.toList)=[49]:=rfl
def NI(a:Bs):(Rat3.gV [49] a).1.length<=9223372036854775807:=aaB (Ob _ _) (by decide)
def yO(k:Int)(a b:ByteArray)(w:World)(ha:a.size<=9223372036854775807)(hb:b.size<=9223372036854775807):Calls Tryz.prog 86 #[.int .i64 k,.string a,.string b] w (Rat3.aA w (fI k a.data.toList b.data.toList)):=by
 have pva:=fun W=>nZ k a W ha
 have pvb:=fun W=>nZ k b W hb
 have pbet:=fun W=>Ml k b a W hb ha
 have padd:=fun W=>Rat3.yB a b W ha hb
 have HV:Hid (fI k a.data.toList b.data.toList=if aT k a.data.toList=true/\aT k b.data.toList=true then
  (if k≠2 then (if og k b.data.toList a.data.toList<0 then (b.data.toList,0) else (a.data.toList,0)) else if a.data.toList=bD\/b.data.toList=bD then (bD,0) else Rat3.jW a.data.toList b.data.toList)
 else ([],1)):=rfl
 obtain⟨sm,hsm⟩:∃x,Rat3.jW a.data.toList b.data.toList=x:=⟨_,rfl⟩;rw[hsm]at padd HV;generalize og k b.data.toList a.data.toList=z at*;generalize fI k a.data.toList b.data.toList=R at*;clear hsm
 cases hva:aT k a.data.toList with
 |false=>
  have HY:Hid (R=([],1)):=by rw[Hid,HV.out,hva,aab (by simp)]
  rw[hva]at pva;clear HV hva;go_enter adV,adI;go_wp2_with fail;refine(pva _).mono ?_;rintro e w0 ⟨rfl,b0⟩;go_wp2_with fail;go_returns;exact jK HY.out (b0)
 |true=>
  rw[hva]at pva HV;clear hva
  cases hvb:aT k b.data.toList with
  |false=>
   have HY:Hid (R=([],1)):=(by rw[Hid,HV.out,hvb,aab (by simp)]);rw[hvb]at pvb;clear HV hvb;go_enter adV,adI;go_wp2_with fail;refine(pva _).mono ?_;rintro e w0 ⟨rfl,b0⟩;go_wp2_with fail;refine(pvb _).mono ?_;rintro e w1 ⟨rfl,b1⟩;go_wp2_with fail;go_returns;exact jK HY.out ((ae b0 b1))
  |true=>
   rw[hvb]at pvb HV;clear hvb;have HW:=Pd (HV.out.trans (aaa (by simp)));clear HV;by_cases h2:k=2
   ·have t2:=qY h2
    have t2':=ko h2;have HU:=Pd (HW.out.trans (aab (by simpa using h2)));clear HW h2;by_cases hi:a.data.toList=bD
    ·have HY:Hid (R=(bD,0)):=HU.out.trans (aaa (aam hi))
     have t1:(a.toList==[105,110,102])=true:=iR hi;clear HU hi;go_enter adV,adI;go_wp2_with fail;refine(pva _).mono ?_;rintro e w0 ⟨rfl,b0⟩;go_wp2_with fail;refine(pvb _).mono ?_;rintro e w1 ⟨rfl,b1⟩;go_wp2_with fail;go_returns;exact jK HY.out ((ae b0 b1))
    have t1:(a.toList==[105,110,102])=false:=iT hi;by_cases hj:b.data.toList=bD
    ·have HY:Hid (R=(bD,0)):=HU.out.trans (aaa (aad hj))
     have t3:(b.toList==[105,110,102])=true:=iR hj;clear HU hi hj;go_enter adV,adI;go_wp2_with fail;refine(pva _).mono ?_;rintro e w0 ⟨rfl,b0⟩;go_wp2_with fail;refine(pvb _).mono ?_;rintro e w1 ⟨rfl,b1⟩;go_wp2_with fail;go_returns;exact jK HY.out ((ae b0 b1))
    have t3:(b.toList==[105,110,102])=false:=iT hj;have HY:Hid (R=sm):=HU.out.trans (aab (by rintro(h|h)<;>contradiction));clear HU hi hj;go_enter adV,adI;go_wp2_with fail;refine(pva _).mono ?_;rintro e w0 ⟨rfl,b0⟩;go_wp2_with fail;refine(pvb _).mono ?_;rintro e w1 ⟨rfl,b1⟩;go_wp2_with fail;refine(padd _).mono ?_;rintro e w2 ⟨rfl,b2⟩;go_wp2_with fail;go_returns;exact⟨by rw[HY.out];(try rfl),ae (ae b0 b1) b2⟩
   ·have t2:=ry h2
    have t2':=jU h2;have HU:=Pd (HW.out.trans (aaa h2));clear HW h2;by_cases hz:z<0
    ·have HY:Hid (R=(b.data.toList,0)):=HU.out.trans (aaa hz)
     clear HU;go_enter adV,adI;go_wp2_with fail;refine(pva _).mono ?_;rintro e w0 ⟨rfl,b0⟩;go_wp2_with fail;refine(pvb _).mono ?_;rintro e w1 ⟨rfl,b1⟩;go_wp2_with fail;refine(pbet _).mono ?_;rintro e w2 ⟨rfl,b2⟩;go_wp2_with fail;go_returns;exact rJ HY.out ((ae (ae b0 b1) b2))
    ·have HY:Hid (R=(a.data.toList,0)):=HU.out.trans (aab hz)
     have hz':0<=z:=(by omega);clear HU hz;go_enter adV,adI;go_wp2_with fail;refine(pva _).mono ?_;rintro e w0 ⟨rfl,b0⟩;go_wp2_with fail;refine(pvb _).mono ?_;rintro e w1 ⟨rfl,b1⟩;go_wp2_with fail;refine(pbet _).mono ?_;rintro e w2 ⟨rfl,b2⟩;go_wp2_with fail;go_returns;exact rJ HY.out ((ae (ae b0 b1) b2))
def Mo(k:Int)(a b:ByteArray)(w:World)(ha:a.size<=9223372036854775807)(hb:b.size<=9223372036854775807):Calls Tryz.prog 110 #[.int .i64 k,.string a,.string b] w (Rat3.aA w (iV k a.data.toList b.data.toList)):=by
 have pva:=fun W=>nZ k a W ha
 have pvb:=fun W=>nZ k b W hb
 have pzero:=fun W=>o9 k W
 have padd:=fun W=>Rat3.yB a b W ha hb
 have pmul:=fun W=>Rat3.Kq a b W ha hb
 have HV:Hid (iV k a.data.toList b.data.toList=if aT k a.data.toList=true/\aT k b.data.toList=true then
  (if a.data.toList=aF k\/b.data.toList=aF k then (aF k,0) else if a.data.toList=bD\/b.data.toList=bD then (bD,0) else if a.data.toList=dC\/b.data.toList=dC then (dC,0) else if k=1 then Rat3.jW a.data.toList b.data.toList else Rat3.mV a.data.toList b.data.toList)
 else ([],1)):=rfl
 obtain⟨sm,hsm⟩:∃x,Rat3.jW a.data.toList b.data.toList=x:=⟨_,rfl⟩;obtain⟨pm,hpm⟩:∃x,Rat3.mV a.data.toList b.data.toList=x:=⟨_,rfl⟩;rw[hsm]at padd HV;rw[hpm]at pmul HV;generalize iV k a.data.toList b.data.toList=R at*;clear hsm hpm;obtain⟨Z,hZ⟩:∃Z:ByteArray,(⟨(aF k).toArray⟩:ByteArray)=Z:=⟨_,rfl⟩;have Un:aF k=Z.data.toList:=by rw[<-hZ]
 unfold S at pzero;rw[hZ]at pzero;rw[Un]at HV;clear hZ Un
 cases hva:aT k a.data.toList with
 |false=>
  have HY:Hid (R=([],1)):=by rw[Hid,HV.out,hva,aab (by simp)]
  rw[hva]at pva;clear HV hva;go_enter acQ,acE;go_wp2_with fail;refine(pva _).mono ?_;rintro e w0 ⟨rfl,b0⟩;go_wp2_with fail;go_returns;exact jK HY.out (b0)
 |true=>
  rw[hva]at pva HV;clear hva
  cases hvb:aT k b.data.toList with
  |false=>
   have HY:Hid (R=([],1)):=(by rw[Hid,HV.out,hvb,aab (by simp)]);rw[hvb]at pvb;clear HV hvb;go_enter acQ,acE;go_wp2_with fail;refine(pva _).mono ?_;rintro e w0 ⟨rfl,b0⟩;go_wp2_with fail;refine(pvb _).mono ?_;rintro e w1 ⟨rfl,b1⟩;go_wp2_with fail;go_returns;exact jK HY.out ((ae b0 b1))
  |true=>
   rw[hvb]at pvb HV;clear hvb;have HW:=Pd (HV.out.trans (aaa (by simp)));clear HV;by_cases hza:a.data.toList=Z.data.toList
   ·have HY:Hid (R=(Z.data.toList,0)):=HW.out.trans (aaa (aam hza))
    have t0:=str_eq hza;clear HW hza;go_enter acQ,acE;go_wp2_with fail;refine(pva _).mono ?_;rintro e w0 ⟨rfl,b0⟩;go_wp2_with fail;refine(pvb _).mono ?_;rintro e w1 ⟨rfl,b1⟩;go_wp2_with fail;refine(pzero _).mono ?_;rintro e w2 ⟨rfl,rfl⟩;go_wp2_with fail;go_returns;exact rJ HY.out ((ae b0 b1))
   have t0:=qB hza;by_cases hzb:b.data.toList=Z.data.toList
   ·have HY:Hid (R=(Z.data.toList,0)):=HW.out.trans (aaa (aad hzb))
    have t9:=str_eq hzb;clear HW hza hzb;go_enter acQ,acE;go_wp2_with fail;refine(pva _).mono ?_;rintro e w0 ⟨rfl,b0⟩;go_wp2_with fail;refine(pvb _).mono ?_;rintro e w1 ⟨rfl,b1⟩;go_wp2_with fail;refine(pzero _).mono ?_;rintro e w2 ⟨rfl,rfl⟩;go_wp2_with fail;go_returns;exact rJ HY.out ((ae b0 b1))
   have t9:=qB hzb;have HW2:=Pd (HW.out.trans (aab (by rintro(h|h)<;>contradiction)));clear HW hza hzb;by_cases hi:a.data.toList=bD
   ·have HY:Hid (R=(bD,0)):=HW2.out.trans (aaa (aam hi))
    have t1:(a.toList==[105,110,102])=true:=iR hi;clear HW2 hi;go_enter acQ,acE;go_wp2_with fail;refine(pva _).mono ?_;rintro e w0 ⟨rfl,b0⟩;go_wp2_with fail;refine(pvb _).mono ?_;rintro e w1 ⟨rfl,b1⟩;go_wp2_with fail;refine(pzero _).mono ?_;rintro e w2 ⟨rfl,rfl⟩;go_wp2_with fail;go_returns;exact jK HY.out ((ae b0 b1))
   have t1:(a.toList==[105,110,102])=false:=iT hi;by_cases hj:b.data.toList=bD
   ·have HY:Hid (R=(bD,0)):=HW2.out.trans (aaa (aad hj))
    have t3:(b.toList==[105,110,102])=true:=iR hj;clear HW2 hi hj;go_enter acQ,acE;go_wp2_with fail;refine(pva _).mono ?_;rintro e w0 ⟨rfl,b0⟩;go_wp2_with fail;refine(pvb _).mono ?_;rintro e w1 ⟨rfl,b1⟩;go_wp2_with fail;refine(pzero _).mono ?_;rintro e w2 ⟨rfl,rfl⟩;go_wp2_with fail;go_returns;exact jK HY.out ((ae b0 b1))
   have t3:(b.toList==[105,110,102])=false:=iT hj;have HW3:=Pd (HW2.out.trans (aab (by rintro(h|h)<;>contradiction)));clear HW2 hi hj;by_cases hi:a.data.toList=dC
   ·have HY:Hid (R=(dC,0)):=HW3.out.trans (aaa (aam hi))
    have t5:(a.toList==[45,105,110,102])=true:=iR hi;clear HW3 hi;go_enter acQ,acE;go_wp2_with fail;refine(pva _).mono ?_;rintro e w0 ⟨rfl,b0⟩;go_wp2_with fail;refine(pvb _).mono ?_;rintro e w1 ⟨rfl,b1⟩;go_wp2_with fail;refine(pzero _).mono ?_;rintro e w2 ⟨rfl,rfl⟩;go_wp2_with fail;go_returns;exact jK HY.out ((ae b0 b1))
   have t5:(a.toList==[45,105,110,102])=false:=iT hi;by_cases hj:b.data.toList=dC
   ·have HY:Hid (R=(dC,0)):=HW3.out.trans (aaa (aad hj))
    have t6:(b.toList==[45,105,110,102])=true:=iR hj;clear HW3 hi hj;go_enter acQ,acE;go_wp2_with fail;refine(pva _).mono ?_;rintro e w0 ⟨rfl,b0⟩;go_wp2_with fail;refine(pvb _).mono ?_;rintro e w1 ⟨rfl,b1⟩;go_wp2_with fail;refine(pzero _).mono ?_;rintro e w2 ⟨rfl,rfl⟩;go_wp2_with fail;go_returns;exact jK HY.out ((ae b0 b1))
   have t6:(b.toList==[45,105,110,102])=false:=iT hj;have Yh:=Pd (HW3.out.trans (aab (by rintro(h|h)<;>contradiction)));clear HW3 hi hj;by_cases h1:k=1
   ·have HY:Hid (R=sm):=Yh.out.trans (aaa h1)
    have t7:=ko h1;clear Yh h1;go_enter acQ,acE;go_wp2_with fail;refine(pva _).mono ?_;rintro e w0 ⟨rfl,b0⟩;go_wp2_with fail;refine(pvb _).mono ?_;rintro e w1 ⟨rfl,b1⟩;go_wp2_with fail;refine(pzero _).mono ?_;rintro e w2 ⟨rfl,rfl⟩;go_wp2_with fail;refine(padd _).mono ?_;rintro e w3 ⟨rfl,b3⟩;go_wp2_with fail;go_returns;exact⟨by rw[HY.out];(try rfl),ae (ae b0 b1) b3⟩
   ·have HY:Hid (R=pm):=Yh.out.trans (aab h1)
    have t7:=jU h1;clear Yh h1;go_enter acQ,acE;go_wp2_with fail;refine(pva _).mono ?_;rintro e w0 ⟨rfl,b0⟩;go_wp2_with fail;refine(pvb _).mono ?_;rintro e w1 ⟨rfl,b1⟩;go_wp2_with fail;refine(pzero _).mono ?_;rintro e w2 ⟨rfl,rfl⟩;go_wp2_with fail;refine(pmul _).mono ?_;rintro e w3 ⟨rfl,b3⟩;go_wp2_with fail;go_returns;exact⟨by rw[HY.out];(try rfl),ae (ae b0 b1) b3⟩
def Mm(k:Int)(a:ByteArray)(w:World)(ha:a.size<=9223372036854775807):Calls Tryz.prog 161 #[.int .i64 k,.string a] w (Rat3.aA w (oh k a.data.toList)):=by
 have pva:=fun W=>nZ k a W ha
 have pone:=fun W=>DU k W
 have pc0:=fun W=>ww a ⟨#[48]⟩ W ha (by decide)
 have pc1:=fun W=>ww a ⟨#[49]⟩ W ha (by decide)
 have psub:=fun W=>Rat3.KD ⟨#[49]⟩ a W (by decide) ha
 rw[zm]at pc0;rw[EJ]at pc1 psub;have HV:Hid (oh k a.data.toList=if aT k a.data.toList=true then
  (if k=1 then (if 0<=gJ a.data.toList [48] then (fQ k,0) else (dC,0))
   else if k=3 then (if gJ a.data.toList [49]<=0 then (fQ k,0) else (bD,0))
   else if 0<=gJ a.data.toList [49] then (bD,0)
   else if (Rat3.gV [49] a.data.toList).2≠0 then ([],(Rat3.gV [49] a.data.toList).2) else Rat3.lS [49] (Rat3.gV [49] a.data.toList).1)
 else ([],1)):=rfl
 have hsl:=NI a.data.toList;generalize Rat3.gV [49] a.data.toList=sb at*;generalize gJ a.data.toList [48]=z0 at*;generalize gJ a.data.toList [49]=z1 at*;generalize oh k a.data.toList=R at*;obtain⟨Z,hZ⟩:∃Z:ByteArray,(⟨(fQ k).toArray⟩:ByteArray)=Z:=⟨_,rfl⟩;have Un:fQ k=Z.data.toList:=by rw[<-hZ]
 unfold S at pone;rw[hZ]at pone;rw[Un]at HV;clear hZ Un
 cases hva:aT k a.data.toList with
 |false=>
  have HY:Hid (R=([],1)):=by rw[Hid,HV.out,hva,aab (by simp)]
  rw[hva]at pva;clear HV hva;go_enter adr,ada;go_wp2_with fail;refine(pva _).mono ?_;rintro e w0 ⟨rfl,b0⟩;go_wp2_with fail;go_returns;exact jK HY.out (b0)
 |true=>
  rw[hva]at pva HV;clear hva;have HW:=Pd (HV.out.trans (aaa rfl));clear HV;by_cases h1:k=1
  ·have t1:=ko h1
   have HU:=Pd (HW.out.trans (aaa h1));clear HW h1;by_cases hz:0<=z0
   ·have HY:=Pd (HU.out.trans (aaa hz))
    clear HU;go_enter adr,ada;go_wp2_with fail;refine(pva _).mono ?_;rintro e w0 ⟨rfl,b0⟩;go_wp2_with fail;refine(pone _).mono ?_;rintro e w1 ⟨rfl,rfl⟩;go_wp2_with fail;refine(pc0 _).mono ?_;rintro e w2 ⟨rfl,b2⟩;go_wp2_with fail;go_returns;exact rJ HY.out ((ae b0 b2))
   ·have HY:=Pd (HU.out.trans (aab hz))
    have hz':z0<0:=(by omega);clear HU hz;go_enter adr,ada;go_wp2_with fail;refine(pva _).mono ?_;rintro e w0 ⟨rfl,b0⟩;go_wp2_with fail;refine(pone _).mono ?_;rintro e w1 ⟨rfl,rfl⟩;go_wp2_with fail;refine(pc0 _).mono ?_;rintro e w2 ⟨rfl,b2⟩;go_wp2_with fail;go_returns;exact jK HY.out ((ae b0 b2))
  have t1:=jU h1;have HW1:=Pd (HW.out.trans (aab h1));clear HW h1;by_cases h3:k=3
  ·have t3:=ko h3
   have HU:=Pd (HW1.out.trans (aaa h3));clear HW1 h3;by_cases hz:z1<=0
   ·have HY:=Pd (HU.out.trans (aaa hz))
    clear HU;go_enter adr,ada;go_wp2_with fail;refine(pva _).mono ?_;rintro e w0 ⟨rfl,b0⟩;go_wp2_with fail;refine(pone _).mono ?_;rintro e w1 ⟨rfl,rfl⟩;go_wp2_with fail;refine(pc1 _).mono ?_;rintro e w2 ⟨rfl,b2⟩;go_wp2_with fail;go_returns;exact rJ HY.out ((ae b0 b2))
   ·have HY:=Pd (HU.out.trans (aab hz))
    have hz':0<z1:=(by omega);clear HU hz;go_enter adr,ada;go_wp2_with fail;refine(pva _).mono ?_;rintro e w0 ⟨rfl,b0⟩;go_wp2_with fail;refine(pone _).mono ?_;rintro e w1 ⟨rfl,rfl⟩;go_wp2_with fail;refine(pc1 _).mono ?_;rintro e w2 ⟨rfl,b2⟩;go_wp2_with fail;go_returns;exact jK HY.out ((ae b0 b2))
  have t3:=jU h3;have HW2:=Pd (HW1.out.trans (aab h3));clear HW1 h3;by_cases hz:0<=z1
  ·have HY:=Pd (HW2.out.trans (aaa hz))
   clear HW2;go_enter adr,ada;go_wp2_with fail;refine(pva _).mono ?_;rintro e w0 ⟨rfl,b0⟩;go_wp2_with fail;refine(pone _).mono ?_;rintro e w1 ⟨rfl,rfl⟩;go_wp2_with fail;refine(pc1 _).mono ?_;rintro e w2 ⟨rfl,b2⟩;go_wp2_with fail;go_returns;exact jK HY.out ((ae b0 b2))
  have hz':z1<0:=by omega
  have HW3:=Pd (HW2.out.trans (aab hz));clear HW2 hz;obtain⟨d,e⟩:=sb;by_cases he:e=0
  ·subst he
   have Yh:=Pd (HW3.out.trans (aab (by simp)));clear HW3;obtain⟨D,hD⟩:∃D:ByteArray,(⟨d.toArray⟩:ByteArray)=D:=⟨_,rfl⟩;have Vy:d=D.data.toList:=by rw[<-hD]
   subst Vy;have psub:∀W:World,Calls Tryz.prog 185 #[.string ⟨#[49]⟩,.string a] W (fun e w'=>e=.returned (.tuple #[.string D,.int .i64 0])/\Below W W w'):=psub;have hds:D.size<=9223372036854775807:=by rw[aae];exact hsl
   have pdiv:=fun W=>Rat3.Kb ⟨#[49]⟩ D W (by decide) hds
   rw[EJ]at pdiv;obtain⟨q,hq⟩:∃x,Rat3.lS [49] D.data.toList=x:=⟨_,rfl⟩;have HY:Hid (R=q):=Yh.out.trans hq;rw[hq]at pdiv;clear Yh hD hq hsl hds;go_enter adr,ada;go_wp2_with fail;refine(pva _).mono ?_;rintro e w0 ⟨rfl,b0⟩;go_wp2_with fail;refine(pone _).mono ?_;rintro e w1 ⟨rfl,rfl⟩;go_wp2_with fail;refine(pc1 _).mono ?_;rintro e w2 ⟨rfl,b2⟩;go_wp2_with fail;refine(psub _).mono ?_;rintro e w3 ⟨rfl,b3⟩;go_wp2_with fail;refine(pdiv _).mono ?_;rintro e w4 ⟨rfl,b4⟩;go_wp2_with fail;go_returns;exact⟨by rw[HY.out];(try rfl),ae (ae (ae b0 b2) b3) b4⟩
  ·have HY:Hid (R=([],e)):=HW3.out.trans (aaa he)
   have he':((e:Int) != 0)=true:=(by simpa using he);have psub:∀W:World,Calls Tryz.prog 185 #[.string ⟨#[49]⟩,.string a] W (fun e' w'=>e'=.returned (.tuple #[.string ⟨d.toArray⟩,.int .i64 e])/\Below W W w'):=psub;clear HW3 he hsl;go_enter adr,ada;go_wp2_with fail;refine(pva _).mono ?_;rintro e w0 ⟨rfl,b0⟩;go_wp2_with fail;refine(pone _).mono ?_;rintro e w1 ⟨rfl,rfl⟩;go_wp2_with fail;refine(pc1 _).mono ?_;rintro e w2 ⟨rfl,b2⟩;go_wp2_with fail;refine(psub _).mono ?_;rintro e w3 ⟨rfl,b3⟩;go_wp2_with fail;go_returns;exact jK HY.out ((ae (ae b0 b2) b3))
def aZ(w:World)(b:Nat)(l:List Bs):Prop:=w.heap[b]? = some (.cells (l.map S).toArray 9)
def oM{w:World}{b:Nat}{o:Obj}(h:w.heap[b]? = some o):b<w.heap.size:=by
 rcases aaz b w.heap.size with hh|hh
 ·exact hh
 ·rw[abY hh]at h;cases h
def aZ.lt{w:World}{b:Nat}{l:List Bs}(h:aZ w b l):b<w.heap.size:=oM h
def aZ.cell{w:World}{b:Nat}{l:List Bs}(h:aZ w b l){j:Nat}(hj:j<l.length):w.cell? ⟨b,j,none⟩=some (S l[j]):=by
 rw[aap w b j _ _ (0,0) h];simp[aak hj]
def aZ.free{w:World}{b:Nat}{l:List Bs}(h:aZ w b l)(j:Nat):w.frozen? ⟨b,j,none⟩=false:=by
 unfold World.frozen?;rw[show w.heap[b]? = some (.cells (l.map S).toArray 9) from h];simp
def aZ.set{w:World}{b:Nat}{l:List Bs}(h:aZ w b l)(j:Nat)(x:Bs):aZ (w.setCell ⟨b,j,none⟩ (S x)) b (l.set j x):=by
 unfold aZ World.setCell;simp only[ab4];rw[show w.heap[b]? = some (.cells (l.map S).toArray 9) from h];simp[ac3]
def aZ.below{w w':World}{b:Nat}{l:List Bs}(h:aZ w b l)(hb:Below w w w'):aZ w' b l:=(hb.block b h.lt).trans h
structure df (b:Nat) (w w':World):Prop where
 low:∀B,B<=b->B<=w.heap.size->Below B w w'
 same:∀j,j<w.heap.size->j≠b->w'.heap[j]? = w.heap[j]?
def df.of_below{b:Nat}{w w':World}(h:Below w w w'):df b w w':=⟨fun B h1 h2=>h.mono h2,fun j hj _=>h.block j hj⟩
def df.trans{b:Nat}{w w1 w2:World}(h:df b w w1)(h':df b w1 w2):df b w w2:=
 ⟨fun B h1 h2=>(h.low B h1 h2).trans (h'.low B h1 (aaB h2 (h.low B h1 h2).size)),fun j hj hne=>(h'.same j (aah hj (h.low 0 (aaS _) (aaS _)).size) hne).trans (h.same j hj hne)⟩
def df.set{b:Nat}{w w1:World}(h:df b w w1)(j:Nat)(v:Value):df b w (w1.setCell ⟨b,j,none⟩ v):=
 ⟨fun B h1 h2=>(h.low B h1 h2).setCell (p:=⟨b,j,none⟩) h1 _,fun i hi hne=>(aa2 w1 ⟨b,j,none⟩ v i hne).trans (h.same i hi hne)⟩
def df.size{b:Nat}{w w1:World}(h:df b w w1):w.heap.size<=w1.heap.size:=(h.low 0 (aaS _) (aaS _)).size
def BI(v:Value)(n:Nat):madeCells #[v] (n*1)=Array.replicate n v:=by
 unfold madeCells;apply Array.ext_getElem?;intro i;simp only[acN,Array.getElem?_map,Array.getElem?_replicate];rcases aaz i n with h|h
 ·rw[Array.getElem?_eq_getElem (by simpa using h),aaa h]
  simp[Nat.mod_one]
 ·rw[abY (by simpa using h),aab (by omega)]
  rfl
def Jp(n:Nat)(hn:n<=1000000)(W:World):(Instr.makeSlice 22 (.int .i64 (n:Int)) (.int .i64 (n:Int))).run Tryz.prog W=.ok (.slice (some ⟨W.heap.size,0,none⟩) n n) (W.alloc (.cells (Array.replicate n (.string ⟨#[]⟩)) 9)):=by
 obtain⟨i0,hi,hz0,hz1,hz2⟩:=abm rW;have h:=run_make (P:=Tryz.prog) W 22 9 i0 (.string ⟨#[]⟩) abU hi hz0 .i64 .i64 (n:Int) (n:Int) (by omega) (Int.le_refl _) (by rw[hz2];omega) (by omega);rw[h,hz1];simp only[abT];rw[show(Value.string ⟨#[]⟩).cells=#[.string ⟨#[]⟩] from rfl,BI]
def Oj(w:World)(n:Nat):aZ (w.alloc (.cells (Array.replicate n (.string ⟨#[]⟩)) 9)) w.heap.size (List.replicate n []):=by
 unfold aZ;rw[aaq];simp[S]
def OC{n k:Nat}(z:Bs)(hk:k<n):(List.replicate k z++List.replicate (n-k) ([]:Bs)).set k z=List.replicate (k+1) z++List.replicate (n-(k+1)) []:=by
 apply adC;intro i;simp only[ab2,adh,aas,ac7,abv]
 repeat' split
 all_goals first|rfl|omega|skip
 all_goals simp_all<;>omega
def wu(m:aQ)(A:Option Addr)(c:Nat)(w:World)(h1:1<=m.states.length)(h2:m.states.length<=3000):Calls Tryz.prog 63 #[di m A c] w fun e w'=>∃b,e=.returned (.slice (some ⟨b,0,none⟩) m.states.length m.states.length)/\aZ w' b (eT m)/\w.heap.size<=b/\Below w w w':=by
 have HZ:Hid (eT m=List.replicate m.states.length (aF m.kind)):=rfl;unfold di S;have p1:=fun W=>o9 m.kind W
 obtain⟨Z,hZ⟩:∃Z:ByteArray,(⟨(aF m.kind).toArray⟩:ByteArray)=Z:=⟨_,rfl⟩;have HSZ:Hid (S (aF m.kind)=.string Z):=by unfold Hid S;rw[hZ]
 unfold S at p1;rw[hZ]at p1;clear hZ;generalize eT m=R at*;obtain⟨kd,st,ld,ss⟩:=m;simp only at*;generalize (⟨ld.toArray⟩:ByteArray)=Ld at*;generalize ss.length=n at*;have z0:=az w #[.int .i64 kd,.int .i64 st,.string Ld,.slice A n c] 30 0 _ rfl;have z3:=az w #[.int .i64 kd,.int .i64 st,.string Ld,.slice A n c] 30 3 _ rfl;have hb0:Below w w (w.alloc (.cells #[.int .i64 kd,.int .i64 st,.string Ld,.slice A n c] 30)):=(aac _ _).alloc (Pe _) _;have hn0:w.heap.size<(w.alloc (.cells #[.int .i64 kd,.int .i64 st,.string Ld,.slice A n c] 30)).heap.size:=by simp
 have d1:(1:Int)<=(n:Int):=by omega
 have d2:(n:Int)<=3000:=by omega
 go_enter Tryz.func63,Tryz.ntmps63;have hmk:=Jp n (by omega);go_wp2_with fail;generalize hw0:w.alloc (.cells #[.int .i64 kd,.int .i64 st,.string Ld,.slice A n c] 30)=w0 at*;have hv0:=Oj w0 n;have hbB:Below w0 w0 (w0.alloc (.cells (Array.replicate n (.string ⟨#[]⟩)) 9)):=(aac _ _).alloc (Pe _) _;generalize w0.alloc (.cells (Array.replicate n (.string ⟨#[]⟩)) 9)=w1 at*;have hs0:w0.heap.size=w.heap.size+1:=by rw[<-hw0];simp
 have hn1:w.heap.size<w0.heap.size:=hn0;rw[hs0]at hv0;have VQ:=Pd hs0;clear hw0 hmk hs0
 go_loopw [4] (fun i wr=>∃(k:Nat),i=.int .i64 k/\k<=n/\aZ wr (w.heap.size+1) (List.replicate k (aF kd)++List.replicate (n-k) [])/\Below w0 w0 wr) (fun i _=>n-(intOf i).toNat)
 case atStart=>exact⟨0,rfl,by omega,by simpa using hv0,hbB⟩
 case round=>
  obtain⟨k,rfl,hk,hv,hB⟩:=hrel;have hz0:=(hB.cell (p:=⟨w.heap.size,0,none⟩) hn0).trans z0;by_cases hlt:k<n
  ·have i0:(0:Int)<=(k:Int):=by omega
   have il:(k:Int)<(n:Int):=(by omega);have hlen:(List.replicate k (aF kd)++List.replicate (n-k) ([]:Bs)).length=n:=by simp;omega
   have hc:=hv.cell (j:=k) (by rw[hlen];exact hlt);have hf:=hv.free k;obtain⟨x,hx⟩:∃x,S (List.replicate k (aF kd)++List.replicate (n-k) ([]:Bs))[k]=x:=⟨_,rfl⟩;rw[hx]at hc;have hv2:=hv.set k (aF kd);rw[OC (aF kd) hlt,HSZ.out]at hv2;have hB2:=hB.setCell (p:=⟨w.heap.size+1,k,none⟩) (by rw[VQ.out];exact Pe _) (.string Z);clear hx hlen hv;go_wp2_with fail;refine(p1 _).mono ?_;rintro e w3 ⟨rfl,rfl⟩;go_wp2_with fail;go_roundw
   case rel=>exact⟨k+1,by go_num,by omega,hv2,hB2⟩
   case measure=>simp[intOf];omega
  ·obtain rfl:k=n:=by omega
   go_wp2_with fail;go_returns;refine⟨w.heap.size+1,rfl,?_,adU _,ae hb0 hB⟩;rw[HZ.out]
   simpa using hv
def aDk(w:World)(b:Nat)(r:Except Nat Vec)(e:Ending)(w':World):Prop:=df b w w'/\match r with
 |.ok l=>e=.returned (.int .i64 0)/\aZ w' b l
 |.error n=>e=.returned (.int .i64 n)/\n≠0
def uy(k:Int)(bv c:Nat)(l:List Bs)(i:Int)(a b:ByteArray)(w:World)(hV:aZ w bv l)(h0:0<=i)(hl:i<l.length)(ha:a.size<=802)(hb:b.size<=802)(hs:(l.getD i.toNat []).length<=802):Calls Tryz.prog 88 #[.int .i64 k,.slice (some ⟨bv,0,none⟩) l.length c,.int .i64 i,.string a,.string b] w (aDk w bv (fK k l i.toNat a.data.toList b.data.toList)):=by
 have p1:=fun W=>Mo k a b W (by omega) (by omega)
 have HV:Hid (fK k l i.toNat a.data.toList b.data.toList=if (iV k a.data.toList b.data.toList).2≠0 then .error (iV k a.data.toList b.data.toList).2
 else if (fI k (l.getD i.toNat []) (iV k a.data.toList b.data.toList).1).2≠0 then .error (fI k (l.getD i.toNat []) (iV k a.data.toList b.data.toList).1).2
 else .ok (l.set i.toNat (fI k (l.getD i.toNat []) (iV k a.data.toList b.data.toList).1).1)):=rfl
 have htl:=DW k a.data.toList b.data.toList;generalize fK k l i.toNat a.data.toList b.data.toList=R at*;generalize iV k a.data.toList b.data.toList=tm at*;obtain⟨t,n⟩:=tm;unfold Rat3.aA at p1;obtain⟨T,hT⟩:∃T:ByteArray,(⟨t.toArray⟩:ByteArray)=T:=⟨_,rfl⟩;have Yt:t=T.data.toList:=by rw[<-hT]
 simp only at p1 HV htl;rw[hT]at p1;subst Yt;have hTs:T.size<=802:=by rw[aae];exact htl
 clear hT htl;by_cases hn:n=0
 ·subst hn
  have Vu:=Pd (HV.out.trans (aab (by simp)));clear HV;obtain⟨j,hj⟩:∃j:Nat,i=(j:Int):=⟨i.toNat,by omega⟩;subst hj;simp only[abT]at Vu hs;have hj:j<l.length:=by omega
  have hx:l.getD j []=l[j]:=by rw[aaf,aak hj];rfl
  rw[hx]at Vu hs;have k0:=hV.cell hj;have f0:=hV.free j;obtain⟨X,hX⟩:∃X:ByteArray,(⟨l[j].toArray⟩:ByteArray)=X:=⟨_,rfl⟩;have UB:l[j]=X.data.toList:=by rw[<-hX]
  unfold S at k0;rw[hX]at k0;rw[UB]at Vu hs;have Vm:X.size<=802:=by rw[aae];exact hs
  clear hX hx;have p2:=fun W=>yO k X T W (by omega) (by omega)
  generalize fI k X.data.toList T.data.toList=sm at*;obtain⟨u,m⟩:=sm;unfold Rat3.aA at p2;simp only at p2 Vu;obtain⟨U,hU⟩:∃U:ByteArray,(⟨u.toArray⟩:ByteArray)=U:=⟨_,rfl⟩;have UU:u=U.data.toList:=by rw[<-hU]
  rw[hU]at p2;subst UU;have hbl:=hV.lt;clear hU UB;have i0:(0:Int)<=(j:Int):=by omega
  have il:(j:Int)<(l.length:Int):=by omega
  by_cases hm:m=0
  ·subst hm
   have HY:=Pd (Vu.out.trans (aab (by simp)));clear Vu;have HV:=Pd hV;clear hV hs h0 hl;go_enter Tryz.func88,Tryz.ntmps88;go_wp2_with fail;refine(p1 _).mono ?_;rintro e w1 ⟨rfl,b1⟩;have k1:=(b1.cell (p:=⟨bv,j,none⟩) hbl).trans k0;go_wp2_with fail;refine(p2 _).mono ?_;rintro e w2 ⟨rfl,b2⟩;have bb:=ae b1 b2;have k2:=(bb.cell (p:=⟨bv,j,none⟩) hbl).trans k0;have f2:=(bb.frozen (p:=⟨bv,j,none⟩) hbl).trans f0;have Vu:=Pd (HV.out.below bb);go_wp2_with fail;go_returns;unfold aDk;rw[HY.out];exact⟨(df.of_below bb).set j _,rfl,Vu.out.set j U.data.toList⟩
  ·have HY:=Pd (Vu.out.trans (aaa hm))
   have t1:((m:Int)==0)=false:=(by simpa using hm);have HM:=Pd hm;clear Vu hm;have HV:=Pd hV;clear hV hs h0 hl;go_enter Tryz.func88,Tryz.ntmps88;go_wp2_with fail;refine(p1 _).mono ?_;rintro e w1 ⟨rfl,b1⟩;have k1:=(b1.cell (p:=⟨bv,j,none⟩) hbl).trans k0;go_wp2_with fail;refine(p2 _).mono ?_;rintro e w2 ⟨rfl,b2⟩;have bb:=ae b1 b2;go_wp2_with fail;go_returns;unfold aDk;rw[HY.out];exact⟨df.of_below bb,rfl,HM.out⟩
 ·have HY:=Pd (HV.out.trans (aaa hn))
  have t1:((n:Int) != 0)=true:=by simpa using hn
  have HM:=Pd hn;clear HV hn;clear hs;go_enter Tryz.func88,Tryz.ntmps88;go_wp2_with fail;refine(p1 _).mono ?_;rintro e w1 ⟨rfl,b1⟩;go_wp2_with fail;go_returns;unfold aDk;rw[HY.out];exact⟨df.of_below b1,rfl,HM.out⟩
end Go.Proofs.YtppnecgeboonbaaGreatDoor
