/- The reference of layer 22: written, part. -/
import Derived.Test.YtppnecgeboonbaaGreatDoorZ25
namespace Go.Proofs.YtppnecgeboonbaaGreatDoor
set_option maxRecDepth 100000
set_option linter.unusedVariables false
set_option maxHeartbeats 4000000
open Go.RowKit Go.Maps
theorem wm (op:UInt8) (t v:ByteArray) (w:World) (hsz:t.size<=16384) (hsv:v.size<=16384):Calls Tryz.prog 49 #[.agg #[.int .u8 op.toNat,.string t,.string v]] w fun e w'=>e=.returned (.string ⟨(bU (aD op t v)).toArray⟩)/\Below w.heap.size w w':=by
 have hb0:Below w.heap.size w (w.alloc (.cells #[.int .u8 op.toNat,.string t,.string v] 24)):=(Below.refl _ _).alloc (Nat.le_refl _) _;have k0:(w.alloc (.cells #[.int .u8 op.toNat,.string t,.string v] 24)).cell? ⟨w.heap.size,0,none⟩=some (.int .u8 op.toNat):=aJ w _ _ 0 _ rfl;have k1:(w.alloc (.cells #[.int .u8 op.toNat,.string t,.string v] 24)).cell? ⟨w.heap.size,1,none⟩=some (.string t):=aJ w _ _ 1 _ rfl;have k2:(w.alloc (.cells #[.int .u8 op.toNat,.string t,.string v] 24)).cell? ⟨w.heap.size,2,none⟩=some (.string v):=aJ w _ _ 2 _ rfl;obtain⟨Y,hY⟩:∃ Y:ByteArray,(⟨#[op]⟩:ByteArray)=Y:=⟨_,rfl⟩;have hYs:Y.size=1:=by rw [<-hY];rfl
 have hYd:Y.data.toList=[op]:=by rw [<-hY]
 have hcv:=fun W=>Ab op W
 rw [hY] at hcv;clear hY;have hcv0:=hcv (w.alloc (.cells #[.int .u8 op.toNat,.string t,.string v] 24));rw [World.size_alloc] at hcv0;have bA:=(Below.refl (w.alloc (.cells #[.int .u8 op.toNat,.string t,.string v] 24)).heap.size (w.alloc (.cells #[.int .u8 op.toNat,.string t,.string v] 24))).alloc (Nat.le_refl _) (.cells #[.int .u8 op.toNat] 5);have hlt:w.heap.size<(w.alloc (.cells #[.int .u8 op.toNat,.string t,.string v] 24)).heap.size:=by simp
 have j1:=(bA.cell (p:=⟨w.heap.size,1,none⟩) hlt).trans k1;have j2:=(bA.cell (p:=⟨w.heap.size,2,none⟩) hlt).trans k2;by_cases hv0:v.size=0
 ·have hem:=jF hv0
  go_enter Tryz.func49,Tryz.ntmps49;go_wp2_with fail;go_returns;refine⟨?_,ae hb0 bA⟩;refine uD ?_;show _=bU _;unfold bU gZ;rw [if_pos (fF hv0)];simp [hYd]
 ·have hem:=jI hv0
  go_enter Tryz.func49,Tryz.ntmps49;go_wp2_with fail;go_returns;refine⟨?_,ae hb0 bA⟩;refine uD ?_;show _=bU _;unfold bU gZ;rw [if_neg (gB hv0)];simp [hYd]
theorem zb {t:Bs} (h:dF t=true):t≠[]:=by
 intro e;subst e;exact absurd h (by decide)
theorem xk {t:Bs} (h:t≠[]):aM t 0=(t.headD 0).toNat:=by
 cases t with
 | nil=>exact absurd rfl h
 | cons a b=>rfl
theorem Oh {t:Bs} (h:dF t=true) (hb:(t.headD 0).toNat<128):t=[t.headD 0]/\(point t 0).1=(t.headD 0).toNat:=by
 have hne:=zb h;obtain⟨h1,h2⟩:=ze h;have hl:¬ t.length<=0:=by have:=List.length_pos_iff.2 hne;omega
 have e:point t 0=(aM t 0,1):=by unfold point;rw [if_neg hl,if_pos (by rw [xk hne];exact hb)]
 rw [e] at h2;have h2':t.length=1:=h2.symm;refine⟨?_,by rw [e,xk hne]⟩
 cases t with
 | nil=>exact absurd rfl hne
 | cons a b=>simp at h2';subst h2';rfl
theorem Oi {t:Bs} (h:dF t=true) (hb:(point t 0).1<128):t=[t.headD 0]/\(point t 0).1=(t.headD 0).toNat:=by
 apply Oh h;have hne:=zb h;have hl:¬ t.length<=0:=by have:=List.length_pos_iff.2 hne;omega
 rcases Nat.lt_or_ge (t.headD 0).toNat 128 with hh|hh
 ·exact hh
 exfalso;rw [<-xk hne] at hh;have ho:0<(point t 0).2:=of_decide_eq_true (ze h).1;unfold point at hb ho;rw [if_neg hl,if_neg (by omega)] at hb ho
 split at hb
 ·simp only at hb;omega
 ·rename_i n1
  rw [if_neg n1] at ho
  split at hb
  ·simp only at hb;omega
  ·rename_i n2
   rw [if_neg n2] at ho
   split at hb
   ·simp only at hb;omega
   ·rename_i n3
    rw [if_neg n3] at ho;exact absurd ho (by decide)
open Go.RowKit
def kP (p:Bs):Bool:=decide (p=[46]\/p=[64])
theorem FD {t:Bs} (h:dF t=true):ed t=kP t:=by
 have hne:=zb h;obtain⟨h1,h2⟩:=ze h;have hs:(⟨t.toArray⟩:ByteArray).data.toList=t:=rfl;have hpos:0<(⟨t.toArray⟩:ByteArray).size:=by rw [Lib.size_eq,hs];exact List.length_pos_iff.2 hne
 obtain⟨r,n,e1,-,-,-,e5⟩:=zI hpos;have hx:((⟨t.toArray⟩:ByteArray).extract 0 (⟨t.toArray⟩:ByteArray).size).data.toList=t:=by
  rw [eH,hs,List.drop_zero];exact List.take_of_length_le (by rw [Lib.size_eq,hs];omega)
 rw [xD _ 0 hpos,Gj (by rw [hx];exact h),hx] at e1;have er:(point t 0).1=r:=by rw [e1]
 have en:n=t.length:=by rw [<-h2,e1]
 rw [hs,List.drop_zero,en,List.take_of_length_le (Nat.le_refl _)] at e5;have hsm:∀ c:UInt8,r=c.toNat->c.toNat<128->t=[c]:=by
  intro c hc hlt;obtain⟨g1,g2⟩:=Oi h (by rw [er,hc];exact hlt);rw [er,hc] at g2;rw [g1];have:t.headD 0=c:=UInt8.toNat_inj.1 g2.symm;rw [this]
 unfold kP;by_cases hb:ed t=true
 ·rw [hb]
  rcases e5.2 hb with h|h
  ·exact (decide_eq_true (Or.inl (hsm 46 (by show r=46;omega) (by decide)))).symm
  ·exact (decide_eq_true (Or.inr (hsm 64 (by show r=64;omega) (by decide)))).symm
 ·rw [Bool.not_eq_true] at hb
  rw [hb];refine (decide_eq_false ?_).symm;rintro (e|e) <;> rw [e] at hb <;> exact absurd hb (by decide)
theorem Eo:∀ (l:List Bs) (i:Nat),iX l i=none->∀ p∈l,dF p=true
 | [],_,_,p,hp=>absurd hp List.not_mem_nil
 | q::l,i,h,p,hp=>by
  unfold iX at h;by_cases hq:dF q=true
  ·rw [if_pos hq] at h
   rcases List.mem_cons.1 hp with rfl|hp
   ·exact hq
   ·exact Eo l _ h p hp
  ·rw [if_neg hq] at h;cases h
theorem zJ:∀ (l:List Bs),ed l.flatten=l.any ed
 | []=>rfl
 | p::l=>by
  rw [List.flatten_cons,List.any_cons,<-zJ l];unfold ed;rw [List.any_append]
theorem zD {α:Type} {p q:α->Bool}:∀ {l:List α},(∀ x∈l,p x=q x)->l.any p=l.any q
 | [],_=>rfl
 | x::l,h=>by rw [List.any_cons,List.any_cons,h x List.mem_cons_self,zD fun y hy=>h y (List.mem_cons_of_mem _ hy)]
theorem Ed {s:Bs} (h:eQ s=0):gW s=pieces s/\∀ p∈pieces s,dF p=true:=by
 unfold eQ iC at h;unfold gW iC;by_cases hl:16384<s.length
 ·rw [if_pos hl] at h;cases h
 ·rw [if_neg hl] at h ⊢
  cases hs:iX (pieces s) 0 with
  | some i=>rw [hs] at h;cases h
  | none=>exact⟨rfl,Eo _ _ hs⟩
theorem Ka (s:Bs):dM s=(decide (eQ s=0) && !(gW s).isEmpty && !(gW s).any kP):=by
 unfold dM;by_cases he:eQ s=0
 ·obtain⟨e1,e2⟩:=Ed he
  rw [zH,e1,decide_eq_true he];have hf:=zJ (pieces s);rw [CX] at hf;rw [hf,zD fun p hp=>FD (e2 p hp)];have:s.isEmpty=(pieces s).isEmpty:=by
   cases s with
   | nil=>rfl
   | cons a b=>rw [rE _ (by simp)];rfl
  rw [this]
 ·rw [decide_eq_false he];simp
theorem LK {w:World} {A:Option Addr} {l:List Bs} (h:ay w A (l.map S)) {k:Nat} (hk:k<l.length):∃ b o,A=some ⟨b,o,none⟩/\b<w.heap.size/\w.cell? ⟨b,o+k,none⟩=some (S l[k]):=by
 obtain⟨b,o,rfl,hlt,hcell⟩:=h (by intro e;rw [List.map_eq_nil_iff] at e;subst e;simp at hk);exact⟨b,o,rfl,hlt,hcell k _ (by rw [List.getElem?_map,List.getElem?_eq_getElem hk];rfl)⟩
theorem DL (s:ByteArray) (w:World) (hs:s.size<=16384):Calls Tryz.prog 81 #[.string s] w fun e w'=>e=.returned (.bool (dM s.data.toList))/\Below w.heap.size w w':=by
 have c1:=L9 s w hs;have HP:=Lib.hid (Ka s.data.toList);have hlen:(gW s.data.toList).length<=16384:=by
  by_cases he:eQ s.data.toList=0
  ·rw [(Ed he).1]
   refine Nat.le_trans (CZ s.data.toList) ?_;rw [<-Lib.size_eq];exact hs
  ·have:gW s.data.toList=[]:=by
    unfold eQ iC at he;unfold gW iC
    split
    ·rfl
    ·rename_i h1
     rw [if_neg h1] at he
     cases hs:iX (pieces s.data.toList) 0 with
     | some i=>rfl
     | none=>rw [hs] at he;exact absurd rfl he
   rw [this];exact Nat.zero_le _
 generalize gW s.data.toList=l at *;generalize kY s.data.toList=at' at *;generalize eQ s.data.toList=e' at *;unfold qL at c1;by_cases he:e'=0
 ·subst he
  by_cases h0:l.length=0
  ·have:l=[]:=List.length_eq_zero_iff.1 h0
   subst this;have HX:Hid (dM s.data.toList=false):=HP.out.trans (by simp);clear HP hs h0 hlen;go_enter Tryz.func81,Tryz.ntmps81;go_wp2_with fail;refine c1.mono ?_;rintro e w1 ⟨A,c,rfl,_,_,b1⟩;go_wp2_with fail;go_returns;exact⟨by rw [HX.out];(try rfl),b1⟩
  ·have hne:((l.length:Int) == 0)=false:=by simpa using h0
   have HX:Hid (dM s.data.toList=!l.any kP):=HP.out.trans (by cases l with|nil=>exact absurd rfl h0|cons a b=>simp);clear HP hs;go_enter Tryz.func81,Tryz.ntmps81;go_wp2_with fail;refine c1.mono ?_;rintro e w1 ⟨A,c,rfl,_,hrow,b1⟩;have HR:=Lib.hid hrow;clear hrow;go_wp2_with fail
   go_loopw [6] (fun i wr=>∃ (k:Nat),i=.int .i64 k/\k<=l.length/\Below w.heap.size w wr/\Below w1.heap.size w1 wr/\Hid (∀ p∈l.take k,(!kP p)=true)) (fun i _=>l.length-(intOf i).toNat)
   case atStart=>exact⟨0,rfl,by omega,b1,Below.refl _ _,by simp [Hid]⟩
   case round =>
    obtain⟨k,rfl,hk,hB,hB1,HN⟩:=hrel;by_cases hlt:k<l.length
    ·obtain⟨b,o,rfl,hbl,hc0⟩:=LK HR.out hlt
     have HF:Hid (kP l[k]=true->dM s.data.toList=false):=fun h=>by
      rw [HX.out,List.any_eq_true.2 ⟨l[k],List.getElem_mem _,h⟩];rfl
     have HT:Hid (kP l[k]=false->∀ p∈l.take (k+1),(!kP p)=true):=fun h=>xQ hlt HN.out (by rw [h];rfl)
     generalize l[k]=p at *;obtain⟨P,hP⟩:∃ P:ByteArray,(⟨p.toArray⟩:ByteArray)=P:=⟨_,rfl⟩;have hPd:P.toList=p:=by rw [<-hP,Lib.toList_data]
     have k1:wr.cell? ⟨b,o+k,none⟩=some (.string P):=(hB1.cell (p:=⟨b,o+k,none⟩) hbl).trans (by rw [hc0,S,hP]);have i0:(0:Int)<=(k:Int):=by omega
     have il:(k:Int)<(l.length:Int):=by omega
     clear hP hc0;by_cases h46:p=[46]
     ·have t1:(P.toList == [46])=true:=by rw [hPd,h46];rfl
      have HY:=Lib.hid (HF.out (by unfold kP;exact decide_eq_true (Or.inl h46)));clear hPd h46;go_wp2_with fail;go_returns;exact⟨by rw [HY.out];(try rfl),hB⟩
     ·have t1:(P.toList == [46])=false:=by rw [hPd];simpa using h46
      by_cases h64:p=[64]
      ·have t2:(P.toList == [64])=true:=by rw [hPd,h64];rfl
       have HY:=Lib.hid (HF.out (by unfold kP;exact decide_eq_true (Or.inr h64)));clear hPd h46 h64;go_wp2_with fail;go_returns;exact⟨by rw [HY.out];(try rfl),hB⟩
      ·have t2:(P.toList == [64])=false:=by rw [hPd];simpa using h64
       have HY:=Lib.hid (HT.out (by unfold kP;exact decide_eq_false (by rintro (h|h) <;> contradiction)));clear hPd h46 h64;go_wp2_with fail;go_roundw
       case rel=>exact⟨k+1,by go_num,by omega,hB,hB1,HY.out⟩
       case measure=>simp [intOf];omega
    ·obtain rfl:k=l.length:=by omega
     have HY:Hid (dM s.data.toList=true):=by
      have:=HN.out;rw [List.take_length] at this;have ha:l.any kP=false:=by
       rw [List.any_eq_false];intro p hp;have:=this p hp
       simpa using this
      rw [Hid,HX.out,ha];rfl
     go_wp2_with fail;go_returns;exact⟨by rw [HY.out];(try rfl),hB⟩
 ·have HX:Hid (dM s.data.toList=false):=HP.out.trans (by rw [decide_eq_false he];rfl)
  have hne:(((e':Nat):Int) != 0)=true:=by simpa using he
  clear HP hs;go_enter Tryz.func81,Tryz.ntmps81;go_wp2_with fail;refine c1.mono ?_;rintro e w1 ⟨A,c,rfl,_,_,b1⟩;go_wp2_with fail;go_returns;exact⟨by rw [HX.out];(try rfl),b1⟩
set_option linter.unusedSimpArgs false
theorem Hz {op:UInt8} {t v:ByteArray} (h:dM t.data.toList=false):aN (aD op t v)=false:=by unfold aN jE;simp [h]
theorem H7 {op:UInt8} {t v:ByteArray} (hv:v.data.toList≠[]) (h:dM v.data.toList=false):aN (aD op t v)=false:=by unfold aN jE;simp [h,hv]
theorem H8 {op:UInt8} {t v:ByteArray} (h:¬ (bU (aD op t v)).length<=40):aN (aD op t v)=false:=by unfold aN;rw [decide_eq_false h];simp
theorem oC (c d:UInt8):((c.toNat:Int) == (d.toNat:Int))=decide (c=d):=by
 by_cases h:c=d
 ·subst h;simp
 ·rw [decide_eq_false h,beq_eq_false_iff_ne]
  intro e;exact h (UInt8.toNat_inj.1 (by omega))
theorem yI (op:UInt8) (t v:ByteArray) (w:World) (hts:t.size<=16384) (hvs:v.size<=16384):Calls Tryz.prog 48 #[.agg #[.int .u8 op.toNat,.string t,.string v]] w fun e w'=>e=.returned (.bool (aN (aD op t v)))/\Below w.heap.size w w':=by
 have p1:=fun W=>DL t W hts
 have p2:=fun W=>DL v W hvs
 have p3:=fun W=>wm op t v W hts hvs
 obtain⟨U,hU⟩:∃ U:ByteArray,(⟨(bU (aD op t v)).toArray⟩:ByteArray)=U:=⟨_,rfl⟩;have hUs:(bU (aD op t v)).length=U.size:=by rw [<-hU,Lib.size_eq]
 rw [hU] at p3;have u80:=oC op 80;have u78:=oC op 78;have u85:=oC op 85;have u67:=oC op 67;have u82:=oC op 82;have u68:=oC op 68;have k0:(w.alloc (.cells #[.int .u8 op.toNat,.string t,.string v] 24)).cell? ⟨w.heap.size,0,none⟩=some (.int .u8 op.toNat):=aJ w _ _ 0 _ rfl;have k1:(w.alloc (.cells #[.int .u8 op.toNat,.string t,.string v] 24)).cell? ⟨w.heap.size,1,none⟩=some (.string t):=aJ w _ _ 1 _ rfl;have k2:(w.alloc (.cells #[.int .u8 op.toNat,.string t,.string v] 24)).cell? ⟨w.heap.size,2,none⟩=some (.string v):=aJ w _ _ 2 _ rfl;have hb0:Below w.heap.size w (w.alloc (.cells #[.int .u8 op.toNat,.string t,.string v] 24)):=(Below.refl _ _).alloc (Nat.le_refl _) _;have hlt:w.heap.size<(w.alloc (.cells #[.int .u8 op.toNat,.string t,.string v] 24)).heap.size:=by simp
 clear hU hts hvs;have HV:Hid (aN (aD op t v)=(eD op && dM t.data.toList && (if v.data.toList=[] then !fA op else fw op && dM v.data.toList) && decide (U.size<=40))):=by unfold Hid aN jE;rw [hUs]
 have HL:Hid (¬ U.size<=40->aN (aD op t v)=false):=fun h=>H8 (by rw [hUs];exact h)
 have HB1:Hid (dM t.data.toList=false->aN (aD op t v)=false):=Hz;have HB2:Hid (v.data.toList≠[]->dM v.data.toList=false->aN (aD op t v)=false):=H7;clear hUs;go_enter Tryz.func48,Tryz.ntmps48;go_wp2_with fail;generalize w.alloc (.cells #[.int .u8 op.toNat,.string t,.string v] 24)=w0 at *;refine (p1 _).mono ?_;rintro e w1 ⟨rfl,b1⟩;have j0:=(b1.cell (p:=⟨w.heap.size,0,none⟩) hlt).trans k0;have j1:=(b1.cell (p:=⟨w.heap.size,1,none⟩) hlt).trans k1;have j2:=(b1.cell (p:=⟨w.heap.size,2,none⟩) hlt).trans k2;have hlt1:w.heap.size<w1.heap.size:=Nat.lt_of_lt_of_le hlt b1.size;have bE:=ae hb0 b1;clear k0 k1 k2 b1 hb0 hlt p1
 cases hp1:dM t.data.toList with
 | false =>
  have HX:=Lib.hid (HB1.out hp1);clear hp1;go_wp2_with fail;go_returns;exact⟨by rw [HX.out];(try rfl),bE⟩
 | true =>
  rw [hp1] at HV;by_cases hv0:v.size=0
  ·have hem:=jF hv0
   have hvd:=fF hv0;rw [hvd] at HV;go_wp2_with fail;refine (p3 _).mono ?_;rintro e w3 ⟨rfl,b3⟩;have r0:=(b3.cell (p:=⟨w.heap.size,0,none⟩) hlt1).trans j0;have r1:=(b3.cell (p:=⟨w.heap.size,1,none⟩) hlt1).trans j1;have r2:=(b3.cell (p:=⟨w.heap.size,2,none⟩) hlt1).trans j2;replace bE:=ae bE b3;clear j0 j1 j2 b3 hlt1 p3;by_cases hle:U.size<=40
   ·have d1:(U.size:Int)<=40:=by omega
    by_cases h80:op=80
    ·have e80:((op.toNat:Int) == 80)=true:=by rw [h80];rfl
     have HX:Hid (aN (aD op t v)=false):=HV.out.trans (by rw [h80];simp [eD,fA,fw,hvd,hle]);clear h80;go_wp2_with fail;go_returns;exact⟨by rw [HX.out];(try rfl),bE⟩
    have e80:((op.toNat:Int) == 80)=false:=u80.trans (decide_eq_false h80);by_cases h78:op=78
    ·have e78:((op.toNat:Int) == 78)=true:=by rw [h78];rfl
     have HX:Hid (aN (aD op t v)=false):=HV.out.trans (by rw [h78];simp [eD,fA,fw,hvd,hle]);clear h78 h80;go_wp2_with fail;go_returns;exact⟨by rw [HX.out];(try rfl),bE⟩
    have e78:((op.toNat:Int) == 78)=false:=u78.trans (decide_eq_false h78);by_cases h85:op=85
    ·have e85:((op.toNat:Int) == 85)=true:=by rw [h85];rfl
     have HX:Hid (aN (aD op t v)=false):=HV.out.trans (by rw [h85];simp [eD,fA,fw,hvd,hle]);clear h85 h80 h78;go_wp2_with fail;go_returns;exact⟨by rw [HX.out];(try rfl),bE⟩
    have e85:((op.toNat:Int) == 85)=false:=u85.trans (decide_eq_false h85);by_cases h67:op=67
    ·have e67:((op.toNat:Int) == 67)=true:=by rw [h67];rfl
     have HX:Hid (aN (aD op t v)=true):=HV.out.trans (by rw [h67];simp [eD,fA,fw,hvd,hle]);clear h67 h80 h78 h85;go_wp2_with fail;go_returns;exact⟨by rw [HX.out];(try rfl),bE⟩
    have e67:((op.toNat:Int) == 67)=false:=u67.trans (decide_eq_false h67);by_cases h82:op=82
    ·have e82:((op.toNat:Int) == 82)=true:=by rw [h82];rfl
     have HX:Hid (aN (aD op t v)=true):=HV.out.trans (by rw [h82];simp [eD,fA,fw,hvd,hle]);clear h82 h80 h78 h85 h67;go_wp2_with fail;go_returns;exact⟨by rw [HX.out];(try rfl),bE⟩
    have e82:((op.toNat:Int) == 82)=false:=u82.trans (decide_eq_false h82);by_cases h68:op=68
    ·have e68:((op.toNat:Int) == 68)=true:=by rw [h68];rfl
     have HX:Hid (aN (aD op t v)=true):=HV.out.trans (by rw [h68];simp [eD,fA,fw,hvd,hle]);clear h68 h80 h78 h85 h67 h82;go_wp2_with fail;go_returns;exact⟨by rw [HX.out];(try rfl),bE⟩
    have e68:((op.toNat:Int) == 68)=false:=u68.trans (decide_eq_false h68);have HX:Hid (aN (aD op t v)=false):=HV.out.trans (by simp [eD,h80,h78,h85,h67,h82,h68,hle]);clear h80 h78 h85 h67 h82 h68;go_wp2_with fail;go_returns;exact⟨by rw [HX.out];(try rfl),bE⟩
   ·have d1:(40:Int)<(U.size:Int):=by omega
    have HX:=Lib.hid (HL.out hle);clear hle;go_wp2_with fail;go_returns;exact⟨by rw [HX.out];(try rfl),bE⟩
  ·have hem:=jI hv0
   have hvd:=gB hv0;go_wp2_with fail;refine (p2 _).mono ?_;rintro e w2 ⟨rfl,b2⟩;have q0:=(b2.cell (p:=⟨w.heap.size,0,none⟩) hlt1).trans j0;have q1:=(b2.cell (p:=⟨w.heap.size,1,none⟩) hlt1).trans j1;have q2:=(b2.cell (p:=⟨w.heap.size,2,none⟩) hlt1).trans j2;have hlt2:w.heap.size<w2.heap.size:=Nat.lt_of_lt_of_le hlt1 b2.size;replace bE:=ae bE b2;clear j0 j1 j2 b2 hlt1 p2
   cases hp2:dM v.data.toList with
   | false =>
    have HX:=Lib.hid (HB2.out hvd hp2);clear hp2;go_wp2_with fail;go_returns;exact⟨by rw [HX.out];(try rfl),bE⟩
   | true =>
    rw [hp2] at HV;go_wp2_with fail;refine (p3 _).mono ?_;rintro e w3 ⟨rfl,b3⟩;have r0:=(b3.cell (p:=⟨w.heap.size,0,none⟩) hlt2).trans q0;have r1:=(b3.cell (p:=⟨w.heap.size,1,none⟩) hlt2).trans q1;have r2:=(b3.cell (p:=⟨w.heap.size,2,none⟩) hlt2).trans q2;replace bE:=ae bE b3;clear q0 q1 q2 b3 hlt2 p3;by_cases hle:U.size<=40
    ·have d1:(U.size:Int)<=40:=by omega
     by_cases h80:op=80
     ·have e80:((op.toNat:Int) == 80)=true:=by rw [h80];rfl
      have HX:Hid (aN (aD op t v)=true):=HV.out.trans (by rw [h80];simp [eD,fA,fw,hvd,hle]);clear h80;go_wp2_with fail;go_returns;exact⟨by rw [HX.out];(try rfl),bE⟩
     have e80:((op.toNat:Int) == 80)=false:=u80.trans (decide_eq_false h80);by_cases h78:op=78
     ·have e78:((op.toNat:Int) == 78)=true:=by rw [h78];rfl
      have HX:Hid (aN (aD op t v)=true):=HV.out.trans (by rw [h78];simp [eD,fA,fw,hvd,hle]);clear h78 h80;go_wp2_with fail;go_returns;exact⟨by rw [HX.out];(try rfl),bE⟩
     have e78:((op.toNat:Int) == 78)=false:=u78.trans (decide_eq_false h78);by_cases h85:op=85
     ·have e85:((op.toNat:Int) == 85)=true:=by rw [h85];rfl
      have HX:Hid (aN (aD op t v)=true):=HV.out.trans (by rw [h85];simp [eD,fA,fw,hvd,hle]);clear h85 h80 h78;go_wp2_with fail;go_returns;exact⟨by rw [HX.out];(try rfl),bE⟩
     have e85:((op.toNat:Int) == 85)=false:=u85.trans (decide_eq_false h85);by_cases h67:op=67
     ·have e67:((op.toNat:Int) == 67)=true:=by rw [h67];rfl
      have HX:Hid (aN (aD op t v)=false):=HV.out.trans (by rw [h67];simp [eD,fA,fw,hvd,hle]);clear h67 h80 h78 h85;go_wp2_with fail;go_returns;exact⟨by rw [HX.out];(try rfl),bE⟩
     have e67:((op.toNat:Int) == 67)=false:=u67.trans (decide_eq_false h67);by_cases h82:op=82
     ·have e82:((op.toNat:Int) == 82)=true:=by rw [h82];rfl
      have HX:Hid (aN (aD op t v)=true):=HV.out.trans (by rw [h82];simp [eD,fA,fw,hvd,hle]);clear h82 h80 h78 h85 h67;go_wp2_with fail;go_returns;exact⟨by rw [HX.out];(try rfl),bE⟩
     have e82:((op.toNat:Int) == 82)=false:=u82.trans (decide_eq_false h82);by_cases h68:op=68
     ·have e68:((op.toNat:Int) == 68)=true:=by rw [h68];rfl
      have HX:Hid (aN (aD op t v)=true):=HV.out.trans (by rw [h68];simp [eD,fA,fw,hvd,hle]);clear h68 h80 h78 h85 h67 h82;go_wp2_with fail;go_returns;exact⟨by rw [HX.out];(try rfl),bE⟩
     have e68:((op.toNat:Int) == 68)=false:=u68.trans (decide_eq_false h68);have HX:Hid (aN (aD op t v)=false):=HV.out.trans (by simp [eD,h80,h78,h85,h67,h82,h68,hle]);clear h80 h78 h85 h67 h82 h68;go_wp2_with fail;go_returns;exact⟨by rw [HX.out];(try rfl),bE⟩
    ·have d1:(40:Int)<(U.size:Int):=by omega
     have HX:=Lib.hid (HL.out hle);clear hle;go_wp2_with fail;go_returns;exact⟨by rw [HX.out];(try rfl),bE⟩
theorem LH (op:UInt8) (t v:ByteArray) (w:World) (hts:t.size<=16384) (hvs:v.size<=16384):Calls Tryz.prog 20 #[.agg #[.int .u8 op.toNat,.string t,.string v]] w fun e w'=>e=.returned (.tuple #[.string ⟨(fH (aD op t v)).1.toArray⟩,.bool (fH (aD op t v)).2])/\Below w.heap.size w w':=by
 have p1:=fun W=>yI op t v W hts hvs
 have p3:=fun W=>wm op t v W hts hvs
 obtain⟨U,hU⟩:∃ U:ByteArray,(⟨(bU (aD op t v)).toArray⟩:ByteArray)=U:=⟨_,rfl⟩;have hUd:U.data.toList=bU (aD op t v):=by rw [<-hU]
 rw [hU] at p3;have k0:(w.alloc (.cells #[.int .u8 op.toNat,.string t,.string v] 24)).cell? ⟨w.heap.size,0,none⟩=some (.int .u8 op.toNat):=aJ w _ _ 0 _ rfl;have k1:(w.alloc (.cells #[.int .u8 op.toNat,.string t,.string v] 24)).cell? ⟨w.heap.size,1,none⟩=some (.string t):=aJ w _ _ 1 _ rfl;have k2:(w.alloc (.cells #[.int .u8 op.toNat,.string t,.string v] 24)).cell? ⟨w.heap.size,2,none⟩=some (.string v):=aJ w _ _ 2 _ rfl;have hb0:Below w.heap.size w (w.alloc (.cells #[.int .u8 op.toNat,.string t,.string v] 24)):=(Below.refl _ _).alloc (Nat.le_refl _) _;have hlt:w.heap.size<(w.alloc (.cells #[.int .u8 op.toNat,.string t,.string v] 24)).heap.size:=by simp
 clear hU hts hvs
 cases hq:aN (aD op t v) with
 | false =>
  have HX:Hid (fH (aD op t v)=([],false)):=by unfold Hid fH;rw [hq];rfl
  rw [hq] at p1;clear hq;go_enter Tryz.func20,Tryz.ntmps20;go_wp2_with fail;refine (p1 _).mono ?_;rintro e w1 ⟨rfl,b1⟩;go_wp2_with fail;go_returns;exact⟨by rw [HX.out];rfl,ae hb0 b1⟩
 | true =>
  have HX:Hid (fH (aD op t v)=(U.data.toList,true)):=by unfold Hid fH;rw [hq,hUd];rfl
  rw [hq] at p1;clear hq;go_enter Tryz.func20,Tryz.ntmps20;go_wp2_with fail;generalize w.alloc (.cells #[.int .u8 op.toNat,.string t,.string v] 24)=w0 at *;refine (p1 _).mono ?_;rintro e w1 ⟨rfl,b1⟩;have j0:=(b1.cell (p:=⟨w.heap.size,0,none⟩) hlt).trans k0;have j1:=(b1.cell (p:=⟨w.heap.size,1,none⟩) hlt).trans k1;have j2:=(b1.cell (p:=⟨w.heap.size,2,none⟩) hlt).trans k2;have bE:=ae hb0 b1;clear k0 k1 k2 b1 hb0 hlt p1;go_wp2_with fail;refine (p3 _).mono ?_;rintro e w2 ⟨rfl,b2⟩;go_wp2_with fail;go_returns;exact⟨by rw [HX.out];rfl,ae bE b2⟩
theorem getD_at (s:ByteArray) (i:Nat) (h:i<s.size):s.data.toList.getD i 0=s[i]:=by
 have h':i<s.data.toList.length:=by rw [<-Lib.size_eq];exact h
 rw [List.getD_eq_getElem?_getD,List.getElem?_eq_getElem h'];simp
 rfl
theorem J3 {s:Bs} (h:s.length<5\/40<s.length\/s.getD 0 0≠64\/s.getD 2 0≠46\/s.getD (s.length-1) 0≠64):gU s=none:=by unfold gU;rw [if_pos h]
theorem yV {c d:UInt8} (h:c≠d):((c.toNat:Int) != (d.toNat:Int))=true:=by rw [bne,oC,decide_eq_false h];rfl
theorem uO {c d:UInt8} (h:c=d):((c.toNat:Int) != (d.toNat:Int))=false:=by rw [bne,oC,decide_eq_true h];rfl
theorem LU (s:ByteArray) (w:World) (h:s.size<5\/40<s.size\/s.data.toList.getD 0 0≠64\/s.data.toList.getD 2 0≠46\/s.data.toList.getD (s.size-1) 0≠64):Calls Tryz.prog 18 #[.string s] w (ma w (gU s.data.toList)):=by
 have hb0:Below w.heap.size w (w.alloc (.cells #[.int .u8 0,.string ⟨#[]⟩,.string ⟨#[]⟩] 24)):=(Below.refl _ _).alloc (Nat.le_refl _) _;have c0:=aJ w #[.int .u8 0,.string ⟨#[]⟩,.string ⟨#[]⟩] 24 0 _ rfl;have c1:=aJ w #[.int .u8 0,.string ⟨#[]⟩,.string ⟨#[]⟩] 24 1 _ rfl;have c2:=aJ w #[.int .u8 0,.string ⟨#[]⟩,.string ⟨#[]⟩] 24 2 _ rfl;have HX:Hid (gU s.data.toList=none):=J3 (by rw [<-Lib.size_eq];exact h);by_cases h5:s.size<5
 ·have d1:(s.size:Int)<5:=by omega
  clear h h5;go_enter Tryz.func18,Tryz.ntmps18;go_wp2_with fail;refine bodyPost_ret (by simp [results,Tryz.results18,go_sem,c0,c1,c2];try rfl) rfl ?_;rw [HX.out];exact⟨rfl,hb0⟩
 ·by_cases h40:40<s.size
  ·have d1:(40:Int)<(s.size:Int):=by omega
   have d2:(5:Int)<=(s.size:Int):=by omega
   clear h h5 h40;go_enter Tryz.func18,Tryz.ntmps18;go_wp2_with fail;refine bodyPost_ret (by simp [results,Tryz.results18,go_sem,c0,c1,c2];try rfl) rfl ?_;rw [HX.out];exact⟨rfl,hb0⟩
  ·have d1:(s.size:Int)<=40:=by omega
   have d2:(5:Int)<=(s.size:Int):=by omega
   have g0:0<s.size:=by omega
   have g2:2<s.size:=by omega
   have gl:s.size-1<s.size:=by omega
   have q0:=getD_at s 0 g0;have q2:=getD_at s 2 g2;have ql:=getD_at s (s.size-1) gl;rw [q0,q2,ql] at h;by_cases n0:s[0]'g0=64
   ·have t0:(((s[0]'g0).toNat:Int) != 64)=false:=uO n0
    by_cases n2:s[2]'g2=46
    ·have t2:(((s[2]'g2).toNat:Int) != 46)=false:=uO n2
     have nl:s[s.size-1]'gl≠64:=by
      rcases h with h|h|h|h|h
      ·omega
      ·omega
      ·exact absurd n0 h
      ·exact absurd n2 h
      ·exact h
     have tl:(((s[s.size-1]'gl).toNat:Int) != 64)=true:=yV nl;have i1:(0:Int)<=(s.size:Int)-1:=by omega
     have i2:(s.size:Int)-1<(s.size:Int):=by omega
     have i3:((s.size:Int)-1).toNat=s.size-1:=by omega
     clear h h5 h40 n0 n2 nl q0 q2 ql;go_enter Tryz.func18,Tryz.ntmps18;go_wp2_with fail;refine bodyPost_ret (by simp [results,Tryz.results18,go_sem,c0,c1,c2];try rfl) rfl ?_;rw [HX.out];exact⟨rfl,hb0⟩
    ·have t2:(((s[2]'g2).toNat:Int) != 46)=true:=yV n2
     clear h h5 h40 n0 n2 q0 q2 ql;go_enter Tryz.func18,Tryz.ntmps18;go_wp2_with fail;refine bodyPost_ret (by simp [results,Tryz.results18,go_sem,c0,c1,c2];try rfl) rfl ?_;rw [HX.out];exact⟨rfl,hb0⟩
   ·have t0:(((s[0]'g0).toNat:Int) != 64)=true:=yV n0
    clear h h5 h40 n0 q0 q2 ql;go_enter Tryz.func18,Tryz.ntmps18;go_wp2_with fail;refine bodyPost_ret (by simp [results,Tryz.results18,go_sem,c0,c1,c2];try rfl) rfl ?_;rw [HX.out];exact⟨rfl,hb0⟩
theorem Ag:∀ {r:Bs},(∀ c∈r,c≠46)->jS r=(r,[])
 | [],_=>rfl
 | c::r,h=>by
  unfold jS;rw [if_neg (h c List.mem_cons_self),Ag fun x hx=>h x (List.mem_cons_of_mem _ hx)]
theorem Ae:∀ {r:Bs} {k:Nat} (hk:k<r.length),(∀ c∈r.take k,c≠46)->r[k]=46->jS r=(r.take k,r.drop (k+1))
 | c::r,0,hk,_,h=>by
  unfold jS;rw [if_pos (show c=46 from h)];rfl
 | c::r,k+1,hk,hn,h=>by
  unfold jS;rw [if_neg (hn c (by rw [List.take_succ_cons];exact List.mem_cons_self)),Ae (k:=k) (by simpa using hk) (fun x hx=>hn x (by rw [List.take_succ_cons];exact List.mem_cons_of_mem _ hx)) (by simpa using h)]
  rfl
theorem J4 {s:Bs} (h:¬ (s.length<5\/40<s.length\/s.getD 0 0≠64\/s.getD 2 0≠46\/s.getD (s.length-1) 0≠64)):gU s=if aN (kS s)=true/\bU (kS s)=s then some (kS s) else none:=by unfold gU;rw [if_neg h]
end Go.Proofs.YtppnecgeboonbaaGreatDoor
