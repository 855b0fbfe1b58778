/- The reference of layer 8: rest. -/
import Derived.Test.YtppnecgeboonbaaGreatDoorZ38
import Derived.Lib.LazyBuf
import Derived.Laws.CopyRow
namespace Go.Proofs.YtppnecgeboonbaaGreatDoor
set_option maxRecDepth 100000
set_option linter.unusedVariables false
set_option maxHeartbeats 8000000
open Go.RowKit
def jP (w:World) (A:Option Addr) (a:ak):Prop:=∀ i,(h:i<a.length)->∃ b o,A=some ⟨b,o,none⟩/\b<w.heap.size/\∃ r c',w.cell? ⟨b,o+i,none⟩=some (.slice (some ⟨r,0,none⟩) a[i].length c')/\r<w.heap.size/\∀ j,(hj:j<a[i].length)->w.cell? ⟨r,j,none⟩=some (S a[i][j])
theorem jP.below {w w':World} {A:Option Addr} {a:ak} (h:jP w A a) (hb:Below w.heap.size w w'):jP w' A a:=by
 intro i hi;obtain⟨b,o,hA,hlt,r,c',h1,h2,h3⟩:=h i hi;exact⟨b,o,hA,Nat.lt_of_lt_of_le hlt hb.size,r,c',(hb.cell (p:=⟨b,_,none⟩) hlt).trans h1,Nat.lt_of_lt_of_le h2 hb.size,fun j hj=>(hb.cell (p:=⟨r,_,none⟩) h2).trans (h3 j hj)⟩
def iM (n:Nat) (a:ak):Prop:=a.length=n/\∀ r∈a,dK n r
theorem Li {k:Int} {v l:Vec} {a:ak} {q:Nat} (hq:q<v.length) (ha:q<a.length):lU k (v.drop q) (a.drop q) l=bi (lT k v[q] (a[q].drop 0) 0 l) (lU k (v.drop (q+1)) (a.drop (q+1))):=by
 rw [List.drop_eq_getElem_cons hq,List.drop_eq_getElem_cons ha]
 rfl
theorem Lh {k:Int} {x:Bs} {row l:Vec} {p:Nat} (hp:p<row.length):lT k x (row.drop p) p l=if x=aF k\/row[p]=aF k then lT k x (row.drop (p+1)) (p+1) l else bi (fK k l p x row[p]) (lT k x (row.drop (p+1)) (p+1)):=by
 rw [List.drop_eq_getElem_cons hp]
 rfl
theorem LZ (m:aQ) (A:Option Addr) (c bv cv cs:Nat) (v:Vec) (AS:Addr) (a:ak) (w:World) (hn1:1<=m.states.length) (hn2:m.states.length<=3000) (hv:aZ w bv v) (hvn:dK m.states.length v) (hS:jP w (some AS) a) (ha:iM m.states.length a) :
  Calls Tryz.prog 64 #[di m A c,.slice (some ⟨bv,0,none⟩) m.states.length cv,.slice (some AS) m.states.length cs] w (sP w m.states.length (lU m.kind v a (eT m))):=by
 have pZ:=fun W=>wu m A c W hn1 hn2
 have hzn:=wR m;obtain⟨R,hR⟩:∃ R,lU m.kind v a (eT m)=R:=⟨_,rfl⟩;rw [hR];have HR:=Lib.hid hR.symm;clear hR;generalize eT m=Z at *;unfold di S at *;obtain⟨kd,st,ld,ss⟩:=m;simp only at *;generalize (⟨ld.toArray⟩:ByteArray)=Ld at *;have hbv:=hv.lt;have HVv:=Lib.hid hv;have HMt:=Lib.hid hS;generalize ss.length=n at *;obtain⟨zk,hzk⟩:∃ zk:ByteArray,(⟨(aF kd).toArray⟩:ByteArray)=zk:=⟨_,rfl⟩;have hzkd:aF kd=zk.data.toList:=by rw [<-hzk]
 have p0:∀ W,Calls Tryz.prog 34 #[.int .i64 kd] W fun e w'=>e=.returned (.string zk)/\w'=W:=fun W=>by
  have:=o9 kd W;unfold S at this;rw [hzk] at this;exact this.mono fun e w' h=>⟨h.1,h.2.symm⟩
 have HZK:=Lib.hid hzkd;clear hv hS hzk hzkd;have z0:=az w #[.int .i64 kd,.int .i64 st,.string Ld,.slice A n c] 30 0 _ rfl;have z1:=az w #[.int .i64 kd,.int .i64 st,.string Ld,.slice A n c] 30 1 _ rfl;have z2:=az w #[.int .i64 kd,.int .i64 st,.string Ld,.slice A n c] 30 2 _ rfl;have z3:=az w #[.int .i64 kd,.int .i64 st,.string Ld,.slice A n c] 30 3 _ rfl;have hb0:Below w.heap.size w (w.alloc (.cells #[.int .i64 kd,.int .i64 st,.string Ld,.slice A n c] 30)):=(Below.refl _ _).alloc (Nat.le_refl _) _;have hn0:w.heap.size<(w.alloc (.cells #[.int .i64 kd,.int .i64 st,.string Ld,.slice A n c] 30)).heap.size:=by simp
 have hnil:∀ W:World,(binOp .eql 108 (.slice (some AS) n cs) (.slice none 0 0)).run Tryz.prog W=.ok (.bool false) W:=fun W=>run_eql_slice_nil (P:=Tryz.prog) W 108 22 (some AS) n cs Tryz.underlying108
 go_enter Tryz.func64,Tryz.ntmps64;go_wp2_with fail;generalize w.alloc (.cells #[.int .i64 kd,.int .i64 st,.string Ld,.slice A n c] 30)=w0 at *;refine (pZ _).mono ?_;rintro e w1 ⟨bl,rfl,hvz,hbl,hb1⟩;have q0:=(hb1.cell (p:=⟨w.heap.size,0,none⟩) hn0).trans z0;have hnb:w.heap.size<bl:=Nat.lt_of_lt_of_le hn0 hbl;have hbw:=ae hb0 hb1;clear z0 z1 z2 z3 pZ;go_wp2_with fail
 go_loopw [9] (fun i wr=>∃ (q:Nat) (l:Vec),i=.int .i64 q/\q<=n/\Below bl w1 wr/\aZ wr bl l/\dK n l/\Hid (R=lU kd (v.drop q) (a.drop q) l)) (fun i _=>n-(intOf i).toNat)
 case atStart=>exact⟨0,Z,rfl,by omega,Below.refl _ _,hvz,hzn,HR.out⟩
 case round =>
  obtain⟨q,l,rfl,hq,hBr,hvr,hlr,HS0⟩:=hrel;by_cases hlt:q<n
  ·have hqv:q<v.length:=by rw [hvn.1];exact hlt
   have hqa:q<a.length:=by rw [ha.1];exact hlt
   have HD:=Lib.hid (HS0.out.trans (Li hqv hqa));have hxl:=hvn.2 _ (List.getElem_mem hqv);have hvc:=HVv.out.cell hqv;obtain⟨bs,os,hAS,hbs,br,cr,hr0,hr1,hr2⟩:=HMt.out q hqa;have hrn:=ha.2 _ (List.getElem_mem hqa);obtain rfl:=Option.some.inj hAS;rw [hrn.1] at hr0;have HRow:=Lib.hid hr2;generalize a[q]=row at *;obtain⟨X,hX⟩:∃ X:ByteArray,(⟨v[q].toArray⟩:ByteArray)=X:=⟨_,rfl⟩;have hXd:v[q]=X.data.toList:=by rw [<-hX]
   unfold S at hvc;rw [hX] at hvc;rw [hXd] at HD hxl;have hXs:X.size<=802:=by rw [Lib.size_eq];exact hxl
   have i0:(0:Int)<=(q:Int):=by omega
   have il:(q:Int)<(n:Int):=by omega
   obtain⟨F,hF⟩:∃ F,lU kd (v.drop (q+1)) (a.drop (q+1))=F:=⟨_,rfl⟩;have HF:=Lib.hid hF;rw [hF] at HD;clear hX hXd hxl hF hr2 hAS HS0;go_wp2_with fail
   go_loopw [10] (fun i wr=>∃ (j:Nat) (l:Vec),i=.int .i64 j/\j<=n/\Below bl w1 wr/\aZ wr bl l/\dK n l/\Hid (R=bi (lT kd X.data.toList (row.drop j) j l) F)) (fun i _=>n-(intOf i).toNat)
   case atStart=>exact⟨0,l,rfl,by omega,hBr,hvr,hlr,HD.out⟩
   case round =>
    clear hlr HD hBr hvr;obtain⟨j,l,rfl,hj,hBt,hvt,hln,HJ⟩:=hrel;have hBw:Below w.heap.size w wr:=hbw.trans (hBt.mono (Nat.le_of_lt hnb));have m0:=(hBt.cell (p:=⟨w.heap.size,0,none⟩) hnb).trans q0;have mv:=(hBw.cell (p:=⟨bv,q,none⟩) hbv).trans hvc;have ms:=(hBw.cell (p:=⟨bs,os+q,none⟩) hbs).trans hr0;by_cases hjl:j<n
    ·have hjr:j<row.length:=by rw [hrn.1];exact hjl
     have HD:=Lib.hid (HJ.out.trans (congrArg (fun z=>bi z F) (Lh hjr)));have hyl:=hrn.2 _ (List.getElem_mem hjr);have hyc:=HRow.out j hjr;obtain⟨Y,hY⟩:∃ Y:ByteArray,(⟨row[j].toArray⟩:ByteArray)=Y:=⟨_,rfl⟩;have hYd:row[j]=Y.data.toList:=by rw [<-hY]
     unfold S at hyc;rw [hY] at hyc;rw [hYd,HZK.out] at HD;rw [hYd] at hyl;have hYs:Y.size<=802:=by rw [Lib.size_eq];exact hyl
     have my:=(hBw.cell (p:=⟨br,j,none⟩) hr1).trans hyc;have ij0:(0:Int)<=(j:Int):=by omega
     have ijl:(j:Int)<(n:Int):=by omega
     clear hY hYd hyl;by_cases hx:X.data.toList=zk.data.toList
     ·have t1:=str_eq hx
      have HS:Hid (R=bi (lT kd X.data.toList (row.drop (j+1)) (j+1) l) F):=by rw [Hid,HD.out,if_pos (Or.inl hx)]
      clear HD hx HJ;go_wp2_with fail
      go_quiet (first|(go_at_call 34;with_reducible exact Calls.quiet_of_same (p0 _)))
      go_wp2_with fail;go_roundw
      case rel=>exact⟨j+1,l,by go_num,by omega,lh hBt _,hvt,hln,HS.out⟩
      case measure=>simp [intOf];omega
     ·have t1:=qB hx
      by_cases hy:Y.data.toList=zk.data.toList
      ·have t2:=str_eq hy
       have HS:Hid (R=bi (lT kd X.data.toList (row.drop (j+1)) (j+1) l) F):=by rw [Hid,HD.out,if_pos (Or.inr hy)]
       clear HD hx hy HJ;go_wp2_with fail
       go_quiet (first|(go_at_call 34;with_reducible exact Calls.quiet_of_same (p0 _)))
       go_wp2_with fail;go_roundw
       case rel=>exact⟨j+1,l,by go_num,by omega,lh hBt _,hvt,hln,HS.out⟩
       case measure=>simp [intOf];omega
      ·have t2:=qB hy
       have HD2:=Lib.hid (HD.out.trans (congrArg (fun z=>bi z F) (if_neg (by rintro (h|h);exact hx h;exact hy h))));have pA:∀ W,aZ W bl l->Calls Tryz.prog 88 #[.int .i64 kd,.slice (some ⟨bl,0,none⟩) n n,.int .i64 j,.string X,.string Y] W (pz W bl (fK kd l j X.data.toList Y.data.toList)):=by
        intro W hW;have:=uy kd bl n l j X Y W hW (by omega) (by rw [hln.1];exact ijl) hXs hYs (hln.get _);rw [hln.1] at this;exact this
       have HE:Hid (∀ e,fK kd l j X.data.toList Y.data.toList=.error e->R=.error e):=fun e he=>by rw [HD2.out,xq he];rfl
       have HK:Hid (∀ l',fK kd l j X.data.toList Y.data.toList=.ok l'->R=bi (lT kd X.data.toList (row.drop (j+1)) (j+1) l') F):=fun l' he=>by rw [HD2.out,xu he]
       clear HD HD2 hx hy HJ;go_wp2_with fail
       go_quiet (first|(go_at_call 34;with_reducible exact Calls.quiet_of_same (p0 _)))
       go_wp2_with fail;have hB5:Below bl w1 (wr.drewN nq):=lh hBt _;have hv5:aZ (wr.drewN nq) bl l:=hvt;have x0:(wr.drewN nq).cell? ⟨w.heap.size,0,none⟩=some (.int .i64 kd):=m0;have x1:(wr.drewN nq).cell? ⟨bv,q,none⟩=some (.string X):=mv;have x2:(wr.drewN nq).cell? ⟨bs,os+q,none⟩=some (.slice (some ⟨br,0,none⟩) n cr):=ms;have x3:(wr.drewN nq).cell? ⟨br,j,none⟩=some (.string Y):=my;clear m0 mv ms my hBt hvt hBw;generalize wr.drewN nq=w5 at *
       go_still_tail 15,(by kernel_rfl)
       change wpList _ _ _ _ _ w5.drew;go_wp2_with fail;have hvd:aZ w5.drew bl l:=hv5;refine (pA _ hvd).mono ?_;rintro e w6 ⟨hu,hr⟩;have hb6:Below bl w1 w6:=hB5.drew.trans (hu.low bl (Nat.le_refl _) (Nat.le_of_lt hv5.lt))
       cases hadd:fK kd l j X.data.toList Y.data.toList with
       | error e' =>
        rw [hadd] at hr;obtain⟨rfl,hne⟩:=hr;have HX:=Lib.hid (HE.out e' hadd);have t9:((e':Int) != 0)=true:=by simpa using hne
        have HNE:=Lib.hid hne;clear hadd hne;go_wp2_with fail;go_returns;refine⟨hbw.trans (hb6.mono (Nat.le_of_lt hnb)),?_⟩;rw [HX.out];exact⟨rfl,HNE.out⟩
       | ok l' =>
        rw [hadd] at hr;obtain⟨rfl,hv6⟩:=hr;have HX:=Lib.hid (HK.out l' hadd);have hl6:=uX hln hadd;clear hadd;go_wp2_with fail;go_roundw
        case rel=>exact⟨j+1,l',by go_num,by omega,hb6,hv6,hl6,HX.out⟩
        case measure=>simp [intOf];omega
    ·obtain rfl:j=n:=by omega
     have HX:Hid (R=lU kd (v.drop (q+1)) (a.drop (q+1)) l):=by
      have:=HJ.out;rw [List.drop_of_length_le (by rw [hrn.1];exact Nat.le_refl _)] at this;rw [Hid,HF.out,this];rfl
     go_wp2_with fail;go_roundw
     case rel=>exact⟨q+1,l,by go_num,by omega,hBt,hvt,hln,HX.out⟩
     case measure=>simp [intOf];omega
  ·obtain rfl:q=n:=by omega
   have HX:Hid (R=.ok l):=by
    have:=HS0.out;rw [List.drop_of_length_le (by rw [hvn.1];exact Nat.le_refl _)] at this;exact this
   go_wp2_with fail;go_returns;refine⟨hbw.trans (hBr.mono (Nat.le_of_lt hnb)),?_⟩;rw [HX.out];exact⟨bl,rfl,hvr,Nat.le_of_lt hnb,hlr⟩
theorem LY (m:aQ) (A:Option Addr) (c bv cv:Nat) (v:Vec) (w:World) (hv:aZ w bv v) (hvn:dK m.states.length v) :
  Calls Tryz.prog 64 #[di m A c,.slice (some ⟨bv,0,none⟩) m.states.length cv,.slice none 0 0] w fun e w'=>e=.returned (.tuple #[.slice (some ⟨bv,0,none⟩) m.states.length cv,.int .i64 0])/\Below w.heap.size w w':=by
 unfold di S;generalize (⟨m.lead.toArray⟩:ByteArray)=Ld;generalize m.states.length=n at *;have hb0:Below w.heap.size w (w.alloc (.cells #[.int .i64 m.kind,.int .i64 m.start,.string Ld,.slice A n c] 30)):=(Below.refl _ _).alloc (Nat.le_refl _) _;have hnil:∀ W:World,(binOp .eql 108 (.slice none 0 0) (.slice none 0 0)).run Tryz.prog W=.ok (.bool true) W:=fun W=>run_eql_slice_nil (P:=Tryz.prog) W 108 22 none 0 0 Tryz.underlying108
 go_enter Tryz.func64,Tryz.ntmps64;go_wp2_with fail;go_returns;exact⟨rfl,hb0⟩
def dI (w:World) (sb:Nat) (k:Int) (bad:Bool):Prop:=w.heap[sb]? = some (.cells #[.int .i64 k,.bool bad] 171)
theorem dI.lt {w:World} {sb:Nat} {k:Int} {bad:Bool} (h:dI w sb k bad):sb<w.heap.size:=oM h
theorem dI.kind {w:World} {sb:Nat} {k:Int} {bad:Bool} (h:dI w sb k bad):w.cell? ⟨sb,0,none⟩=some (.int .i64 k):=by
 rw [cell_of_row w sb 0 _ _ (0,0) h];rfl
theorem dI.bad {w:World} {sb:Nat} {k:Int} {bad:Bool} (h:dI w sb k bad):w.cell? ⟨sb,1,none⟩=some (.bool bad):=by
 rw [cell_of_row w sb 1 _ _ (0,0) h];rfl
theorem dI.free {w:World} {sb:Nat} {k:Int} {bad:Bool} (h:dI w sb k bad) (j:Nat):w.frozen? ⟨sb,j,none⟩=false:=by
 unfold World.frozen?;rw [show w.heap[sb]? = some (.cells #[.int .i64 k,.bool bad] 171) from h];simp
theorem dI.set {w:World} {sb:Nat} {k:Int} {bad:Bool} (h:dI w sb k bad) (x:Bool):dI (w.setCell ⟨sb,1,none⟩ (.bool x)) sb k x:=by
 unfold dI World.setCell;simp only [Array.getElem?_modify];rw [show w.heap[sb]? = some (.cells #[.int .i64 k,.bool bad] 171) from h];simp
theorem dI.below {w w':World} {sb:Nat} {k:Int} {bad:Bool} (h:dI w sb k bad) (hb:Below w.heap.size w w'):dI w' sb k bad:=(hb.block sb h.lt).trans h
def wW (w:World) (sb:Nat) (k:Int) (r:Bool × Bs) (e:Ending) (w':World):Prop:=e=.returned (S r.2)/\dI w' sb k r.1/\df sb w w'
theorem Ea (sb:Nat) (k:Int) (bad:Bool) (c:ByteArray) (w:World) (hS:dI w sb k bad):Calls Tryz.prog 162 #[.pointer (some ⟨sb,0,none⟩),.string c] w fun e w'=>e=.returned (S (if bad=true then aF k else c.data.toList))/\w=w':=by
 have p1:=fun W=>o9 k W
 have k0:=hS.kind;have k1:=hS.bad
 cases bad with
 | true =>
  go_enter Tryz.func162,Tryz.ntmps162;go_wp2_with fail;refine (p1 _).mono ?_;rintro e w1 ⟨rfl,rfl⟩;go_wp2_with fail;go_returns;exact⟨rfl,rfl⟩
 | false =>
  go_enter Tryz.func162,Tryz.ntmps162;go_wp2_with fail;go_returns;exact⟨rfl,rfl⟩
theorem MX (sb:Nat) (k:Int) (bad:Bool) (a b:ByteArray) (w:World) (hS:dI w sb k bad) (ha:a.size<=802) (hb:b.size<=802):Calls Tryz.prog 127 #[.pointer (some ⟨sb,0,none⟩),.string a,.string b] w (wW w sb k (jG k bad a.data.toList b.data.toList)):=by
 have p1:=fun W=>yO k a b W (by omega) (by omega)
 have HV:Hid (jG k bad a.data.toList b.data.toList=if (bad || decide ((fI k a.data.toList b.data.toList).2≠0))=true then (true,aF k) else (false,(fI k a.data.toList b.data.toList).1)):=rfl;generalize jG k bad a.data.toList b.data.toList=R at *;generalize fI k a.data.toList b.data.toList=tm at *;obtain⟨t,n⟩:=tm;unfold Rat3.aA at p1;obtain⟨T,hT⟩:∃ T:ByteArray,(⟨t.toArray⟩:ByteArray)=T:=⟨_,rfl⟩;have hTd:t=T.data.toList:=by rw [<-hT]
 simp only at p1 HV;rw [hT] at p1;subst hTd;have hlt:=hS.lt;have k0:=hS.kind;have k1:=hS.bad;have f1:=hS.free 1;have HS:=Lib.hid hS;clear hT hS;have pk:=fun W (x:Bool) (h:dI W sb k x)=>Ea sb k x T W h
 have fin:∀ (x:Bool) (w2 w3:World),Below w.heap.size w w2->w3=w2.setCell ⟨sb,1,none⟩ (.bool x)->dI w3 sb k x/\df sb w w3:=fun x w2 w3 hb h=>by
  subst h;exact⟨(HS.out.below hb).set x,(df.of_below hb).set 1 _⟩
 cases bad with
 | true =>
  have HX:Hid (R=(true,aF k)):=HV.out.trans (if_pos rfl);clear HV;go_enter Tryz.func127,Tryz.ntmps127;go_wp2_with fail;refine (p1 _).mono ?_;rintro e w1 ⟨rfl,b1⟩;have j1:=(b1.cell (p:=⟨sb,1,none⟩) hlt).trans k1;have g1:=(b1.frozen (p:=⟨sb,1,none⟩) hlt).trans f1;obtain⟨hA,hB⟩:=fin true w1 _ b1 rfl;go_wp2_with fail;refine (pk _ true hA).mono ?_;rintro e w4 ⟨rfl,rfl⟩;go_wp2_with fail;go_returns;rw [HX.out];exact⟨rfl,hA,hB⟩
 | false =>
  by_cases hn:n=0
  ·subst hn
   have HX:Hid (R=(false,T.data.toList)):=HV.out.trans (if_neg (by simp));clear HV;go_enter Tryz.func127,Tryz.ntmps127;go_wp2_with fail;refine (p1 _).mono ?_;rintro e w1 ⟨rfl,b1⟩;have j1:=(b1.cell (p:=⟨sb,1,none⟩) hlt).trans k1;have g1:=(b1.frozen (p:=⟨sb,1,none⟩) hlt).trans f1;obtain⟨hA,hB⟩:=fin false w1 _ b1 rfl;go_wp2_with fail;refine (pk _ false hA).mono ?_;rintro e w4 ⟨rfl,rfl⟩;go_wp2_with fail;go_returns;rw [HX.out];exact⟨rfl,hA,hB⟩
  ·have HX:Hid (R=(true,aF k)):=HV.out.trans (if_pos (by simp [hn]))
   have t1:((n:Int) != 0)=true:=by simpa using hn
   clear HV hn;go_enter Tryz.func127,Tryz.ntmps127;go_wp2_with fail;refine (p1 _).mono ?_;rintro e w1 ⟨rfl,b1⟩;have j1:=(b1.cell (p:=⟨sb,1,none⟩) hlt).trans k1;have g1:=(b1.frozen (p:=⟨sb,1,none⟩) hlt).trans f1;obtain⟨hA,hB⟩:=fin true w1 _ b1 rfl;go_wp2_with fail;refine (pk _ true hA).mono ?_;rintro e w4 ⟨rfl,rfl⟩;go_wp2_with fail;go_returns;rw [HX.out];exact⟨rfl,hA,hB⟩
theorem M0 (sb:Nat) (k:Int) (bad:Bool) (a:ByteArray) (w:World) (hS:dI w sb k bad) (ha:a.size<=802):Calls Tryz.prog 126 #[.pointer (some ⟨sb,0,none⟩),.string a] w (wW w sb k (oQ k bad a.data.toList)):=by
 have p1:=fun W=>Mm k a W (by omega)
 have HV:Hid (oQ k bad a.data.toList=if (bad || decide ((oh k a.data.toList).2≠0))=true then (true,aF k) else (false,(oh k a.data.toList).1)):=rfl;generalize oQ k bad a.data.toList=R at *;generalize oh k a.data.toList=tm at *;obtain⟨t,n⟩:=tm;unfold Rat3.aA at p1;obtain⟨T,hT⟩:∃ T:ByteArray,(⟨t.toArray⟩:ByteArray)=T:=⟨_,rfl⟩;have hTd:t=T.data.toList:=by rw [<-hT]
 simp only at p1 HV;rw [hT] at p1;subst hTd;have hlt:=hS.lt;have k0:=hS.kind;have k1:=hS.bad;have f1:=hS.free 1;have HS:=Lib.hid hS;clear hT hS;have pk:=fun W (x:Bool) (h:dI W sb k x)=>Ea sb k x T W h
 have fin:∀ (x:Bool) (w2 w3:World),Below w.heap.size w w2->w3=w2.setCell ⟨sb,1,none⟩ (.bool x)->dI w3 sb k x/\df sb w w3:=fun x w2 w3 hb h=>by
  subst h;exact⟨(HS.out.below hb).set x,(df.of_below hb).set 1 _⟩
 cases bad with
 | true =>
  have HX:Hid (R=(true,aF k)):=HV.out.trans (if_pos rfl);clear HV;go_enter Tryz.func126,Tryz.ntmps126;go_wp2_with fail;refine (p1 _).mono ?_;rintro e w1 ⟨rfl,b1⟩;have j1:=(b1.cell (p:=⟨sb,1,none⟩) hlt).trans k1;have g1:=(b1.frozen (p:=⟨sb,1,none⟩) hlt).trans f1;obtain⟨hA,hB⟩:=fin true w1 _ b1 rfl;go_wp2_with fail;refine (pk _ true hA).mono ?_;rintro e w4 ⟨rfl,rfl⟩;go_wp2_with fail;go_returns;rw [HX.out];exact⟨rfl,hA,hB⟩
 | false =>
  by_cases hn:n=0
  ·subst hn
   have HX:Hid (R=(false,T.data.toList)):=HV.out.trans (if_neg (by simp));clear HV;go_enter Tryz.func126,Tryz.ntmps126;go_wp2_with fail;refine (p1 _).mono ?_;rintro e w1 ⟨rfl,b1⟩;have j1:=(b1.cell (p:=⟨sb,1,none⟩) hlt).trans k1;have g1:=(b1.frozen (p:=⟨sb,1,none⟩) hlt).trans f1;obtain⟨hA,hB⟩:=fin false w1 _ b1 rfl;go_wp2_with fail;refine (pk _ false hA).mono ?_;rintro e w4 ⟨rfl,rfl⟩;go_wp2_with fail;go_returns;rw [HX.out];exact⟨rfl,hA,hB⟩
  ·have HX:Hid (R=(true,aF k)):=HV.out.trans (if_pos (by simp [hn]))
   have t1:((n:Int) != 0)=true:=by simpa using hn
   clear HV hn;go_enter Tryz.func126,Tryz.ntmps126;go_wp2_with fail;refine (p1 _).mono ?_;rintro e w1 ⟨rfl,b1⟩;have j1:=(b1.cell (p:=⟨sb,1,none⟩) hlt).trans k1;have g1:=(b1.frozen (p:=⟨sb,1,none⟩) hlt).trans f1;obtain⟨hA,hB⟩:=fin true w1 _ b1 rfl;go_wp2_with fail;refine (pk _ true hA).mono ?_;rintro e w4 ⟨rfl,rfl⟩;go_wp2_with fail;go_returns;rw [HX.out];exact⟨rfl,hA,hB⟩
def dV (w:World) (ba n:Nat) (bs:List Nat) (a:ak):Prop :=
 w.heap[ba]? = some (.cells ((bs.map fun r=>Value.slice (some ⟨r,0,none⟩) n n)++List.replicate (n-bs.length) (Value.slice none 0 0)).toArray 22)/\bs.length=a.length/\a.length<=n/\(∀ i,(h:i<a.length)->∀ h':i<bs.length,aZ w bs[i] a[i])/\(∀ r∈a,dK n r)
theorem NG:(Tryz.prog.info? 22).map (fun i=>(i.zero,i.size,i.bytes))=some (some (.slice none 0 0),1,24):=by kernel_rfl
theorem BU (n:Nat) (hn:n<=1000000) (W:World):(Instr.makeSlice 108 (.int .i64 (n:Int)) (.int .i64 (n:Int))).run Tryz.prog W=.ok (.slice (some ⟨W.heap.size,0,none⟩) n n) (W.alloc (.cells (Array.replicate n (.slice none 0 0)) 22)):=by
 obtain⟨i0,hi,hz0,hz1,hz2⟩:=info_parts NG;have h:=run_make (P:=Tryz.prog) W 108 22 i0 (.slice none 0 0) Tryz.underlying108 hi hz0 .i64 .i64 (n:Int) (n:Int) (by omega) (Int.le_refl _) (by rw [hz2];omega) (by omega);rw [h,hz1];simp only [Int.toNat_natCast];rw [show (Value.slice none 0 0).cells=#[.slice none 0 0] from rfl,BI]
theorem I6 (w:World) (n:Nat):dV (w.alloc (.cells (Array.replicate n (.slice none 0 0)) 22)) w.heap.size n [] []:=by
 refine⟨?_,rfl,Nat.zero_le _,fun i h=>absurd h (Nat.not_lt_zero _),fun r h=>absurd h List.not_mem_nil⟩;rw [heap_alloc_new];simp
theorem dV.lt {w:World} {ba n:Nat} {bs:List Nat} {a:ak} (h:dV w ba n bs a):ba<w.heap.size:=oM h.1
theorem dV.row {w:World} {ba n:Nat} {bs:List Nat} {a:ak} (h:dV w ba n bs a) {i:Nat} (hi:i<bs.length):w.cell? ⟨ba,i,none⟩=some (.slice (some ⟨bs[i],0,none⟩) n n):=by
 rw [cell_of_row w ba i _ _ (0,0) h.1];simp [List.getElem?_append,hi]
theorem dV.nil {w:World} {ba n:Nat} {bs:List Nat} {a:ak} (h:dV w ba n bs a) {i:Nat} (hi:bs.length<=i) (hn:i<n):w.cell? ⟨ba,i,none⟩=some (.slice none 0 0):=by
 rw [cell_of_row w ba i _ _ (0,0) h.1];have h1:¬ i<bs.length:=by omega
 simp [List.getElem?_append,List.getElem?_replicate,h1];omega
theorem dV.free {w:World} {ba n:Nat} {bs:List Nat} {a:ak} (h:dV w ba n bs a) (i:Nat):w.frozen? ⟨ba,i,none⟩=false:=by
 unfold World.frozen?;rw [h.1];simp
theorem dV.below {w w':World} {ba n:Nat} {bs:List Nat} {a:ak} (h:dV w ba n bs a) (hb:Below w.heap.size w w'):dV w' ba n bs a :=
 ⟨(hb.block ba h.lt).trans h.1,h.2.1,h.2.2.1,fun i hi hi'=>(h.2.2.2.1 i hi hi').below hb,h.2.2.2.2⟩
theorem dV.push {w w':World} {ba n r:Nat} {bs:List Nat} {a:ak} {row:Vec} (h:dV w ba n bs a) (hb:Below w.heap.size w w') (hr:aZ w' r row) (hrn:dK n row) (hq:a.length<n) (hne:r≠ba) :
  dV (w'.setCell ⟨ba,a.length,none⟩ (.slice (some ⟨r,0,none⟩) n n)) ba n (bs++[r]) (a++[row]):=by
 have hk:∀ j,j≠ba->(w'.setCell ⟨ba,a.length,none⟩ (.slice (some ⟨r,0,none⟩) n n)).heap[j]? = w'.heap[j]?:=fun j hj=>Below.heap_setCell w' ⟨ba,a.length,none⟩ _ j hj
 have hne2:∀ i,(hi:i<a.length)->(hi':i<bs.length)->bs[i]≠ba:=fun i hi hi' e=>by
  have h1:=h.2.2.2.1 i hi hi';rw [e] at h1;have h2:=h.1;rw [show w.heap[ba]? = some (.cells (a[i].map S).toArray 9) from h1] at h2;simp at h2
 refine⟨?_,by simp [h.2.1],by simp;omega,fun i hi hi'=>?_,fun x hx=>?_⟩
 ·unfold World.setCell
  simp only [Array.getElem?_modify];rw [(hb.block ba h.lt).trans h.1];have hl:=h.2.1;simp only [if_true,Option.map_some,Option.isSome_none,Bool.false_eq_true,if_false];congr 2;apply Array.ext_getElem?;intro i;rw [Array.getElem?_setIfInBounds];simp only [List.getElem?_toArray,List.getElem?_append,List.map_append,List.length_append,List.length_map,List.map_cons,List.map_nil,List.length_cons,List.length_nil,List.getElem?_map,List.getElem?_replicate,List.size_toArray,List.length_replicate];rcases Nat.lt_trichotomy i a.length with h1|h1|h1
  ·have h2:i<bs.length:=by omega
   have h3:a.length≠i:=by omega
   have h4:i<bs.length+(0+1):=by omega
   simp [h2,h3,h4]
  ·subst h1
   have h2:¬ a.length<bs.length:=by omega
   have h4:a.length<bs.length+(0+1):=by omega
   have h5:a.length<bs.length+(n-bs.length):=by omega
   have h6:a.length-bs.length=0:=by omega
   simp [h2,h4,h5,h6]
  ·have h2:¬ i<bs.length:=by omega
   have h3:a.length≠i:=by omega
   have h4:¬ i<bs.length+(0+1):=by omega
   simp only [h2,h3,h4,if_false];by_cases h7:i<n
   ·have h8:i-bs.length<n-bs.length:=by omega
    have h9:i-(bs.length+(0+1))<n-(bs.length+(0+1)):=by omega
    simp [h8,h9]
   ·have h8:¬ i-bs.length<n-bs.length:=by omega
    have h9:¬ i-(bs.length+(0+1))<n-(bs.length+(0+1)):=by omega
    simp [h8,h9]
 ·unfold aZ
  have hlen:=h.2.1;rcases Nat.lt_or_ge i a.length with h1|h1
  ·have h2:i<bs.length:=by omega
   have e1:(bs++[r])[i]=bs[i]:=List.getElem_append_left h2;have e2:(a++[row])[i]=a[i]:=List.getElem_append_left h1;rw [e1,e2,hk _ (hne2 i h1 h2)];exact (h.2.2.2.1 i h1 h2).below hb
  ·have h3:i=a.length:=by
    rw [List.length_append] at hi;simp at hi;omega
   subst h3;have e1:(bs++[r])[a.length]=r:=by
    rw [List.getElem_append_right (by omega)];simp
   have e2:(a++[row])[a.length]=row:=by
    rw [List.getElem_append_right (by omega)];simp
   rw [e1,e2,hk _ hne];exact hr
 ·rcases List.mem_append.1 hx with hx|hx
  ·exact h.2.2.2.2 x hx
  ·rw [List.mem_singleton.1 hx];exact hrn
theorem dV.put {w:World} {ba n r:Nat} {bs:List Nat} {a:ak} {row:Vec} (h:dV w ba n (bs++[r]) (a++[row])) (hr:r ∉ bs) (t:Nat) {x:Bs} (hx:x.length<=802) :
  dV (w.setCell ⟨r,t,none⟩ (S x)) ba n (bs++[r]) (a++[row.set t x]):=by
 have hl:bs.length=a.length:=by
  have:=h.2.1
  simpa using this
 have hlast:aZ w r row:=by
  have h1:=h.2.2.2.1 a.length (by simp) (by simp [hl]);have e1:(bs++[r])[a.length]'(by simp [hl])=r:=by rw [List.getElem_append_right (by omega)];simp
  have e2:(a++[row])[a.length]'(by simp)=row:=by rw [List.getElem_append_right (by omega)];simp
  rw [e1,e2] at h1;exact h1
 have hne:ba≠r:=fun e=>by
  have h2:=h.1;rw [e,show w.heap[r]? = some (.cells (row.map S).toArray 9) from hlast] at h2;simp at h2
 have hk:∀ j,j≠r->(w.setCell ⟨r,t,none⟩ (S x)).heap[j]? = w.heap[j]?:=fun j hj=>Below.heap_setCell w ⟨r,t,none⟩ _ j hj
 refine⟨(hk ba hne).trans h.1,by simp [hl],by have:=h.2.2.1;simpa using this,fun i hi hi'=>?_,fun y hy=>?_⟩
 ·rcases Nat.lt_or_ge i a.length with h1|h1
  ·have h2:i<bs.length:=by omega
   have e1:(bs++[r])[i]=bs[i]:=List.getElem_append_left h2;have e2:(a++[row.set t x])[i]=a[i]:=List.getElem_append_left h1;have e3:(a++[row])[i]'(by simp;omega)=a[i]:=List.getElem_append_left h1;have h3:=h.2.2.2.1 i (by simp;omega) hi';rw [e1,e3] at h3;rw [e1,e2];unfold aZ;rw [hk _ (fun e=>hr (e ▸ List.getElem_mem h2))];exact h3
  ·have h3:i=a.length:=by
    rw [List.length_append] at hi;simp at hi;omega
   subst h3;have e1:(bs++[r])[a.length]=r:=by rw [List.getElem_append_right (by omega)];simp
   have e2:(a++[row.set t x])[a.length]=row.set t x:=by rw [List.getElem_append_right (by omega)];simp
   rw [e1,e2];exact hlast.set t x
 ·rcases List.mem_append.1 hy with hy|hy
  ·exact h.2.2.2.2 y (List.mem_append_left _ hy)
  ·rw [List.mem_singleton.1 hy]
   exact (h.2.2.2.2 row (List.mem_append_right _ (List.mem_singleton.2 rfl))).set t hx
theorem dV.last {w:World} {ba n r:Nat} {bs:List Nat} {a:ak} {row:Vec} (h:dV w ba n (bs++[r]) (a++[row])):aZ w r row/\dK n row:=by
 have hl:bs.length=a.length:=by
  have:=h.2.1
  simpa using this
 have h1:=h.2.2.2.1 a.length (by simp) (by simp [hl]);have e1:(bs++[r])[a.length]'(by simp [hl])=r:=by rw [List.getElem_append_right (by omega)];simp
 have e2:(a++[row])[a.length]'(by simp)=row:=by rw [List.getElem_append_right (by omega)];simp
 rw [e1,e2] at h1;exact⟨h1,h.2.2.2.2 row (List.mem_append_right _ (List.mem_singleton.2 rfl))⟩
theorem dV.whole {w:World} {ba n:Nat} {bs:List Nat} {a:ak} (h:dV w ba n bs a) (hn:a.length=n):jP w (some ⟨ba,0,none⟩) a/\iM n a:=by
 refine⟨fun i hi=>?_,hn,h.2.2.2.2⟩;have hi':i<bs.length:=by rw [h.2.1];exact hi
 have hr:=h.row hi';have hv:=h.2.2.2.1 i hi hi';have hlen:a[i].length=n:=(h.2.2.2.2 _ (List.getElem_mem hi)).1;refine⟨ba,0,rfl,h.lt,bs[i],n,?_,hv.lt,fun j hj=>hv.cell hj⟩;rw [hlen,Nat.zero_add];exact hr
def EP (w:World) (n:Nat) (R:Except Nat ak) (e:Ending) (w':World):Prop:=Below w.heap.size w w'/\match R with
 | .ok x=>∃ AS cs,e=.returned (.tuple #[.slice (some AS) n cs,.int .i64 0])/\jP w' (some AS) x/\iM n x
 | .error y=>e=.returned (.tuple #[.slice none 0 0,.int .i64 y])/\y≠0
def uT (X:Int->ak->Prop):Prop:=∀ (k:Int) (AS:Addr) (c n:Nat) (a:ak) (w:World),X k a->jP w (some AS) a->iM n a->1<=n->n<=3000->Calls Tryz.prog 87 #[.int .i64 k,.slice (some AS) n c] w (EP w n (qz k a))
theorem I4 {k:Int} {n:Nat} {a:ak} (h:iM n a):nP k a=(kindOk k && a.all fun r=>r.all (aT k)):=by
 unfold nP;congr 1;rw [Bool.eq_iff_iff,List.all_eq_true,List.all_eq_true];refine⟨fun hh r hr=>?_,fun hh r hr=>?_⟩
 ·have:=hh r hr
  rw [Bool.and_eq_true] at this;exact this.2
 ·rw [Bool.and_eq_true,decide_eq_true_eq]
  exact⟨by rw [(h.2 r hr).1,h.1],hh r hr⟩
theorem LD (k:Int) (AS:Addr) (c n:Nat) (a:ak) (w:World) (hA:jP w (some AS) a) (hN:iM n a) (hn:n<=3000) :
  Calls Tryz.prog 108 #[.int .i64 k,.slice (some AS) n c] w fun e w'=>e=.returned (.bool (nP k a))/\Below w.heap.size w w':=by
 have pk:=fun W=>uJ k W
 have HD:=Lib.hid (I4 (k:=k) hN);have HA:=Lib.hid hA;generalize nP k a=R at *;clear hA
 cases hk:kindOk k with
 | false =>
  have HY:Hid (R=false):=by rw [Hid,HD.out,hk];rfl
  rw [hk] at pk;clear hk HD;go_enter Tryz.func108,Tryz.ntmps108;go_wp2_with fail;refine (pk _).mono ?_;rintro e w1 ⟨rfl,rfl⟩;go_wp2_with fail;go_returns;exact⟨by rw [HY.out];(try rfl),Below.refl _ _⟩
 | true =>
  have HY:Hid (R=a.all fun r=>r.all (aT k)):=by rw [Hid,HD.out,hk];rfl
  rw [hk] at pk;clear hk HD;go_enter Tryz.func108,Tryz.ntmps108;go_wp2_with fail;refine (pk _).mono ?_;rintro e w1 ⟨rfl,rfl⟩;go_wp2_with fail
  go_loopw [5] (fun i wr=>∃ (q:Nat),i=.int .i64 q/\q<=n/\Below w.heap.size w wr/\Hid (∀ r∈a.take q,r.all (aT k)=true)) (fun i _=>n-(intOf i).toNat)
  case atStart=>exact⟨0,rfl,by omega,Below.refl _ _,by simp [Hid]⟩
  case round =>
   obtain⟨q,rfl,hq,hBr,HN⟩:=hrel;by_cases hlt:q<n
   ·have hqa:q<a.length:=by rw [hN.1];exact hlt
    obtain⟨b,o,hAS,hbo,r,c',hr0,hr1,hr2⟩:=HA.out q hqa;obtain rfl:=Option.some.inj hAS;have hrn:=hN.2 _ (List.getElem_mem hqa);rw [hrn.1] at hr0;have HF:Hid ((a[q]).all (aT k)=false->(a.all fun r=>r.all (aT k))=false):=p8 (p:=fun r:Vec=>r.all (aT k)) hqa;have HT:Hid ((a[q]).all (aT k)=true->∀ r∈a.take (q+1),r.all (aT k)=true):=allT (p:=fun r:Vec=>r.all (aT k)) hqa HN.out;have HRow:=Lib.hid hr2;generalize a[q]=row at *;have i0:(0:Int)<=(q:Int):=by omega
    have il:(q:Int)<(n:Int):=by omega
    have m0:=(hBr.cell (p:=⟨b,o+q,none⟩) hbo).trans hr0;have tn:((n:Int) != (n:Int))=false:=by simp
    clear hr2 hAS HN;go_wp2_with fail
    go_loopw [6] (fun i wr=>∃ (j:Nat),i=.int .i64 j/\j<=n/\Below w.heap.size w wr/\Hid (∀ x∈row.take j,aT k x=true)) (fun i _=>n-(intOf i).toNat)
    case atStart=>exact⟨0,rfl,by omega,hBr,by simp [Hid]⟩
    case round =>
     clear hBr m0;obtain⟨j,rfl,hj,hBt,HJ⟩:=hrel;have m0:=(hBt.cell (p:=⟨b,o+q,none⟩) hbo).trans hr0;by_cases hjl:j<n
     ·have hjr:j<row.length:=by rw [hrn.1];exact hjl
      have HF2:Hid (aT k row[j]=false->row.all (aT k)=false):=p8 hjr;have HT2:Hid (aT k row[j]=true->∀ x∈row.take (j+1),aT k x=true):=allT hjr HJ.out;have hyl:=hrn.2 _ (List.getElem_mem hjr);have hyc:=HRow.out j hjr;generalize row[j]=y at *;obtain⟨Y,hY⟩:∃ Y:ByteArray,(⟨y.toArray⟩:ByteArray)=Y:=⟨_,rfl⟩;have hYd:y=Y.data.toList:=by rw [<-hY]
      unfold S at hyc;rw [hY] at hyc;subst hYd;have hYs:Y.size<=802:=by rw [Lib.size_eq];exact hyl
      have my:=(hBt.cell (p:=⟨r,j,none⟩) hr1).trans hyc;have pv:=fun W=>nZ k Y W (by omega)
      have ij0:(0:Int)<=(j:Int):=by omega
      have ijl:(j:Int)<(n:Int):=by omega
      clear hY hyl HJ
      cases hv:aT k Y.data.toList with
      | false =>
       have HX:=Lib.hid (HY.out.trans (HF.out (HF2.out hv)));rw [hv] at pv;clear hv HF HT HF2 HT2;go_wp2_with fail;refine (pv _).mono ?_;rintro e w2 ⟨rfl,b2⟩;go_wp2_with fail;go_returns;exact⟨by rw [HX.out];(try rfl),ae hBt b2⟩
      | true =>
       have HX:=Lib.hid (HT2.out hv);rw [hv] at pv;clear hv HF2 HT2;go_wp2_with fail;refine (pv _).mono ?_;rintro e w2 ⟨rfl,b2⟩;go_wp2_with fail;go_roundw
       case rel=>exact⟨j+1,by go_num,by omega,ae hBt b2,HX.out⟩
       case measure=>simp [intOf];omega
     ·obtain rfl:j=n:=by omega
      have HX:Hid (∀ r∈a.take (q+1),r.all (aT k)=true):=HT.out (by
       have:=HJ.out;rw [List.take_of_length_le (by rw [hrn.1];exact Nat.le_refl _)] at this;exact List.all_eq_true.2 this)
      go_wp2_with fail;go_roundw
      case rel=>exact⟨q+1,by go_num,by omega,hBt,HX.out⟩
      case measure=>simp [intOf];omega
   ·obtain rfl:q=n:=by omega
    have HX:Hid (R=true):=by
     have:=HN.out;rw [List.take_of_length_le (by rw [hN.1];exact Nat.le_refl _)] at this;rw [Hid,HY.out];exact List.all_eq_true.2 this
    go_wp2_with fail;go_returns;exact⟨by rw [HX.out];(try rfl),hBr⟩
def gK (w:World) (r:Nat) (l:Vec):Prop:=∃ rest,w.heap[r]? = some (.cells (l.map S++rest).toArray 9)
def uL (n:Nat) (r:Nat × Nat):Value:=.slice (some ⟨r.1,0,none⟩) n r.2
structure cZ (w:World) (ba n:Nat) (rows:List (Nat × Nat)) (a:ak):Prop where
 out:w.heap[ba]? = some (.cells (rows.map (uL n)).toArray 22)
 len:rows.length=n
 mat:iM n a
 row:∀ i,(h:i<rows.length)->(h':i<a.length)->gK w rows[i].1 a[i]
 ne:(rows.map Prod.fst).Nodup
theorem gK.same {w w':World} {r:Nat} {l:Vec} (h:gK w r l) (hb:w'.heap[r]? = w.heap[r]?):gK w' r l:=by
 obtain⟨rest,h⟩:=h;exact⟨rest,hb.trans h⟩
theorem gK.lt {w:World} {r:Nat} {l:Vec} (h:gK w r l):r<w.heap.size:=by
 obtain⟨rest,h⟩:=h;exact oM h
theorem gK.own {w:World} {base n g cap:Nat} {z:Bs} (h:w.ownsRow base 9 1 (.slice (some ⟨g,0,none⟩) n cap) n (List.replicate n (S z))):base<=g/\gK w g (List.replicate n z):=by
 obtain⟨h1,h2⟩:=h;rcases h2 with⟨h2,_⟩|⟨g',cap',cur,h2,h3,h4,h5,h6,h7,h8⟩
 ·cases h2
 ·simp only [Value.slice.injEq,Option.some.injEq,Addr.mk.injEq] at h2
  obtain⟨⟨rfl,_⟩,_,rfl⟩:=h2;refine⟨h3,cur.toList.drop (n * 1),?_⟩;rw [h4,List.map_replicate,<-h8,List.take_append_drop]
theorem own_below {w w':World} {base n:Nat} {e:TypeId} {v:Value} {xs:List Value} (h:w.ownsRow base e 1 v n xs) (hb:Below w.heap.size w w'):w'.ownsRow base e 1 v n xs:=by
 refine⟨h.1,?_⟩;rcases h.2 with h2|⟨g,cap,cur,h2,h3,h4,h5⟩
 ·exact Or.inl h2
 ·exact Or.inr ⟨g,cap,cur,h2,h3,(hb.block g (oM h4)).trans h4,h5⟩
theorem yw {w:World} {base n b:Nat} {e:TypeId} {v:Value} {xs:List Value} (h:w.ownsRow base e 1 v n xs) (hb:b<base):v.ownBlock≠some b:=by
 rcases h.2 with⟨h2,_⟩|⟨g,cap,cur,h2,h3,_⟩
 ·rw [h2];intro e;cases e
 ·rw [h2]
  intro e;simp only [Value.ownBlock,Option.some.injEq] at e;omega
theorem OD {w wr w5:World} {base q j g2 cap:Nat} {x v:Value} {L Rst:List Value} {T:TypeId} {o:Obj} (hlow:w.heap.size<base) (hbase:base<=wr.heap.size) (hB:Below w.heap.size w wr)
  (hO:wr.heap[w.heap.size]? = some (.cells (L++v::Rst).toArray T)) (hL:L.length=q) (hv:wr.ownsRow base 9 1 v j (List.replicate j x)) (hg:((wr.alloc o).drew).grownBy w5 v.ownBlock)
  (h6:w5.ownsRow base 9 1 (.slice (some ⟨g2,0,none⟩) (j+1) cap) (j+1) (List.replicate j x++[x])) :
  Below w.heap.size w (w5.setCell ⟨w.heap.size,q,none⟩ (.slice (some ⟨g2,0,none⟩) (j+1) cap)) ∧
  (w5.setCell ⟨w.heap.size,q,none⟩ (.slice (some ⟨g2,0,none⟩) (j+1) cap)).heap[w.heap.size]? = some (.cells (L++(.slice (some ⟨g2,0,none⟩) (j+1) cap)::Rst).toArray T) ∧
  (w5.setCell ⟨w.heap.size,q,none⟩ (.slice (some ⟨g2,0,none⟩) (j+1) cap)).ownsRow base 9 1 (.slice (some ⟨g2,0,none⟩) (j+1) cap) (j+1) (List.replicate (j+1) x) ∧
  base<=(w5.setCell ⟨w.heap.size,q,none⟩ (.slice (some ⟨g2,0,none⟩) (j+1) cap)).heap.size ∧
  ∀ i,i<base->i≠w.heap.size->(w5.setCell ⟨w.heap.size,q,none⟩ (.slice (some ⟨g2,0,none⟩) (j+1) cap)).heap[i]? = wr.heap[i]?:=by
 have bT:Below wr.heap.size wr ((wr.alloc o).drew):=((Below.refl _ wr).alloc (Nat.le_refl _) _).drew;have h1:∀ i,i<base->w5.heap[i]? = wr.heap[i]?:=fun i hi =>
  (hg.block i (Nat.lt_of_lt_of_le (Nat.lt_of_lt_of_le hi hbase) bT.size) (fun e=>yw hv hi e.symm)).trans (bT.block i (Nat.lt_of_lt_of_le hi hbase))
 have hlow':w.heap.size<=base:=Nat.le_of_lt hlow;have hB5:Below w.heap.size w w5:=Below.grown (hB.trans (bT.mono (Nat.le_trans hlow' hbase))) hg (Nat.le_trans (Nat.le_trans hlow' hbase) bT.size) (fun k hk=>by
  rcases Nat.lt_or_ge k w.heap.size with h|h
  ·exact absurd hk (yw hv (Nat.lt_trans h hlow))
  ·exact h)
 have hset:∀ i,i≠w.heap.size->(w5.setCell ⟨w.heap.size,q,none⟩ (.slice (some ⟨g2,0,none⟩) (j+1) cap)).heap[i]? = w5.heap[i]?:=fun i hi=>Below.heap_setCell w5 ⟨w.heap.size,q,none⟩ _ i hi
 refine⟨hB5.setCell (p:=⟨w.heap.size,q,none⟩) (Nat.le_refl _) _,?_,?_,?_,fun i hi hne=>(hset i hne).trans (h1 i hi)⟩
 ·unfold World.setCell
  simp only [Array.getElem?_modify];rw [h1 _ hlow,hO];subst hL;simp
 ·rw [show List.replicate (j+1) x=List.replicate j x++[x] from List.replicate_succ']
  refine⟨h6.1,?_⟩;rcases h6.2 with⟨h2,_⟩|⟨g,c2,cur,h2,h3,h4,h5⟩
  ·cases h2
  ·exact Or.inr ⟨g,c2,cur,h2,h3,(hset g (by omega)).trans h4,h5⟩
 ·have h7:(w5.setCell ⟨w.heap.size,q,none⟩ (.slice (some ⟨g2,0,none⟩) (j+1) cap)).heap.size=w5.heap.size:=by simp [World.setCell]
  rw [h7];have h8:w5.heap.size ≥ base:=by
   rcases h6.2 with⟨h2,_⟩|⟨g,c2,cur,h2,h3,h4,h5⟩
   ·cases h2
   ·have:=oM h4;omega
  exact h8
theorem KI (k:Int) (n:Nat) (w:World) (h1:1<=n) (h2:n<=3000) :
  Calls Tryz.prog 125 #[.int .i64 k,.int .i64 (n:Int)] w fun e w'=>∃ ba rows,e=.returned (.slice (some ⟨ba,0,none⟩) n n)/\cZ w' ba n rows (List.replicate n (List.replicate n (aF k)))/\w.heap.size<=ba/\(∀ r∈rows,w.heap.size<=r.1)/\Below w.heap.size w w':=by
 obtain⟨zk,hzk⟩:∃ zk:ByteArray,(⟨(aF k).toArray⟩:ByteArray)=zk:=⟨_,rfl⟩;have hzkd:S (aF k)=.string zk:=by unfold S;rw [hzk]
 have p0:∀ W,Calls Tryz.prog 34 #[.int .i64 k] W fun e w'=>e=.returned (.string zk)/\w'=W:=fun W=>by
  have:=o9 k W;rw [hzkd] at this;exact this.mono fun e w' h=>⟨h.1,h.2.symm⟩
 have HZ:=Lib.hid hzkd;have hzl:=rR k;generalize aF k=z at *;clear hzk hzkd;obtain⟨ic,ci,cz0,cz1,cz2⟩:=info_parts rW;have d1:(1:Int)<=(n:Int):=by omega
 have d2:(n:Int)<=3000:=by omega
 have hmk:=BU n (by omega);have hM0:(w.alloc (.cells (Array.replicate n (.slice none 0 0)) 22)).heap[w.heap.size]? = some (.cells (List.replicate n (Value.slice none 0 0)).toArray 22):=by rw [heap_alloc_new];simp
 have hb0:Below w.heap.size w (w.alloc (.cells (Array.replicate n (.slice none 0 0)) 22)):=(Below.refl _ _).alloc (Nat.le_refl _) _;go_enter Tryz.func125,Tryz.ntmps125;go_wp2_with fail;generalize w.alloc (.cells (Array.replicate n (.slice none 0 0)) 22)=w1 at *;clear hmk
 go_loopw [6] (fun i wr=>∃ (q:Nat) (rows:List (Nat × Nat)),i=.int .i64 q/\q<=n/\rows.length=q/\Below w.heap.size w wr/\wr.heap[w.heap.size]? = some (.cells (rows.map (uL n)++List.replicate (n-q) (Value.slice none 0 0)).toArray 22)/\(∀ r∈rows,w.heap.size<r.1/\gK wr r.1 (List.replicate n z))/\(rows.map Prod.fst).Nodup) (fun i _=>n-(intOf i).toNat)
 case atStart=>exact⟨0,[],rfl,by omega,rfl,hb0,by simpa using hM0,fun r h=>absurd h List.not_mem_nil,List.nodup_nil⟩
 case round =>
  obtain⟨q,rows,rfl,hq,hql,hB,hO,hR,hND⟩:=hrel;by_cases hlt:q<n
  ·obtain⟨wq,hwq⟩:∃ W,W=wr:=⟨_,rfl⟩
   subst hwq;have i0:(0:Int)<=(q:Int):=by omega
   have il:(q:Int)<(n:Int):=by omega
   have hoq:=oM hO;go_wp2_with fail
   go_loopw [7] (fun i wr=>∃ (j:Nat) (v:Value),i=.int .i64 j/\j<=n/\Below w.heap.size w wr/\wr.heap[w.heap.size]? = some (.cells (rows.map (uL n)++v::List.replicate (n-(q+1)) (Value.slice none 0 0)).toArray 22)/\wr.ownsRow wq.heap.size 9 1 v j (List.replicate j (.string zk))/\(v=.slice none 0 0 ↔ j=0)/\wq.heap.size<=wr.heap.size/\∀ i,i<wq.heap.size->i≠w.heap.size->wr.heap[i]? = wq.heap[i]?) (fun i _=>n-(intOf i).toNat)
   case atStart=>exact⟨0,.slice none 0 0,rfl,by omega,hB,by rw [hO,show n-q=(n-(q+1))+1 by omega,List.replicate_succ],⟨rfl,Or.inl ⟨rfl,rfl⟩⟩,by simp,Nat.le_refl _,fun i _ _=>rfl⟩
   case round =>
    obtain⟨j,v,rfl,hj,hBt,hOt,hown,hvj,hsz,hsame⟩:=hrel;by_cases hjl:j<n
    ·have hcv:wr.cell? ⟨w.heap.size,q,none⟩=some v:=by
      rw [cell_of_row wr w.heap.size q _ _ (0,0) hOt];simp [hql]
     have hfv:wr.frozen? ⟨w.heap.size,q,none⟩=false:=by
      unfold World.frozen?;rw [hOt];simp
     have hv1:v.oneCell'=true:=by
      rcases hown.2 with⟨h,_⟩|⟨g,cap,cur,h,_⟩ <;> rw [h] <;> rfl
     have ij0:(0:Int)<=(j:Int):=by omega
     have ijl:(j:Int)<(n:Int):=by omega
     go_wp2_with fail;have bT:Below wr.heap.size wr ((wr.alloc (.cells #[.string zk] 9)).drew):=((Below.refl _ wr).alloc (Nat.le_refl _) _).drew;have hcv2:(wr.alloc (.cells #[.string zk] 9)).cell? ⟨w.heap.size,q,none⟩=some v:=(bT.cell (p:=⟨w.heap.size,q,none⟩) (Nat.lt_of_lt_of_le hoq hsz)).trans hcv;have hown5:((wr.alloc (.cells #[.string zk] 9)).drew).ownsRow wq.heap.size 9 1 v j (List.replicate j (.string zk)):=own_below hown bT;have hnews:∀ j u,[Value.string zk][j]? = some u->((wr.alloc (.cells #[.string zk] 9)).drew).cell? ((⟨wr.heap.size,0,none⟩:Addr).add j)=some u:=World.news_of_block (heap_alloc_new wr (.cells #[.string zk] 9));have h63:j+1<=maxLen:=by unfold maxLen;omega
     have hby:(j+1) * 16<=140737488355328:=by omega
     have hbase:wq.heap.size<=((wr.alloc (.cells #[.string zk] 9)).drew).heap.size:=Nat.le_trans hsz bT.size;have hvo:v.ownBlock≠some w.heap.size:=yw hown hoq;have KK:Hid (∀ w5,((wr.alloc (.cells #[.string zk] 9)).drew).grownBy w5 v.ownBlock->w5.cell? ⟨w.heap.size,q,none⟩=some v/\w5.frozen? ⟨w.heap.size,q,none⟩=false):=by
      intro w5 hg;have h1:w5.heap[w.heap.size]? = wr.heap[w.heap.size]?:=(hg.block w.heap.size (Nat.lt_of_lt_of_le (Nat.lt_of_lt_of_le hoq hsz) bT.size) (fun e=>hvo e.symm)).trans (bT.block _ (Nat.lt_of_lt_of_le hoq hsz));refine⟨?_,?_⟩
      ·rw [cell_of_row w5 w.heap.size q _ _ (0,0) (h1.trans hOt)]
       simp [hql]
      ·unfold World.frozen?
       rw [h1.trans hOt];simp
     have hent:∀ args w,(callFunc 34 args).run Tryz.prog w=.ok (.enter 34 args) w:=fun args w=>enters_of Tryz.func34 (by kernel_rfl) rfl args w
     have p3:Calls Tryz.prog 34 #[.int .i64 k] wr.drew (fun e w'=>∃ u,e=.returned u/\(u=.string zk/\w'=wr.drew)):=(p0 _).mono fun e w' h=>⟨_,h.1,rfl,h.2⟩
     have HOt:=Lib.hid hOt;have HOwn:=Lib.hid hown;have HVo:=Lib.hid hvo;clear hOt hown hvo
     go_region_law
      (first
       | (refine Nr (by rfl) 34 (.tmp 26) 3 (by rfl) hent _ (by rfl) p3 ?_;rintro u wz ⟨rfl,rfl⟩)
       | (refine step_append_lies _ (by rfl) (.tmp 25) (.tmp 28) 22 (by rfl) wq.heap.size 9 ic _ 1 16 Tryz.underlying22 ci cz0 cz1 cz2 (by rfl) (by decide) _ j (List.replicate j (.string zk)) (by rfl) hown5 ⟨wr.heap.size,0,none⟩ 1 1 [.string zk] (by rfl) rfl hnews (by simp [Value.oneCell']) (by decide) h63 hby hbase (wr.heap.size+1) (by simp) ?_;intro g2 cap w5 hown6 hgr5 hat5 hlt5;obtain⟨q1,q2⟩:=KK.out w5 hgr5)
       | fail)
     all_goals
      obtain⟨e1,e2,e3,e4,e5⟩:=OD (q:=q) (o:=.cells #[.string zk] 9) hoq hsz hBt HOt.out (by simp [hql]) HOwn.out hgr5 hown6;have HE2:=Lib.hid e2;have HE3:=Lib.hid e3;clear hown6 hgr5 hat5 hlt5 q1 q2 hown5 hnews hcv hcv2 hfv KK e2 e3;generalize w5.setCell ⟨w.heap.size,q,none⟩ (.slice (some ⟨g2,0,none⟩) (j+1) cap)=w7 at *;go_wp2_with fail;go_roundw
      case rel=>exact⟨j+1,_,by go_num,by omega,e1,HE2.out,HE3.out,by simp,e4,fun i hi hne=>(e5 i hi hne).trans (hsame i hi hne)⟩
      case measure=>simp [intOf];omega
    ·obtain rfl:j=n:=by omega
     obtain⟨g,cap,rfl⟩:∃ g cap,v=.slice (some ⟨g,0,none⟩) j cap:=by
      rcases hown.2 with⟨h2,h3⟩|⟨g,cap,cur,h2,_⟩
      ·omega
      ·exact⟨g,cap,h2⟩
     have HZ2:Hid (List.replicate j (Value.string zk)=List.replicate j (S z)):=by rw [Hid,HZ.out]
     obtain⟨hg1,hg2⟩:=gK.own (z:=z) (by rw [<-HZ2.out];exact hown);have HO2:Hid (wr.heap[w.heap.size]? = some (.cells ((rows++[(g,cap)]).map (uL j)++List.replicate (j-(q+1)) (Value.slice none 0 0)).toArray 22)):=by
      rw [Hid,hOt,List.map_append,List.append_assoc]
      rfl
     have hR2:∀ r∈rows++[(g,cap)],w.heap.size<r.1/\gK wr r.1 (List.replicate j z):=fun r hr=>by
      rcases List.mem_append.1 hr with hr|hr
      ·have h3:=hR r hr
       exact⟨h3.1,h3.2.same (hsame r.1 h3.2.lt (Nat.ne_of_gt h3.1))⟩
      ·rw [List.mem_singleton.1 hr]
       exact⟨Nat.lt_of_lt_of_le hoq hg1,hg2⟩
     have hND2:((rows++[(g,cap)]).map Prod.fst).Nodup:=by
      rw [List.map_append,List.nodup_append];refine⟨hND,by simp,fun x hx y hy=>?_⟩;simp only [List.map_cons,List.map_nil,List.mem_singleton] at hy;obtain⟨r,hr,rfl⟩:=List.mem_map.1 hx;have h3:=(hR r hr).2.lt;omega
     clear hOt hown hR hND;go_wp2_with fail;go_roundw
     case rel=>exact⟨q+1,rows++[(g,cap)],by go_num,by omega,by simp [hql],hBt,HO2.out,hR2,hND2⟩
     case measure=>simp [intOf];omega
  ·obtain rfl:q=n:=by omega
   rw [Nat.sub_self,List.replicate_zero,List.append_nil] at hO;go_wp2_with fail;go_returns;refine⟨w.heap.size,rows,rfl,⟨hO,hql,⟨by simp,fun r hr=>?_⟩,fun i hi hi'=>?_,hND⟩,Nat.le_refl _,fun r hr=>Nat.le_of_lt (hR r hr).1,hB⟩
   ·rw [List.eq_of_mem_replicate hr]
    exact⟨by simp,fun x hx=>by rw [List.eq_of_mem_replicate hx];exact hzl⟩
   ·rw [List.getElem_replicate]
    exact (hR _ (List.getElem_mem hi)).2
theorem cZ.keep {w w':World} {ba n:Nat} {rows:List (Nat × Nat)} {a:ak} (h:cZ w ba n rows a) (hb:w'.heap[ba]? = w.heap[ba]?) (hr:∀ r∈rows,w'.heap[r.1]? = w.heap[r.1]?):cZ w' ba n rows a :=
 ⟨hb.trans h.out,h.len,h.mat,fun i hi hi'=>(h.row i hi hi').same (hr _ (List.getElem_mem hi)),h.ne⟩
theorem cZ.lt {w:World} {ba n:Nat} {rows:List (Nat × Nat)} {a:ak} (h:cZ w ba n rows a):ba<w.heap.size/\∀ r∈rows,r.1<w.heap.size:=by
 refine⟨oM h.out,fun r hr=>?_⟩;obtain⟨i,hi,rfl⟩:=List.getElem_of_mem hr;exact (h.row i hi (by rw [h.mat.1,<-h.len];exact hi)).lt
theorem cZ.below {w w':World} {ba n:Nat} {rows:List (Nat × Nat)} {a:ak} (h:cZ w ba n rows a) (hb:Below w.heap.size w w'):cZ w' ba n rows a :=
 h.keep (hb.block ba h.lt.1) fun r hr=>hb.block _ (h.lt.2 r hr)
theorem cZ.upd {w w':World} {ba n sb B:Nat} {rows:List (Nat × Nat)} {a:ak} (h:cZ w ba n rows a) (hu:df sb w w') (h1:sb<B) (h2:B<=ba) (h3:∀ r∈rows,B<=r.1):cZ w' ba n rows a :=
 h.keep (hu.same ba h.lt.1 (by omega)) fun r hr=>hu.same _ (h.lt.2 r hr) (by have:=h3 r hr;omega)
theorem cZ.rowAt {w:World} {ba n:Nat} {rows:List (Nat × Nat)} {a:ak} (h:cZ w ba n rows a) {i:Nat} (hi:i<n):w.cell? ⟨ba,i,none⟩=some (.slice (some ⟨(rows[i]'(by rw [h.len];exact hi)).1,0,none⟩) n (rows[i]'(by rw [h.len];exact hi)).2):=by
 rw [cell_of_row w ba i _ _ (0,0) h.out];have hi':i<rows.length:=by rw [h.len];exact hi
 simp [hi',uL]
theorem gK.cell {w:World} {r:Nat} {l:Vec} (h:gK w r l) {j:Nat} (hj:j<l.length):w.cell? ⟨r,j,none⟩=some (S l[j]):=by
 obtain⟨rest,h⟩:=h;rw [cell_of_row w r j _ _ (0,0) h];simp [List.getElem?_append,hj]
theorem gK.free {w:World} {r:Nat} {l:Vec} (h:gK w r l) (j:Nat):w.frozen? ⟨r,j,none⟩=false:=by
 obtain⟨rest,h⟩:=h;unfold World.frozen?;rw [show w.heap[r]? = _ from h];simp
theorem gK.set {w:World} {r:Nat} {l:Vec} (h:gK w r l) {j:Nat} (hj:j<l.length) (x:Bs):gK (w.setCell ⟨r,j,none⟩ (S x)) r (l.set j x):=by
 obtain⟨rest,h⟩:=h;refine⟨rest,?_⟩;unfold World.setCell;simp only [Array.getElem?_modify];rw [show w.heap[r]? = _ from h];simp [List.map_set,hj]
theorem cZ.out_ne {w:World} {ba n:Nat} {rows:List (Nat × Nat)} {a:ak} (h:cZ w ba n rows a):∀ r∈rows,r.1≠ba:=by
 intro r hr e;obtain⟨i,hi,rfl⟩:=List.getElem_of_mem hr;obtain⟨rest,h1⟩:=h.row i hi (by rw [h.mat.1,<-h.len];exact hi);have h2:=h.out;rw [e,show w.heap[ba]? = _ from h2] at h1;simp at h1
theorem cZ.putRow {w w':World} {ba n:Nat} {rows:List (Nat × Nat)} {a:ak} (h:cZ w ba n rows a) {i:Nat} (hi:i<n) {l:Vec} (hl:dK n l) (hr:gK w' (rows[i]'(by rw [h.len];exact hi)).1 l)
  (hs:∀ j,j≠(rows[i]'(by rw [h.len];exact hi)).1->w'.heap[j]? = w.heap[j]?):cZ w' ba n rows (a.set i l):=by
 have hir:i<rows.length:=by rw [h.len];exact hi
 refine⟨(hs ba (fun e=>h.out_ne _ (List.getElem_mem hir) e.symm)).trans h.out,h.len,⟨by rw [List.length_set];exact h.mat.1,fun r hr=>?_⟩,fun p hp hp'=>?_,h.ne⟩
 ·rcases List.mem_or_eq_of_mem_set hr with hr|rfl
  ·exact h.mat.2 r hr
  ·exact hl
 ·by_cases e:p=i
  ·subst e
   rw [List.getElem_set_self];exact hr
  ·rw [List.getElem_set_ne (fun e'=>e e'.symm)]
   have hp2:p<a.length:=by simpa using hp'
   refine (h.row p hp hp2).same (hs _ (fun e2=>?_));have h3:=List.pairwise_iff_getElem.1 h.ne;rcases Nat.lt_or_gt_of_ne e with h4|h4
   ·exact h3 p i (by simpa using hp) (by simpa using hir) h4 (by simpa using e2)
   ·exact h3 i p (by simpa using hir) (by simpa using hp) h4 (by simpa using e2.symm)
theorem cZ.put {w:World} {ba n:Nat} {rows:List (Nat × Nat)} {a:ak} (h:cZ w ba n rows a) {i j:Nat} (hi:i<n) (hj:j<n) {x:Bs} (hx:x.length<=802) (hia:i<a.length) :
  cZ (w.setCell ⟨(rows[i]'(by rw [h.len];exact hi)).1,j,none⟩ (S x)) ba n rows (a.set i (a[i].set j x)):=by
 have hir:i<rows.length:=by rw [h.len];exact hi
 have hn:=h.mat.2 _ (List.getElem_mem hia);exact h.putRow hi (hn.set j hx) ((h.row i hir hia).set (by rw [hn.1];exact hj) x) fun k hk=>Below.heap_setCell w _ _ k hk
theorem cZ.read {w:World} {ba n:Nat} {rows:List (Nat × Nat)} {a:ak} (h:cZ w ba n rows a):jP w (some ⟨ba,0,none⟩) a:=by
 intro i hi;have hin:i<n:=by rw [<-h.mat.1];exact hi
 have hir:i<rows.length:=by rw [h.len];exact hin
 have hr:=h.row i hir hi;refine⟨ba,0,rfl,h.lt.1,(rows[i]'hir).1,(rows[i]'hir).2,?_,hr.lt,fun j hj=>hr.cell hj⟩;rw [Nat.zero_add,h.rowAt hin,(h.mat.2 _ (List.getElem_mem hi)).1]
theorem setRow_other (w:World) (g:Nat) (r:Array Value) (j:Nat) (h:j≠g):(w.setRow g r).heap[j]? = w.heap[j]?:=by
 unfold World.setRow;simp [Array.getElem?_modify,Ne.symm h]
theorem df.newset {sb:Nat} {w w1:World} (h:df sb w w1) {p:Addr} (hp:w.heap.size<=p.block) (v:Value):df sb w (w1.setCell p v) :=
 ⟨fun B h1 h2=>(h.low B h1 h2).setCell (Nat.le_trans h2 hp) v,fun j hj hne=>(Below.heap_setCell w1 p v j (by omega)).trans (h.same j hj hne)⟩
theorem df.newrow {sb:Nat} {w w1:World} (h:df sb w w1) {g:Nat} (hp:w.heap.size<=g) (r:Array Value):df sb w (w1.setRow g r) :=
 ⟨fun B h1 h2=>(h.low B h1 h2).trans ⟨rfl,rfl,rfl,by simp [World.setRow],fun k hk=>setRow_other w1 g r k (by omega)⟩,fun j hj hne=>(setRow_other w1 g r j (by omega)).trans (h.same j hj hne)⟩
theorem df.step {sb:Nat} {w w1 w2:World} (h:df sb w w1) (hb:Below w1.heap.size w1 w2):df sb w w2:=h.trans (df.of_below hb)
def sM (k:Int) (a:ak):Prop:=∀ p,p<a.length->∀ i,i<a.length->∀ j,j<a.length->aX a i p=aF k\/aX a p j=aF k
theorem GX {k:Int} {a:ak} {loop:Bs} {p i j:Nat} {b:Bool} (h:aX a i p=aF k\/aX a p j=aF k):ug k a loop p i j b=(b,aX a i j):=by
 unfold ug;rw [if_neg (by rintro⟨h1,h2⟩;rcases h with h|h;exact h1 h;exact h2 h)]
theorem DC {k:Int} {a:ak} {loop:Bs} {p i:Nat} (h:sM k a) (hp:p<a.length) (hi:i<a.length):∀ (n j:Nat) (b:Bool),j+n<=a.length->qx k a loop p i n j b=(b,(List.range n).map fun t=>aX a i (j+t))
 | 0,j,b,_=>rfl
 | n+1,j,b,hn=>by
  unfold qx;rw [GX (h p hp i hi j (by omega)),DC h hp hi n (j+1) b (by omega)];rw [List.range_succ_eq_map];simp [Function.comp_def,Nat.add_assoc,Nat.add_comm 1]
theorem LM {n:Nat} {a:ak} (h:iM n a) {i:Nat} (hi:i<a.length):((List.range n).map fun t=>aX a i (0+t))=a[i]:=by
 have hl:=(h.2 _ (List.getElem_mem hi)).1;apply List.ext_getElem
 ·simp [hl]
 ·intro t h1 h2
  simp only [List.getElem_map,List.getElem_range,Nat.zero_add];unfold aX;rw [List.getD_eq_getElem?_getD,List.getD_eq_getElem?_getD,List.getElem?_eq_getElem hi,Option.getD_some,List.getElem?_eq_getElem h2,Option.getD_some]
theorem DK {k:Int} {n:Nat} {a:ak} {loop:Bs} {p:Nat} (hN:iM n a) (h:sM k a) (hp:p<a.length):∀ (m i:Nat) (b:Bool),i+m<=a.length->rQ k a loop p n m i b=(b,(a.drop i).take m)
 | 0,i,b,_=>by simp [rQ]
 | m+1,i,b,hm=>by
  have hi:i<a.length:=by omega
  unfold rQ;rw [DC h hp hi n 0 b (by rw [hN.1];omega),LM hN hi,DK hN h hp m (i+1) b (by omega)];simp only;rw [List.drop_eq_getElem_cons hi,List.take_succ_cons]
theorem Dz {k:Int} {n:Nat} {a:ak} (hN:iM n a) (h:sM k a) (hk:(oQ k false (aF k)).1=false):∀ (m p:Nat),p+m<=a.length->uH k n m p false a=(false,a)
 | 0,p,_=>rfl
 | m+1,p,hm=>by
  have hp:p<a.length:=by omega
  have hpp:aX a p p=aF k:=by rcases h p hp p hp p hp with h|h <;> exact h
  unfold uH yM;rw [hpp,hk,DK hN h hp n 0 false (by rw [hN.1];omega)];simp only [List.drop_zero];rw [List.take_of_length_le (by rw [hN.1];exact Nat.le_refl _),Dz hN h hk m (p+1) (by omega)]
theorem M6 {k:Int} {n:Nat} {a:ak} (hN:iM n a) (h:sM k a) (hk:(oQ k false (aF k)).1=false):rT k a=jq k n 0 false a:=by
 unfold rT;rw [hN.1,Dz hN h hk n 0 (by rw [hN.1];omega)]
theorem Aw (k:Int):∀ (n i:Nat) (a:ak),(jq k n i true a).1=true
 | 0,_,_=>rfl
 | n+1,i,a=>by
  unfold jq;rw [show (jG k true (fQ k) (aX a i i)).1=true by unfold jG;simp];exact Aw k n (i+1) _
theorem Bg {k:Int} (h:kindOk k=true):oQ k false (aF k)=(false,(oh k (aF k)).1):=by
 have:=ul h;rcases (show k=1\/k=2\/k=3 by omega) with rfl|rfl|rfl <;> decide +kernel
def uQ (k:Int) (a:ak):Prop:=sM k a/\(jq k a.length 0 false a).1=false
theorem mi {a:ak} {i j:Nat} (hi:i<a.length) (hj:j<a[i].length):aX a i j=a[i][j]:=by
 unfold aX;rw [List.getD_eq_getElem?_getD,List.getD_eq_getElem?_getD,List.getElem?_eq_getElem hi,Option.getD_some,List.getElem?_eq_getElem hj,Option.getD_some]
theorem cZ.at_ {w:World} {ba n:Nat} {rows:List (Nat × Nat)} {a:ak} (h:cZ w ba n rows a) {i j:Nat} (hi:i<n) (hj:j<n):w.cell? ⟨(rows[i]'(by rw [h.len];exact hi)).1,j,none⟩=some (S (aX a i j))/\(aX a i j).length<=802:=by
 have hia:i<a.length:=by rw [h.mat.1];exact hi
 have hrn:=h.mat.2 _ (List.getElem_mem hia);have hja:j<a[i].length:=by rw [hrn.1];exact hj
 rw [mi hia hja];exact⟨(h.row i (by rw [h.len];exact hi) hia).cell hja,hrn.2 _ (List.getElem_mem hja)⟩
structure gL (w wr:World) (sb n:Nat) (k:Int) (bb:Nat) (rb:List (Nat × Nat)) (b:ak):Prop where
 u:df sb w wr
 s:dI wr sb k false
 m:cZ wr bb n rb b
 lo:w.heap.size<=bb/\∀ r∈rb,w.heap.size<=r.1
def ES (w:World) (sb n:Nat) (k:Int) (x:ak) (e:Ending) (w':World):Prop:=∃ bb rb,e=.returned (.slice (some ⟨bb,0,none⟩) n n)/\gL w w' sb n k bb rb x
theorem cellS {w w':World} {p:Addr} (h:w'.heap[p.block]? = w.heap[p.block]?):w'.cell? p=w.cell? p:=by unfold World.cell?;rw [h]
theorem cZ.rowE {w:World} {ba n:Nat} {rows:List (Nat × Nat)} {a:ak} (h:cZ w ba n rows a) {i:Nat} (hi:i<n):∃ g cp,rows[i]? = some (g,cp)/\w.cell? ⟨ba,i,none⟩=some (.slice (some ⟨g,0,none⟩) n cp):=by
 have hir:i<rows.length:=by rw [h.len];exact hi
 exact⟨(rows[i]'hir).1,(rows[i]'hir).2,by rw [List.getElem?_eq_getElem hir],h.rowAt hi⟩
theorem cZ.rowG {w:World} {ba n i g cp:Nat} {rows:List (Nat × Nat)} {a:ak} (h:cZ w ba n rows a) (hg:rows[i]? = some (g,cp)) (hia:i<a.length):gK w g a[i]/\(g,cp)∈rows:=by
 obtain⟨hir,e⟩:=List.getElem?_eq_some_iff.1 hg;have:=h.row i hir hia;rw [e] at this;exact⟨this,e ▸ List.getElem_mem hir⟩
theorem cZ.putRowE {w w':World} {ba n i g cp:Nat} {rows:List (Nat × Nat)} {a:ak} (h:cZ w ba n rows a) (hg:rows[i]? = some (g,cp)) (hi:i<n) {l:Vec} (hl:dK n l) (hr:gK w' g l) (hs:∀ j,j≠g->w'.heap[j]? = w.heap[j]?):cZ w' ba n rows (a.set i l):=by
 obtain⟨hir,e⟩:=List.getElem?_eq_some_iff.1 hg;exact h.putRow hi hl (by rw [e];exact hr) (by rw [e];exact hs)
theorem cZ.putE {w:World} {ba n i j g cp:Nat} {rows:List (Nat × Nat)} {a:ak} (h:cZ w ba n rows a) (hg:rows[i]? = some (g,cp)) (hi:i<n) (hj:j<n) {x:Bs} (hx:x.length<=802) (hia:i<a.length):cZ (w.setCell ⟨g,j,none⟩ (S x)) ba n rows (a.set i (a[i].set j x)):=by
 obtain⟨hir,e⟩:=List.getElem?_eq_some_iff.1 hg;have:=h.put hi hj hx hia;rw [e] at this;exact this
theorem dI.not {w:World} {sb o:Nat} {k:Int} {bad:Bool} {v:Value} (h:dI w sb k bad) (hc:w.cell? ⟨sb,o,none⟩=some v):(∀ x y z,v ≠ .slice x y z)/\∀ x,v ≠ .string x:=by
 rw [cell_of_row w sb o _ _ (0,0) h] at hc
 match o,hc with
 | 0,hc=>simp at hc;subst hc;simp
 | 1,hc=>simp at hc;subst hc;simp
 | o+2,hc=>simp at hc
theorem strSize:(Tryz.prog.info? 9).map (·.size)=some 1:=by kernel_rfl
theorem Mc (sb:Nat) (k:Int) (AS:Addr) (n:Nat) (a:ak) (w:World) (hS:dI w sb k false) (hA:jP w (some AS) a) (hN:iM n a) (hn1:1<=n) {q:Nat} (hlt:q<n) {wr:World} {bb:Nat} {rb:List (Nat × Nat)} {b:ak} (hI:gL w wr sb n k bb rb b) :
  ∃ g cp gs cs src os,rb[q]? = some (g,cp)/\AS=⟨src,os,none⟩/\wr.drew.cell? ⟨bb,q,none⟩=some (.slice (some ⟨g,0,none⟩) n cp)/\wr.drew.cell? ⟨src,os+q,none⟩=some (.slice (some ⟨gs,0,none⟩) n cs) ∧
   ∃ w5,(∀ ty,(Builtin.copy_ #[22,22] ty #[.slice (some ⟨g,0,none⟩) n cp,.slice (some ⟨gs,0,none⟩) n cs]).run Tryz.prog wr.drew=.ok (goInt n) w5)/\gL w w5 sb n k bb rb (b.set q (a.getD q [])):=by
 have hqa:q<a.length:=by rw [hN.1];exact hlt
 obtain⟨bs,os,hAS,hbs,br,cr,hr0,hr1,hr2⟩:=hA q hqa;obtain rfl:=Option.some.inj hAS;have hrn:=hN.2 _ (List.getElem_mem hqa);have hqb:q<b.length:=by rw [hI.m.mat.1];exact hlt
 obtain⟨g,cp,hg,hcell⟩:=hI.m.rowE hlt;obtain⟨⟨rest,hrest⟩,hmem⟩:=hI.m.rowG hg hqb;have hbl:=hI.m.mat.2 _ (List.getElem_mem hqb);have hne1:bs≠sb:=fun e=>by subst e;exact (hS.not hr0).1 _ _ _ rfl
 have hne2:br≠sb:=fun e=>by subst e;exact (hS.not (hr2 0 (by rw [hrn.1];omega))).2 _ rfl
 have hlo:=hI.lo.2 _ hmem;have hq0:a.getD q []=a[q]:=by rw [List.getD_eq_getElem?_getD,List.getElem?_eq_getElem hqa];rfl
 rw [hrn.1] at hr0;refine⟨g,cp,br,cr,bs,os,hg,rfl,hcell,(cellS (p:=⟨bs,os+q,none⟩) (hI.u.same bs hbs hne1)).trans hr0,wr.drew.setRow g (((b[q].map S++rest).take 0++a[q].map S++(b[q].map S++rest).drop (0+(a[q].map S).length))).toArray,fun ty=>?_,?_⟩
 ·have:=run_copy_row (P:=Tryz.prog) wr.drew 22 22 ty 9 g 0 n cp ⟨br,0,none⟩ n cr (b[q].map S++rest).toArray 9 (a[q].map S) Tryz.underlying22 strSize hrest (by rw [List.length_map,hrn.1];exact (Nat.min_self n).symm) (fun j v hv=>by
   rw [List.getElem?_map] at hv;have hj:j<a[q].length:=by
    rcases Nat.lt_or_ge j a[q].length with h|h
    ·exact h
    ·rw [List.getElem?_eq_none h] at hv;cases hv
   rw [List.getElem?_eq_getElem hj] at hv;simp only [Option.map_some,Option.some.injEq] at hv;subst hv;have e:(⟨br,0,none⟩:Addr).add j=⟨br,j,none⟩:=by unfold Addr.add;split <;> simp_all
   rw [e];exact (cellS (p:=⟨br,j,none⟩) (hI.u.same br hr1 hne2)).trans (hr2 j hj)) (by simp [hrn.1,hbl.1]) (fun v hv=>by
   obtain⟨x,_,rfl⟩:=List.mem_map.1 hv
   rfl)
  rw [this,List.length_map,hrn.1]
 ·have hu2:df sb w (wr.drew.setRow g (((b[q].map S++rest).take 0++a[q].map S++(b[q].map S++rest).drop (0+(a[q].map S).length))).toArray):=(hI.u.step ((Below.refl _ wr).drew)).newrow hlo _
  have hs3:∀ j,j≠g->(wr.drew.setRow g (((b[q].map S++rest).take 0++a[q].map S++(b[q].map S++rest).drop (0+(a[q].map S).length))).toArray).heap[j]? = wr.heap[j]?:=fun j hj=>setRow_other wr.drew g _ j hj
  rw [hq0];refine⟨hu2,(hs3 sb (by have:=hS.lt;omega)).trans hI.s,hI.m.putRowE hg hlt hrn ⟨rest,?_⟩ hs3,hI.lo⟩;have:=setRow_heap wr.drew g (b[q].map S++rest).toArray (((b[q].map S++rest).take 0++a[q].map S++(b[q].map S++rest).drop (0+(a[q].map S).length))).toArray 9 (0,0) hrest;rw [this];simp [hrn.1,hbl.1]
end Go.Proofs.YtppnecgeboonbaaGreatDoor
