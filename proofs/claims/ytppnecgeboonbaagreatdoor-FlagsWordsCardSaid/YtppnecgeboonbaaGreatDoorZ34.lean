/- The reference of layer 22: Factor (written by wip/hb2.py). -/
import Derived.Test.YtppnecgeboonbaaGreatDoorZ33
namespace Go.Proofs.YtppnecgeboonbaaGreatDoor
set_option maxRecDepth 100000
set_option linter.unusedVariables false
set_option maxHeartbeats 16000000
open Go Go.RowKit Go.Maps
theorem OP.nil (W:World) (B:Nat):OP W B (.slice none 0 0) (.slice none 0 0) [] [] [] :=
 ⟨World.ownsRow_nil _ _ _ _,World.ownsRow_nil _ _ _ _,rfl,fun i h=>absurd h (by simp),(fun g h=>by simp [Value.ownBlock] at h),(fun u h=>by cases h),fun i j h=>absurd h (by simp)⟩
theorem RF {w:World} {B:Nat} {v:Value} {l:List Bs} (h:w.ownsRow B 9 1 v l.length (l.map S)):∃ A c,v=.slice A l.length c/\ay w A (l.map S):=by
 rcases h.2 with⟨rfl,h2⟩|⟨g,cap,cur,hv,hB,hg,hn,hm,hc,ht⟩
 ·exact⟨none,0,by rw [h2],fun hne=>by
   have:l=[]:=List.length_eq_zero_iff.1 h2;rw [this] at hne;exact absurd rfl hne⟩
 ·refine⟨some ⟨g,0,none⟩,cap,hv,fun _=>⟨g,0,rfl,lt_of_block hg,fun j u hj=>?_⟩⟩
  have:=h.cells (g:=g) (by rw [hv];rfl) j u hj;have hadd:(⟨g,0,none⟩:Addr).add j=⟨g,0+j,none⟩:=by unfold Addr.add;split <;> simp_all
  rwa [hadd] at this
theorem Qt {w:World} {B:Nat} {E:TypeId} {v:Value} {n:Nat} {xs:List Value} (h:w.ownsRow B E 1 v n xs):∃ A c,v=.slice A n c:=by
 rcases h.2 with⟨rfl,h2⟩|⟨g,cap,cur,hv,hB,hg,hn,hm,hc,ht⟩
 ·exact⟨none,0,by rw [h2]⟩
 ·exact⟨some ⟨g,0,none⟩,cap,hv⟩
theorem RQ {w:World} {B:Nat} {v:Value} {us:List Value} (h:w.ownsRow B 22 1 v us.length us) {k:Nat} (hk:k<us.length):∃ g c,v=.slice (some ⟨g,0,none⟩) us.length c/\w.cell? ⟨g,k,none⟩=some us[k]/\w.frozen? ⟨g,k,none⟩=false:=by
 rcases h.2 with⟨rfl,h2⟩|⟨g,cap,cur,hv,hB,hg,hn,hm,hc,ht⟩
 ·omega
 ·refine⟨g,cap,hv,?_,?_⟩
  ·have:=h.cells (g:=g) (by rw [hv];rfl) k us[k] (List.getElem?_eq_getElem hk)
   have hadd:(⟨g,0,none⟩:Addr).add k=⟨g,k,none⟩:=by unfold Addr.add;split <;> simp_all
   rwa [hadd] at this
  ·subst hv
   exact h.frozenAt k
def Pf (fs:List Bs) (f:Bs) (k:Nat) (z:Int):Prop:=(z=-1/\∀ x∈fs.take k,x≠f)\/∃ i:Nat,z=(i:Int)/\∃ h:i<fs.length,fs[i]=f
theorem Pf.step_yes {fs:List Bs} {f:Bs} {k:Nat} (hk:k<fs.length) (h:fs[k]=f):Pf fs f (k+1) (k:Int):=Or.inr ⟨k,rfl,hk,h⟩
theorem Pf.step_no {fs:List Bs} {f:Bs} {k:Nat} {z:Int} (h:Pf fs f k z) (hk:k<fs.length) (hne:fs[k]≠f):Pf fs f (k+1) z:=by
 rcases h with⟨h1,h2⟩|h
 ·refine Or.inl ⟨h1,fun x hx=>?_⟩
  rw [List.take_succ_eq_append_getElem hk] at hx;rcases List.mem_append.1 hx with hx|hx
  ·exact h2 x hx
  ·rw [List.mem_singleton] at hx;subst hx;exact hne
 ·exact Or.inr h
def Pk (l:wF) (f v:Bs) (l2:wF) (k:Nat):Prop:=∃ h:k<l2.length,l2[k].1=f/\wV l f v=l2.set k (f,if v=[]\/v∈l2[k].2 then l2[k].2 else l2[k].2++[v])
theorem R4 {l:wF} {f v:Bs} {k:Nat} (hn:(l.map Prod.fst).Nodup) (hk:k<(l.map Prod.fst).length) (h:(l.map Prod.fst)[k]=f):Pk l f v l k:=by
 obtain⟨hi,e⟩:=Qi (v:=v) (Q4 hn hk h);exact⟨hi,by simpa using h,e⟩
theorem R3 {l:wF} {f v:Bs} (h:∀ x∈l.map Prod.fst,x≠f):Pk l f v (l++[(f,[])]) l.length:=by
 refine⟨by simp,by simp,?_⟩;rw [Qh (Q5 h),List.set_append_right _ _ (Nat.le_refl _),Nat.sub_self];simp only [List.getElem_append_right (Nat.le_refl _),Nat.sub_self];simp only [List.getElem_cons_zero,List.not_mem_nil,or_false,List.set_cons_zero,List.nil_append]
theorem Pk.known {l l2:wF} {f v:Bs} {k:Nat} (h:Pk l f v l2 k) (hv:∀ hk:k<l2.length,v=[]\/v∈l2[k].2):wV l f v=l2:=by
 obtain⟨hk,h1,h2⟩:=h;rw [h2,if_pos (hv hk),<-h1];exact List.set_getElem_self hk
theorem Pk.unknown {l l2:wF} {f v:Bs} {k:Nat} (h:Pk l f v l2 k) (hv:∀ hk:k<l2.length,¬ (v=[]\/v∈l2[k].2)):(wV l f v).map Prod.fst=l2.map Prod.fst/\∃ hk:k<(l2.map Prod.snd).length,(wV l f v).map Prod.snd=(l2.map Prod.snd).set k ((l2.map Prod.snd)[k]++[v]):=by
 obtain⟨hk,h1,h2⟩:=h;rw [h2,if_neg (hv hk),List.map_set,List.map_set];refine⟨?_,by simpa using hk,by simp⟩;simp only;rw [<-h1,show l2[k].1=(l2.map Prod.fst)[k]'(by simpa using hk) by simp,List.set_getElem_self]
def O5 (v:Bs) (vs:List Bs):Bool:=decide (v=[]\/v∈vs)
theorem Sn {v:Bs} {vs:List Bs} {i:Nat} (hi:i<vs.length):O5 v (vs.take (i+1))=(O5 v (vs.take i) || decide (vs[i]=v)):=by
 unfold O5;rw [List.take_succ_eq_append_getElem hi];rw [Bool.eq_iff_iff,Bool.or_eq_true,decide_eq_true_eq,decide_eq_true_eq,decide_eq_true_eq,List.mem_append,List.mem_singleton];constructor
 ·rintro (h|h|h)
  ·exact Or.inl (Or.inl h)
  ·exact Or.inl (Or.inr h)
  ·exact Or.inr h.symm
 ·rintro ((h|h)|h)
  ·exact Or.inl h
  ·exact Or.inr (Or.inl h)
  ·exact Or.inr (Or.inr h.symm)
theorem Sq {v:ByteArray}:O5 v.data.toList []=v.toList.isEmpty:=by
 unfold O5;rw [Lib.toList_data]
 cases v.data.toList <;> simp
theorem Sz {l:wF} {k i:Nat} (hi:i<l.length) (hk:k<=30000):OW 30000 (l.drop i) k=OW 30000 (l.drop (i+1)) (k * (2 * l[i].2.length+1)):=by
 rw [List.drop_eq_getElem_cons hi,OW,if_pos hk]
theorem Ri {l:wF} {k i:Nat} (h:¬ k<=30000\/l.length<=i):OW 30000 (l.drop i) k=k:=by
 rcases Nat.lt_or_ge i l.length with hi|hi
 ·rw [List.drop_eq_getElem_cons hi,OW,if_neg (by omega)]
 ·rw [List.drop_eq_nil_of_le hi];rfl
abbrev PR (gv k b11:Nat) (u:Value) (V:ByteArray) (w:World):Prop:=w.cell? ⟨gv,k,none⟩=some u/\w.cell? ⟨b11,2,none⟩=some (.string V)
theorem SX (m:aQ) (A At:Option Addr) (c ct:Nat) (t:List Bs) (w:World) (hV:dY w A m.states) (hT:ay w At (t.map S)) (ht:t.length<=1000000) (hm:m.states.length<=100) (ha:∀ s∈m.states,s.arcs.length<=1000/\∀ a∈s.arcs,PK a.inn/\PK a.out) :
  Calls Tryz.prog 58 #[di m A c,.slice At t.length ct,.int .i64 30000] w fun e w'=>e=.returned (.int .i64 (O1 m t:Nat))/\Below w.heap.size w w':=by
 have HV:=Lib.hid hV;have HT:=Lib.hid hT;have HA:=Lib.hid ha;have HD:Hid (O1 m t=OW 30000 (OL t m.states []) 1):=rfl;generalize O1 m t=R at *;clear hV hT ha;unfold di S at *;obtain⟨kd,st,ld,ss⟩:=m;simp only at *;generalize (⟨ld.toArray⟩:ByteArray)=Ld at *;have z3:=az w #[.int .i64 kd,.int .i64 st,.string Ld,.slice A ss.length c] 30 3 _ rfl;have hb0:Below w.heap.size w (w.alloc (.cells #[.int .i64 kd,.int .i64 st,.string Ld,.slice A ss.length c] 30)):=(Below.refl _ _).alloc (Nat.le_refl _) _;have hn0:w.heap.size<(w.alloc (.cells #[.int .i64 kd,.int .i64 st,.string Ld,.slice A ss.length c] 30)).heap.size:=by simp
 obtain⟨si,sc,sz0,sz1,sz2⟩:=info_parts rW;obtain⟨vi,vc,vz0,vz1,vz2⟩:=info_parts NG;go_enter Tryz.func58,Tryz.ntmps58;go_wp2_with fail;generalize w.alloc (.cells #[.int .i64 kd,.int .i64 st,.string Ld,.slice A ss.length c] 30)=w0 at *
 go_loopw [7,8,9] (fun fv vv i wr=>∃ (q n:Nat) (us:List Value) (l:wF),i=.int .i64 q/\q<=ss.length/\OP wr w0.heap.size fv vv us (l.map Prod.fst) (l.map Prod.snd)/\Below w0.heap.size w0 wr/\Hid ((l.map Prod.fst).Nodup/\O0 n l)/\n<=q * 1000/\Hid (OL t ss []=OL t (ss.drop q) l)) (fun _ _ i _=>ss.length-(intOf i).toNat)
 case atStart=>exact⟨0,0,[],[],rfl,by omega,OP.nil _ _,Below.refl _ _,⟨List.nodup_nil,by simp [O0]⟩,by omega,rfl⟩
 case round =>
  obtain⟨q,n,us,l,rfl,hq,hF,hB,HN,hn,HJ⟩:=hrel;have m3:=(hB.cell (p:=⟨w.heap.size,3,none⟩) hn0).trans z3;by_cases hlt:q<ss.length
  ·obtain⟨b,o,rfl,Vb,hc0,A',c',hc1,TK⟩:=HV.out q hlt
   have hal:=HA.out _ (List.getElem_mem hlt);have HS:Hid (OL t (ss.drop q) l=OL t (ss.drop (q+1)) (OT t ss[q].arcs l)):=by rw [Hid,List.drop_eq_getElem_cons hlt];rfl
   have hc1':=(hb0.cell (p:=⟨b,o+q * 2+1,none⟩) Vb).trans hc1;have hbo':b<w0.heap.size:=Nat.lt_of_lt_of_le Vb hb0.size;have VH:=Lib.hid (TK.below hb0);generalize ss[q]=s at *;obtain⟨fin,arcs⟩:=s;simp only at *;obtain⟨hal1,aB2⟩:=hal;have HAL:=Lib.hid aB2;have i0:(0:Int)<=(q:Int):=by omega
   have il:(q:Int)<(ss.length:Int):=by omega
   have HJ2:Hid (OL t ss []=OL t (ss.drop (q+1)) (OT t (arcs.drop 0) l)):=by rw [Hid,HJ.out,HS.out];rfl
   clear TK hc0 hc1 aB2 HJ HS;go_wp2_with fail
   go_loopw [7,8,10] (fun fv vv i wr=>∃ (j n:Nat) (us:List Value) (l:wF),i=.int .i64 j/\j<=arcs.length/\OP wr w0.heap.size fv vv us (l.map Prod.fst) (l.map Prod.snd)/\Below w0.heap.size w0 wr/\Hid ((l.map Prod.fst).Nodup/\O0 n l)/\n<=q * 1000+j/\Hid (OL t ss []=OL t (ss.drop (q+1)) (OT t (arcs.drop j) l))) (fun _ _ i _=>arcs.length-(intOf i).toNat)
   case atStart=>exact⟨0,n,us,l,rfl,by omega,hF,hB,HN,by omega,HJ2⟩
   case round =>
    clear hF hB HN hn HJ2 m3;clear us l n;obtain⟨j,n,us,l,rfl,hj,hF,hB,HN,hn,HJ⟩:=hrel;have m3:=(hB.cell (p:=⟨w.heap.size,3,none⟩) hn0).trans z3;have ns:=(hB.cell (p:=⟨b,o+q * 2+1,none⟩) hbo').trans hc1';by_cases hjl:j<arcs.length
    ·obtain⟨b',o',rfl,TH,ha0,ha1,ha2,UJ⟩:=VH.out j hjl
     have hbd:=HAL.out _ (List.getElem_mem hjl);have HS:Hid (OT t (arcs.drop j) l=OT t (arcs.drop (j+1)) (match eO t arcs[j] with|some f=>wV l f.feat f.val|none=>l)):=by rw [Hid,List.drop_eq_getElem_cons hjl];exact Sd _ _ _ _
     have pO:=SY At ct t arcs[j] wr (HT.out.below (hb0.trans (hB.mono (Nat.le_of_lt hn0)))) ht hbd.1 hbd.2;generalize arcs[j]=a at *;have u0:=(hB.cell (p:=⟨b',o'+j * 4,none⟩) TH).trans ha0;have u1:=(hB.cell (p:=⟨b',o'+j * 4+1,none⟩) TH).trans ha1;have u2:=(hB.cell (p:=⟨b',o'+j * 4+2,none⟩) TH).trans ha2;have u3:=(hB.cell (p:=⟨b',o'+j * 4+3,none⟩) TH).trans UJ;obtain⟨r,hr⟩:∃ r,eO t a=r:=⟨_,rfl⟩;rw [hr] at pO HS;obtain⟨x,y,wt,tg⟩:=a;unfold qR at pO;simp only at u0 u1 u2 u3 pO;unfold S at u2 pO;generalize (⟨wt.toArray⟩:ByteArray)=Wt at *;unfold ma at pO;obtain⟨F,V,hf,TN,Ub⟩:=lI (r.getD dX);rw [hf] at pO;generalize Ve:(r.getD dX).op=oo at *;have ij0:(0:Int)<=(j:Int):=by omega
     have ijl:(j:Int)<(arcs.length:Int):=by omega
     clear ha0 ha1 ha2 UJ hr hf hbd Ve
     cases r with
     | none =>
      simp only [Option.isSome_none] at pO;go_wp2_with (first|(go_at_call 59;refine pO.mono ?_;rintro e w3 ⟨rfl,hb3⟩));have hb4:=hb3.alloc hb3.size (.cells #[.int .u8 oo.toNat,.string F,.string V] 24);go_roundw
      case rel=>exact⟨j+1,n,us,l,by go_num,by omega,hF.below hb4,hB.trans (hb4.mono hB.size),HN,by omega,by rw [Hid,HJ.out,HS.out]⟩
      case measure=>simp [intOf];omega
     | some f =>
      simp only [Option.isSome_some,Option.getD_some] at pO TN Ub;simp only at HS;have HFd:=Lib.hid TN;have HVd:=Lib.hid Ub;clear TN Ub;go_upto_region 11 with (first|(go_at_call 59;refine pO.mono ?_;rintro e w3 ⟨rfl,hb3⟩))
      have hb4:=hb3.alloc hb3.size (.cells #[.int .u8 oo.toNat,.string F,.string V] 24);have g11:=heap_alloc_new w3 (.cells #[.int .u8 oo.toNat,.string F,.string V] 24);have Xk:=hF.below hb4;have hB4:=hB.trans (hb4.mono hB.size);have VA:w0.heap.size<=w3.heap.size:=Nat.le_trans hB.size hb3.size;have VL:∀ u (m:Nat) ys E,wr.ownsRow w0.heap.size E 1 u m ys->u.ownBlock≠some w3.heap.size:=fun u m ys E h e=>by have:=(h.lt _ e).2;have:=hb3.size;omega
      have UY:Hid (u7.ownBlock≠some w3.heap.size/\u8.ownBlock≠some w3.heap.size/\∀ u∈us,u.ownBlock≠some w3.heap.size):=⟨VL _ _ _ _ hF.of,VL _ _ _ _ hF.ov,fun u hu=>by
       obtain⟨i,hi,rfl⟩:=List.getElem_of_mem hu;exact VL _ _ _ _ (hF.ow i hi (by rw [<-hF.ul];exact hi))⟩
      obtain⟨W4,Yw⟩:∃ W4,W4=w3.alloc (.cells #[.int .u8 oo.toNat,.string F,.string V] 24):=⟨_,rfl⟩;obtain⟨b11,WH⟩:∃ b11,b11=w3.heap.size:=⟨_,rfl⟩;rw [<-Yw] at g11 Xk hB4;rw [<-WH] at g11 UY VA;rw [<-Yw,<-WH];clear Yw WH hb3 hb4 VL hF hB m3 ns u0 u1 u2 u3 pO;obtain⟨d0,d1,d2⟩:=aAN g11;obtain⟨Af,cf,rfl,hRf⟩:=RF Xk.of;obtain⟨AV,cV,rfl⟩:=Qt Xk.ov;obtain⟨fs,hfs⟩:∃ fs,l.map Prod.fst=fs:=⟨_,rfl⟩;rw [hfs] at Xk hRf UY;rw [hfs];have hfl:fs.length<=1000000:=by
       have h1:=HN.out.2.1;have h2:l.length=fs.length:=by rw [<-hfs];simp
       omega
      have Wj:=Lib.hid hfs;have XY:b11<W4.heap.size:=lt_of_block g11;clear hfs d0 d2;go_wp2_with fail
      go_loopw [13,14] (fun z i wr=>∃ (i':Nat) (z':Int),i=.int .i64 i'/\z=.int .i64 z'/\i'<=fs.length/\Below W4.heap.size W4 wr/\Hid (Pf fs F.data.toList i' z')) (fun _ i _=>fs.length-(intOf i).toNat)
      case atStart=>exact⟨0,-1,rfl,rfl,by omega,Below.refl _ _,Or.inl ⟨rfl,by simp⟩⟩
      case round =>
       obtain⟨i',z',rfl,rfl,hi',hBl,HP⟩:=hrel;by_cases hil:i'<fs.length
       ·obtain⟨bf,of_,rfl,hbf,hcf⟩:=DI hRf hil
        have HY:Hid (fs[i']=F.data.toList->Pf fs F.data.toList (i'+1) (i':Int)):=fun h=>Pf.step_yes hil h
        have WY:Hid (fs[i']≠F.data.toList->Pf fs F.data.toList (i'+1) z'):=fun h=>HP.out.step_no hil h
        generalize fs[i']=X at *;obtain⟨XB,hX⟩:∃ V:ByteArray,(⟨X.toArray⟩:ByteArray)=V:=⟨_,rfl⟩;have UB:X=XB.data.toList:=by rw [<-hX]
        have k0:=(hBl.cell (p:=⟨bf,of_+i',none⟩) hbf).trans (hcf.trans (by rw [S,hX]));subst UB;have k1:=(hBl.cell (p:=⟨b11,1,none⟩) XY).trans d1;have i0:(0:Int)<=(i':Int):=by omega
        have il:(i':Int)<(fs.length:Int):=by omega
        clear hcf hX HP;by_cases he:XB.data.toList=F.data.toList
        ·have t1:(XB.toList == F.toList)=true:=by rw [Lib.toList_data,Lib.toList_data,he,beq_self_eq_true]
         have HX:=Lib.hid (HY.out he);clear he HY WY;go_wp2_with fail
         go_quiet (fail)
         go_wp2_with fail;go_roundw
         case rel=>exact⟨i'+1,i',by go_num,rfl,by omega,lh hBl _,HX.out⟩
         case measure=>simp [intOf];omega
        ·have t1:(XB.toList == F.toList)=false:=by rw [Lib.toList_data,Lib.toList_data];simpa using he
         have HX:=Lib.hid (WY.out he);clear he HY WY;go_wp2_with fail
         go_quiet (fail)
         go_wp2_with fail;go_roundw
         case rel=>exact⟨i'+1,z',by go_num,rfl,by omega,lh hBl _,HX.out⟩
         case measure=>simp [intOf];omega
       ·obtain rfl:fs.length=i':=by omega
        rename World=>W6
        have Zo:=Xk.below hBl;have TV:=hB4.trans (hBl.mono hB4.size);have g6:=(hBl.block _ XY).trans g11;have XN:=HP.out;have hll:l.length=fs.length:=by rw [<-Wj.out];simp
        have WV:us.length=l.length:=by have:=Zo.ul;simpa using this
        have hus:us.length<=1000000:=by omega
        have HLL:=Lib.hid hll;clear WV hll;clear HP Xk hB4 hBl g11 d1 hRf hil;go_upto_region 17 with (fail)
        go_upto_if 68 with (fail)
        go_cut [7,8,13] from 69 to 78 (fun a b z wx=>∃ (k:Nat) (us2:List Value) (l2:wF),z=.int .i64 k/\OP wx w0.heap.size a b us2 (l2.map Prod.fst) (l2.map Prod.snd)/\Below w0.heap.size w0 wx/\wx.heap[b11]? = some (.cells #[.int .u8 oo.toNat,.string F,.string V] 24 (0,0))/\Hid (Pk l f.feat f.val l2 k)/\Hid (a.ownBlock≠some b11/\b.ownBlock≠some b11/\∀ u∈us2,u.ownBlock≠some b11)/\Hid ((l2.map Prod.fst).Nodup/\l2.length<=l.length+1/\∀ x∈l2,x.2.length<=n))
        case first =>
         rcases XN with⟨rfl,hno⟩|⟨k,rfl,hk,he⟩
         ·rw [List.take_length] at hno
          obtain⟨e0,e1,e2⟩:=aAN g6;have bA:Below W6.heap.size W6 (W6.alloc (.cells #[.string F] 9)):=(Below.refl _ _).alloc (Nat.le_refl _) _;have hO2:=eP Zo.of (aB.of_new (X:=fun _=>False) bA) (fun _ _ e=>e);have hnews:∀ j u,(#[Value.string F]).toList[j]? = some u->(W6.alloc (.cells #[.string F] 9)).cell? ((⟨W6.heap.size,0,none⟩:Addr).add j)=some u:=World.news_of_block (heap_alloc_new W6 _);have hbase:w0.heap.size<=(W6.alloc (.cells #[.string F] 9)).heap.size:=Nat.le_trans TV.size bA.size;have hny:fs.length+1<=maxLen:=by unfold maxLen;omega
          have hby:(fs.length+1) * 16<=140737488355328:=by omega
          go_upto_region 20 with (first|(at_builtin;refine wpList_append_lies _ rfl (.tmp 71) (.tmp 74) 22 rfl w0.heap.size 9 si _ 1 16 Tryz.underlying22 sc sz0 sz1 sz2 rfl (by decide) _ fs.length (fs.map S) rfl hO2 ⟨W6.heap.size,0,none⟩ 1 1 [.string F] rfl rfl hnews (by simp [Value.oneCell']) (by decide) hny hby hbase (W6.heap.size+1) (by simp) ?_;intro g7 cap7 w7 ho7 Xz Yx hlt7))
          have hF7:=Zo.feat (f:=F.data.toList) (aB.refl _ _) (by rw [eX];exact ho7) Xz Yx;have Vl:=xS TV (Nat.le_refl _) (fun g hg=>(hO2.lt g hg).1) Xz;have c7:aB (fun b=>(Value.slice Af fs.length cf).ownBlock=some b) W6 w7:=(p9 _ W6 _).trans (aB.of_grown Xz) (fun _ _ e=>e);have gg7:=(c7.block b11 (lt_of_block g6) (fun e=>UY.out.1 e)).trans g6;have aCj:∀ g,(Value.slice (some ⟨g7,0,none⟩) (fs.length+1) cap7).ownBlock=some g->g≠b11:=fun g hg e=>by
           simp only [Value.ownBlock,Option.some.injEq] at hg;rcases Yx with h|h
           ·exact UY.out.1 ((show (Value.slice Af fs.length cf).ownBlock=some g7 from h).trans (by rw [hg,e]))
           ·have:=lt_of_block g6;omega
          have HN7:=Lib.hid aCj;clear ho7 Xz Yx hlt7 hnews hbase hny hby hO2 bA c7 e0 e1 e2 aCj Zo;have bB:Below w7.heap.size w7 (w7.alloc (.cells #[.slice none 0 0] 22)):=(Below.refl _ _).alloc (Nat.le_refl _) _;have hO2:=eP hF7.ov (aB.of_new (X:=fun _=>False) bB) (fun _ _ e=>e);have hnews:∀ j u,(#[Value.slice none 0 0]).toList[j]? = some u->(w7.alloc (.cells #[.slice none 0 0] 22)).cell? ((⟨w7.heap.size,0,none⟩:Addr).add j)=some u:=World.news_of_block (heap_alloc_new w7 _);have hbase:w0.heap.size<=(w7.alloc (.cells #[.slice none 0 0] 22)).heap.size:=Nat.le_trans Vl.size bB.size;have hny:us.length+1<=maxLen:=by unfold maxLen;omega
          have hby:(us.length+1) * 24<=140737488355328:=by omega
          go_wp2_with (first|(at_builtin;refine wpList_append_lies _ rfl (.tmp 76) (.tmp 77) 108 rfl w0.heap.size 22 vi _ 1 24 Tryz.underlying108 vc vz0 vz1 vz2 rfl (by decide) _ us.length us rfl hO2 ⟨w7.heap.size,0,none⟩ 1 1 [.slice none 0 0] rfl rfl hnews (by simp [Value.oneCell']) (by decide) hny hby hbase (w7.heap.size+1) (by simp) ?_;intro g9 cap9 w9 ho9 VE Xq hlt9));have Yl:=hF7.vals (aB.refl _ _) ho9 VE Xq;have V8:=xS Vl (Nat.le_refl _) (fun g hg=>(hO2.lt g hg).1) VE;have c9:aB (fun b=>(Value.slice AV us.length cV).ownBlock=some b) w7 w9:=(p9 _ w7 _).trans (aB.of_grown VE) (fun _ _ e=>e);have gg9:=(c9.block b11 (lt_of_block gg7) (fun e=>UY.out.2.1 e)).trans gg7;have hms:(l++[(F.data.toList,([]:List Bs))]).map Prod.fst=fs++[F.data.toList]/\(l++[(F.data.toList,([]:List Bs))]).map Prod.snd=l.map Prod.snd++[[]]:=by rw [List.map_append,List.map_append,Wj.out];exact⟨rfl,rfl⟩
          go_meet
          refine⟨l.length,us++[.slice none 0 0],l++[(F.data.toList,[])],by rw [HLL.out],by rw [hms.1,hms.2];exact Yl,V8,gg9,?_,⟨fun e=>HN7.out b11 e rfl,fun e=>?_,fun u hu=>?_⟩,?_⟩
          ·rw [<-Wj.out] at hno
           rw [HFd.out];exact R3 hno
          ·simp only [Value.ownBlock,Option.some.injEq] at e
           rcases Xq with h|h
           ·exact UY.out.2.1 ((show (Value.slice AV us.length cV).ownBlock=some g9 from h).trans (by rw [e]))
           ·have:=lt_of_block gg7;omega
          ·rcases List.mem_append.1 hu with hu|hu
           ·exact UY.out.2.2 u hu
           ·rw [List.mem_singleton] at hu;subst hu;simp [Value.ownBlock]
          ·refine⟨?_,by simp,fun x hx=>?_⟩
           ·rw [hms.1,List.nodup_append]
            refine⟨by rw [<-Wj.out];exact HN.out.1,by simp,fun a ha b hb=>by rw [List.mem_singleton] at hb;subst hb;exact hno a ha⟩
           ·rcases List.mem_append.1 hx with hx|hx
            ·exact HN.out.2.2 x hx
            ·rw [List.mem_singleton] at hx;subst hx;exact Nat.zero_le _
         ·have i0:(0:Int)<=(k:Int):=by omega
          have dk:decide ((k:Int)<0)=false:=decide_eq_false (by omega);go_wp2_with fail
          go_meet
          refine⟨k,us,l,rfl,by rw [Wj.out];exact Zo,TV,g6,?_,UY.out,HN.out.1,Nat.le_succ _,HN.out.2.2⟩;rw [HFd.out];have hk':k<(l.map Prod.fst).length:=by rw [Wj.out];exact hk
          exact R4 HN.out.1 hk' (by simp only [Wj.out];exact he)
        case rest =>
         clear XN Zo TV g6 UY;obtain⟨k,us2,l2,rfl,hF,hB,g11,HAF,HNB,HL2⟩:=hcut;obtain⟨hk2,hk2f,-⟩:=HAF.out;have VY:us2.length=l2.length:=by have:=hF.ul;simpa using this
         have X4:k<us2.length:=by omega
         have HUL:=Lib.hid VY;clear VY;have hfa:us2[k]∈us2:=List.getElem_mem _;obtain⟨gv,cv,hv,hcell,hfrz⟩:=RQ hF.ov X4;subst hv;obtain⟨Au,cu,hu,hRu⟩:=RF (l:=(l2.map Prod.snd)[k]'(by simpa using hk2)) (hF.ow k X4 (by simpa using hk2));have hvs:(l2.map Prod.snd)[k]'(by simpa using hk2)=l2[k].2:=by simp
         rw [hu] at hcell;have HU:=Lib.hid hu;rw [hvs] at hcell hRu;have UH:l2[k].2.length<=n:=HL2.out.2.2 _ (List.getElem_mem hk2);have HKN:Hid (O5 V.data.toList l2[k].2=true->wV l f.feat f.val=l2):=fun h=>HAF.out.known (fun hk=>by
          have:=of_decide_eq_true h;rw [<-HVd.out] at this;exact this)
         have HUN:Hid (O5 V.data.toList l2[k].2=false->(wV l f.feat f.val).map Prod.fst=l2.map Prod.fst/\∃ hk:k<(l2.map Prod.snd).length,(wV l f.feat f.val).map Prod.snd=(l2.map Prod.snd).set k ((l2.map Prod.snd)[k]++[f.val])):=fun h=>HAF.out.unknown (fun hk=>by
          have:=of_decide_eq_false h;rw [<-HVd.out] at this;exact this)
         have Z7:=Lib.hid hvs;generalize l2[k].2=vs at *
         rename World=>W7
         have hgvW:gv<W7.heap.size:=ax hcell;obtain⟨e0,e1,e2⟩:=aAN g11;have Yy:b11<W7.heap.size:=lt_of_block g11;have kk0:(0:Int)<=(k:Int):=by omega
         have kkl:(k:Int)<(us2.length:Int):=by omega
         clear e0 e1 hfrz;go_wp2_with fail
         go_loopw [15,16] (fun kn i wr=>∃ (i':Nat),i=.int .i64 i'/\kn=.bool (O5 V.data.toList (vs.take i'))/\i'<=vs.length/\Below W7.heap.size W7 wr) (fun _ i _=>vs.length-(intOf i).toNat)
         case atStart=>exact⟨0,rfl,by rw [List.take_zero,Sq],by omega,Below.refl _ _⟩
         case round =>
          obtain⟨i',rfl,rfl,hi',hBl⟩:=hrel;have c1:=(hBl.cell (p:=⟨gv,k,none⟩) hgvW).trans hcell;have c2:=(hBl.cell (p:=⟨b11,2,none⟩) Yy).trans e2;by_cases hil:i'<vs.length
          ·obtain⟨bu,ou,rfl,hbu,Wh⟩:=DI hRu hil
           have hst:=Sn (v:=V.data.toList) hil;generalize vs[i']=X at *;obtain⟨XB,hX⟩:∃ V:ByteArray,(⟨X.toArray⟩:ByteArray)=V:=⟨_,rfl⟩;have UB:X=XB.data.toList:=by rw [<-hX]
           have c3:=(hBl.cell (p:=⟨bu,ou+i',none⟩) hbu).trans (Wh.trans (by rw [S,hX]));subst UB;generalize O5 V.data.toList (vs.take i')=kb at *;have i0:(0:Int)<=(i':Int):=by omega
           have il:(i':Int)<(vs.length:Int):=by omega
           clear Wh hX
           cases kb with
           | true =>
            have HX:Hid (O5 V.data.toList (vs.take (i'+1))=true):=hst;clear hst;go_wp2_with fail
            go_quiet (fail)
            go_wp2_with fail;go_roundw
            case rel=>exact⟨i'+1,by go_num,by rw [HX.out],by omega,lh hBl _⟩
            case measure=>simp [intOf];omega
           | false =>
            by_cases he:XB.data.toList=V.data.toList
            ·have t1:(XB.toList == V.toList)=true:=by rw [Lib.toList_data,Lib.toList_data,he,beq_self_eq_true]
             have HX:Hid (O5 V.data.toList (vs.take (i'+1))=true):=by rw [Hid,hst,decide_eq_true he];rfl
             clear he hst;go_wp2_with fail
             go_quiet (fail)
             go_wp2_with fail;go_roundw
             case rel=>exact⟨i'+1,by go_num,by rw [HX.out],by omega,lh hBl _⟩
             case measure=>simp [intOf];omega
            ·have t1:(XB.toList == V.toList)=false:=by rw [Lib.toList_data,Lib.toList_data];simpa using he
             have HX:Hid (O5 V.data.toList (vs.take (i'+1))=false):=by rw [Hid,hst,decide_eq_false he];rfl
             clear he hst;go_wp2_with fail
             go_quiet (fail)
             go_wp2_with fail;go_roundw
             case rel=>exact⟨i'+1,by go_num,by rw [HX.out],by omega,lh hBl _⟩
             case measure=>simp [intOf];omega
          ·obtain rfl:vs.length=i':=by omega
           rw [List.take_length];have hFl:=hF.below hBl;have hBB:=hB.trans (hBl.mono hB.size);have HPN:Hid (((wV l f.feat f.val).map Prod.fst).Nodup/\O0 (n+1) (wV l f.feat f.val)):=⟨Si HN.out.1,QV HN.out.2⟩;have HJS:Hid (OL t ss []=OL t (ss.drop (q+1)) (OT t (arcs.drop (j+1)) (wV l f.feat f.val))):=by rw [Hid,HJ.out,HS.out]
           generalize hkb:O5 V.data.toList vs=kb at *
           cases kb with
           | true =>
            have HE:=Lib.hid (HKN.out rfl);clear HKN HUN hkb hF hB hBl;go_wp2_with fail;go_roundw
            case rel=>exact⟨j+1,n+1,us2,l2,by go_num,by omega,hFl,hBB,by rw [<-HE.out];exact HPN.out,by omega,by rw [Hid,HJS.out,HE.out]⟩
            case measure=>simp [intOf];omega
           | false =>
            obtain⟨hu1,aCr,hu2⟩:=HUN.out rfl;have HU1:=Lib.hid hu1;have HU2:=Lib.hid hu2;clear HKN HUN hkb hF hB hBl hu1 hu2;have XP:Hid (us2[k]=.slice Au vs.length cu):=by rw [Hid,HU.out,Z7.out]
            have TJ:PR gv k b11 (.slice Au vs.length cu) V wr.drew:=⟨c1,c2⟩;have TN:=hFl.below ((Below.refl _ wr).drew);have hBd:=hBB.trans ((Below.refl _ wr).drew.mono hBB.size);have hgvB:=(TN.ov.lt gv rfl).1;clear hFl hBB;go_wp2_with fail;clear c1 c2;refine zh 11 (PR gv k b11 (.slice Au vs.length cu) V) (by kernel_rfl) ?_;generalize wr.drew=w8 at *;refine takeC 0 ?_
            try simp only [qO]
            refine takeC 1 ?_
            try simp only [qO]
            refine takeC 2 ?_
            try simp only [qO]
            refine takeC 3 ?_
            try simp only [qO]
            refine takeC 4 ?_
            try simp only [qO]
            refine takeC 5 ?_
            try simp only [qO]
            refine takeC 6 ?_
            try simp only [qO]
            refine takeC 7 ?_
            try simp only [qO]
            refine dw [8] (by kernel_rfl) (by simp) ?_;refine bL 8 rfl (fun K hK=>?_) bS.nil;rw [if_pos (by rfl)]
            go_simp
            have bA:Below w8.heap.size w8 (w8.alloc (.cells #[.string V] 9)):=(Below.refl _ _).alloc (Nat.le_refl _) _;have hLdA:PR gv k b11 (.slice Au vs.length cu) V (w8.alloc (.cells #[.string V] 9)):=⟨(bA.cell (ax TJ.1)).trans TJ.1,(bA.cell (ax TJ.2)).trans TJ.2⟩;refine hK.out _ _ (fun _=>hLdA) ?_;clear hK K
            try simp only [qO]
            refine dw [9] (by kernel_rfl) (by simp) ?_;refine bL 9 rfl (fun K hK=>?_) bS.nil;have hO:(w8.alloc (.cells #[.string V] 9)).ownsRow w0.heap.size 9 1 (.slice Au vs.length cu) vs.length (vs.map S):=by
             have:=eP (TN.ow k X4 aCr) (aB.of_new (X:=fun _=>False) bA) (fun _ _ e=>e);rw [XP.out] at this;simp only [Z7.out] at this;exact this
            have hnews:∀ j u,(#[Value.string V]).toList[j]? = some u->(w8.alloc (.cells #[.string V] 9)).cell? ((⟨w8.heap.size,0,none⟩:Addr).add j)=some u:=World.news_of_block (heap_alloc_new w8 _);have hbase:w0.heap.size<=(w8.alloc (.cells #[.string V] 9)).heap.size:=Nat.le_trans hBd.size bA.size;have hny:vs.length+1<=maxLen:=by unfold maxLen;omega
            have hby:(vs.length+1) * 16<=140737488355328:=by omega
            refine step_append_lies _ (by rfl) (.tmp 111) (.tmp 114) 22 (by rfl) w0.heap.size 9 si _ 1 16 Tryz.underlying22 sc sz0 sz1 sz2 (by rfl) (by decide) _ vs.length (vs.map S) (by rfl) hO ⟨w8.heap.size,0,none⟩ 1 1 [.string V] (by rfl) rfl hnews (by simp [Value.oneCell']) (by decide) hny hby hbase (w8.heap.size+1) (by simp) ?_;intro g9 cap9 w9 ho9 VE Xq hlt9;have c9:aB (fun b=>(Value.slice Au vs.length cu).ownBlock=some b) w8 w9:=(p9 _ w8 _).trans (aB.of_grown VE) (fun _ _ e=>e);have hm2:us2[k]∈us2:=List.getElem_mem _;have ne1:(Value.slice Au vs.length cu).ownBlock≠some gv:=fun e=>(TN.n2 _ hm2 gv (by rw [XP.out];exact e)).2 rfl
            have ne2:(Value.slice Au vs.length cu).ownBlock≠some b11:=fun e=>HNB.out.2.2 _ hm2 (by rw [XP.out];exact e)
            have aBJ:PR gv k b11 (.slice Au vs.length cu) V w9:=⟨(lm (c9.block gv (ax TJ.1) ne1)).trans TJ.1,(lm (c9.block b11 (ax TJ.2) ne2)).trans TJ.2⟩;have hfz:w9.frozen? ⟨gv,k,none⟩=false:=(eP TN.ov c9 (fun g hg e=>ne1 (by rw [e];exact hg.symm))).frozenAt k;refine hK.out _ _ (fun _=>aBJ) ?_;clear hK K
            try simp only [qO]
            refine takeC 10 ?_
            try simp only [qO]
            refine dw [11] (by kernel_rfl) (by simp) ?_;refine bL 11 rfl (fun K hK=>?_) bS.nil;rw [if_pos (by rfl)];have hq1:=aBJ.1
            go_simp
            refine hK.out _ _ (fun h=>by cases h) ?_;clear hK K;refine l8 (by kernel_rfl) ?_ _;have Yl:=TN.push (f:=V.data.toList) (aB.refl _ _) X4 aCr (by rw [eX];simp only [Z7.out];exact ho9) (by rw [XP.out];exact VE) (by rw [XP.out];exact Xq);simp only [Z7.out] at Yl;have hF10:OP (w9.setCell ⟨gv,k,none⟩ (.slice (some ⟨g9,0,none⟩) (vs.length+1) cap9)) w0.heap.size u7 (.slice (some ⟨gv,0,none⟩) us2.length cv) (us2.set k (.slice (some ⟨g9,0,none⟩) (vs.length+1) cap9)) ((wV l f.feat f.val).map Prod.fst) ((wV l f.feat f.val).map Prod.snd):=by
             rw [HU1.out,HU2.out,HVd.out];simp only [Z7.out];exact Yl
            have U8:=(xS hBd (Nat.le_refl _) (fun g hg=>(hO.lt g hg).1) VE).setCell (p:=⟨gv,k,none⟩) hgvB (.slice (some ⟨g9,0,none⟩) (vs.length+1) cap9)
            try dsimp only
            go_wp2_with fail;go_roundw
            case rel=>exact⟨j+1,n+1,_,wV l f.feat f.val,by go_num,by omega,hF10,U8,HPN.out,by omega,HJS.out⟩
            case measure=>simp [intOf];omega
    ·obtain rfl:j=arcs.length:=by omega
     have HX:Hid (OL t ss []=OL t (ss.drop (q+1)) l):=by rw [Hid,HJ.out,List.drop_length];rfl
     go_wp2_with fail;go_roundw
     case rel=>exact⟨q+1,n,us,l,by go_num,by omega,hF,hB,HN,by omega,HX⟩
     case measure=>simp [intOf];omega
  ·obtain rfl:q=ss.length:=by omega
   have HX:Hid (R=OW 30000 (l.drop 0) 1):=by
    have:=HJ.out;rw [List.drop_length] at this;rw [Hid,HD.out,this]
    rfl
   have WV:us.length=l.length:=by have:=hF.ul;simpa using this
   have hFn:=HN.out.2;have hln:l.length<=100000:=by have:=hFn.1;omega
   have HLN:Hid (∀ x∈l,x.2.length<=100000):=fun x hx=>by have:=hFn.2 x hx;omega
   obtain⟨AV,cV,rfl⟩:=Qt hF.ov;have HFF:=Lib.hid hF;clear hF hFn HJ HN HD
   rename World=>W5
   go_wp2_with fail
   go_loopw [17,18] (fun k i wr=>∃ (i' K:Nat),i=.int .i64 i'/\k=.int .i64 K/\i'<=l.length/\K<=30000 * 200001/\W5=wr/\Hid (R=OW 30000 (l.drop i') K)) (fun _ i _=>l.length-(intOf i).toNat)
   case atStart=>exact⟨0,1,rfl,rfl,by omega,by omega,rfl,HX⟩
   case round =>
    obtain⟨i',K,rfl,rfl,hi',hK,rfl,HM⟩:=hrel;have j0:(0:Int)<=(K:Int):=by omega
    have jk:(K:Int)<=6000030000:=by omega
    by_cases hil:i'<l.length
    ·have i0:(0:Int)<=(i':Int):=by omega
     have il:(i':Int)<(us.length:Int):=by omega
     by_cases hk:K<=30000
     ·obtain⟨g,cv,hv,hcell,-⟩:=RQ HFF.out.ov (k:=i') (by omega)
      injection hv with hv1 _ hv2
      subst hv1 hv2;obtain⟨Au,cu,hu⟩:=Qt (HFF.out.ow i' (by omega) (by simpa using hil));rw [hu] at hcell;have hlen:(l.map Prod.snd)[i']'(by simpa using hil)=l[i'].2:=by simp
      rw [hlen] at hcell;have hxl:=HLN.out _ (List.getElem_mem hil);have Z9:Hid (R=OW 30000 (l.drop (i'+1)) (K * (2 * l[i'].2.length+1))):=by rw [Hid,HM.out,Sz hil hk]
      generalize l[i'].2.length=N at *;have dk:(K:Int)<=30000:=by omega
      have hmul:K * (2 * N+1)<=30000 * 200001:=Nat.mul_le_mul hk (by omega);have e1:(K:Int) * (2 * (N:Int)+1)=((K * (2 * N+1):Nat):Int):=by push_cast;rfl
      have n0:(0:Int)<=2 * (N:Int):=by omega
      have n1:2 * (N:Int)+1<=200001:=by omega
      have n2:(0:Int)<=(K:Int) * (2 * (N:Int)+1):=by rw [e1];omega
      have n3:(K:Int) * (2 * (N:Int)+1)<=6000030000:=by rw [e1];omega
      have V5:=Lib.hid e1;clear e1 hu hlen hxl;go_wp2_with fail;go_roundw
      case rel=>exact⟨i'+1,K * (2 * N+1),by go_num,by first|rw [V5.out]|(congr 1;exact V5.out),by omega,hmul,by first|rfl|trivial,Z9.out⟩
      case measure=>simp [intOf];omega
     ·have Z9:Hid (R=K):=by rw [Hid,HM.out,Ri (Or.inl hk)]
      have dk:decide ((K:Int)<=30000)=false:=decide_eq_false (by omega);have dk2:(30000:Int)<(K:Int):=by omega
      clear hk;go_wp2_with fail;go_returns;rw [Z9.out];exact⟨rfl,ae hb0 hB⟩
    ·have Z9:Hid (R=K):=by rw [Hid,HM.out,Ri (Or.inr (by omega))]
     have dl:decide ((i':Int)<(us.length:Int))=false:=decide_eq_false (by omega);have dl2:(us.length:Int)<=(i':Int):=by omega
     clear hil;go_wp2_with fail;go_returns;rw [Z9.out];exact⟨rfl,ae hb0 hB⟩
def O3 (m:aQ) (t:List Bs):Bool:=decide (5<m.states.length) || (decide (20<dh m.states) || decide (30<t.length))
theorem Sr (m:aQ) (A At:Option Addr) (c ct:Nat) (t:List Bs) (w:World) (hV:dY w A m.states) (hb:∀ s∈m.states,s.arcs.length<=140737488355328) :
  Calls Tryz.prog 26 #[di m A c,.slice At t.length ct] w fun e w'=>e=.returned (.bool (O3 m t))/\Below w.heap.size w w':=by
 have pa:m.states.length<=5->∀ W,Below w.heap.size w W->Calls Tryz.prog 53 #[di m A c] W fun e w'=>e=.returned (.int .i64 (dh m.states))/\Below W.heap.size W w':=fun h W hB=>Rk m A c W (hV.below hB) (by omega) hb
 have HD:Hid (O3 m t=(decide (5<m.states.length) || (decide (20<dh m.states) || decide (30<t.length)))):=rfl;generalize O3 m t=R at *;clear hV hb;unfold di S at *;obtain⟨kd,st,ld,ss⟩:=m;simp only at *;generalize (⟨ld.toArray⟩:ByteArray)=Ld at *;generalize dh ss=N at *;have g0:=heap_alloc_new w (.cells #[.int .i64 kd,.int .i64 st,.string Ld,.slice A ss.length c] 30);have hb0:Below w.heap.size w (w.alloc (.cells #[.int .i64 kd,.int .i64 st,.string Ld,.slice A ss.length c] 30)):=(Below.refl _ _).alloc (Nat.le_refl _) _;obtain⟨W1,hW1⟩:∃ W1,W1=w.alloc (.cells #[.int .i64 kd,.int .i64 st,.string Ld,.slice A ss.length c] 30):=⟨_,rfl⟩;rw [<-hW1] at g0 hb0;obtain⟨q0,q1,q2,q3⟩:=OO g0;go_enter Tryz.func26,Tryz.ntmps26;go_upto_region 1 with (fail)
 rw [<-hW1];clear hW1;by_cases h5:5<ss.length
 ·have d5:decide ((5:Int)<(ss.length:Int))=true:=decide_eq_true (by omega)
  have HR:Hid (R=true):=by rw [Hid,HD.out,decide_eq_true h5];rfl
  clear HD;go_wp2_with fail;go_returns;rw [HR.out];exact⟨rfl,hb0⟩
 ·have d5:decide ((5:Int)<(ss.length:Int))=false:=decide_eq_false (by omega)
  have pA:=pa (by omega) W1 hb0;clear pa;by_cases h20:20<N
  ·have d20:decide ((20:Int)<(N:Int))=true:=decide_eq_true (by omega)
   have HR:Hid (R=true):=by rw [Hid,HD.out,decide_eq_true h20];simp
   clear HD;go_wp2_with (first|(go_at_call 53;refine pA.mono ?_;rintro e w3 ⟨rfl,hb3⟩));go_returns;rw [HR.out];exact⟨rfl,ae hb0 hb3⟩
  ·have d20:decide ((20:Int)<(N:Int))=false:=decide_eq_false (by omega)
   have HR:Hid (R=decide ((30:Int)<(t.length:Int))):=by
    rw [Hid,HD.out,decide_eq_false h5,decide_eq_false h20];simp;omega
   clear HD;go_wp2_with (first|(go_at_call 53;refine pA.mono ?_;rintro e w3 ⟨rfl,hb3⟩));go_returns;rw [HR.out];exact⟨by first|rfl|simp,ae hb0 hb3⟩
open Go.RowKit
theorem aBl {s:Bs} (h:40<s.length):gT s=false:=by unfold gT;rw [decide_eq_false (show ¬ s.length<=40 by omega)];simp
theorem aBm {s:Bs} (h0:s≠[]) (h:s.length<=40):gT s=decide (eQ s=0):=by
 unfold gT;rw [decide_eq_true h]
 cases s with
 | nil=>exact absurd rfl h0
 | cons a r=>simp
theorem aAO {γ:Type} [DecidableEq γ]:∀ {l:List γ} {p:γ} {k:Nat} (hk:k<l.length),(∀ x∈l.take k,x≠p)->l[k]=p->jr l p=some k
 | q::r,p,0,_,_,h=>by
  unfold jr;rw [if_pos (show q=p from h)]
 | q::r,p,k+1,hk,hn,h=>by
  unfold jr;rw [if_neg (hn q (by rw [List.take_succ_cons];exact List.mem_cons_self)),aAO (k:=k) (by simpa using hk) (fun x hx=>hn x (by rw [List.take_succ_cons];exact List.mem_cons_of_mem _ hx)) (by simpa using h)]
  rfl
theorem aAP {γ:Type} [DecidableEq γ]:∀ {l:List γ} {p:γ},(∀ x∈l,x≠p)->jr l p=none
 | [],_,_=>rfl
 | q::r,p,hn=>by
  unfold jr;rw [if_neg (hn q List.mem_cons_self),aAP fun x hx=>hn x (List.mem_cons_of_mem _ hx)];rfl
theorem aAD {γ:Type} [DecidableEq γ]:∀ {l:List γ} {p:γ} {n:Nat},jr l p=some n->∃ h:n<l.length,l[n]=p/\∀ j,(hj:j<l.length)->l[j]=p->n<=j
 | q::r,p,n,h=>by
  unfold jr at h;by_cases e:q=p
  ·rw [if_pos e] at h
   cases h
   exact⟨by simp,e,fun j _ _=>Nat.zero_le _⟩
  ·rw [if_neg e] at h
   cases hf:jr r p with
   | none=>rw [hf] at h;cases h
   | some m =>
    rw [hf] at h
    cases h
    obtain⟨h1,h2,h3⟩:=aAD hf;refine⟨by simpa using h1,by simpa using h2,fun j hj hjp=>?_⟩
    cases j with
    | zero=>exact absurd (by simpa using hjp) e
    | succ j=>exact Nat.succ_le_succ (h3 j (by simpa using hj) (by simpa using hjp))
def aAs (t:List Bs) (s:Bs):Int:=match jr t s with|some n=>(n:Int)|none=>-1
theorem aBo {t:List Bs} {s:Bs} {k:Nat} (hk:k<t.length) (hn:∀ x∈t.take k,x≠s) (h:t[k]=s):aAs t s=(k:Int):=by unfold aAs;rw [aAO hk hn h]
theorem aBp {t:List Bs} {s:Bs} (hn:∀ x∈t.take t.length,x≠s):aAs t s=-1:=by rw [List.take_length] at hn;unfold aAs;rw [aAP hn]
theorem aAT {t:List Bs} {k:Nat} (hk:k<t.length):∃ n:Nat,aAs t t[k]=(n:Int)/\jr t t[k]=some n/\n<=k:=by
 cases hf:jr t t[k] with
 | none =>
  exfalso;have key:∀ {l:List Bs} {p:Bs},jr l p=none->p ∉ l:=by
   intro l
   induction l with
   | nil=>intro p _ h;cases h
   | cons q r ih =>
    intro p h hm;unfold jr at h;by_cases e:q=p
    ·rw [if_pos e] at h;cases h
    ·rw [if_neg e] at h
     cases hr:jr r p with
     | some n=>rw [hr] at h;cases h
     | none =>
      rcases List.mem_cons.1 hm with e'|hm
      ·exact e e'.symm
      ·exact ih hr hm
  exact key hf (List.getElem_mem hk)
 | some n =>
  obtain⟨h1,h2,h3⟩:=aAD hf;exact⟨n,by unfold aAs;rw [hf],rfl,h3 k hk rfl⟩
theorem aBD {t:List Bs} (h:¬ t.length<=500):l7 t=false:=by unfold l7;rw [decide_eq_false h];rfl
theorem aBE {t:List Bs} {k:Nat} (hk:k<t.length) (h:gT t[k]=false):l7 t=false:=by unfold l7;rw [p8 hk h];simp
theorem aBC {t:List Bs} {k:Nat} (hk:k<t.length) (h:aAs t t[k]≠(k:Int)):l7 t=false:=by
 obtain⟨n,h1,h2,h3⟩:=aAT hk;obtain⟨h4,h5,h6⟩:=aAD h2;have hnk:n<k:=by
  have:n≠k:=fun e=>h (by rw [h1,e])
  omega
 unfold l7;rw [decide_eq_false (show ¬ t.Nodup from fun hd=>by
  have:=List.pairwise_iff_getElem.1 hd n k h4 hk hnk;exact this h5)]
 simp
theorem aBB {t:List Bs} (h:t.length<=500) (h1:∀ s∈t.take t.length,gT s=true) (h2:∀ i,(hi:i<t.length)->aAs t t[i]=(i:Int)):l7 t=true:=by
 rw [List.take_length] at h1;unfold l7;rw [decide_eq_true h,List.all_eq_true.2 h1,decide_eq_true]
 ·rfl
 ·refine List.pairwise_iff_getElem.2 fun i j hi hj hij e=>?_
  have h3:=h2 j hj;obtain⟨n,h4,h5,_⟩:=aAT hj;obtain⟨_,_,h6⟩:=aAD h5;have:=h6 i hi e;omega
theorem aBv (s:ByteArray) (w:World):Calls Tryz.prog 85 #[.string s] w (qL w (H6 s.data.toList) (kY s.data.toList) (eQ s.data.toList)):=by
 by_cases h:s.size<=16384
 ·exact L9 s w h
 ·have d1:(16384:Int)<(s.size:Int):=by omega
  have HX:Hid (H6 s.data.toList=[]/\kY s.data.toList=0/\eQ s.data.toList=2):=by
   unfold Hid H6 kY eQ iC;rw [if_pos (by rw [<-Lib.size_eq];omega)];exact⟨rfl,rfl,rfl⟩
  clear h;go_enter Tryz.func85,Tryz.ntmps85;go_wp2_with fail;go_returns;rw [HX.out.1,HX.out.2.1,HX.out.2.2];exact⟨none,0,rfl,Nat.le_refl _,fun hne=>absurd rfl hne,Below.refl _ _⟩
theorem aBr (s:ByteArray) (w:World):Calls Tryz.prog 56 #[.string s] w fun e w'=>e=.returned (.bool (gT s.data.toList))/\Below w.heap.size w w':=by
 have c1:=aBv s w;unfold qL at c1;by_cases h0:s.size=0
 ·have HX:Hid (gT s.data.toList=false):=by rw [Hid,fF h0];rfl
  have d1:(s.size:Int)<1:=by omega
  generalize H6 s.data.toList=l at *;generalize kY s.data.toList=at' at *;generalize eQ s.data.toList=e' at *;clear h0;go_enter Tryz.func56,Tryz.ntmps56;go_wp2_with fail;refine c1.mono ?_;rintro e w1 ⟨A,c,rfl,_,_,b1⟩;go_wp2_with fail;go_returns;exact⟨by rw [HX.out];(try rfl),b1⟩
 have d1:(1:Int)<=(s.size:Int):=by omega
 by_cases h4:40<s.size
 ·have HX:Hid (gT s.data.toList=false):=aBl (by rw [<-Lib.size_eq];exact h4)
  have d4:40<(s.size:Int):=by omega
  generalize H6 s.data.toList=l at *;generalize kY s.data.toList=at' at *;generalize eQ s.data.toList=e' at *;clear h0 h4;go_enter Tryz.func56,Tryz.ntmps56;go_wp2_with fail;refine c1.mono ?_;rintro e w1 ⟨A,c,rfl,_,_,b1⟩;go_wp2_with fail;go_returns;exact⟨by rw [HX.out];(try rfl),b1⟩
 have HX:=Lib.hid (aBm (gB h0) (show s.data.toList.length<=40 by rw [<-Lib.size_eq];omega));have d4:(s.size:Int)<=40:=by omega
 generalize H6 s.data.toList=l at *;generalize kY s.data.toList=at' at *;generalize eQ s.data.toList=e' at *;clear h0 h4;have HY:Hid (gT s.data.toList=(((e':Nat):Int) == 0)):=by
  rw [Hid,HX.out];by_cases he:e'=0
  ·subst he;rfl
  ·rw [decide_eq_false he];symm;simpa using he
 clear HX;go_enter Tryz.func56,Tryz.ntmps56;go_wp2_with fail;refine c1.mono ?_;rintro e w1 ⟨A,c,rfl,_,_,b1⟩;go_wp2_with fail;go_returns;exact⟨by rw [HY.out];(try rfl),b1⟩
theorem aBt (A:Option Addr) (c:Nat) (t:List Bs) (s:ByteArray) (w:World) (hV:ay w A (t.map S)) (hl:t.length<=1000000):Calls Tryz.prog 57 #[.slice A t.length c,.string s] w fun e w'=>e=.returned (.int .i64 (aAs t s.data.toList))/\w=w':=by
 have HV:=Lib.hid hV;clear hV;go_enter Tryz.func57,Tryz.ntmps57;go_wp2_with fail
 go_loopw [5] (fun i wr=>∃ (k:Nat),i=.int .i64 k/\k<=t.length/\w=wr/\Hid (∀ x∈t.take k,decide (x≠s.data.toList)=true)) (fun i _=>t.length-(intOf i).toNat)
 case atStart=>exact⟨0,rfl,by omega,rfl,by simp [Hid]⟩
 case round =>
  obtain⟨k,rfl,hk,rfl,HN⟩:=hrel;by_cases hlt:k<t.length
  ·obtain⟨b,o,rfl,hbl,hc0⟩:=DI HV.out hlt
   have HF:Hid (t[k]=s.data.toList->aAs t s.data.toList=(k:Int)):=aBo hlt (fun x hx=>of_decide_eq_true (HN.out x hx));have HT:Hid (decide (t[k]≠s.data.toList)=true->∀ x∈t.take (k+1),decide (x≠s.data.toList)=true):=allT hlt HN.out;generalize t[k]=z at *;obtain⟨Z,hZ⟩:∃ Z:ByteArray,(⟨z.toArray⟩:ByteArray)=Z:=⟨_,rfl⟩;have Un:z=Z.data.toList:=by rw [<-hZ]
   unfold S at hc0;rw [hZ] at hc0;subst Un;have i0:(0:Int)<=(k:Int):=by omega
   have il:(k:Int)<(t.length:Int):=by omega
   clear hZ;by_cases he:Z.data.toList=s.data.toList
   ·have t1:=str_eq he
    have HX:=Lib.hid (HF.out he);clear he HT HF;go_wp2_with fail;go_returns;exact⟨by rw [HX.out];(try rfl),rfl⟩
   ·have t1:=qB he
    have HX:=Lib.hid (HT.out (decide_eq_true he));clear he HT HF;go_wp2_with fail;go_roundw
    case rel=>exact⟨k+1,by go_num,by omega,by trivial,HX.out⟩
    case measure=>simp [intOf];omega
  ·obtain rfl:k=t.length:=by omega
   have HX:Hid (aAs t s.data.toList=-1):=aBp (fun x hx=>of_decide_eq_true (HN.out x hx));go_wp2_with fail;go_returns;exact⟨by rw [HX.out];(try rfl),rfl⟩
theorem aBx (A:Option Addr) (c:Nat) (t:List Bs) (w:World) (hV:ay w A (t.map S)):Calls Tryz.prog 29 #[.slice A t.length c] w fun e w'=>e=.returned (.bool (l7 t))/\Below w.heap.size w w':=by
 have HV:=Lib.hid hV;by_cases hl:t.length<=500
 ·have d1:(t.length:Int)<=500:=by omega
  clear hV;go_enter Tryz.func29,Tryz.ntmps29;go_wp2_with fail
  go_loopw [3] (fun i wr=>∃ (k:Nat),i=.int .i64 k/\k<=t.length/\Below w.heap.size w wr/\Hid ((∀ x∈t.take k,gT x=true)/\∀ i,(hi:i<t.length)->i<k->aAs t t[i]=(i:Int))) (fun i _=>t.length-(intOf i).toNat)
  case atStart=>exact⟨0,rfl,by omega,Below.refl _ _,by simp,fun i _ h=>absurd h (Nat.not_lt_zero _)⟩
  case round =>
   obtain⟨k,rfl,hk,hB,HN⟩:=hrel;by_cases hlt:k<t.length
   ·obtain⟨b,o,rfl,hbl,hc0⟩:=DI HV.out hlt
    have HF:Hid (gT t[k]=false->l7 t=false):=aBE hlt;have Uw:Hid (aAs t t[k]≠(k:Int)->l7 t=false):=aBC hlt;have HT:Hid (gT t[k]=true->aAs t t[k]=(k:Int)->(∀ x∈t.take (k+1),gT x=true)/\∀ i,(hi:i<t.length)->i<k+1->aAs t t[i]=(i:Int)):=fun h1 h2=>⟨allT hlt HN.out.1 h1,fun i hi hik=>by
     rcases Nat.lt_or_ge i k with h|h
     ·exact HN.out.2 i hi h
     ·obtain rfl:i=k:=by omega
      exact h2⟩
    have p2:=fun W (hW:ay W (some ⟨b,o,none⟩) (t.map S)) (Z:ByteArray)=>aBt (some ⟨b,o,none⟩) c t Z W hW (by omega)
    generalize t[k]=z at *;obtain⟨Z,hZ⟩:∃ Z:ByteArray,(⟨z.toArray⟩:ByteArray)=Z:=⟨_,rfl⟩;have Un:z=Z.data.toList:=by rw [<-hZ]
    have k0:=(hB.cell (p:=⟨b,o+k,none⟩) hbl).trans (hc0.trans (by rw [S,hZ]));subst Un;have i0:(0:Int)<=(k:Int):=by omega
    have il:(k:Int)<(t.length:Int):=by omega
    have p1:=fun W=>aBr Z W
    clear hZ hc0
    cases hq:gT Z.data.toList with
    | false =>
     have HX:=Lib.hid (HF.out hq);rw [hq] at p1;clear hq HT HF Uw;go_wp2_with fail;refine (p1 _).mono ?_;rintro e w2 ⟨rfl,b2⟩;go_wp2_with fail;go_returns;exact⟨by rw [HX.out];(try rfl),ae hB b2⟩
    | true =>
     rw [hq] at p1;have U1:b<wr.heap.size:=Nat.lt_of_lt_of_le hbl hB.size;by_cases hp:aAs t Z.data.toList=(k:Int)
     ·have HX:=Lib.hid (HT.out hq hp)
      have p3:∀ W,ay W (some ⟨b,o,none⟩) (t.map S)->Calls _ _ _ W _:=fun W hW=>p2 W hW Z
      simp only [hp] at p3;clear hq HT HF Uw hp p2;go_wp2_with fail;refine (p1 _).mono ?_;rintro e w2 ⟨rfl,b2⟩;have k2:=(b2.cell (p:=⟨b,o+k,none⟩) U1).trans k0;go_wp2_with fail;refine (p3 _ (HV.out.below (ae hB b2))).mono ?_;rintro e w3 ⟨rfl,rfl⟩;go_wp2_with fail;go_roundw
      case rel=>exact⟨k+1,by go_num,by omega,ae hB b2,HX.out⟩
      case measure=>simp [intOf];omega
     ·have HX:=Lib.hid (Uw.out hp)
      have p3:∀ W,ay W (some ⟨b,o,none⟩) (t.map S)->Calls _ _ _ W _:=fun W hW=>p2 W hW Z
      have t1:=ry hp;have t1':=jU hp;generalize aAs t Z.data.toList=q at *;clear hq HT HF Uw hp p2;go_wp2_with fail;refine (p1 _).mono ?_;rintro e w2 ⟨rfl,b2⟩;have k2:=(b2.cell (p:=⟨b,o+k,none⟩) U1).trans k0;go_wp2_with fail;refine (p3 _ (HV.out.below (ae hB b2))).mono ?_;rintro e w3 ⟨rfl,rfl⟩;go_wp2_with fail;go_returns;exact⟨by rw [HX.out];(try rfl),ae hB b2⟩
   ·obtain rfl:k=t.length:=by omega
    have HX:Hid (l7 t=true):=aBB hl HN.out.1 (fun i hi=>HN.out.2 i hi hi);go_wp2_with fail;go_returns;exact⟨by rw [HX.out];(try rfl),hB⟩
 ·have d1:500<(t.length:Int):=by omega
  have HX:=Lib.hid (aBD hl);clear hl;go_enter Tryz.func29,Tryz.ntmps29;go_wp2_with fail;go_returns;exact⟨by rw [HX.out];(try rfl),Below.refl _ _⟩
theorem O0.mono {n n':Nat} {l:wF} (h:O0 n l) (hn:n<=n'):O0 n' l:=⟨Nat.le_trans h.1 hn,fun x hx=>Nat.le_trans (h.2 x hx) hn⟩
theorem Qf {t:List Bs}:∀ (xs:List aO) {n:Nat} {l:wF},O0 n l->O0 (n+xs.length) (OT t xs l)
 | [],n,l,h=>h
 | a::r,n,l,h=>by
  unfold OT;have hl:n+(a::r).length=n+1+r.length:=by simp;omega
  rw [hl]
  split
  ·exact Qf r (QV h)
  ·exact (Qf r h).mono (by omega)
theorem QX {t:List Bs}:∀ (ss:List bI) {n:Nat} {l:wF},O0 n l->O0 (n+(ss.map fun s=>s.arcs.length).sum) (OL t ss l)
 | [],n,l,h=>h
 | s::r,n,l,h=>by
  unfold OL;have:=QX (t:=t) r (Qf (t:=t) s.arcs h);simp only [List.map_cons,List.sum_cons];rw [<-Nat.add_assoc];exact this
theorem RI:∀ (ss:List bI),(∀ s∈ss,s.arcs.length<=1000)->(ss.map fun s=>s.arcs.length).sum<=ss.length * 1000
 | [],_=>by simp
 | s::r,h=>by
  have h1:=h s List.mem_cons_self;have h2:=RI r fun x hx=>h x (List.mem_cons_of_mem _ hx)
  simp only [List.map_cons,List.sum_cons,List.length_cons];omega
theorem Rh:∀ (l:wF) (k:Nat),(∀ x∈l,x.2.length<=100000)->k<=6000030000->OW 30000 l k<=6000030000
 | [],k,_,hk=>hk
 | x::r,k,h,hk=>by
  unfold OW
  split
  ·refine Rh r _ (fun y hy=>h y (List.mem_cons_of_mem _ hy)) ?_
   have:=h x List.mem_cons_self
   calc k * (2 * x.2.length+1)<=30000 * 200001:=Nat.mul_le_mul (by assumption) (by omega)
    _=6000030000:=by decide
  ·exact hk
theorem Sj {m:aQ} {t:List Bs} (h1:m.states.length<=100) (h2:∀ s∈m.states,s.arcs.length<=1000):O1 m t<=6000030000:=by
 refine Rh _ _ (fun x hx=>?_) (by decide);have h:=(QX (t:=t) m.states (n:=0) (l:=[]) (by simp [O0])).2 x hx;have:=RI m.states h2;omega
def PG (m:aQ) (t:List Bs) (e:Int):Bool :=
 if bM m=true/\l7 t=true then decide (e=2) && (decide (3000<O1 m t * m.states.length) || decide (30000<O1 m t * dh m.states)) else decide (e=1)
theorem SQ (m:aQ) (A At:Option Addr) (c ct:Nat) (t:List Bs) (z:Int) (w:World) (hV:dY w A m.states) (hT:ay w At (t.map S)) (hl:m.states.length<=5) (Uu:m.lead.length<=9223372036854775807) (hsw:oH 9223372036854775807 m.states) (hb:∀ s∈m.states,s.arcs.length<=20) (hn:dh m.states<=20) (ht:t.length<=30) :
  Calls Tryz.prog 30 #[di m A c,.slice At t.length ct,.int .i64 z] w fun e w'=>e=.returned (.bool (PG m t z))/\Below w.heap.size w w':=by
 have pm:∀ W,Below w.heap.size w W->Calls Tryz.prog 28 #[di m A c] W fun e w'=>e=.returned (.bool (bM m))/\Below W.heap.size W w':=fun W hB=>yL m A c W (hV.below hB) (by omega) Uu hsw
 have pt:∀ W,Below w.heap.size w W->Calls Tryz.prog 29 #[.slice At t.length ct] W fun e w'=>e=.returned (.bool (l7 t))/\Below W.heap.size W w':=fun W hB=>aBx At ct t W (hT.below hB)
 have pa:∀ W,Below w.heap.size w W->Calls Tryz.prog 53 #[di m A c] W fun e w'=>e=.returned (.int .i64 (dh m.states))/\Below W.heap.size W w':=fun W hB=>Rk m A c W (hV.below hB) (by omega) (fun s hs=>by have:=hb s hs;omega)
 have pf:bM m=true->∀ W,Below w.heap.size w W->Calls Tryz.prog 58 #[di m A c,.slice At t.length ct,.int .i64 30000] W fun e w'=>e=.returned (.int .i64 (O1 m t:Nat))/\Below W.heap.size W w':=fun h W hB=>by
  refine SX m A At c ct t W (hV.below hB) (hT.below hB) (by omega) (by omega) fun s hs=>⟨by have:=hb s hs;omega,fun a ha=>?_⟩
  have h1:=mh.1 ((pg.1 ((kV.1 h).2.2.2.1 s hs)).2 a ha);have h2:=OI.1 h1.1;have h3:=OI.1 h1.2.1;unfold PK;omega
 have hfl:O1 m t<=6000030000:=Sj (by omega) (fun s hs=>by have:=hb s hs;omega);have HD:Hid (PG m t z=if bM m=true/\l7 t=true then decide (z=2) && (decide (3000<O1 m t * m.states.length) || decide (30000<O1 m t * dh m.states)) else decide (z=1)):=rfl;generalize PG m t z=R at *;generalize l7 t=tb at *;generalize bM m=mb at *;generalize O1 m t=k at *;clear hV hT hb hsw Uu;unfold di S at *;obtain⟨kd,st,ld,ss⟩:=m;simp only at *;generalize (⟨ld.toArray⟩:ByteArray)=Ld at *;generalize dh ss=N at *;have g0:=heap_alloc_new w (.cells #[.int .i64 kd,.int .i64 st,.string Ld,.slice A ss.length c] 30);have hb0:Below w.heap.size w (w.alloc (.cells #[.int .i64 kd,.int .i64 st,.string Ld,.slice A ss.length c] 30)):=(Below.refl _ _).alloc (Nat.le_refl _) _;obtain⟨W1,hW1⟩:∃ W1,W1=w.alloc (.cells #[.int .i64 kd,.int .i64 st,.string Ld,.slice A ss.length c] 30):=⟨_,rfl⟩;rw [<-hW1] at g0 hb0;obtain⟨q0,q1,q2,q3⟩:=OO g0;go_enter Tryz.func30,Tryz.ntmps30;go_upto_region 1 with (fail)
 rw [<-hW1];clear hW1;have pM:=pm W1 hb0;clear pm
 cases mb with
 | false =>
  have HR:Hid (R=decide (z=1)):=by rw [Hid,HD.out];simp
  clear HD pa pf pt;go_wp2_with (first|(go_at_call 28;refine pM.mono ?_;rintro e w3 ⟨rfl,hb3⟩));go_returns;rw [HR.out];exact⟨by first|rfl|simp,ae hb0 hb3⟩
 | true =>
  cases tb with
  | false =>
   have HR:Hid (R=decide (z=1)):=by rw [Hid,HD.out];simp
   clear HD pa pf;go_wp2_with (first|(go_at_call 28;refine pM.mono ?_;rintro e w3 ⟨rfl,hb3⟩;have pT:=pt w3 (ae hb0 hb3))|(go_at_call 29;refine pT.mono ?_;rintro e w4 ⟨rfl,hb4⟩));go_returns;rw [HR.out];exact⟨by first|rfl|simp,ae (ae hb0 hb3) hb4⟩
  | true =>
   have HR:Hid (R=(decide (z=2) && (decide (3000<k * ss.length) || decide (30000<k * N)))):=by rw [Hid,HD.out];simp
   clear HD;have pF:=pf rfl;clear pf;have m1:k * ss.length<=6000030000 * 5:=Nat.mul_le_mul hfl hl;have m2:k * N<=6000030000 * 20:=Nat.mul_le_mul hfl hn;have e1:(k:Int) * (ss.length:Int)=((k * ss.length:Nat):Int):=by push_cast;rfl
   have e2:(k:Int) * (N:Int)=((k * N:Nat):Int):=by push_cast;rfl
   have n0:(0:Int)<=(k:Int) * (ss.length:Int):=by rw [e1];omega
   have n1:(k:Int) * (ss.length:Int)<=30000150000:=by rw [e1];omega
   have n2:(0:Int)<=(k:Int) * (N:Int):=by rw [e2];omega
   have n3:(k:Int) * (N:Int)<=120000600000:=by rw [e2];omega
   have hd1:decide ((3000:Int)<(k:Int) * (ss.length:Int))=decide (3000<k * ss.length):=by rw [decide_eq_decide,e1];omega
   have hd2:decide ((30000:Int)<(k:Int) * (N:Int))=decide (30000<k * N):=by rw [decide_eq_decide,e2];omega
   have HR2:Hid (R=(decide (z=2) && (decide ((3000:Int)<(k:Int) * (ss.length:Int)) || decide ((30000:Int)<(k:Int) * (N:Int))))):=by rw [Hid,HR.out,hd1,hd2]
   clear HR e1 e2 m1 m2 hd1 hd2;by_cases hz:z=2
   ·subst hz
    by_cases h5:(3000:Int)<(k:Int) * (ss.length:Int)
    ·have HR3:Hid (R=true):=by rw [Hid,HR2.out,decide_eq_true h5];rfl
     go_wp2_with (first|(go_at_call 28;refine pM.mono ?_;rintro e w3 ⟨rfl,hb3⟩;have pT:=pt w3 (ae hb0 hb3))|(go_at_call 29;refine pT.mono ?_;rintro e w4 ⟨rfl,hb4⟩;have hB4:=ae (ae hb0 hb3) hb4;have pG:=pF w4 hB4;have g4:=(hb4.block _ (lt_of_block ((hb3.block _ (lt_of_block g0)).trans g0))).trans ((hb3.block _ (lt_of_block g0)).trans g0);obtain⟨q40,q41,q42,q43⟩:=OO g4)|(go_at_call 58;refine pG.mono ?_;rintro e w5 ⟨rfl,hb5⟩;have TS:=ae hB4 hb5;have g5:=(hb5.block _ (lt_of_block g4)).trans g4;obtain⟨q50,q51,q52,q53⟩:=OO g5)|(go_at_call 53;refine (pa _ TS).mono ?_;rintro e w6 ⟨rfl,hb6⟩;have TV:=ae TS hb6));go_returns;rw [HR3.out];exact⟨by first|rfl|(simp;done)|(simp;intro h;exact absurd h (Int.not_lt.2 h5)),by assumption⟩
    ·have HR3:Hid (R=decide ((30000:Int)<(k:Int) * (N:Int))):=by rw [Hid,HR2.out,decide_eq_false h5];rfl
     go_wp2_with (first|(go_at_call 28;refine pM.mono ?_;rintro e w3 ⟨rfl,hb3⟩;have pT:=pt w3 (ae hb0 hb3))|(go_at_call 29;refine pT.mono ?_;rintro e w4 ⟨rfl,hb4⟩;have hB4:=ae (ae hb0 hb3) hb4;have pG:=pF w4 hB4;have g4:=(hb4.block _ (lt_of_block ((hb3.block _ (lt_of_block g0)).trans g0))).trans ((hb3.block _ (lt_of_block g0)).trans g0);obtain⟨q40,q41,q42,q43⟩:=OO g4)|(go_at_call 58;refine pG.mono ?_;rintro e w5 ⟨rfl,hb5⟩;have TS:=ae hB4 hb5;have g5:=(hb5.block _ (lt_of_block g4)).trans g4;obtain⟨q50,q51,q52,q53⟩:=OO g5)|(go_at_call 53;refine (pa _ TS).mono ?_;rintro e w6 ⟨rfl,hb6⟩;have TV:=ae TS hb6));go_returns;rw [HR3.out];exact⟨by first|rfl|(simp;done)|(simp;intro h;exact absurd h (Int.not_lt.2 h5)),by assumption⟩
   ·have HR3:Hid (R=false):=by rw [Hid,HR2.out,decide_eq_false hz];rfl
    go_wp2_with (first|(go_at_call 28;refine pM.mono ?_;rintro e w3 ⟨rfl,hb3⟩;have pT:=pt w3 (ae hb0 hb3))|(go_at_call 29;refine pT.mono ?_;rintro e w4 ⟨rfl,hb4⟩;have hB4:=ae (ae hb0 hb3) hb4;have pG:=pF w4 hB4;have g4:=(hb4.block _ (lt_of_block ((hb3.block _ (lt_of_block g0)).trans g0))).trans ((hb3.block _ (lt_of_block g0)).trans g0);obtain⟨q40,q41,q42,q43⟩:=OO g4)|(go_at_call 58;refine pG.mono ?_;rintro e w5 ⟨rfl,hb5⟩;have TS:=ae hB4 hb5;have g5:=(hb5.block _ (lt_of_block g4)).trans g4;obtain⟨q50,q51,q52,q53⟩:=OO g5)|(go_at_call 53;refine (pa _ TS).mono ?_;rintro e w6 ⟨rfl,hb6⟩;have TV:=ae TS hb6));go_returns;rw [HR3.out];exact⟨by first|rfl|(simp;done)|(simp;intro h;exact absurd h (Int.not_lt.2 h5)),by assumption⟩
end Go.Proofs.YtppnecgeboonbaaGreatDoor
