/- The reference of layer 7: Stars on matrices where no two steps meet. -/
import Derived.Test.YtppnecgeboonbaaGreatDoorZ39
namespace Go.Proofs.YtppnecgeboonbaaGreatDoor
set_option maxRecDepth 100000
set_option linter.unusedVariables false
set_option maxHeartbeats 8000000
open Go.RowKit
structure lc (W:World) (sb:Nat) (k:Int) where
 w:World
 u:df sb W w
 s:dI w sb k false
theorem lc.cell {W:World} {sb:Nat} {k:Int} {p:Addr} {v:Value} (h:W.cell? p=some v) (hp:p.block<W.heap.size) (hne:p.block≠sb) (z:lc W sb k):z.w.cell? p=some v:=(cellS (p:=p) (z.u.same p.block hp hne)).trans h
theorem gL.upd {w wr w':World} {sb n:Nat} {k:Int} {bb:Nat} {rb:List (Nat × Nat)} {b:ak} (h:gL w wr sb n k bb rb b) (hsb:sb<w.heap.size) (hu:df sb wr w') (hs:dI w' sb k false):gL w w' sb n k bb rb b :=
 ⟨h.u.trans hu,hs,h.m.upd hu hsb h.lo.1 h.lo.2,h.lo⟩
theorem gL.below {w wr w':World} {sb n:Nat} {k:Int} {bb:Nat} {rb:List (Nat × Nat)} {b:ak} (h:gL w wr sb n k bb rb b) (hb:Below wr.heap.size wr w'):gL w w' sb n k bb rb b :=
 ⟨h.u.step hb,h.s.below hb,h.m.below hb,h.lo⟩
theorem gL.other {w wr:World} {sb n B:Nat} {k:Int} {bb:Nat} {rb:List (Nat × Nat)} {b:ak} (h:gL w wr sb n k bb rb b) (hsb:sb<w.heap.size) (hB:w.heap.size<=B) (h1:bb<B) (h2:∀ r∈rb,r.1<B) {p:Addr} (hp:B<=p.block) (v:Value):gL w (wr.setCell p v) sb n k bb rb b :=
 ⟨h.u.newset (Nat.le_trans hB hp) v,(Below.heap_setCell wr p v sb (by omega)).trans h.s,h.m.keep (Below.heap_setCell wr p v bb (by omega)) (fun r hr=>Below.heap_setCell wr p v r.1 (by have:=h2 r hr;omega)),h.lo⟩
theorem Gl {k:Int} {n i:Nat} {m:ak} {D:Bool × ak} (hi:i<n) (h:D=jq k (n-i) i false m) (hD:D.1=false):(jG k false (fQ k) (aX m i i)).1=false/\D=jq k (n-(i+1)) (i+1) false (setAt m i i (jG k false (fQ k) (aX m i i)).2):=by
 rw [show n-i=(n-(i+1))+1 by omega] at h;unfold jq at h
 cases hk:(jG k false (fQ k) (aX m i i)).1 with
 | false=>rw [hk] at h;exact⟨rfl,h⟩
 | true =>
  rw [hk] at h;rw [h,Aw] at hD
  cases hD
theorem BL {n:Nat} {a b:ak} (ha:a.length=n) (hb:b.length=n) (h:∀ i,i<n->b[i]? = a[i]?):b=a:=by
 apply List.ext_getElem?;intro i;rcases Nat.lt_or_ge i n with h1|h1
 ·exact h i h1
 ·rw [List.getElem?_eq_none (by omega),List.getElem?_eq_none (by omega)]
theorem LP {n i:Nat} {a b:ak} (hi:i<n) (ha:iM n a) (hb:iM n b) (h:∀ j,j<n->aX b i j=aX a i j):b[i]? = a[i]?:=by
 have hia:i<a.length:=by rw [ha.1];exact hi
 have hib:i<b.length:=by rw [hb.1];exact hi
 have la:=(ha.2 _ (List.getElem_mem hia)).1;have lb:=(hb.2 _ (List.getElem_mem hib)).1;rw [List.getElem?_eq_getElem hia,List.getElem?_eq_getElem hib];congr 1;apply List.ext_getElem
 ·rw [la,lb]
 ·intro j h1 h2
  have:=h j (by omega);rw [mi hib h1,mi hia h2] at this;exact this
theorem Md (sb:Nat) (k:Int) (AS:Addr) (c n:Nat) (a:ak) (w:World) (hk:kindOk k=true) (hS:dI w sb k false) (hA:jP w (some AS) a) (hN:iM n a) (hn1:1<=n) (hn2:n<=3000) (hE:uQ k a) :
  Calls Tryz.prog 109 #[.pointer (some ⟨sb,0,none⟩),.slice (some AS) n c] w (ES w sb n k (jq k n 0 false a).2):=by
 have HA:=Lib.hid hA;have hsb:=hS.lt;have k0:=hS.kind;have HS:=Lib.hid hS;have HNP:=Lib.hid hE.1;have HEf:Hid ((jq k n 0 false a).1=false):=by have:=hE.2;rw [hN.1] at this;exact this
 obtain⟨D,hD⟩:∃ D,D=jq k n 0 false a:=⟨_,rfl⟩;rw [<-hD] at HEf ⊢;have HD:=Lib.hid hD;have HKZ:=Lib.hid (Bg hk);clear hA hS hE hD hk;have pZ:=fun W=>KI k n W hn1 hn2
 have d1:(1:Int)<=(n:Int):=by omega
 go_enter Tryz.func109,Tryz.ntmps109;go_wp2_with fail;refine (pZ _).mono ?_;rintro e w1 ⟨bb,rb,rfl,hM,hbb,hrb,hb1⟩;go_wp2_with fail
 go_loopw [7] (fun i wr=>∃ (q:Nat) (b:ak),i=.int .i64 q/\q<=n/\gL w wr sb n k bb rb b/\Hid (∀ i,i<q->b[i]? = a[i]?)) (fun i _=>n-(intOf i).toNat)
 case atStart=>exact⟨0,_,rfl,by omega,⟨df.of_below hb1,HS.out.below hb1,hM,hbb,hrb⟩,fun i h=>absurd h (Nat.not_lt_zero _)⟩
 case round =>
  clear hM hbb hrb hb1 k0;obtain⟨q,b,rfl,hq,hI,HJ⟩:=hrel;by_cases hlt:q<n
  ·obtain⟨g,cp,gs,cs,src,os,hg,rfl,c1,c2,w5,hcopy,hI5⟩:=Mc sb k AS n a w HS.out HA.out hN hn1 hlt hI
   have x1:wr.cell? ⟨bb,q,none⟩=some (.slice (some ⟨g,0,none⟩) n cp):=c1;have x2:wr.cell? ⟨src,os+q,none⟩=some (.slice (some ⟨gs,0,none⟩) n cs):=c2;have i0:(0:Int)<=(q:Int):=by omega
   have il:(q:Int)<(n:Int):=by omega
   have HX:Hid (∀ i,i<q+1->(b.set q (a.getD q []))[i]? = a[i]?):=fun i hi=>by
    have hqa:q<a.length:=by rw [hN.1];exact hlt
    have hqb:q<b.length:=by rw [hI.m.mat.1];exact hlt
    rw [List.getElem?_set];by_cases e:q=i
    ·subst e
     rw [if_pos rfl,if_pos hqb,List.getD_eq_getElem?_getD,List.getElem?_eq_getElem hqa]
     rfl
    ·rw [if_neg e]
     exact HJ.out i (by omega)
   clear hI HJ hg;go_wp2_with fail
   go_still_tail 8,(by kernel_rfl)
   change wpList _ _ _ _ _ wr.drew;go_wp2_with fail;go_roundw
   case rel=>exact⟨q+1,_,by go_num,by omega,hI5,HX.out⟩
   case measure=>simp [intOf];omega
  ·obtain rfl:q=n:=by omega
   obtain rfl:b=a:=BL hN.1 hI.m.mat.1 HJ.out;clear HJ hlt hq
   rename World=>w2
   go_wp2_with fail
   go_loopw [6,8] (fun s i wr=>∃ (p:Nat) (bb:Nat) (rb:List (Nat × Nat)),s=.slice (some ⟨bb,0,none⟩) q q/\i=.int .i64 p/\p<=q/\gL w wr sb q k bb rb b) (fun _ i _=>q-(intOf i).toNat)
   case atStart=>exact⟨0,bb,rb,rfl,rfl,by omega,hI⟩
   case round =>
    clear hI;obtain⟨p,bb,rb,rfl,rfl,hp,hI⟩:=hrel;by_cases hlp:p<q
    ·have s0:=hI.s.kind
     have i0:(0:Int)<=(p:Int):=by omega
     have il:(p:Int)<(q:Int):=by omega
     obtain⟨gk,ck,hgk,hcell⟩:=hI.m.rowE hlp;have hpb:p<b.length:=by rw [hN.1];exact hlp
     obtain⟨hgr,hgm⟩:=hI.m.rowG hgk hpb;have hgl:=hI.m.lt.2 _ hgm;have hglo:=hI.lo.2 _ hgm;have hzz:aX b p p=aF k:=by rcases HNP.out p hpb p hpb p hpb with h|h <;> exact h
     have hval:wr.cell? ⟨gk,p,none⟩=some (S (aF k)):=by
      rw [<-hzz];have hl:=(hN.2 _ (List.getElem_mem hpb)).1;rw [mi hpb (by rw [hl];exact hlp)];exact hgr.cell (by rw [hl];exact hlp)
     obtain⟨zk,hzk⟩:∃ zk:ByteArray,(⟨(aF k).toArray⟩:ByteArray)=zk:=⟨_,rfl⟩;have hzkd:aF k=zk.data.toList:=by rw [<-hzk]
     have hSz:S (aF k)=.string zk:=by unfold S;rw [hzk]
     rw [hSz] at hval;have hzs:zk.size<=802:=by rw [Lib.size_eq,<-hzkd];exact rR k
     have pStar:∀ W,dI W sb k false->Calls Tryz.prog 126 #[.pointer (some ⟨sb,0,none⟩),.string zk] W (fun e w'=>∃ v,e=.returned (.string v)/\dI w' sb k false/\df sb W w'):=fun W hW=>by
      have h1:=M0 sb k false zk W hW hzs;rw [<-hzkd,HKZ.out] at h1;exact h1.mono fun e w' ⟨h2,h3,h4⟩=>⟨_,h2,h3,h4⟩
     have p0:∀ W,Calls Tryz.prog 34 #[.int .i64 k] W fun e w'=>e=.returned (.string zk)/\w'=W:=fun W=>by
      have:=o9 k W;rw [hSz] at this;exact this.mono fun e w' h=>⟨h.1,h.2.symm⟩
     have HZK:=Lib.hid hzkd;have HI:=Lib.hid hI;have hmlt:=hI.m.lt.1;clear hzk hzkd hSz hzz hI;go_wp2_with fail;refine (pZ _).mono ?_;rintro e w3 ⟨bc,rc,rfl,hMc,hbc,hrc,hb3⟩;have hI3:=HI.out.below hb3;have r1:=(hb3.cell (p:=⟨bb,p,none⟩) hmlt).trans hcell;have r2:=(hb3.cell (p:=⟨gk,p,none⟩) hgl).trans hval;go_wp2_with fail;refine (pStar _ hI3.s).mono ?_;rintro e w4 ⟨lv,rfl,hS4,hU4⟩;have hI4:=hI3.upd hsb hU4 hS4;have hMc4:=hMc.upd hU4 hsb (Nat.le_trans HI.out.u.size hbc) (fun r hr=>Nat.le_trans HI.out.u.size (hrc r hr));have hBl:bb<wr.heap.size/\∀ r∈rb,r.1<wr.heap.size:=HI.out.m.lt;have hBs:w.heap.size<=wr.heap.size:=HI.out.u.size;obtain⟨B,hB⟩:∃ B,B=wr.heap.size:=⟨_,rfl⟩;rw [<-hB] at hbc hrc hBl hBs;obtain⟨wk,hwk⟩:∃ W,W=wr:=⟨_,rfl⟩;subst hwk;clear hI3 hMc HI hcell hval hgr r1 r2 hmlt hgl hb3 hU4 hS4 s0 hB;go_wp2_with fail
     go_loopw [11] (fun i wr=>∃ (i':Nat) (cm:ak),i=.int .i64 i'/\i'<=q/\gL w wr sb q k bb rb b/\cZ wr bc q rc cm/\Hid (∀ t,t<i'->cm[t]? = b[t]?)) (fun i _=>q-(intOf i).toNat)
     case atStart=>exact⟨0,_,rfl,by omega,hI4,hMc4,fun t h=>absurd h (Nat.not_lt_zero _)⟩
     case round =>
      clear hI4 hMc4;obtain⟨i',cm,rfl,hi',hI,hMc,HJ⟩:=hrel;by_cases hli:i'<q
      ·go_wp2_with fail
       go_loopw [12] (fun j wr=>∃ (j':Nat) (cm:ak),j=.int .i64 j'/\j'<=q/\gL w wr sb q k bb rb b/\cZ wr bc q rc cm/\Hid ((∀ t,t<i'->cm[t]? = b[t]?)/\∀ t,t<j'->aX cm i' t=aX b i' t)) (fun j _=>q-(intOf j).toNat)
       case atStart=>exact⟨0,cm,rfl,by omega,hI,hMc,HJ.out,fun t h=>absurd h (Nat.not_lt_zero _)⟩
       case round =>
        clear hI hMc HJ;obtain⟨j',cm,rfl,hj',hI,hMc,HJ⟩:=hrel;by_cases hlj:j'<q
        ·have i1:(0:Int)<=(i':Int):=by omega
         have i2:(i':Int)<(q:Int):=by omega
         have j1:(0:Int)<=(j':Int):=by omega
         have j2:(j':Int)<(q:Int):=by omega
         have hib:i'<b.length:=by rw [hN.1];exact hli
         have hic:i'<cm.length:=by rw [hMc.mat.1];exact hli
         obtain⟨gb,cb,hgb,cellb⟩:=hI.m.rowE hli;obtain⟨gc,cc,hgc,cellc⟩:=hMc.rowE hli;obtain⟨hrb,hmb⟩:=hI.m.rowG hgb hib;obtain⟨hrc',hmc⟩:=hMc.rowG hgc hic;obtain⟨gp,cpp,hgp,cellp⟩:=hI.m.rowE hlp;obtain⟨hrp,hmp⟩:=hI.m.rowG hgp hpb;have hlb:=(hN.2 _ (List.getElem_mem hib)).1;have hlpb:=(hN.2 _ (List.getElem_mem hpb)).1;have hlc:=(hMc.mat.2 _ (List.getElem_mem hic)).1;have vb:=hrb.cell (j:=j') (by rw [hlb];exact hlj);have vbp:=hrb.cell (j:=p) (by rw [hlb];exact hlp);have vpj:=hrp.cell (j:=j') (by rw [hlpb];exact hlj);have vc:=hrc'.cell (j:=j') (by rw [hlc];exact hlj);have fc:=hrc'.free j';rw [<-mi hib (by rw [hlb];exact hlj)] at vb;rw [<-mi hib (by rw [hlb];exact hlp)] at vbp;rw [<-mi hpb (by rw [hlpb];exact hlj)] at vpj;obtain⟨oc,hoc⟩:∃ x,S cm[i'][j']=x:=⟨_,rfl⟩;rw [hoc] at vc;have hvl:=(hI.m.at_ hli hlj).2;have hBc:=hrc _ hmc;have NP:=HNP.out p hpb i' hib j' (by rw [hN.1];exact hlj);have hI2:∀ v,gL w (wr.setCell ⟨gc,j',none⟩ v) sb q k bb rb b:=fun v=>hI.other hsb hBs hBl.1 hBl.2 (p:=⟨gc,j',none⟩) hBc v
         have hM2:=hMc.putE hgc hli hlj hvl hic;have HX:Hid ((∀ t,t<i'->(cm.set i' (cm[i'].set j' (aX b i' j')))[t]? = b[t]?)/\∀ t,t<j'+1->aX (cm.set i' (cm[i'].set j' (aX b i' j'))) i' t=aX b i' t):=by
          refine⟨fun t ht=>by rw [List.getElem?_set_ne (by omega)];exact HJ.out.1 t ht,fun t ht=>?_⟩;have hl1:i'<(cm.set i' (cm[i'].set j' (aX b i' j'))).length:=by rw [List.length_set];exact hic
          rw [mi hl1 (by simp [hlc];omega)];simp only [List.getElem_set_self,List.getElem_set];by_cases e:j'=t
          ·subst e;simp
          ·rw [if_neg e,<-mi hic (by rw [hlc];omega)]
           exact HJ.out.2 t (by omega)
         obtain⟨V,hV⟩:∃ V:ByteArray,(⟨(aX b i' j').toArray⟩:ByteArray)=V:=⟨_,rfl⟩;have hVS:S (aX b i' j')=.string V:=by unfold S;rw [hV]
         rw [hVS] at vb hM2;have hI3:=hI2 (.string V);obtain⟨P1,hP1⟩:∃ V:ByteArray,(⟨(aX b i' p).toArray⟩:ByteArray)=V:=⟨_,rfl⟩;have hP1S:S (aX b i' p)=.string P1:=by unfold S;rw [hP1]
         have hP1d:aX b i' p=P1.data.toList:=by rw [<-hP1]
         rw [hP1S] at vbp;obtain⟨P2,hP2⟩:∃ V:ByteArray,(⟨(aX b p j').toArray⟩:ByteArray)=V:=⟨_,rfl⟩;have hP2S:S (aX b p j')=.string P2:=by unfold S;rw [hP2]
         have hP2d:aX b p j'=P2.data.toList:=by rw [<-hP2]
         rw [hP2S] at vpj;rw [hP1d,hP2d,HZK.out] at NP;have y1:wr.drew.cell? ⟨gc,j',none⟩=some oc:=vc;have y2:wr.drew.frozen? ⟨gc,j',none⟩=false:=fc;have hne:∀ g',B<=gc->g'<B->g'≠gc:=fun g' h1 h2 e=>by omega
         have z1:((wr.setCell ⟨gc,j',none⟩ (.string V)).cell? ⟨bb,i',none⟩)=some (.slice (some ⟨gb,0,none⟩) q cb):=(cellS (p:=⟨bb,i',none⟩) (Below.heap_setCell wr ⟨gc,j',none⟩ _ bb (hne bb hBc hBl.1))).trans cellb;have z2:((wr.setCell ⟨gc,j',none⟩ (.string V)).cell? ⟨gb,p,none⟩)=some (.string P1):=(cellS (p:=⟨gb,p,none⟩) (Below.heap_setCell wr ⟨gc,j',none⟩ _ gb (hne gb hBc (hBl.2 _ hmb)))).trans vbp;have z3:((wr.setCell ⟨gc,j',none⟩ (.string V)).cell? ⟨bb,p,none⟩)=some (.slice (some ⟨gp,0,none⟩) q cpp):=(cellS (p:=⟨bb,p,none⟩) (Below.heap_setCell wr ⟨gc,j',none⟩ _ bb (hne bb hBc hBl.1))).trans cellp;have z4:((wr.setCell ⟨gc,j',none⟩ (.string V)).cell? ⟨gp,j',none⟩)=some (.string P2):=(cellS (p:=⟨gp,j',none⟩) (Below.heap_setCell wr ⟨gc,j',none⟩ _ gp (hne gp hBc (hBl.2 _ hmp)))).trans vpj;have z5:=hI3.s.kind;clear hI2 hI HJ hV hVS hP1 hP2 hP1S hP2S hP1d hP2d hoc vc fc hvl hrb hrp hrc' hMc hgb hgc hgp hne hlb hlpb hlc;go_wp2_with fail
         go_still_tail 12,(by kernel_rfl)
         change wpList _ _ _ _ _ wr.drew;go_wp2_with fail;generalize wr.setCell ⟨gc,j',none⟩ (.string V)=w8 at *;have hI4:gL w w8.drew sb q k bb rb b:=hI3.below ((Below.refl _ _).drew);have hM4:=hM2.below ((Below.refl _ w8).drew);have a1:w8.drew.cell? ⟨bb,i',none⟩=some (.slice (some ⟨gb,0,none⟩) q cb):=z1;have a2:w8.drew.cell? ⟨gb,p,none⟩=some (.string P1):=z2;have a3:w8.drew.cell? ⟨bb,p,none⟩=some (.slice (some ⟨gp,0,none⟩) q cpp):=z3;have a4:w8.drew.cell? ⟨gp,j',none⟩=some (.string P2):=z4;have a5:w8.drew.cell? ⟨sb,0,none⟩=some (.int .i64 k):=z5;clear y1 y2 cellb cellc cellp vb vbp vpj hI3 hM2 z1 z2 z3 z4 z5;generalize w8.drew=w9 at *;by_cases hx:P1.data.toList=zk.data.toList
         ·have t1:=Em hx
          have t1':=str_eq hx;clear NP hx;go_wp2_with fail
          go_quiet (first|(go_at_call 34;with_reducible exact Calls.quiet_of_same (p0 _)))
          go_wp2_with fail;go_roundw
          case rel=>exact⟨j'+1,_,by go_num,by omega,hI4.below (lh (Below.refl _ _) _),hM4.below (lh (Below.refl _ _) _),HX.out⟩
          case measure=>simp [intOf];omega
         ·have hy:P2.data.toList=zk.data.toList:=by rcases NP with h|h;exact absurd h hx;exact h
          have t1:=Ny hx;have t1':=qB hx;have t2:=Em hy;have t2':=str_eq hy;clear NP hx hy;go_wp2_with fail
          go_quiet (first|(go_at_call 34;with_reducible exact Calls.quiet_of_same (p0 _)))
          go_wp2_with fail;go_roundw
          case rel=>exact⟨j'+1,_,by go_num,by omega,hI4.below (lh (Below.refl _ _) _),hM4.below (lh (Below.refl _ _) _),HX.out⟩
          case measure=>simp [intOf];omega
        ·obtain rfl:j'=q:=by omega
         have HX:Hid (∀ t,t<i'+1->cm[t]? = b[t]?):=fun t ht=>by
          rcases Nat.lt_or_ge t i' with h|h
          ·exact HJ.out.1 t h
          ·obtain rfl:t=i':=by omega
           exact LP hli hN hMc.mat HJ.out.2
         go_wp2_with fail;go_roundw
         case rel=>exact⟨i'+1,cm,by go_num,by omega,hI,hMc,HX.out⟩
         case measure=>simp [intOf];omega
      ·obtain rfl:i'=q:=by omega
       obtain rfl:cm=b:=BL hN.1 hMc.mat.1 HJ.out;have hI9:gL w wr sb i' k bc rc cm:=⟨hI.u,hI.s,hMc,Nat.le_trans hBs hbc,fun r hr=>Nat.le_trans hBs (hrc r hr)⟩;go_wp2_with fail;go_roundw
       case rel=>exact⟨p+1,bc,rc,rfl,by go_num,by omega,hI9⟩
       case measure=>simp [intOf];omega
    ·obtain rfl:p=q:=by omega
     obtain⟨O,hO⟩:∃ V:ByteArray,(⟨(fQ k).toArray⟩:ByteArray)=V:=⟨_,rfl⟩;have hOS:S (fQ k)=.string O:=by unfold S;rw [hO]
     have hOd:fQ k=O.data.toList:=by rw [<-hO]
     have hOs:O.size<=802:=by rw [Lib.size_eq,<-hOd];exact Mq k
     have pO:∀ W,Calls Tryz.prog 129 #[.int .i64 k] W fun e w'=>e=.returned (.string O)/\W=w':=fun W=>by
      have:=DU k W;rw [hOS] at this;exact this
     have HOd:=Lib.hid hOd;clear hO hOS hOd;go_wp2_with fail
     go_loopw [13] (fun i wr=>∃ (i':Nat) (m:ak),i=.int .i64 i'/\i'<=p/\gL w wr sb p k bb rb m/\Hid (D=jq k (p-i') i' false m)) (fun i _=>p-(intOf i).toNat)
     case atStart=>exact⟨0,b,rfl,by omega,hI,HD.out⟩
     case round =>
      clear hI;obtain⟨i',m,rfl,hi',hI,HJ⟩:=hrel;by_cases hli:i'<p
      ·obtain⟨hf,hst⟩:=Gl hli HJ.out HEf.out
       have him:i'<m.length:=by rw [hI.m.mat.1];exact hli
       obtain⟨gb,cb,hgb,cellb⟩:=hI.m.rowE hli;obtain⟨hrb,hmb⟩:=hI.m.rowG hgb him;have hlm:=(hI.m.mat.2 _ (List.getElem_mem him)).1;have vb:=hrb.cell (j:=i') (by rw [hlm];exact hli);rw [<-mi him (by rw [hlm];exact hli)] at vb;have hvl:=(hI.m.at_ hli hli).2;obtain⟨X,hX⟩:∃ V:ByteArray,(⟨(aX m i' i').toArray⟩:ByteArray)=V:=⟨_,rfl⟩;have hXS:S (aX m i' i')=.string X:=by unfold S;rw [hX]
       have hXd:aX m i' i'=X.data.toList:=by rw [<-hX]
       rw [hXS] at vb;have hXs:X.size<=802:=by rw [Lib.size_eq,<-hXd];exact hvl
       rw [hXd,HOd.out] at hf hst;have hkl:(jG k false O.data.toList X.data.toList).2.length<=802:=by
        unfold jG
        split
        ·exact rR k
        ·exact yP (by rw [<-Lib.size_eq];exact hOs) (by rw [<-Lib.size_eq];exact hXs)
       have pP:∀ W,dI W sb k false->Calls Tryz.prog 127 #[.pointer (some ⟨sb,0,none⟩),.string O,.string X] W (wW W sb k (jG k false O.data.toList X.data.toList)):=fun W hW=>MX sb k false O X W hW hOs hXs
       obtain⟨kp,hkp⟩:∃ kp,jG k false O.data.toList X.data.toList=kp:=⟨_,rfl⟩;rw [hkp] at hf hst hkl pP;obtain⟨fl,y⟩:=kp;simp only at hf;subst hf;simp only at hst hkl;obtain⟨Y,hY⟩:∃ V:ByteArray,(⟨y.toArray⟩:ByteArray)=V:=⟨_,rfl⟩;have hYS:S y=.string Y:=by unfold S;rw [hY]
       have HST:=Lib.hid hst;have HYS:=Lib.hid hYS
       haveI:Nonempty (lc wr sb k):=⟨⟨wr,df.of_below (Below.refl _ _),hI.s⟩⟩
       have hgl:=hI.m.lt;have hlo:=hI.lo;have hgsb:gb≠sb:=by have:=hlo.2 _ hmb;simp only at this;omega
       have y1:=lc.cell (sb:=sb) (k:=k) cellb hgl.1 (by simp only;omega);have y2:=lc.cell (sb:=sb) (k:=k) vb (hgl.2 _ hmb) hgsb;have y0:∀ z:lc wr sb k,z.w.cell? ⟨sb,0,none⟩=some (.int .i64 k):=fun z=>z.s.kind
       have qO:∀ z:lc wr sb k,Calls Tryz.prog 129 #[.int .i64 k] z.w fun e w'=>e=.returned (.string O)/\∃ z':lc wr sb k,w'=z'.w:=fun z=>(pO z.w).mono fun e w' h=>⟨h.1,z,h.2.symm⟩
       have qP:∀ z:lc wr sb k,Calls Tryz.prog 127 #[.pointer (some ⟨sb,0,none⟩),.string O,.string X] z.w fun e w'=>e=.returned (.string Y)/\∃ z':lc wr sb k,w'=z'.w:=fun z=>(pP z.w z.s).mono fun e w' h=>⟨h.1.trans (by rw [HYS.out]),⟨w',z.u.trans h.2.2,h.2.1⟩,rfl⟩
       have i1:(0:Int)<=(i':Int):=by omega
       have i2:(i':Int)<(p:Int):=by omega
       have HI:=Lib.hid hI;clear hst hYS hY hkp hX hXS hXd hI HJ hrb hgl hlo pP cellb vb;go_wp2_with fail;refine zi 20 (fun x=>∃ z:lc wr sb k,x=z.w) (by kernel_rfl) (by kernel_rfl) ⟨⟨wr.drew,df.of_below ((Below.refl _ _).drew),HI.out.s.below ((Below.refl _ _).drew)⟩,rfl⟩ ?_;simp only [List.take_succ_cons,List.take_zero,List.drop_succ_cons,List.drop_zero]
       repeat (go_big_quiet_step (first|exact qO _|exact qP _))
       refine wpQuiet_nil ?_;intro w6 hw';obtain⟨⟨_,hu,hs⟩,rfl⟩:=hw'
       try dsimp only
       rename_i w6;have hI6:=HI.out.upd hsb hu hs;have hrb6:=(hI6.m.rowG hgb him).1;have x1:=hrb6.cell (j:=i') (by rw [hlm];exact hli);have x2:=hrb6.free i';obtain⟨oc,hoc⟩:∃ x,S m[i'][i']=x:=⟨_,rfl⟩;rw [hoc] at x1;have hM7:=hI6.m.putE hgb hli hli hkl him;rw [HYS.out] at hM7;have hI7:gL w (w6.setCell ⟨gb,i',none⟩ (.string Y)) sb p k bb rb (setAt m i' i' y):=by
        refine⟨hI6.u.newset (p:=⟨gb,i',none⟩) (hI6.lo.2 _ hmb) _,(Below.heap_setCell w6 ⟨gb,i',none⟩ _ sb (fun e=>hgsb e.symm)).trans hs,?_,hI6.lo⟩;unfold setAt;rw [List.getD_eq_getElem?_getD,List.getElem?_eq_getElem him,Option.getD_some];exact hM7
       clear y0 y1 y2 qO qP hoc hI6 hM7 hrb6;go_wp2_with fail;go_roundw
       case rel=>exact⟨i'+1,_,by go_num,by omega,hI7,HST.out⟩
       case measure=>simp [intOf];omega
      ·obtain rfl:i'=p:=by omega
       have HX:Hid (D=(false,m)):=by
        have:=HJ.out;rw [Nat.sub_self] at this;exact this
       go_wp2_with fail;go_returns;rw [HX.out];exact⟨bb,rb,rfl,hI⟩
end Go.Proofs.YtppnecgeboonbaaGreatDoor
