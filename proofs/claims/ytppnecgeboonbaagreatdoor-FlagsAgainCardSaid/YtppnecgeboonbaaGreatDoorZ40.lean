/- Walks. -/
import Derived.Test.YtppnecgeboonbaaGreatDoorZ39
import Derived.Test.YtppnecgeboonbaaGreatDoorZ28
namespace Go.Proofs.YtppnecgeboonbaaGreatDoor
set_option maxRecDepth 100000
set_option linter.all false
set_option maxHeartbeats 16000000
open Go Go.RowKit
abbrev P6(bb gb i n cb sb:Nat)(k:Int)(X:ByteArray)(w:World):Prop:=w.cell? ⟨bb,i,none⟩=some (.slice (some ⟨gb,0,none⟩) n cb)/\w.cell? ⟨gb,i,none⟩=some (.string X)/\w.cell? ⟨sb,0,none⟩=some (.int .i64 k)
def OZ.put{k:Int}{b cm:ak}{loop:Bs}{p i n j:Nat}{fi fj f':Bool}{y:Bs}(h:OZ k b loop p i n fi fj (cm.getD i []) j)(hj:j<n)(hi:i<cm.length)(hr:cm[i].length=n)(e:ug k b loop p i j fj=(f',y)) :
  (cm.set i (cm[i].set j y)).take i=cm.take i/\OZ k b loop p i n fi f' ((cm.set i (cm[i].set j y)).getD i []) (j+1):=by
 have h0:cm.getD i []=cm[i]:=by rw[aaf,aak hi];rfl
 rw[h0]at h;have:=h.step hj hr;rw[e]at this;refine⟨by rw[List.take_set,List.set_eq_of_length_le (by rw[aaI];omega)],?_⟩;rw[aaf,af5 hi];exact this
def Tf(sb:Nat)(k:Int)(AS:Addr)(c n:Nat)(a:ak)(w:World)(hS:dI w sb k false)(hA:jP w (some AS) a)(hN:iM n a)(hn1:1<=n)(hn2:n<=3000) :
  Calls Tryz.prog 109 #[.pointer (some ⟨sb,0,none⟩),.slice (some AS) n c] w (QJ w sb n k (rT k a)):=by
 have HA:=Pd hA;have hsb:=hS.lt;have k0:=hS.kind;have HS:=Pd hS;have HRR:Hid (rT k a=jq k n 0 (uH k n n 0 false a).1 (uH k n n 0 false a).2):=by unfold Hid rT;rw[hN.1]
 generalize rT k a=R at*;clear hA hS;have pZ:=fun W=>KI k n W hn1 hn2
 have d1:(1:Int)<=(n:Int):=by omega
 go_enter Tryz.func109,Tryz.ntmps109;go_wp2_with fail;refine(pZ _).mono ?_;rintro e w1 ⟨bb,rb,rfl,hM,hbb,hrb,hb1⟩;go_wp2_with fail
 go_loopw [7] (fun i wr=>∃(q:Nat) (b:ak),i=.int .i64 q/\q<=n/\OM w wr sb n k bb rb b/\Hid (∀i,i<q->b[i]? = a[i]?)) (fun i _=>n-(intOf i).toNat)
 case atStart=>exact⟨0,_,rfl,by omega,⟨df.of_below hb1,HS.out.below hb1,hM,hbb,hrb⟩,fun i h=>absurd h (abW _)⟩
 case round=>
  clear hM hbb hrb hb1 k0;obtain⟨q,b,rfl,hq,hI,HJ⟩:=hrel;by_cases hlt:q<n
  ·obtain⟨g,cp,gs,cs,src,os,hg,rfl,c1,c2,w5,hcopy,UR⟩:=Mc sb k AS n a w HS.out HA.out hN hn1 hlt hI
   have x1:wr.cell? ⟨bb,q,none⟩=some (.slice (some ⟨g,0,none⟩) n cp):=c1;have x2:wr.cell? ⟨src,os+q,none⟩=some (.slice (some ⟨gs,0,none⟩) n cs):=c2;have i0:(0:Int)<=(q:Int):=by omega
   have il:(q:Int)<(n:Int):=by omega
   have HX:Hid (∀i,i<q+1->(b.set q (a.getD q []))[i]? = a[i]?):=fun i hi=>by
    have VM:q<a.length:=by rw[hN.1];exact hlt
    have hqb:q<b.length:=by rw[hI.m.mat.1];exact hlt
    rw[ab2];by_cases e:q=i
    ·subst e
     rw[aaa rfl,aaa hqb,aaf,aak VM]
     rfl
    ·rw[aab e]
     exact HJ.out i (by omega)
   clear hI HJ hg;go_wp2_with fail
   go_still_tail 8,(by kernel_rfl)
   change wpList _ _ _ _ _ wr.drew;go_wp2_with fail;go_roundw
   case rel=>exact⟨q+1,_,by go_num,by omega,UR,HX.out⟩
   case measure=>simp[intOf];omega
  ·obtain rfl:n=q:=by omega
   obtain rfl:a=b:=(BL hN.1 hI.m.mat.1 HJ.out).symm;clear HJ hlt hq
   rename World=>w2
   go_wp2_with fail
   go_loopw [6,8] (fun s i wr=>∃(p:Nat) (bb:Nat) (rb:List (Nat×Nat)) (f:Bool) (b:ak),s=.slice (some ⟨bb,0,none⟩) n n/\i=.int .i64 p/\p<=n/\OV w wr sb n k f bb rb b/\Hid (uH k n n 0 false a=uH k n (n-p) p f b)) (fun _ i _=>n-(intOf i).toNat)
   case atStart=>exact⟨0,bb,rb,false,a,rfl,rfl,by omega,hI.flag,rfl⟩
   case round=>
    clear hI;obtain⟨p,bb,rb,f,b,rfl,rfl,hp,hI,XO⟩:=hrel;by_cases hlp:p<n
    ·have s0:=hI.s.kind
     have i0:(0:Int)<=(p:Int):=(by omega);have il:(p:Int)<(n:Int):=(by omega);obtain⟨gk,ck,hgk,hcell⟩:=hI.m.rowE hlp;have hbn:b.length=n:=hI.m.mat.1;have hpb:p<b.length:=by rw[hbn];exact hlp
     obtain⟨hgr,hgm⟩:=hI.m.rowG hgk hpb;have hgl:=hI.m.lt.2 _ hgm;have hNb:=Pd hI.m.mat;have hval:wr.cell? ⟨gk,p,none⟩=some (S (aX b p p)):=by
      have hl:=(hI.m.mat.2 _ (aag hpb)).1;rw[mi hpb (by rw[hl];exact hlp)];exact hgr.cell (by rw[hl];exact hlp)
     have hxl:=(hI.m.at_ hlp hlp).2;obtain⟨X,hX⟩:∃V:ByteArray,(⟨(aX b p p).toArray⟩:ByteArray)=V:=⟨_,rfl⟩;have hXS:S (aX b p p)=.string X:=by unfold S;rw[hX]
     have UB:aX b p p=X.data.toList:=(by rw[<-hX]);have Vm:X.size<=802:=by rw[aae,<-UB];exact hxl
     rw[hXS]at hval;obtain⟨f1,hf1⟩:∃f1,(oQ k f X.data.toList).1=f1:=⟨_,rfl⟩;obtain⟨LP,hLP⟩:∃V:ByteArray,(⟨(oQ k f X.data.toList).2.toArray⟩:ByteArray)=V:=⟨_,rfl⟩;have TJ:(oQ k f X.data.toList).2=LP.data.toList:=by rw[<-hLP]
     have hLs:LP.size<=802:=by
      rw[aae,<-TJ];unfold oQ
      split
      ·exact rR k
      ·exact Ti k _
     have ZZ:Hid (uH k n n 0 false a=uH k n (n-(p+1)) (p+1) (rQ k b LP.data.toList p n n 0 f1).1 (rQ k b LP.data.toList p n n 0 f1).2):=by
      rw[Hid,XO.out,Ta hlp];unfold yM;rw[UB,hf1,TJ]
     have pStar:∀W,dI W sb k f->Calls Tryz.prog 126 #[.pointer (some ⟨sb,0,none⟩),.string X] W (fun e w'=>e=.returned (.string LP)/\dI w' sb k f1/\df sb W w'):=fun W hW=>by
      refine(M0 sb k f X W hW Vm).mono ?_;rintro e w' ⟨h2,h3,h4⟩;rw[hf1]at h3;exact⟨h2.trans (by rw[TJ,eX]),h3,h4⟩
     obtain⟨zk,U5⟩:∃zk:ByteArray,(⟨(aF k).toArray⟩:ByteArray)=zk:=⟨_,rfl⟩;have Ua:aF k=zk.data.toList:=by rw[<-U5]
     have hSz:S (aF k)=.string zk:=by unfold S;rw[U5]
     have p0:∀W,Calls Tryz.prog 34 #[.int .i64 k] W fun e w'=>e=.returned (.string zk)/\w'=W:=fun W=>by
      have:=o9 k W;rw[hSz]at this;exact this.mono fun e w' h=>⟨h.1,h.2.symm⟩
     have HZK:=Pd Ua;have HI:=Pd hI;have YT:=hI.m.lt.1;clear U5 Ua hSz hI XO hX hXS UB Vm hf1 hLP TJ hxl;go_wp2_with fail;refine(pZ _).mono ?_;rintro e w3 ⟨bc,rc,rfl,UX,hbc,hrc,hb3⟩;have Ym:=HI.out.below hb3;have r1:=(hb3.cell (p:=⟨bb,p,none⟩) YT).trans hcell;have r2:=(hb3.cell (p:=⟨gk,p,none⟩) hgl).trans hval;go_wp2_with fail;refine(pStar _ Ym.s).mono ?_;rintro e w4 ⟨rfl,hS4,hU4⟩;have Yn:=Ym.upd hsb hU4 hS4;have aBL:=UX.upd hU4 hsb (aaB HI.out.u.size hbc) (fun r hr=>aaB HI.out.u.size (hrc r hr));have hBl:bb<wr.heap.size/\∀r∈rb,r.1<wr.heap.size:=HI.out.m.lt;have hBs:w.heap.size<=wr.heap.size:=HI.out.u.size;obtain⟨B,hB⟩:∃B,B=wr.heap.size:=⟨_,rfl⟩;rw[<-hB]at hbc hrc hBl hBs;obtain⟨wk,hwk⟩:∃W,W=wr:=⟨_,rfl⟩;subst hwk;clear Ym UX HI hcell hval hgr r1 r2 YT hgl hb3 hU4 hS4 s0 hB pStar;have Xh:w.heap.size<=bc:=aaB hBs hbc;have Xi:∀r∈rc,w.heap.size<=r.1:=fun r hr=>aaB hBs (hrc r hr)
     go_wp2_with fail
     go_loopw [11] (fun i wr=>∃(i':Nat) (cm:ak) (fi:Bool),i=.int .i64 i'/\i'<=n/\OV w wr sb n k fi bb rb b/\cZ wr bc n rc cm/\Hid (O4 k b LP.data.toList p n f1 fi cm i')) (fun i _=>n-(intOf i).toNat)
     case atStart=>exact⟨0,_,f1,rfl,by omega,Yn,aBL,O4.start⟩
     case round=>
      clear Yn aBL;obtain⟨i',cm0,fi,rfl,hi',hI,UX,HJ⟩:=hrel;by_cases UM:i'<n
      ·go_wp2_with fail
       go_loopw [12] (fun j wr=>∃(j':Nat) (cm:ak) (fj:Bool),j=.int .i64 j'/\j'<=n/\OV w wr sb n k fj bb rb b/\cZ wr bc n rc cm/\Hid (cm.take i'=cm0.take i'/\OZ k b LP.data.toList p i' n fi fj (cm.getD i' []) j')) (fun j _=>n-(intOf j).toNat)
       case atStart=>exact⟨0,cm0,fi,rfl,by omega,hI,UX,rfl,OZ.start⟩
       case round=>
        clear hI UX;obtain⟨j',cm,fj,rfl,hj',hI,UX,HK⟩:=hrel;by_cases hlj:j'<n
        ·have i1:(0:Int)<=(i':Int):=by omega
         have i2:(i':Int)<(n:Int):=(by omega);have j1:(0:Int)<=(j':Int):=(by omega);have j2:(j':Int)<(n:Int):=(by omega);have hib:i'<b.length:=by rw[hbn];exact UM
         have hic:i'<cm.length:=by rw[UX.mat.1];exact UM
         obtain⟨gb,cb,hgb,cellb⟩:=hI.m.rowE UM;obtain⟨gc,cc,hgc,cellc⟩:=UX.rowE UM;obtain⟨hrb,hmb⟩:=hI.m.rowG hgb hib;obtain⟨YY,hmc⟩:=UX.rowG hgc hic;obtain⟨gp,cpp,YP,cellp⟩:=hI.m.rowE hlp;obtain⟨hrp,hmp⟩:=hI.m.rowG YP hpb;have hlb:=(hI.m.mat.2 _ (aag hib)).1;have YS:=(hI.m.mat.2 _ (aag hpb)).1;have hlc:=(UX.mat.2 _ (aag hic)).1;have vb:=hrb.cell (j:=j') (by rw[hlb];exact hlj);have vbp:=hrb.cell (j:=p) (by rw[hlb];exact hlp);have vpj:=hrp.cell (j:=j') (by rw[YS];exact hlj);have vc:=YY.cell (j:=j') (by rw[hlc];exact hlj);have fc:=YY.free j';rw[<-mi hib (by rw[hlb];exact hlj)]at vb;rw[<-mi hib (by rw[hlb];exact hlp)]at vbp;rw[<-mi hpb (by rw[YS];exact hlj)]at vpj;obtain⟨oc,hoc⟩:∃x,S cm[i'][j']=x:=⟨_,rfl⟩;rw[hoc]at vc;have hvl:=(hI.m.at_ UM hlj).2;have Y3:=(hI.m.at_ UM hlp).2;have Y4:=(hI.m.at_ hlp hlj).2;have U9:=hrc _ hmc;have hI2:∀v,OV w (wr.setCell ⟨gc,j',none⟩ v) sb n k fj bb rb b:=fun v=>hI.other hsb hBs hBl.1 hBl.2 (p:=⟨gc,j',none⟩) U9 v
         have hM2:=UX.putE hgc UM hlj hvl hic;have hoNe:=UX.out_ne _ hmc;have VP:Hid (∀f' y,ug k b LP.data.toList p i' j' fj=(f',y)->(cm.set i' (cm[i'].set j' y)).take i'=cm0.take i'/\OZ k b LP.data.toList p i' n fi f' ((cm.set i' (cm[i'].set j' y)).getD i' []) (j'+1)):=fun f' y he=>by
          have:=HK.out.2.put hlj hic hlc he;exact⟨this.1.trans HK.out.1,this.2⟩
         have WY:Hid (aX b i' p=aF k\/aX b p j'=aF k->ug k b LP.data.toList p i' j' fj=(fj,aX b i' j')):=GX;have Wu:Hid (aX b i' p≠aF k->aX b p j'≠aF k->ug k b LP.data.toList p i' j' fj=jG k (q9 k (q9 k fj (aX b i' p) LP.data.toList).1 (q9 k fj (aX b i' p) LP.data.toList).2 (aX b p j')).1 (aX b i' j') (q9 k (q9 k fj (aX b i' p) LP.data.toList).1 (q9 k fj (aX b i' p) LP.data.toList).2 (aX b p j')).2):=R9;obtain⟨V,hV⟩:∃V:ByteArray,(⟨(aX b i' j').toArray⟩:ByteArray)=V:=⟨_,rfl⟩;have hVS:S (aX b i' j')=.string V:=by unfold S;rw[hV]
         have Ub:aX b i' j'=V.data.toList:=(by rw[<-hV]);rw[hVS]at vb hM2;have Ym:=hI2 (.string V);obtain⟨P1,hP1⟩:∃V:ByteArray,(⟨(aX b i' p).toArray⟩:ByteArray)=V:=⟨_,rfl⟩;have aBN:S (aX b i' p)=.string P1:=by unfold S;rw[hP1]
         have Yp:aX b i' p=P1.data.toList:=(by rw[<-hP1]);rw[aBN]at vbp;obtain⟨P2,hP2⟩:∃V:ByteArray,(⟨(aX b p j').toArray⟩:ByteArray)=V:=⟨_,rfl⟩;have aBO:S (aX b p j')=.string P2:=by unfold S;rw[hP2]
         have Yq:aX b p j'=P2.data.toList:=(by rw[<-hP2]);rw[aBO]at vpj;rw[Yp,Yq,Ub,HZK.out]at WY Wu;rw[Ub]at hM2 hvl;rw[Yp]at Y3;rw[Yq]at Y4;rw[<-aae]at hvl Y3 Y4;have y1:wr.drew.cell? ⟨gc,j',none⟩=some oc:=vc;have y2:wr.drew.frozen? ⟨gc,j',none⟩=false:=fc;have hne:∀g',B<=gc->g'<B->g'≠gc:=fun g' h1 h2 e=>by omega
         have z0:((wr.setCell ⟨gc,j',none⟩ (.string V)).cell? ⟨bc,i',none⟩)=some (.slice (some ⟨gc,0,none⟩) n cc):=(cellS (p:=⟨bc,i',none⟩) (aa2 wr ⟨gc,j',none⟩ _ bc (acx hoNe))).trans cellc;have z1:((wr.setCell ⟨gc,j',none⟩ (.string V)).cell? ⟨bb,i',none⟩)=some (.slice (some ⟨gb,0,none⟩) n cb):=(cellS (p:=⟨bb,i',none⟩) (aa2 wr ⟨gc,j',none⟩ _ bb (hne bb U9 hBl.1))).trans cellb;have z2:((wr.setCell ⟨gc,j',none⟩ (.string V)).cell? ⟨gb,p,none⟩)=some (.string P1):=(cellS (p:=⟨gb,p,none⟩) (aa2 wr ⟨gc,j',none⟩ _ gb (hne gb U9 (hBl.2 _ hmb)))).trans vbp;have z3:((wr.setCell ⟨gc,j',none⟩ (.string V)).cell? ⟨bb,p,none⟩)=some (.slice (some ⟨gp,0,none⟩) n cpp):=(cellS (p:=⟨bb,p,none⟩) (aa2 wr ⟨gc,j',none⟩ _ bb (hne bb U9 hBl.1))).trans cellp;have z4:((wr.setCell ⟨gc,j',none⟩ (.string V)).cell? ⟨gp,j',none⟩)=some (.string P2):=(cellS (p:=⟨gp,j',none⟩) (aa2 wr ⟨gc,j',none⟩ _ gp (hne gp U9 (hBl.2 _ hmp)))).trans vpj;have z6:((wr.setCell ⟨gc,j',none⟩ (.string V)).cell? ⟨gb,j',none⟩)=some (.string V):=(cellS (p:=⟨gb,j',none⟩) (aa2 wr ⟨gc,j',none⟩ _ gb (hne gb U9 (hBl.2 _ hmb)))).trans vb;have z5:=Ym.s.kind;have hnc:bc≠sb:=by omega
         have hnb:bb≠sb:=by have:=hI.lo.1;omega
         have YU:gb≠sb:=by have:=hI.lo.2 _ hmb;simp only at this;omega
         have YV:gp≠sb:=by have:=hI.lo.2 _ hmp;simp only at this;omega
         have hngc:gc≠sb:=(by omega);clear hI2 hI HK hV hVS Ub hP1 hP2 aBN aBO Yp Yq hoc vc fc hrb hrp YY UX hgb YP hne hlb YS;go_wp2_with fail
         go_still_tail 12,(by kernel_rfl)
         change wpList _ _ _ _ _ wr.drew;go_wp2_with fail;generalize wr.setCell ⟨gc,j',none⟩ (.string V)=w8 at*;have Yn:OV w w8.drew sb n k fj bb rb b:=Ym.below ((aac _ _).drew);have hM4:=hM2.below ((aac _ w8).drew);have a0:w8.drew.cell? ⟨bc,i',none⟩=some (.slice (some ⟨gc,0,none⟩) n cc):=z0;have a1:w8.drew.cell? ⟨bb,i',none⟩=some (.slice (some ⟨gb,0,none⟩) n cb):=z1;have a2:w8.drew.cell? ⟨gb,p,none⟩=some (.string P1):=z2;have a3:w8.drew.cell? ⟨bb,p,none⟩=some (.slice (some ⟨gp,0,none⟩) n cpp):=z3;have a4:w8.drew.cell? ⟨gp,j',none⟩=some (.string P2):=z4;have a6:w8.drew.cell? ⟨gb,j',none⟩=some (.string V):=z6;have a5:w8.drew.cell? ⟨sb,0,none⟩=some (.int .i64 k):=z5;clear y1 y2 cellb cellc cellp vb vbp vpj Ym hM2 z0 z1 z2 z3 z4 z5 z6;generalize w8.drew=w9 at*;by_cases hx:P1.data.toList=zk.data.toList
         ·have t1:=Em hx
          have t1':=str_eq hx;have HX:=Pd (VP.out _ _ (WY.out (aam hx)));clear hx VP WY Wu;go_wp2_with fail
          go_quiet (first|(go_at_call 34;with_reducible exact ab1 (p0 _)))
          go_wp2_with fail;go_roundw
          case rel=>exact⟨j'+1,_,fj,by go_num,by omega,Yn.below (lh (aac _ _) _),hM4.below (lh (aac _ _) _),HX.out⟩
          case measure=>simp[intOf];omega
         by_cases hy:P2.data.toList=zk.data.toList
         ·have t1:=Ny hx
          have t1':=qB hx;have t2:=Em hy;have t2':=str_eq hy;have HX:=Pd (VP.out _ _ (WY.out (aad hy)));clear hx hy VP WY Wu;go_wp2_with fail
          go_quiet (first|(go_at_call 34;with_reducible exact ab1 (p0 _)))
          go_wp2_with fail;go_roundw
          case rel=>exact⟨j'+1,_,fj,by go_num,by omega,Yn.below (lh (aac _ _) _),hM4.below (lh (aac _ _) _),HX.out⟩
          case measure=>simp[intOf];omega
         have t1:=Ny hx;have t1':=qB hx;have t2:=Ny hy;have t2':=qB hy;have hye:=Wu.out hx hy;obtain⟨f2,hf2⟩:∃f2,(q9 k fj P1.data.toList LP.data.toList).1=f2:=⟨_,rfl⟩;obtain⟨T1,hT1⟩:∃V:ByteArray,(⟨(q9 k fj P1.data.toList LP.data.toList).2.toArray⟩:ByteArray)=V:=⟨_,rfl⟩;have Xn:(q9 k fj P1.data.toList LP.data.toList).2=T1.data.toList:=by rw[<-hT1]
         have hT1s:T1.size<=802:=by rw[aae,<-Xn];exact Ra
         have pT1:∀W,dI W sb k fj->Calls Tryz.prog 128 #[.pointer (some ⟨sb,0,none⟩),.string P1,.string LP] W (fun e w'=>e=.returned (.string T1)/\dI w' sb k f2/\df sb W w'):=fun W hW=>by
          refine(RD sb k fj P1 LP W hW Y3 hLs).mono ?_;rintro e w' ⟨h2,h3,h4⟩;rw[hf2]at h3;exact⟨h2.trans (by rw[Xn,eX]),h3,h4⟩
         rw[hf2,Xn]at hye;obtain⟨f3,hf3⟩:∃f3,(q9 k f2 T1.data.toList P2.data.toList).1=f3:=⟨_,rfl⟩;obtain⟨T2,Zr⟩:∃V:ByteArray,(⟨(q9 k f2 T1.data.toList P2.data.toList).2.toArray⟩:ByteArray)=V:=⟨_,rfl⟩;have Xo:(q9 k f2 T1.data.toList P2.data.toList).2=T2.data.toList:=by rw[<-Zr]
         have aBT:T2.size<=802:=by rw[aae,<-Xo];exact Ra
         have pT2:∀W,dI W sb k f2->Calls Tryz.prog 128 #[.pointer (some ⟨sb,0,none⟩),.string T1,.string P2] W (fun e w'=>e=.returned (.string T2)/\dI w' sb k f3/\df sb W w'):=fun W hW=>by
          refine(RD sb k f2 T1 P2 W hW hT1s Y4).mono ?_;rintro e w' ⟨h2,h3,h4⟩;rw[hf3]at h3;exact⟨h2.trans (by rw[Xo,eX]),h3,h4⟩
         rw[hf3,Xo]at hye;obtain⟨f4,YL⟩:∃f4,(jG k f3 V.data.toList T2.data.toList).1=f4:=⟨_,rfl⟩;obtain⟨Y,hY⟩:∃V':ByteArray,(⟨(jG k f3 V.data.toList T2.data.toList).2.toArray⟩:ByteArray)=V':=⟨_,rfl⟩;have hYd:(jG k f3 V.data.toList T2.data.toList).2=Y.data.toList:=by rw[<-hY]
         have hYs:Y.data.toList.length<=802:=by rw[<-hYd];exact Q7 (by rw[<-aae];exact hvl) (by rw[<-aae];exact aBT)
         have pPl:∀W,dI W sb k f3->Calls Tryz.prog 127 #[.pointer (some ⟨sb,0,none⟩),.string V,.string T2] W (fun e w'=>e=.returned (.string Y)/\dI w' sb k f4/\df sb W w'):=fun W hW=>by
          refine(MX sb k f3 V T2 W hW hvl aBT).mono ?_;rintro e w' ⟨h2,h3,h4⟩;rw[YL]at h3;exact⟨h2.trans (by rw[hYd,eX]),h3,h4⟩
         have HX:=Pd (VP.out f4 Y.data.toList (by rw[hye,<-YL,<-hYd]));have ZJ:=Pd hgc;clear hx hy VP WY Wu hye hf2 hT1 Xn hf3 Zr Xo YL hY hYd hgc;go_wp2_with fail
         go_quiet (first|(go_at_call 34;with_reducible exact ab1 (p0 _)))
         have TJ:Pi bc bb gc gb gp i' p j' n cc cb cpp V P1 P2 (w9.drewN nq).drew:=⟨a0,a1,a3,a6,a2,a4⟩;have UR:=(Yn.below (lh (aac _ _) nq)).below ((aac _ (w9.drewN nq)).drew);have VS:=(hM4.below (lh (aac _ _) nq)).below ((aac _ (w9.drewN nq)).drew);clear a0 a1 a2 a3 a4 a5 a6 Yn hM4 t1 t1' t2 t2';go_wp2_with fail;refine zh 34 (Pi bc bb gc gb gp i' p j' n cc cb cpp V P1 P2) (by kernel_rfl) ?_;generalize (w9.drewN nq).drew=w10 at*;have XW:=UR.s;refine takeC 0 ?_
         try simp only[qO]
         refine takeC 1 ?_
         try simp only[qO]
         refine takeC 2 ?_
         try simp only[qO]
         refine takeC 3 ?_
         try simp only[qO]
         refine takeC 4 ?_
         try simp only[qO]
         refine takeC 5 ?_
         try simp only[qO]
         refine takeC 6 ?_
         try simp only[qO]
         refine takeC 7 ?_
         try simp only[qO]
         refine takeC 8 ?_
         try simp only[qO]
         refine takeC 9 ?_
         try simp only[qO]
         refine takeC 10 ?_
         try simp only[qO]
         refine takeC 11 ?_
         try simp only[qO]
         refine takeC 12 ?_
         try simp only[qO]
         refine takeC 13 ?_
         try simp only[qO]
         refine takeC 14 ?_
         try simp only[qO]
         refine takeC 15 ?_
         try simp only[qO]
         refine takeC 16 ?_
         try simp only[qO]
         refine takeC 17 ?_
         try simp only[qO]
         refine takeC 18 ?_
         try simp only[qO]
         refine takeC 19 ?_
         try simp only[qO]
         refine takeC 20 ?_
         try simp only[qO]
         refine takeC 21 ?_
         try simp only[qO]
         refine takeC 22 ?_
         try simp only[qO]
         refine takeC 24 ?_
         try simp only[qO]
         refine takeC 25 ?_
         try simp only[qO]
         refine takeC 26 ?_
         try simp only[qO]
         refine takeC 27 ?_
         try simp only[qO]
         refine takeC 28 ?_
         try simp only[qO]
         refine takeC 29 ?_
         try simp only[qO]
         refine takeC 30 ?_
         try simp only[qO]
         refine dw [23] (by kernel_rfl) (by simp) ?_;refine bL 23 rfl (fun K hK=>?_) bS.nil;rw[aaa (by rfl)]
         go_simp
         refine(pT1 _ XW).mono ?_;rintro e w11 ⟨rfl,Uc,hU⟩;go_wp2_with fail;replace TJ:=Pi.upd TJ hU hnc hnb YU YV;replace UR:=UR.upd hsb hU Uc;replace VS:=VS.upd hU hsb Xh Xi;replace XW:=Uc;refine hK.out _ _ (fun _=>TJ) ?_;clear hK K hU Uc
         try simp only[qO]
         refine dw [31] (by kernel_rfl) (by simp) ?_;refine bL 31 rfl (fun K hK=>?_) bS.nil;rw[aaa (by rfl)]
         go_simp
         refine(pT2 _ XW).mono ?_;rintro e w12 ⟨rfl,Uc,hU⟩;go_wp2_with fail;replace TJ:=Pi.upd TJ hU hnc hnb YU YV;replace UR:=UR.upd hsb hU Uc;replace VS:=VS.upd hU hsb Xh Xi;replace XW:=Uc;refine hK.out _ _ (fun _=>TJ) ?_;clear hK K hU Uc
         try simp only[qO]
         refine dw [32] (by kernel_rfl) (by simp) ?_;refine bL 32 rfl (fun K hK=>?_) bS.nil;rw[aaa (by rfl)]
         go_simp
         refine(pPl _ XW).mono ?_;rintro e w13 ⟨rfl,Uc,hU⟩;go_wp2_with fail;replace TJ:=Pi.upd TJ hU hnc hnb YU YV;replace UR:=UR.upd hsb hU Uc;replace VS:=VS.upd hU hsb Xh Xi;replace XW:=Uc;refine hK.out _ _ (fun _=>TJ) ?_;clear hK K hU Uc
         try simp only[qO]
         refine takeC 33 ?_
         try simp only[qO]
         have Zp:=VS.putE ZJ.out UM hlj hYs (by rw[abh];exact hic);obtain⟨hrr,-⟩:=VS.rowG ZJ.out (by rw[abh];exact hic);have hwc:=hrr.cell (j:=j') (by simp[hlc];omega);have hwf:=hrr.free j';generalize hov:S _=ov at hwc;clear hov;refine dw [34] (by kernel_rfl) (by simp) ?_;refine bL 34 rfl (fun K hK=>?_) bS.nil;rw[aaa (by rfl)]
         go_simp
         refine hK.out _ _ (fun h=>by cases h) ?_;clear hK K;refine l8 (by kernel_rfl) ?_ _;have hI9:=UR.other hsb hBs hBl.1 hBl.2 (p:=⟨gc,j',none⟩) U9 (.string Y);rw[eX]at Zp;simp only[List.set_set,acJ]at Zp
         try dsimp only
         go_wp2_with fail;go_roundw
         case rel=>exact⟨j'+1,_,f4,by go_num,by omega,hI9,Zp,HX.out⟩
         case measure=>simp[intOf];omega
        ·obtain rfl:n=j':=by omega
         have HX:Hid (O4 k b LP.data.toList p n f1 fj cm (i'+1)):=by
          have hic:i'<cm.length:=by rw[UX.mat.1];exact UM
          have hr:=HK.out.2;have h0:cm.getD i' []=cm[i']:=by rw[aaf,aak hic];rfl
          rw[h0]at hr;exact HJ.out.step UM UX.mat.1 HK.out.1 (hr.last (UX.mat.2 _ (aag hic)).1)
         go_wp2_with fail;go_roundw
         case rel=>exact⟨i'+1,cm,fj,by go_num,by omega,hI,UX,HX.out⟩
         case measure=>simp[intOf];omega
      ·obtain rfl:n=i':=by omega
       have HX:Hid (uH k n n 0 false a=uH k n (n-(p+1)) (p+1) fi cm0):=(by rw[Hid,ZZ.out,HJ.out.last UX.mat.1]);have hI9:OV w wr sb n k fi bc rc cm0:=⟨hI.u,hI.s,UX,Xh,Xi⟩;go_wp2_with fail;go_roundw
       case rel=>exact⟨p+1,bc,rc,fi,cm0,rfl,by go_num,by omega,hI9,HX.out⟩
       case measure=>simp[intOf];omega
    ·obtain rfl:n=p:=by omega
     have HR1:Hid (R=jq k n 0 f b):=by
      have:=XO.out;rw[abx]at this;rw[Hid,HRR.out,this]
      rfl
     clear XO HRR;obtain⟨O,hO⟩:∃V:ByteArray,(⟨(fQ k).toArray⟩:ByteArray)=V:=⟨_,rfl⟩;have hOS:S (fQ k)=.string O:=by unfold S;rw[hO]
     have hOd:fQ k=O.data.toList:=(by rw[<-hO]);have hOs:O.size<=802:=by rw[aae,<-hOd];exact Mq k
     have pO:∀W,Calls Tryz.prog 129 #[.int .i64 k] W fun e w'=>e=.returned (.string O)/\W=w':=fun W=>by
      have:=DU k W;rw[hOS]at this;exact this
     have HOd:=Pd hOd;clear hO hOS hOd;go_wp2_with fail
     go_loopw [13] (fun i wr=>∃(i':Nat) (m:ak) (fd:Bool),i=.int .i64 i'/\i'<=n/\OV w wr sb n k fd bb rb m/\Hid (R=jq k (n-i') i' fd m)) (fun i _=>n-(intOf i).toNat)
     case atStart=>exact⟨0,b,f,rfl,by omega,hI,HR1.out⟩
     case round=>
      clear hI HR1;obtain⟨i',m,fd,rfl,hi',hI,HJ⟩:=hrel;by_cases UM:i'<n
      ·have him:i'<m.length:=by rw[hI.m.mat.1];exact UM
       obtain⟨gb,cb,hgb,cellb⟩:=hI.m.rowE UM;obtain⟨hrb,hmb⟩:=hI.m.rowG hgb him;have hlm:=(hI.m.mat.2 _ (aag him)).1;have vb:=hrb.cell (j:=i') (by rw[hlm];exact UM);rw[<-mi him (by rw[hlm];exact UM)]at vb;have hvl:=(hI.m.at_ UM UM).2;obtain⟨X,hX⟩:∃V:ByteArray,(⟨(aX m i' i').toArray⟩:ByteArray)=V:=⟨_,rfl⟩;have hXS:S (aX m i' i')=.string X:=by unfold S;rw[hX]
       have UB:aX m i' i'=X.data.toList:=(by rw[<-hX]);rw[hXS]at vb;have Vm:X.size<=802:=by rw[aae,<-UB];exact hvl
       obtain⟨f4,YL⟩:∃f4,(jG k fd O.data.toList X.data.toList).1=f4:=⟨_,rfl⟩;obtain⟨Y,hY⟩:∃V':ByteArray,(⟨(jG k fd O.data.toList X.data.toList).2.toArray⟩:ByteArray)=V':=⟨_,rfl⟩;have hYd:(jG k fd O.data.toList X.data.toList).2=Y.data.toList:=by rw[<-hY]
       have hYs:Y.data.toList.length<=802:=by rw[<-hYd];exact Q7 (by rw[<-aae];exact hOs) (by rw[<-aae];exact Vm)
       have pPl:∀W,dI W sb k fd->Calls Tryz.prog 127 #[.pointer (some ⟨sb,0,none⟩),.string O,.string X] W (fun e w'=>e=.returned (.string Y)/\dI w' sb k f4/\df sb W w'):=fun W hW=>by
        refine(MX sb k fd O X W hW hOs Vm).mono ?_;rintro e w' ⟨h2,h3,h4⟩;rw[YL]at h3;exact⟨h2.trans (by rw[hYd,eX]),h3,h4⟩
       have HST:Hid (R=jq k (n-(i'+1)) (i'+1) f4 (setAt m i' i' Y.data.toList)):=(by rw[Hid,HJ.out,R7 UM,HOd.out,UB,YL,hYd]);have aCl:gb≠sb:=by have:=hI.lo.2 _ hmb;simp only at this;omega
       have hbsb:bb≠sb:=by have:=hI.lo.1;omega
       have TJ:P6 bb gb i' n cb sb k X wr.drew:=⟨cellb,vb,hI.s.kind⟩;have UR:=hI.below ((aac _ wr).drew);have i1:(0:Int)<=(i':Int):=by omega
       have i2:(i':Int)<(n:Int):=(by omega);have ZJ:=Pd hgb;clear hX hXS UB hI HJ hrb cellb vb YL hY hYd hvl hgb;go_wp2_with fail;refine zh 20 (P6 bb gb i' n cb sb k X) (by kernel_rfl) ?_;generalize wr.drew=w10 at*;have XW:=UR.s;refine takeC 0 ?_
       try simp only[qO]
       refine takeC 1 ?_
       try simp only[qO]
       refine takeC 2 ?_
       try simp only[qO]
       refine takeC 3 ?_
       try simp only[qO]
       refine takeC 4 ?_
       try simp only[qO]
       refine takeC 5 ?_
       try simp only[qO]
       refine takeC 6 ?_
       try simp only[qO]
       refine takeC 7 ?_
       try simp only[qO]
       refine takeC 8 ?_
       try simp only[qO]
       refine takeC 9 ?_
       try simp only[qO]
       refine takeC 11 ?_
       try simp only[qO]
       refine takeC 12 ?_
       try simp only[qO]
       refine takeC 13 ?_
       try simp only[qO]
       refine takeC 14 ?_
       try simp only[qO]
       refine takeC 15 ?_
       try simp only[qO]
       refine takeC 16 ?_
       try simp only[qO]
       refine takeC 17 ?_
       try simp only[qO]
       refine dw [10] (by kernel_rfl) (by simp) ?_;refine bL 10 rfl (fun K hK=>?_) bS.nil;rw[aaa (by rfl)]
       go_simp
       refine(pO _).mono ?_;rintro e w11 ⟨rfl,rfl⟩;go_wp2_with fail;refine hK.out _ _ (fun _=>TJ) ?_;clear hK K
       try simp only[qO]
       refine dw [18] (by kernel_rfl) (by simp) ?_;refine bL 18 rfl (fun K hK=>?_) bS.nil;rw[aaa (by rfl)]
       go_simp
       refine(pPl _ XW).mono ?_;rintro e w12 ⟨rfl,Uc,hU⟩;go_wp2_with fail;replace TJ:P6 bb gb i' n cb sb k X w12:=⟨(cellS (p:=⟨bb,i',none⟩) (hU.same bb (ax TJ.1) hbsb)).trans TJ.1,(cellS (p:=⟨gb,i',none⟩) (hU.same gb (ax TJ.2.1) aCl)).trans TJ.2.1,Uc.kind⟩;replace UR:=UR.upd hsb hU Uc;refine hK.out _ _ (fun _=>TJ) ?_;clear hK K hU Uc
       try simp only[qO]
       refine takeC 19 ?_
       try simp only[qO]
       have Zp:=UR.m.putE ZJ.out UM UM hYs him;obtain⟨hrr,-⟩:=UR.m.rowG ZJ.out him;have hwc:=hrr.cell (j:=i') (by rw[hlm];exact UM);have hwf:=hrr.free i';generalize hov:S _=ov at hwc;clear hov;refine dw [20] (by kernel_rfl) (by simp) ?_;refine bL 20 rfl (fun K hK=>?_) bS.nil;rw[aaa (by rfl)]
       go_simp
       refine hK.out _ _ (fun h=>by cases h) ?_;clear hK K;refine l8 (by kernel_rfl) ?_ _;rw[eX]at Zp;have hI9:OV w (w12.setCell ⟨gb,i',none⟩ (.string Y)) sb n k f4 bb rb (setAt m i' i' Y.data.toList):=by
        refine⟨UR.u.newset (p:=⟨gb,i',none⟩) (UR.lo.2 _ hmb) _,(aa2 w12 ⟨gb,i',none⟩ _ sb (fun e=>aCl e.symm)).trans UR.s,?_,UR.lo⟩;unfold setAt;rw[aaf,aak him,abL];exact Zp
       try dsimp only
       go_wp2_with fail;go_roundw
       case rel=>exact⟨i'+1,_,f4,by go_num,by omega,hI9,HST.out⟩
       case measure=>simp[intOf];omega
      ·obtain rfl:n=i':=by omega
       have HX:Hid (R=(fd,m)):=by
        have:=HJ.out;rw[abx]at this;exact this
       go_wp2_with fail;go_returns;rw[HX.out];exact⟨bb,rb,rfl,hI⟩
end Go.Proofs.YtppnecgeboonbaaGreatDoor
