/- Walks of layer 22: steps, the iterator over the arcs from a place. -/
import Derived.Test.YtppnecgeboonbaaGreatDoorZ31
import Derived.Sort.QuietIn
import Derived.Shelf.Abstract
import Derived.Shelf.RegionOpen
import Derived.OwnWalkIn
import Derived.TacticsInMore
import Derived.LoopNIn
import Derived.LoopIn
import Derived.Lib.LazyBuf
namespace Go.Proofs.YtppnecgeboonbaaGreatDoor
set_option maxRecDepth 100000
set_option linter.unusedVariables false
set_option maxHeartbeats 8000000
open Go.RowKit Go.Maps Go.Shelf
attribute [local go_sem] Oper.semAt_some
structure uR (t fs:List Bs) (arcs:List aO) (bs os n c:Nat) (A':Option Addr) (c' fb:Nat) (Af:Option Addr) (cf X bx bp q:Nat) (M:ByteArray) (W:World):Prop where
 tab:fD W
 bx:W.cell? ⟨bx,0,none⟩=some (.pointer (some ⟨X,0,none⟩))
 p0:W.cell? ⟨bp,0,none⟩=some (.int .i64 (q:Int))
 p1:W.cell? ⟨bp,1,none⟩=some (.string M)
 x3:W.cell? ⟨X,3,none⟩=some (.slice (some ⟨bs,os,none⟩) n c)
 x4:W.cell? ⟨X,4,none⟩=some (.map (some fb))
 x5:W.cell? ⟨X,5,none⟩=some (.slice Af fs.length cf)
 sa:W.cell? ⟨bs,os+q * 2+1,none⟩=some (.slice A' arcs.length c')
 ar:oG W A' arcs
 fl:ji W fb (dW t 0 [])
 ft:ay W Af (fs.map S)
theorem uR.below {t fs:List Bs} {arcs:List aO} {bs os n c:Nat} {A':Option Addr} {c' fb:Nat} {Af:Option Addr} {cf X bx bp q:Nat} {M:ByteArray} {W W':World} (h:uR t fs arcs bs os n c A' c' fb Af cf X bx bp q M W) (hb:Below W.heap.size W W'):uR t fs arcs bs os n c A' c' fb Af cf X bx bp q M W' where
 tab:=h.tab.below hb
 bx:=(hb.cell (p:=⟨bx,0,none⟩) (ax h.bx)).trans h.bx
 p0:=(hb.cell (p:=⟨bp,0,none⟩) (ax h.p0)).trans h.p0
 p1:=(hb.cell (p:=⟨bp,1,none⟩) (ax h.p1)).trans h.p1
 x3:=(hb.cell (p:=⟨X,3,none⟩) (ax h.x3)).trans h.x3
 x4:=(hb.cell (p:=⟨X,4,none⟩) (ax h.x4)).trans h.x4
 x5:=(hb.cell (p:=⟨X,5,none⟩) (ax h.x5)).trans h.x5
 sa:=(hb.cell (p:=⟨bs,_,none⟩) (ax h.sa)).trans h.sa
 ar:=h.ar.below hb
 fl:=h.fl.below hb
 ft:=h.ft.below hb
theorem eZ {s:Int}:gm s=true ↔ 0<=s/\s<=500:=by unfold gm;rw [Bool.and_eq_true,decide_eq_true_eq,decide_eq_true_eq]
theorem Nv (X:Nat) (q:Int) (Z:ByteArray) (w:World):Calls Tryz.prog 45 #[.pointer (some ⟨X,0,none⟩),.agg #[.int .i64 q,.string Z]] w fun e w'=>e=.returned (.func (.func 79) #[] #[.pointer (some ⟨w.heap.size,0,none⟩),.pointer (some ⟨w.heap.size+1,0,none⟩)])/\w'=(w.alloc (.cells #[.pointer (some ⟨X,0,none⟩)] 64)).alloc (.cells #[.int .i64 q,.string Z] 82):=by
 have hmf:∀ (fn:Fn) (first cap:Array Value) (w:World),(Instr.makeFunc fn first cap).run Tryz.prog w=.ok (.func fn first cap) w:=fun _ _ _ _=>rfl
 go_enter Tryz.func45,Tryz.ntmps45;go_wp2_with fail;go_returns;exact⟨rfl,rfl⟩
theorem Cq (w:World) (x y:Int) (W:ByteArray) (tg:Int) (oo:UInt8) (F V:ByteArray):Below w.heap.size w (vS w x y W tg oo F V):=(((Below.refl _ _).alloc (Nat.le_refl _) _).alloc (by simp) _).alloc (by simp;omega) _
abbrev wP (x:aO × Bs):Array Value:=#[qR x.1,iy (x.1.to,x.2)]
theorem Nw (t fs:List Bs) (arcs:List aO) (bs os n c:Nat) (A':Option Addr) (c' fb:Nat) (Af:Option Addr) (cf X bx bp q:Nat) (M:ByteArray) (hq:q<n) (ht:t.length<=500) (hfn:fs.Nodup) (hfo:∀ f∈fs,bz f) (hfl:fs.length<=30000)
  (hg:OY fs M.data.toList) (WC:∀ a∈arcs,gm a.inn=true/\gm a.out=true) (hfe:∀ a∈arcs,∀ f,eO t a=some f->f.feat∈fs) (hlen:arcs.length<=30000) :
  zw Tryz.prog 79 #[.pointer (some ⟨bx,0,none⟩),.pointer (some ⟨bp,0,none⟩)] wP (fU t fs M.data.toList arcs) (uR t fs arcs bs os n c A' c' fb Af cf X bx bp q M):=by
 intro l J hJc hJb hY W h0;have Zz:=hJc _ _ h0;have k0:=Zz.bx;have k1:=Zz.p0;have k3:=Zz.x3;have k4:=Zz.sa;have i0:(0:Int)<=(q:Int):=by omega
 have il:(q:Int)<(n:Int):=by omega
 have HJC:=Lib.hid hJc;have HJB:=Lib.hid hJb;have HY:=Lib.hid hY;have Yb:=Lib.hid WC;have HFE:=Lib.hid hfe;have HFO:=Lib.hid hfo;have HG:=Lib.hid hg;clear hJc hJb hY WC hfe hfo hg;refine callsIn_of_wp Tryz.func79 rfl trivial ?_ rfl;simp only [Tryz.ntmps79,List.size_toArray,List.length_cons,List.length_nil,Nat.reduceAdd,Nat.reduceSub,Array.replicate_succ,Array.replicate_zero,List.push_toArray,List.append_toArray,List.nil_append,List.cons_append]
 gi_wp2
 gi_quiet (fail)
 have hJ0:=HJB.out _ _ _ h0 (FH (Below.refl _ W) nq);generalize W.drewN nq=W0 at *;clear Zz k0 k1 k3 k4 i0 il h0
 gi_wp2
 gi_loopw [21] (fun v wr=>∃ (j:Nat),v=.int .i64 j/\j<=arcs.length/\J (fU t fs M.data.toList (arcs.take j)) wr)
  (fun v _=>arcs.length-(intOf v).toNat)
 case atStart=>exact⟨0,rfl,by omega,by simpa [fU] using hJ0⟩
 case round =>
  clear hJ0;obtain⟨j,rfl,hj,hJ⟩:=hrel;by_cases hlt:j<arcs.length
  ·have HC:=HJC.out _ _ hJ
   obtain⟨b,o,rfl,hbl,a0,a1,a2,a3⟩:=HC.ar j hlt;have HT1:=Lib.hid (Nu t fs M.data.toList arcs j hlt);have Uf:=Lib.hid (Nt t fs M.data.toList arcs j hlt);have hmem:=List.getElem_mem hlt;have hsy:=Yb.out _ hmem;have hfe:=HFE.out _ hmem;generalize arcs[j]=ar at *;obtain⟨x,y,wt,tg⟩:=ar;obtain⟨Wt,Ue⟩:∃ Z:ByteArray,(⟨wt.toArray⟩:ByteArray)=Z:=⟨_,rfl⟩;have hWd:wt=Wt.data.toList:=by rw [<-Ue]
   subst hWd;unfold S at a2;rw [Ue] at a2;simp only at a0 a1 a2 a3 hsy hfe;clear Ue;have i0:(0:Int)<=(j:Int):=by omega
   have il:(j:Int)<(arcs.length:Int):=by omega
   have p1:=HC.p1;have p1':=((Below.refl _ wr).alloc (Nat.le_refl _) (.cells #[.int .i64 x,.int .i64 y,.string Wt,.int .i64 tg] 77)).cell (p:=⟨bp,1,none⟩) (ax p1) |>.trans p1
   have HHC:=Lib.hid HC;clear HC
   gi_wp2
   have b2:Below wr.heap.size wr ((wr.alloc (.cells #[.int .i64 x,.int .i64 y,.string Wt,.int .i64 tg] 77)).alloc (.cells #[.int .i64 tg,.string M] 82)):=((Below.refl _ _).alloc (Nat.le_refl _) _).alloc (by simp) _;have bq:=(Below.refl (wr.alloc (.cells #[.int .i64 x,.int .i64 y,.string Wt,.int .i64 tg] 77)).heap.size (wr.alloc (.cells #[.int .i64 x,.int .i64 y,.string Wt,.int .i64 tg] 77))).alloc (Nat.le_refl _) (.cells #[.int .i64 tg,.string M] 82);have hsa:(wr.alloc (.cells #[.int .i64 x,.int .i64 y,.string Wt,.int .i64 tg] 77)).heap.size=wr.heap.size+1:=by simp
   have c0:=(bq.cell (p:=⟨wr.heap.size,0,none⟩) (by simp)).trans (az wr #[.int .i64 x,.int .i64 y,.string Wt,.int .i64 tg] 77 0 (.int .i64 x) rfl);have c1:=(bq.cell (p:=⟨wr.heap.size,1,none⟩) (by simp)).trans (az wr #[.int .i64 x,.int .i64 y,.string Wt,.int .i64 tg] 77 1 (.int .i64 y) rfl);have c2:=(bq.cell (p:=⟨wr.heap.size,2,none⟩) (by simp)).trans (az wr #[.int .i64 x,.int .i64 y,.string Wt,.int .i64 tg] 77 2 (.string Wt) rfl);have c3:=(bq.cell (p:=⟨wr.heap.size,3,none⟩) (by simp)).trans (az wr #[.int .i64 x,.int .i64 y,.string Wt,.int .i64 tg] 77 3 (.int .i64 tg) rfl);have d0:=az (wr.alloc (.cells #[.int .i64 x,.int .i64 y,.string Wt,.int .i64 tg] 77)) #[.int .i64 tg,.string M] 82 0 (.int .i64 tg) rfl;have d1:=az (wr.alloc (.cells #[.int .i64 x,.int .i64 y,.string Wt,.int .i64 tg] 77)) #[.int .i64 tg,.string M] 82 1 (.string M) rfl;have f1:=nO (wr.alloc (.cells #[.int .i64 x,.int .i64 y,.string Wt,.int .i64 tg] 77)) #[.int .i64 tg,.string M] 82 1;rw [hsa] at d0 d1 f1;have hs2:((wr.alloc (.cells #[.int .i64 x,.int .i64 y,.string Wt,.int .i64 tg] 77)).alloc (.cells #[.int .i64 tg,.string M] 82)).heap.size=wr.heap.size+2:=by simp
   clear bq hsa p1';generalize (wr.alloc (.cells #[.int .i64 x,.int .i64 y,.string Wt,.int .i64 tg] 77)).alloc (.cells #[.int .i64 tg,.string M] 82)=w2 at *;have UQ:=HHC.out.below b2;have mk:∀ W',Below w2.heap.size w2 W'->(W'.cell? ⟨bx,0,none⟩=some (.pointer (some ⟨X,0,none⟩))/\W'.cell? ⟨X,4,none⟩=some (.map (some fb))/\W'.cell? ⟨wr.heap.size,0,none⟩=some (.int .i64 x)/\W'.cell? ⟨wr.heap.size,1,none⟩=some (.int .i64 y)/\W'.cell? ⟨wr.heap.size,2,none⟩=some (.string Wt)/\W'.cell? ⟨wr.heap.size,3,none⟩=some (.int .i64 tg)/\Below w2.heap.size w2 W'):=fun W' hb =>
    ⟨(hb.cell (p:=⟨bx,0,none⟩) (ax UQ.bx)).trans UQ.bx,(hb.cell (p:=⟨X,4,none⟩) (ax UQ.x4)).trans UQ.x4,(hb.cell (p:=⟨wr.heap.size,0,none⟩) (ax c0)).trans c0,(hb.cell (p:=⟨wr.heap.size,1,none⟩) (ax c1)).trans c1,(hb.cell (p:=⟨wr.heap.size,2,none⟩) (ax c2)).trans c2,(hb.cell (p:=⟨wr.heap.size,3,none⟩) (ax c3)).trans c3,hb⟩
   obtain⟨r,hr⟩:∃ r,r=eO t ⟨x,y,Wt.data.toList,tg⟩:=⟨_,rfl⟩;obtain⟨F,V,hfc,TN,Ub⟩:=lI (r.getD dX);obtain⟨oo,Ve⟩:∃ oo,(r.getD dX).op=oo:=⟨_,rfl⟩;obtain⟨is,his⟩:∃ q,r.isSome=q:=⟨_,rfl⟩;have hsx:=eZ.1 hsy.1;have hsy2:=eZ.1 hsy.2;have pO:∀ W',(W'.cell? ⟨bx,0,none⟩=some (.pointer (some ⟨X,0,none⟩))/\W'.cell? ⟨X,4,none⟩=some (.map (some fb))/\W'.cell? ⟨wr.heap.size,0,none⟩=some (.int .i64 x)/\W'.cell? ⟨wr.heap.size,1,none⟩=some (.int .i64 y)/\W'.cell? ⟨wr.heap.size,2,none⟩=some (.string Wt)/\W'.cell? ⟨wr.heap.size,3,none⟩=some (.int .i64 tg)/\Below w2.heap.size w2 W')->Calls Tryz.prog 42 #[.map (some fb),.agg #[.int .i64 x,.int .i64 y,.string Wt,.int .i64 tg]] W' fun e w'=>e=.returned (.tuple #[.agg #[.int .u8 oo.toNat,.string F,.string V],.bool is])/\w'=vS W' x y Wt tg oo F V:=fun W' hS=>by
    have:=Cr fb t W' (UQ.fl.below hS.2.2.2.2.2.2) ht x y Wt tg hsx.1 hsx.2 hsy2.1 hsy2.2;rw [<-hr,hfc,Ve,his,TN,Ub,Array.toArray_toList,Array.toArray_toList] at this;exact this
   have kD:∀ W',(W'.cell? ⟨bx,0,none⟩=some (.pointer (some ⟨X,0,none⟩))/\W'.cell? ⟨X,4,none⟩=some (.map (some fb))/\W'.cell? ⟨wr.heap.size,0,none⟩=some (.int .i64 x)/\W'.cell? ⟨wr.heap.size,1,none⟩=some (.int .i64 y)/\W'.cell? ⟨wr.heap.size,2,none⟩=some (.string Wt)/\W'.cell? ⟨wr.heap.size,3,none⟩=some (.int .i64 tg)/\Below w2.heap.size w2 W')->_:=fun W' h=>mk _ h.2.2.2.2.2.2.drew
   have kA:=fun W' (o:Obj) (h:(W'.cell? ⟨bx,0,none⟩=some (.pointer (some ⟨X,0,none⟩))/\W'.cell? ⟨X,4,none⟩=some (.map (some fb))/\W'.cell? ⟨wr.heap.size,0,none⟩=some (.int .i64 x)/\W'.cell? ⟨wr.heap.size,1,none⟩=some (.int .i64 y)/\W'.cell? ⟨wr.heap.size,2,none⟩=some (.string Wt)/\W'.cell? ⟨wr.heap.size,3,none⟩=some (.int .i64 tg)/\Below w2.heap.size w2 W'))=>mk _ (h.2.2.2.2.2.2.alloc h.2.2.2.2.2.2.size o)
   have kC:=fun W' (a:Addr) u (ha:w2.heap.size<=a.block) (h:(W'.cell? ⟨bx,0,none⟩=some (.pointer (some ⟨X,0,none⟩))/\W'.cell? ⟨X,4,none⟩=some (.map (some fb))/\W'.cell? ⟨wr.heap.size,0,none⟩=some (.int .i64 x)/\W'.cell? ⟨wr.heap.size,1,none⟩=some (.int .i64 y)/\W'.cell? ⟨wr.heap.size,2,none⟩=some (.string Wt)/\W'.cell? ⟨wr.heap.size,3,none⟩=some (.int .i64 tg)/\Below w2.heap.size w2 W'))=>mk _ (h.2.2.2.2.2.2.setCell ha u)
   have kO:=fun W' (h:(W'.cell? ⟨bx,0,none⟩=some (.pointer (some ⟨X,0,none⟩))/\W'.cell? ⟨X,4,none⟩=some (.map (some fb))/\W'.cell? ⟨wr.heap.size,0,none⟩=some (.int .i64 x)/\W'.cell? ⟨wr.heap.size,1,none⟩=some (.int .i64 y)/\W'.cell? ⟨wr.heap.size,2,none⟩=some (.string Wt)/\W'.cell? ⟨wr.heap.size,3,none⟩=some (.int .i64 tg)/\Below w2.heap.size w2 W'))=>mk _ (h.2.2.2.2.2.2.trans ((Cq W' x y Wt tg oo F V).mono h.2.2.2.2.2.2.size))
   have z0:=mk _ (Below.refl w2.heap.size w2);have HS2:=Lib.hid hs2;have XL:=Lib.hid Ve;clear hfc Ve hs2 a0 a1 a2 a3;refine wpIn_wide.2 ?_;go_cut [7,8] (fun p v wx=>∃ z,p=.pointer (some ⟨z,0,none⟩)/\v=.bool is/\wx.cell? ⟨z,0,none⟩=some (.int .u8 oo.toNat)/\wx.cell? ⟨z,1,none⟩=some (.string F)/\wx.cell? ⟨z,2,none⟩=some (.string V)/\Below w2.heap.size w2 wx)
   case first =>
    go_region_held3 (fun W'=>(W'.cell? ⟨bx,0,none⟩=some (.pointer (some ⟨X,0,none⟩))/\W'.cell? ⟨X,4,none⟩=some (.map (some fb))/\W'.cell? ⟨wr.heap.size,0,none⟩=some (.int .i64 x)/\W'.cell? ⟨wr.heap.size,1,none⟩=some (.int .i64 y)/\W'.cell? ⟨wr.heap.size,2,none⟩=some (.string Wt)/\W'.cell? ⟨wr.heap.size,3,none⟩=some (.int .i64 tg)/\Below w2.heap.size w2 W'))
     (repeat' (first|assumption|exact z0|refine kD _ ?_|refine kA _ _ ?_|refine kC _ _ _ (by simp) ?_|(refine kO _ ?_)))
     (first|(go_at_call 42;refine (pO _ (by assumption)).mono ?_;rintro e w3 ⟨rfl,rfl⟩))
    all_goals
     go_wp2_with fail
     go_meet
     refine⟨_,rfl,rfl,by simp [go_sem],by simp [go_sem],by simp [go_sem],?_⟩
     first|assumption|(repeat' (first|exact Below.refl _ _|refine Below.drew ?_|refine Below.alloc ?_ (by simp <;> omega) _))
   case rest =>
    obtain⟨z,rfl,rfl,g0,g1,g2,b4⟩:=hcut;clear mk pO kD kA kC kO z0;have b24:Below wr.heap.size wr wc:=ae b2 b4;have hJ4:=HJB.out _ _ _ hJ b24;have w0:=(b4.cell (p:=⟨wr.heap.size,0,none⟩) (ax c0)).trans c0;have w1:=(b4.cell (p:=⟨wr.heap.size,1,none⟩) (ax c1)).trans c1;have w2':=(b4.cell (p:=⟨wr.heap.size,2,none⟩) (ax c2)).trans c2;have w3:=(b4.cell (p:=⟨wr.heap.size,3,none⟩) (ax c3)).trans c3;have v0:=(b4.cell (p:=⟨wr.heap.size+1,0,none⟩) (ax d0)).trans d0;have v1:=(b4.cell (p:=⟨wr.heap.size+1,1,none⟩) (ax d1)).trans d1;have VZ:=UQ.below b4;have f4:=(b4.frozen (p:=⟨wr.heap.size+1,1,none⟩) (ax d1)).trans f1;clear c0 c1 c2 c3 d0 d1 f1 b2 b4 UQ
    cases is with
    | false =>
     have hN:jy t fs M.data.toList ⟨x,y,Wt.data.toList,tg⟩=some M.data.toList:=by
      unfold jy;rw [<-hr]
      cases r with
      | none=>rfl
      | some f=>cases his
     have HX:Hid (fU t fs M.data.toList (arcs.take (j+1))=fU t fs M.data.toList (arcs.take j)++[(⟨x,y,Wt.data.toList,tg⟩,M.data.toList)]):=by
      have:=HT1.out;rw [hN] at this;exact this
     obtain⟨fn,tmps,assign,body,hy,hR⟩:=HY.out _ _ _ wc (Uf.out M.data.toList hN) hJ4;simp only [wP,qR,iy,eX] at hy;clear hN HT1 Uf hr his hfe hsy hsx hsy2 g0 g1 g2 f4 VZ
     gi_wp2
     refine hR.mono ?_;rintro e W3 ⟨rfl,hJ3⟩
     gi_wp2
     go_roundw
     case rel=>exact⟨j+1,by go_num,by omega,by rw [HX.out];exact hJ3⟩
     case measure=>simp [intOf] <;> omega
    | true =>
     obtain⟨f,rfl⟩:=Option.isSome_iff_exists.1 his;simp only [Option.getD_some] at TN Ub XL;obtain⟨op,fe,va⟩:=f;simp only at TN Ub XL;subst TN Ub;obtain rfl:=XL.out;have hval:=vT hr.symm;have hkn:eD op=true:=by
      unfold aN at hval;rw [Bool.and_eq_true] at hval;exact (qd hval.1).1
     have hfo:bz F.data.toList:=(vI hval).1;have hin:=hfe _ hr.symm;have hNx:jy t fs M.data.toList ⟨x,y,Wt.data.toList,tg⟩=(fT (jg fs M.data.toList) (aD op F V)).map (dE fs):=by
      unfold jy;rw [<-hr]
     have hgl:=xR HG.out;have pR:=Lb X Af cf fs M wc VZ.tab (ax VZ.x5) VZ.x5 VZ.ft (by omega) HFO.out (by rw [Lib.size_eq];omega) hgl.2;have kbx:=VZ.bx;have kp1:=VZ.p1;have ZA:=Lib.hid VZ;have pSt:∀ W5 b5,jC W5 b5 (jg fs M.data.toList)->(∀ p∈jg fs M.data.toList,bz p.1)->Calls Tryz.prog 50 #[.map (some b5),.agg #[.int .u8 op.toNat,.string F,.string V]] W5 (qM op F V (jg fs M.data.toList) b5 W5):=fun W5 b5 hM hk=>Eh op hkn F V hfo _ hk b5 W5 hM
     obtain⟨z',hz'⟩:∃ z',z'=wr.heap.size+1:=⟨_,rfl⟩;clear hsx hsy2 hsy VZ hkn hgl his
     cases hst:fT (jg fs M.data.toList) (aD op F V) with
     | none =>
      have HX:Hid (fU t fs M.data.toList (arcs.take (j+1))=fU t fs M.data.toList (arcs.take j)):=by
       have:=HT1.out;rw [hNx,hst] at this;exact this
      gi_wp2_with (first
       | (refine⟨trivial,?_⟩;gi_at_call 80;refine (callsIn_wide.2 pR).mono ?_;rintro e W5 ⟨b5,rfl,VS,hk5,hb5,b45⟩;have e0:=(b45.cell (p:=⟨z,0,none⟩) (ax g0)).trans g0;have e1:=(b45.cell (p:=⟨z,1,none⟩) (ax g1)).trans g1;have e2:=(b45.cell (p:=⟨z,2,none⟩) (ax g2)).trans g2;have pS:=pSt W5 b5 VS hk5;unfold qM at pS;rw [hst] at pS;simp only [Option.isSome_none] at pS))
      refine⟨trivial,(callsIn_wide.2 pS).mono ?_⟩;rintro e W6 ⟨rfl,hU,-⟩
      gi_wp2
      go_roundw
      case rel=>exact⟨j+1,by go_num,by omega,by rw [HX.out];exact HJB.out _ _ _ hJ4 (b45.trans (hU.low _ hb5 b45.size))⟩
      case measure=>simp [intOf] <;> omega
     | some L' =>
      have hN:jy t fs M.data.toList ⟨x,y,Wt.data.toList,tg⟩=some (dE fs L'):=by rw [hNx,hst];rfl
      have HX:Hid (fU t fs M.data.toList (arcs.take (j+1))=fU t fs M.data.toList (arcs.take j)++[(⟨x,y,Wt.data.toList,tg⟩,dE fs L')]):=by
       have:=HT1.out;rw [hN] at this;exact this
      have hgn:=Bd hfn HG.out hr.symm hin hst
      gi_wp2_with (first
       | (refine⟨trivial,?_⟩;gi_at_call 80;refine (callsIn_wide.2 pR).mono ?_;rintro e W5 ⟨b5,rfl,VS,hk5,hb5,b45⟩;have e0:=(b45.cell (p:=⟨z,0,none⟩) (ax g0)).trans g0;have e1:=(b45.cell (p:=⟨z,1,none⟩) (ax g1)).trans g1;have e2:=(b45.cell (p:=⟨z,2,none⟩) (ax g2)).trans g2;have pS:=pSt W5 b5 VS hk5;unfold qM at pS;rw [hst] at pS;simp only [Option.isSome_some] at pS))
      refine⟨trivial,(callsIn_wide.2 pS).mono ?_⟩;rintro e W6 ⟨rfl,hU,hM6⟩;have hM6':=hM6 _ rfl;have b46:Below wc.heap.size wc W6:=b45.trans (hU.low _ hb5 b45.size);have hk6:∀ p∈L',bz p.1:=by
       unfold fT at hst
       cases hx:jZ (aP (jg fs M.data.toList) (aD op F V).feat) (aD op F V).op (aD op F V).val with
       | none=>rw [hx] at hst;cases hst
       | some x0 =>
        rw [hx] at hst;simp only [Option.map_some,Option.some.injEq] at hst;rw [<-hst,uK];exact rC hfo hk5
      have ZB:=ZA.out.below b46;have pW:=OB X b5 Af cf fs L' W6 (ax ZB.x5) ZB.x5 ZB.ft (by omega) HFO.out hM6' hk6 hgn.1;have kbx6:=ZB.bx;have u0:=(b46.cell (p:=⟨wr.heap.size,0,none⟩) (ax w0)).trans w0;have u1:=(b46.cell (p:=⟨wr.heap.size,1,none⟩) (ax w1)).trans w1;have u2:=(b46.cell (p:=⟨wr.heap.size,2,none⟩) (ax w2')).trans w2';have u3:=(b46.cell (p:=⟨wr.heap.size,3,none⟩) (ax w3)).trans w3;have t0:=(b46.cell (p:=⟨wr.heap.size+1,0,none⟩) (ax v0)).trans v0;have t1:=(b46.cell (p:=⟨wr.heap.size+1,1,none⟩) (ax v1)).trans v1;have ft1:=(b46.frozen (p:=⟨wr.heap.size+1,1,none⟩) (ax v1)).trans f4;clear pSt pS hM6 VS hk5 hst e0 e1 e2 g0 g1 g2 w0 w1 w2' w3 v0 v1 f4 kbx kp1 hval hin hNx
      gi_wp2
      refine⟨trivial,(callsIn_wide.2 pW).mono ?_⟩;rintro e W7 ⟨rfl,b7⟩;have b17:Below wr.heap.size wr W7:=ae (b24.trans (b46.mono b24.size)) b7;have hJ8:=HJB.out _ _ (W7.setCell ⟨wr.heap.size+1,1,none⟩ (.string ⟨(dE fs L').toArray⟩)) hJ (b17.setCell (p:=⟨wr.heap.size+1,1,none⟩) (by show wr.heap.size<=wr.heap.size+1;omega) _);have y0:=(b7.cell (p:=⟨wr.heap.size,0,none⟩) (ax u0)).trans u0;have y1:=(b7.cell (p:=⟨wr.heap.size,1,none⟩) (ax u1)).trans u1;have y2:=(b7.cell (p:=⟨wr.heap.size,2,none⟩) (ax u2)).trans u2;have y3:=(b7.cell (p:=⟨wr.heap.size,3,none⟩) (ax u3)).trans u3;have s0:=(b7.cell (p:=⟨wr.heap.size+1,0,none⟩) (ax t0)).trans t0;have s1:=(b7.cell (p:=⟨wr.heap.size+1,1,none⟩) (ax t1)).trans t1;have fs1:=(b7.frozen (p:=⟨wr.heap.size+1,1,none⟩) (ax t1)).trans ft1;obtain⟨fn,tmps,assign,body,hy,hR⟩:=HY.out _ _ _ _ (Uf.out _ hN) hJ8;simp only [wP,qR,iy,eX] at hy;unfold S at hy;generalize (⟨(dE fs L').toArray⟩:ByteArray)=T at *;clear u0 u1 u2 u3 t0 t1 ft1 pW ZB ZA hJ8
      gi_wp2
      refine hR.mono ?_;rintro e W9 ⟨rfl,hJ9⟩
      gi_wp2
      go_roundw
      case rel=>exact⟨j+1,by go_num,by omega,by rw [HX.out];exact hJ9⟩
      case measure=>simp [intOf] <;> omega
  ·obtain rfl:j=arcs.length:=by omega
   rw [List.take_length] at hJ
   gi_wp2
   refine bodyPost_end (results_none rfl _ _ _) rfl ?_;exact⟨rfl,hJ⟩
open Go Go.RowKit Go.Maps
def F4:Nat->Code->Code
 | 0,.seq x _=>x
 | 1,.seq _ y=>y
 | 2,.loop c=>c
 | 3,.block _ c=>c
 | 4,.cond _ x _=>x
 | 5,.cond _ _ y=>y
 | 6,.rangeFunc _ _ a _=>a
 | 7,.rangeFunc _ _ _ b=>b
 | _,c=>c
def cutAt:List Nat->Code->Code
 | [],c=>c
 | k::r,c=>cutAt r (F4 k c)
def tu (f:Func):Code:=f.body.getD .skip
def xA:Code->Array Oper
 | .region _ ops _=>ops
 | _=>#[]
def Ch (o:Oper):Bool:=match o.op with | .defer _=>false|_=>true
theorem JJ (c:Code) (h:(xA c).toList.all Ch=true) (i:Nat) (o:Oper) (d:Call) (ho:(xA c)[i]? = some o):o.op ≠ .defer d:=by
 have hm:o∈(xA c).toList:=by
  rw [Array.mem_toList_iff];exact Array.mem_of_getElem? ho
 have h2:=List.all_eq_true.1 h o hm;intro e;unfold Ch at h2;rw [e] at h2
 cases h2
def jD (l:List aO):List Value:=l.flatMap fun a=>[.int .i64 a.inn,.int .i64 a.out,S a.w,.int .i64 a.to]
theorem Fh (l:List aO) (a:aO):jD (l++[a])=jD l++[.int .i64 a.inn,.int .i64 a.out,S a.w,.int .i64 a.to]:=by simp [jD]
theorem Fj:(Tryz.prog.info? 77).map (fun i=>(i.zero,i.size,i.bytes))=some (some (.agg #[.int .i64 0,.int .i64 0,.string ⟨#[]⟩,.int .i64 0]),4,40):=by kernel_rfl
structure kL (t:List Bs) (W:World) (X B:Nat) (D:dH) (pv:Value) (pl:List aR) (b6 b16:Nat) (fin:Value) (av:Value) (BA:Nat) (out:List aO):Prop where
 el:jA W X B D pv pl
 c6:W.heap[b6]? = some (.cells #[.pointer (some ⟨X,0,none⟩)] 64 (0,0))
 s16:W.heap[b16]? = some (.cells #[fin,av] 75 (0,0))
 own:W.ownsRow BA 77 4 av out.length (jD out)
 fl:ji W D.fb (dW t 0 [])
 n1:b16≠X/\b16≠D.nb/\b16≠b6/\b16≠D.fb
 n2:b6≠X/\b6≠D.nb/\D.fb≠X/\D.fb≠D.nb
 pb:∀ g,pv.ownBlock=some g->g≠b6/\g≠b16/\g≠D.fb
 ab:∀ g,av.ownBlock=some g->g≠X/\g≠D.nb/\g≠b6/\g≠b16/\g≠D.fb/\pv.ownBlock≠some g
variable {t:List Bs} {W W':World} {X B:Nat} {D:dH} {pv:Value} {pl:List aR} {b6 b16:Nat} {fin:Value} {av:Value} {BA:Nat} {out:List aO}
theorem kL.below (h:kL t W X B D pv pl b6 b16 fin av BA out) (hb:Below W.heap.size W W'):kL t W' X B D pv pl b6 b16 fin av BA out where
 el:=h.el.below hb
 c6:=(hb.block _ (lt_of_block h.c6)).trans h.c6
 s16:=(hb.block _ (lt_of_block h.s16)).trans h.s16
 own:=eP h.own (aB.of_new (X:=fun _=>False) hb) (fun _ _ e=>e)
 fl:=h.fl.below hb
 n1:=h.n1
 n2:=h.n2
 pb:=h.pb
 ab:=h.ab
theorem mU {w:World} {base:Nat} {e:TypeId} {size:Nat} {v:Value} {n:Nat} {xs:List Value} (h:w.ownsRow base e size v n xs) {g:Nat} (hg:v.ownBlock=some g):g<w.heap.size:=by
 rcases h.2 with⟨rfl,rfl⟩|⟨g',cap,cur,rfl,hB,hg',hn,hm,hc,ht⟩
 ·simp [Value.ownBlock] at hg
 ·simp only [Value.ownBlock,Option.some.injEq] at hg
  subst hg;exact lt_of_block hg'
theorem kL.visit {p:aR} {e:Ending} (h:kL t W X B D pv pl b6 b16 fin av BA out) (hv:sQ X B D pv pl p W e W') :
  ∃ pv',e=.returned (.int .i64 (((dG pl p).1:Nat):Int))/\kL t W' X B D pv' (dG pl p).2 b6 b16 fin av BA out/\aB (fun b=>b=X\/b=D.nb\/pv.ownBlock=some b) W W'/\∀ g,pv'.ownBlock=some g->pv.ownBlock=some g\/W.heap.size<=g:=by
 obtain⟨pv',he,hE,hC,hg⟩:=hv;refine⟨pv',he,⟨hE,?_,?_,?_,?_,h.n1,h.n2,?_,?_⟩,hC,hg⟩
 ·refine (hC.block _ (lt_of_block h.c6) ?_).trans h.c6
  rintro (e|e|e)
  ·exact h.n2.1 e
  ·exact h.n2.2.1 e
  ·exact (h.pb _ e).1 rfl
 ·refine (hC.block _ (lt_of_block h.s16) ?_).trans h.s16
  rintro (e|e|e)
  ·exact h.n1.1 e
  ·exact h.n1.2.1 e
  ·exact (h.pb _ e).2.1 rfl
 ·refine eP h.own hC (fun g hg'=>?_)
  obtain⟨a1,a2,a3,a4,a5,a6⟩:=h.ab g hg';rintro (e|e|e)
  ·exact a1 e
  ·exact a2 e
  ·exact a6 e
 ·refine h.fl.same (hC.block _ h.fl.lt ?_)
  rintro (e|e|e)
  ·exact h.n2.2.2.1 e
  ·exact h.n2.2.2.2 e
  ·exact (h.pb _ e).2.2 rfl
 ·intro g hg'
  rcases hg g hg' with e|e
  ·exact h.pb g e
  ·have:=lt_of_block h.c6
   have:=lt_of_block h.s16;have:=h.fl.lt;exact⟨by omega,by omega,by omega⟩
 ·intro g hg'
  obtain⟨a1,a2,a3,a4,a5,a6⟩:=h.ab g hg';refine⟨a1,a2,a3,a4,a5,fun e=>?_⟩;rcases hg g e with e|e
  ·exact a6 e
  ·have:=mU h.own hg'
   omega
def iE (l:List aH):List Value:=l.flatMap fun f=>[.int .u8 f.op.toNat,S f.feat,S f.val]
theorem A8 (l:List aH) (f:aH):iE (l++[f])=iE l++[.int .u8 f.op.toNat,S f.feat,S f.val]:=by simp [iE]
theorem A9:(Tryz.prog.info? 24).map (fun i=>(i.zero,i.size,i.bytes))=some (some (.agg #[.int .u8 0,.string ⟨#[]⟩,.string ⟨#[]⟩]),3,40):=by kernel_rfl
theorem Ir:(Tryz.prog.info? 3).map (fun i=>(i.zero,i.size,i.bytes))=some (some (.int .i64 0),1,8):=by kernel_rfl
theorem A7:∀ (l:List aH) (k:Nat) (h:k<l.length),(iE l)[k * 3]? = some (.int .u8 l[k].op.toNat)/\(iE l)[k * 3+1]? = some (S l[k].feat)/\(iE l)[k * 3+2]? = some (S l[k].val)
 | s::r,0,h=>⟨rfl,rfl,rfl⟩
 | s::r,k+1,h=>by
  have:=A7 r k (by simpa using h);have e:iE (s::r)=[.int .u8 s.op.toNat,S s.feat,S s.val]++iE r:=rfl;rw [e,List.getElem_cons_succ];refine⟨?_,?_,?_⟩
  ·rw [List.getElem?_append_right (by simp;omega)]
   simpa [show (k+1) * 3-3=k * 3 by omega] using this.1
  ·rw [List.getElem?_append_right (by simp;omega)]
   simpa [show (k+1) * 3+1-3=k * 3+1 by omega] using this.2.1
  ·rw [List.getElem?_append_right (by simp;omega)]
   simpa [show (k+1) * 3+2-3=k * 3+2 by omega] using this.2.2
theorem Ba {w:World} {B:Nat} {v:Value} {l:List aH} (h:w.ownsRow B 24 3 v l.length (iE l)):∃ A c,v=.slice A l.length c/\zu w A l:=by
 rcases h.2 with⟨rfl,h2⟩|⟨g,cap,cur,hv,hB,hg,hn,hm,hc,ht⟩
 ·exact⟨none,0,by rw [h2],fun k hk=>by omega⟩
 ·refine⟨some ⟨g,0,none⟩,cap,hv,fun k hk=>?_⟩
  have hcell:=h.cells (g:=g) (by rw [hv];rfl);have hadd:∀ j,(⟨g,0,none⟩:Addr).add j=⟨g,0+j,none⟩:=fun j=>by unfold Addr.add;split <;> simp_all
  obtain⟨c0,c1,c2⟩:=A7 l k hk;have k0:=hcell _ _ c0;have k1:=hcell _ _ c1;have k2:=hcell _ _ c2;rw [hadd] at k0 k1 k2;exact⟨g,0,rfl,lt_of_block hg,k0,k1,k2⟩
theorem Iu {w:World} {B:Nat} {v:Value} {l:List Int} (h:w.ownsRow B 3 1 v l.length (l.map IV)):∃ A c,v=.slice A l.length c/\ay w A (l.map IV):=by
 rcases h.2 with⟨rfl,h2⟩|⟨g,cap,cur,hv,hB,hg,hn,hm,hc,ht⟩
 ·exact⟨none,0,by rw [h2],fun hne=>by
   have:l=[]:=List.length_eq_zero_iff.1 h2;rw [this] at hne;exact absurd rfl hne⟩
 ·refine⟨some ⟨g,0,none⟩,cap,hv,fun _=>⟨g,0,rfl,lt_of_block hg,fun j u hj=>?_⟩⟩
  have:=h.cells (g:=g) (by rw [hv];rfl) j u hj;have hadd:(⟨g,0,none⟩:Addr).add j=⟨g,0+j,none⟩:=by unfold Addr.add;split <;> simp_all
  rwa [hadd] at this
def ET (w:World) (r:List Int × Bool) (e:Ending) (w':World):Prop:=∃ A c,e=.returned (.tuple #[.slice A r.1.length c,.bool r.2])/\ay w' A (r.1.map IV)/\Below w.heap.size w w'
structure nI (t:List Bs) (x:List Int) (w3 W:World) (b k:Nat) (yv lv:Value) (y:List Int) (l:List aH):Prop where
 kl:k<=x.length
 hy:y=(x.take k).filter fun s=>(dD t s).isNone
 hl:l=(x.take k).filterMap (dD t)
 ok:∀ s∈x.take k,1<=s/\s<=500
 oy:W.ownsRow w3.heap.size 3 1 yv y.length (y.map IV)
 ol:W.ownsRow w3.heap.size 24 3 lv l.length (iE l)
 ne:∀ g,yv.ownBlock=some g->lv.ownBlock≠some g
 bl:Below w3.heap.size w3 W
theorem nI.lens {t:List Bs} {x:List Int} {w3 W:World} {b k:Nat} {yv lv:Value} {y:List Int} {l:List aH} (h:nI t x w3 W b k yv lv y l):y.length<=k/\l.length<=k:=by
 constructor
 ·rw [h.hy];refine Nat.le_trans (List.length_filter_le _ _) ?_;rw [List.length_take];omega
 ·rw [h.hl];refine Nat.le_trans (List.length_filterMap_le _ _) ?_;rw [List.length_take];omega
theorem xS {B:Nat} {w3 W w5:World} {o:Obj} {v:Value} (hB:Below B w3 W) (hs:B<=w3.heap.size) (hv:∀ g,v.ownBlock=some g->B<=g) (hgr:(W.alloc o).grownBy w5 v.ownBlock):Below B w3 w5:=by
 have h1:Below B W (W.alloc o):=(Below.refl _ _).alloc (Nat.le_trans hs hB.size) _;have h2:=hB.trans h1;refine h2.trans ⟨hgr.os,hgr.tape,hgr.output,hgr.size,fun b hlt=>hgr.block b (Nat.lt_of_lt_of_le hlt (Nat.le_trans hs h2.size)) (fun e=>?_)⟩;have:=hv b e.symm;omega
theorem nI.int {t:List Bs} {x:List Int} {w3 W w4 w5:World} {b k:Nat} {yv lv:Value} {y:List Int} {l:List aH} {s:Int} {o:Obj} {g cap:Nat} (h:nI t x w3 W b k yv lv y l) (hlt:k<x.length) (htk:x.take (k+1)=x.take k++[s]) (hf:dD t s=none) (hok:∀ s∈x.take (k+1),1<=s/\s<=500)
  (hB:Below w3.heap.size w3 w4) (hL:w4.ownsRow w3.heap.size 24 3 lv l.length (iE l)) (hO:w4.ownsRow w3.heap.size 3 1 yv y.length (y.map IV))
  (ho:w5.ownsRow w3.heap.size 3 1 (.slice (some ⟨g,0,none⟩) (y.length+1) cap) (y.length+1) (y.map IV++[.int .i64 s])) (hgr:(w4.alloc o).grownBy w5 yv.ownBlock) (hat:yv.ownBlock=some g\/g=w4.heap.size+1) :
  nI t x w3 w5 b (k+1) (.slice (some ⟨g,0,none⟩) (y.length+1) cap) lv (y++[s]) l:=by
 have c1:aB (fun b=>yv.ownBlock=some b) w4 w5:=(p9 _ w4 o).trans (aB.of_grown hgr) (fun _ _ e=>e);refine⟨hlt,?_,?_,hok,?_,eP hL c1 (fun g' hg e=>h.ne g' e hg),?_,xS hB (Nat.le_refl _) (fun g' hg=>(hO.lt g' hg).1) hgr⟩
 ·rw [htk,List.filter_append,<-h.hy];simp [hf]
 ·rw [htk,List.filterMap_append,<-h.hl];simp [hf]
 ·rw [List.length_append,List.map_append];exact ho
 ·intro g' hg e
  simp only [Value.ownBlock,Option.some.injEq] at hg;subst hg;rcases hat with e'|e'
  ·exact h.ne g e' e
  ·have:=(hL.lt g e).2;omega
theorem nI.flg {t:List Bs} {x:List Int} {w3 W w4 w5:World} {b k:Nat} {yv lv:Value} {y:List Int} {l:List aH} {s:Int} {f:aH} {o:Obj} {g cap:Nat} {news:List Value} (h:nI t x w3 W b k yv lv y l) (hlt:k<x.length) (htk:x.take (k+1)=x.take k++[s]) (hf:dD t s=some f) (hok:∀ s∈x.take (k+1),1<=s/\s<=500)
  (hB:Below w3.heap.size w3 w4) (hL:w4.ownsRow w3.heap.size 24 3 lv l.length (iE l)) (hO:w4.ownsRow w3.heap.size 3 1 yv y.length (y.map IV)) (hnews:news=[.int .u8 f.op.toNat,S f.feat,S f.val])
  (ho:w5.ownsRow w3.heap.size 24 3 (.slice (some ⟨g,0,none⟩) (l.length+1) cap) (l.length+1) (iE l++news)) (hgr:(w4.alloc o).grownBy w5 lv.ownBlock) (hat:lv.ownBlock=some g\/g=w4.heap.size+1) :
  nI t x w3 w5 b (k+1) yv (.slice (some ⟨g,0,none⟩) (l.length+1) cap) y (l++[f]):=by
 have c1:aB (fun b=>lv.ownBlock=some b) w4 w5:=(p9 _ w4 o).trans (aB.of_grown hgr) (fun _ _ e=>e);refine⟨hlt,?_,?_,hok,eP hO c1 (fun g' hg e=>h.ne g' hg e),?_,?_,xS hB (Nat.le_refl _) (fun g' hg=>(hL.lt g' hg).1) hgr⟩
 ·rw [htk,List.filter_append,<-h.hy];simp [hf]
 ·rw [htk,List.filterMap_append,<-h.hl];simp [hf]
 ·rw [List.length_append,A8,<-hnews];exact ho
 ·intro g' hg e
  simp only [Value.ownBlock,Option.some.injEq] at e;subst e;rcases hat with e'|e'
  ·exact h.ne g hg e'
  ·have:=(hO.lt g hg).2;omega
theorem ND (Ax At:Option Addr) (cx ct:Nat) (x:List Int) (t:List Bs) (w:World) (hT:fD w) (hX:ay w Ax (x.map IV)) (hV:ay w At (t.map S)) (hlx:x.length<=140737488355328) (hN:∀ s∈x,-9223372036854775808<=s/\s<=9223372036854775807) :
  Calls Tryz.prog 23 #[.slice Ax x.length cx,.slice At t.length ct] w (ET w (stripL x t)):=by
 have HX:=Lib.hid hX;have HV:=Lib.hid hV;have HNN:=Lib.hid hN;clear hX hV hN;have pT:=Er At ct t w hT.t HV.out;by_cases hl:x.length<=200
 ·have d1:(x.length:Int)<=200:=by omega
  cases htk:l7 t with
  | false =>
   have HR:Hid (stripL x t=([],false)):=by unfold Hid stripL;rw [htk,if_neg (by simp)]
   rw [htk] at pT;clear htk;go_enter Tryz.func23,Tryz.ntmps23;go_wp2_with fail;refine pT.mono ?_;rintro e w3 ⟨rfl,hb3⟩;go_wp2_with fail;go_returns;rw [HR.out];exact⟨none,0,rfl,fun hne=>absurd rfl hne,hb3⟩
  | true =>
   have Xb:t.length<=500:=by unfold l7 at htk;simp at htk;exact htk.1.1
   have HR:Hid (x.all (fun s=>decide (1<=s/\s<=500))=true->stripL x t=(x.filter fun s=>(dD t s).isNone,jH (x.filterMap (dD t)))):=fun h=>by unfold stripL;rw [if_pos ⟨hl,htk,h⟩]
   have ZZ:Hid (∀ s∈x,¬ (1<=s/\s<=500)->stripL x t=([],false)):=fun s hs h=>by
    unfold stripL;rw [if_neg (fun hh=>h (of_decide_eq_true (List.all_eq_true.1 hh.2.2 s hs)))]
   rw [htk] at pT;have pF:=fun W (hb:Below w.heap.size w W)=>AZ At ct t W (hT.below hb) (HV.out.below hb) Xb
   obtain⟨ii,ci,ci0,ci1,ci2⟩:=info_parts Ir;obtain⟨jf,cf,cf0,cf1,cf2⟩:=info_parts A9;clear htk;go_enter Tryz.func23,Tryz.ntmps23
   go_wp2_with (first
    | (go_at_call 40;refine pT.mono ?_;rintro e w2 ⟨rfl,hb2⟩;have pF2:=pF w2 hb2)
    | (go_at_call 41;refine pF2.mono ?_;rintro e w3 ⟨b,rfl,hM,hbl,hb3⟩))
   have WF:=ae hb2 hb3;have HM:=Lib.hid hM;clear pT pF pF2 hM
   go_loopw [4,7,24] (fun yv lv i wr=>∃ (k:Nat) (y:List Int) (l:List aH),i=.int .i64 k/\nI t x w3 wr b k yv lv y l) (fun _ _ i _=>x.length-(intOf i).toNat)
   case atStart=>exact⟨0,[],[],rfl,⟨Nat.zero_le _,by simp,by simp,by simp,World.ownsRow_nil _ _ _ _,World.ownsRow_nil _ _ _ _,fun g hg=>by simp [Value.ownBlock] at hg,Below.refl _ _⟩⟩
   case round =>
    obtain⟨k,y,l,rfl,hS⟩:=hrel;have hlen:=hS.lens;have hlow:=WF.trans (hS.bl.mono WF.size);by_cases hlt:k<x.length
    ·have hlt':k<(x.map IV).length:=by simpa using hlt
     obtain⟨bx,ox,rfl,hbx,hc0⟩:=row_of HX.out hlt;have hmem:=List.getElem_mem hlt;have htk:=List.take_succ_eq_append_getElem hlt;have hbd:=HNN.out _ hmem;have Um:=Lib.hid htk;have ZM:=Lib.hid hmem;have HS:=Lib.hid hS;clear htk hmem hS;generalize x[k]=s at *;have k0:=(hlow.cell (p:=⟨bx,ox+k,none⟩) hbx).trans hc0;unfold IV at k0;clear hc0;have i0:(0:Int)<=(k:Int):=by omega
     have il:(k:Int)<(x.length:Int):=by omega
     by_cases hs1:1<=s
     ·by_cases hs2:s<=500
      ·have Ut:=HM.out.same (HS.out.bl.block b HM.out.lt)
       have TG:=xP wr b t Ut Xb s (by omega) hs2;have hok:∀ s'∈x.take (k+1),1<=s'/\s'<=500:=fun s' hs'=>by
        rw [Um.out] at hs';rcases List.mem_append.1 hs' with h|h
        ·exact HS.out.ok s' h
        ·rw [List.mem_singleton] at h;subst h;exact⟨hs1,hs2⟩
       have Xe:=Lib.hid hok;clear Ut hok;obtain⟨F,V,hfc,TN,Ub⟩:=lI ((dD t s).getD dX);rw [hfc] at TG;obtain⟨r,hr⟩:∃ r,dD t s=r:=⟨_,rfl⟩;rw [hr] at TG TN Ub;obtain⟨oo,Ve⟩:∃ oo,(r.getD dX).op=oo:=⟨_,rfl⟩;rw [Ve] at TG;have HRR:=Lib.hid hr;have hFD:=Lib.hid TN;have hVD:=Lib.hid Ub;have hOO:=Lib.hid Ve;clear hfc hr TN Ub Ve
       cases r with
       | none =>
        simp only [Option.isSome_none] at TG;have bA:Below wr.heap.size wr (wr.alloc (.cells #[.int .u8 oo.toNat,.string F,.string V] 24)):=(Below.refl _ _).alloc (Nat.le_refl _) _;have hO1:=eP HS.out.oy (aB.of_new (X:=fun _=>False) bA) (fun _ _ e=>e);have hB1:Below w3.heap.size w3 (wr.alloc (.cells #[.int .u8 oo.toNat,.string F,.string V] 24)):=HS.out.bl.alloc HS.out.bl.size _;have hL1:=eP HS.out.ol (aB.of_new (X:=fun _=>False) bA) (fun _ _ e=>e);have Wm:=Lib.hid hL1;have WZ:=Lib.hid hO1;clear hL1 hO1 bA;have hny:y.length+1<=maxLen:=by unfold maxLen;omega
        have hby:(y.length+1) * 8<=140737488355328:=by omega
        obtain⟨w4,hw4⟩:∃ w4,w4=wr.alloc (.cells #[.int .u8 oo.toNat,.string F,.string V] 24):=⟨_,rfl⟩;rw [<-hw4] at Wm WZ hB1;go_upto_region 13 with (fail)
        rw [<-hw4];clear hw4 k0 TG;have bA4:Below w4.heap.size w4 (w4.alloc (.cells #[.int .i64 s] 3)):=(Below.refl _ _).alloc (Nat.le_refl _) _;have hO2:=eP WZ.out (aB.of_new (X:=fun _=>False) bA4) (fun _ _ e=>e);have hnews:∀ j u,(#[Value.int .i64 s]).toList[j]? = some u->(w4.alloc (.cells #[.int .i64 s] 3)).cell? ((⟨w4.heap.size,0,none⟩:Addr).add j)=some u:=World.news_of_block (heap_alloc_new w4 _);have hbase:w3.heap.size<=(w4.alloc (.cells #[.int .i64 s] 3)).heap.size:=Nat.le_trans hB1.size bA4.size;go_wp2_with (first|(at_builtin;refine wpList_append_lies _ rfl (.tmp 45) (.tmp 47) 38 rfl w3.heap.size 3 ii _ 1 8 Tryz.underlying38 ci ci0 ci1 ci2 rfl (by decide) _ y.length (y.map IV) rfl hO2 ⟨w4.heap.size,0,none⟩ 1 1 [.int .i64 s] rfl rfl hnews (by simp [Value.oneCell']) (by decide) hny hby hbase (w4.heap.size+1) (by simp) ?_;intro g5 cap5 w5 YW hgr5 TW Ul));have hnext:=HS.out.int hlt (Um.out) HRR.out Xe.out hB1 Wm.out WZ.out YW hgr5 TW;have HNX:=Lib.hid hnext;clear hnext YW hgr5 TW Ul hnews hbase hO2;go_wp2_with fail;go_roundw
        case rel=>exact⟨k+1,_,_,by go_num,HNX.out⟩
        case measure=>simp [intOf];omega
       | some f =>
        simp only [Option.isSome_some] at TG;have bA:Below wr.heap.size wr (wr.alloc (.cells #[.int .u8 oo.toNat,.string F,.string V] 24)):=(Below.refl _ _).alloc (Nat.le_refl _) _;have hO1:=eP HS.out.oy (aB.of_new (X:=fun _=>False) bA) (fun _ _ e=>e);have hB1:Below w3.heap.size w3 (wr.alloc (.cells #[.int .u8 oo.toNat,.string F,.string V] 24)):=HS.out.bl.alloc HS.out.bl.size _;have hL1:=eP HS.out.ol (aB.of_new (X:=fun _=>False) bA) (fun _ _ e=>e);have c0:=aJ wr #[.int .u8 oo.toNat,.string F,.string V] 24 0 (.int .u8 oo.toNat) rfl;have c1:=aJ wr #[.int .u8 oo.toNat,.string F,.string V] 24 1 (.string F) rfl;have c2:=aJ wr #[.int .u8 oo.toNat,.string F,.string V] 24 2 (.string V) rfl;have Wm:=Lib.hid hL1;have WZ:=Lib.hid hO1;clear hL1 hO1 bA;have hny:l.length+1<=maxLen:=by unfold maxLen;omega
        have hby:(l.length+1) * 40<=140737488355328:=by omega
        obtain⟨w4,hw4⟩:∃ w4,w4=wr.alloc (.cells #[.int .u8 oo.toNat,.string F,.string V] 24):=⟨_,rfl⟩;rw [<-hw4] at Wm WZ hB1 c0 c1 c2;go_upto_region 12 with (fail)
        rw [<-hw4];clear hw4 k0 TG;have bA4:Below w4.heap.size w4 (w4.alloc (.cells #[.int .u8 oo.toNat,.string F,.string V] 24)):=(Below.refl _ _).alloc (Nat.le_refl _) _;have hO2:=eP Wm.out (aB.of_new (X:=fun _=>False) bA4) (fun _ _ e=>e);have hnews:∀ j u,(#[Value.int .u8 oo.toNat,.string F,.string V]).toList[j]? = some u->(w4.alloc (.cells #[.int .u8 oo.toNat,.string F,.string V] 24)).cell? ((⟨w4.heap.size,0,none⟩:Addr).add j)=some u:=World.news_of_block (heap_alloc_new w4 _);have hbase:w3.heap.size<=(w4.alloc (.cells #[.int .u8 oo.toNat,.string F,.string V] 24)).heap.size:=Nat.le_trans hB1.size bA4.size;go_wp2_with (first|(at_builtin;refine wpList_append_lies _ rfl (.tmp 41) (.tmp 43) 43 rfl w3.heap.size 24 jf _ 3 40 Tryz.underlying43 cf cf0 cf1 cf2 rfl (by decide) _ l.length (iE l) rfl hO2 ⟨w4.heap.size,0,none⟩ 1 1 [.int .u8 oo.toNat,.string F,.string V] rfl rfl hnews (by simp [Value.oneCell']) (by decide) hny hby hbase (w4.heap.size+1) (by simp) ?_;intro g5 cap5 w5 YW hgr5 TW Ul));have hnext:=HS.out.flg hlt (Um.out) HRR.out Xe.out hB1 Wm.out WZ.out (show [Value.int .u8 oo.toNat,.string F,.string V]=[.int .u8 f.op.toNat,S f.feat,S f.val] by
         have e1:=hFD.out;have e2:=hVD.out;have e3:=hOO.out;simp only [Option.getD_some] at e1 e2 e3;rw [e1,e2,<-e3,eX,eX]) YW hgr5 TW
        have HNX:=Lib.hid hnext;clear hnext YW hgr5 TW Ul hnews hbase hO2;go_wp2_with fail;go_roundw
        case rel=>exact⟨k+1,_,_,by go_num,HNX.out⟩
        case measure=>simp [intOf];omega
      ·have HQ:=Lib.hid (ZZ.out s ZM.out (fun h=>hs2 h.2))
       have d2:(500:Int)<s:=by omega
       have d3:(1:Int)<=s:=hs1;have d4:decide (s<(1:Int))=false:=decide_eq_false (by omega);go_wp2_with fail;go_returns;rw [HQ.out];exact⟨none,0,rfl,fun hne=>absurd rfl hne,hlow⟩
     ·have HQ:=Lib.hid (ZZ.out s ZM.out (fun h=>hs1 h.1))
      have d3:s<(1:Int):=by omega
      go_wp2_with fail;go_returns;rw [HQ.out];exact⟨none,0,rfl,fun hne=>absurd rfl hne,hlow⟩
    ·obtain rfl:k=x.length:=by have:=hS.kl;omega
     have hR:=HR.out (List.all_eq_true.2 fun s hs=>decide_eq_true (hS.ok s (by rw [List.take_length];exact hs)));have e1:=hS.hy;have e2:=hS.hl;rw [List.take_length] at e1 e2;rw [<-e1,<-e2] at hR;have HQ:=Lib.hid hR;obtain⟨Al,cl,rfl,hfl⟩:=Ba hS.ol;obtain⟨Ay,cy,rfl,hyy⟩:=Iu hS.oy;have pL:=Bp Al cl l wr (hT.t.below hlow) hfl (by omega);have HYY:=Lib.hid hyy;clear hR e1 e2 hS hfl hyy HR ZZ;go_wp2_with (first|(go_at_call 21;refine pL.mono ?_;rintro e w5 ⟨rfl,hb5⟩));go_returns;rw [HQ.out];exact⟨Ay,cy,rfl,HYY.out.below hb5,ae hlow hb5⟩
 ·have d1:(200:Int)<(x.length:Int):=by omega
  have HR:Hid (stripL x t=([],false)):=by unfold Hid stripL;rw [if_neg (fun h=>hl h.1)]
  clear pT;go_enter Tryz.func23,Tryz.ntmps23;go_wp2_with fail;go_returns;rw [HR.out];exact⟨none,0,rfl,fun hne=>absurd rfl hne,Below.refl _ _⟩
open Go.RowKit
theorem Hq {k:Int} {ss:List bI} {v:Vec} {x:Bs} {q:Nat} (hq:q<ss.length) (hv:q<v.length) :
  lH k (ss.drop q) (v.drop q) x=if ss[q].fin=[] then lH k (ss.drop (q+1)) (v.drop (q+1)) x else bi (fK k [x] 0 v[q] ss[q].fin) fun l=>lH k (ss.drop (q+1)) (v.drop (q+1)) (l.headD []):=by
 rw [List.drop_eq_getElem_cons hq,List.drop_eq_getElem_cons hv]
 rfl
theorem Ol {l:Vec} (h:dK 1 l):∃ x,l=[x]/\x.length<=802:=by
 match l,h with
 | [x],h=>exact⟨x,rfl,h.2 x List.mem_cons_self⟩
def qN (w:World) (R:Except Nat Bs) (e:Ending) (w':World):Prop:=Below w.heap.size w w'/\match R with
 | .ok x=>e=.returned (.tuple #[S x,.int .i64 0])/\x.length<=802
 | .error x=>e=.returned (.tuple #[.string ⟨#[]⟩,.int .i64 x])/\x≠0
theorem Lm (m:aQ) (A:Option Addr) (c bv cv:Nat) (v:Vec) (w:World) (hm:bM m=true) (hV:dY w A m.states) (hv:aZ w bv v) (UH:dK m.states.length v) :
  Calls Tryz.prog 67 #[di m A c,.slice (some ⟨bv,0,none⟩) m.states.length cv] w (qN w (lH m.kind m.states v (aF m.kind))):=by
 obtain⟨hk,⟨hn1,hn2,hs1,hs2⟩,hld,hst,har⟩:=kV.1 hm;clear har;obtain⟨R,hR⟩:∃ R,lH m.kind m.states v (aF m.kind)=R:=⟨_,rfl⟩;have HR:=Lib.hid hR.symm;rw [hR];clear hR;have HV:=Lib.hid hV;have Ug:Hid (∀ s∈m.states,gY m.kind m.states.length s=true):=hst;unfold di S at *;obtain⟨kd,st,ld,ss⟩:=m;simp only at *;generalize (⟨ld.toArray⟩:ByteArray)=Ld at *;have hbv:=hv.lt;have Z8:=Lib.hid hv;obtain⟨n,hn⟩:∃ n,n=ss.length:=⟨_,rfl⟩;rw [<-hn] at UH hn1 hn2 Ug ⊢;have HN:=Lib.hid hn.symm;obtain⟨zk,U5⟩:∃ zk:ByteArray,(⟨(aF kd).toArray⟩:ByteArray)=zk:=⟨_,rfl⟩;have Ua:aF kd=zk.data.toList:=by rw [<-U5]
 have p0:∀ W,Calls Tryz.prog 34 #[.int .i64 kd] W fun e w'=>e=.returned (.string zk)/\W=w':=fun W=>by
  have:=o9 kd W;unfold S at this;rw [U5] at this;exact this
 rw [Ua] at HR;have hzl:zk.data.toList.length<=802:=by rw [<-Ua];exact rR kd
 clear hld hm hV hst hs1 hs2 hk hn hv U5 Ua;have z0:=az w #[.int .i64 kd,.int .i64 st,.string Ld,.slice A n c] 30 0 _ rfl;have z3:=az w #[.int .i64 kd,.int .i64 st,.string Ld,.slice A n c] 30 3 _ rfl;have hb0:Below w.heap.size w (w.alloc (.cells #[.int .i64 kd,.int .i64 st,.string Ld,.slice A n c] 30)):=(Below.refl _ _).alloc (Nat.le_refl _) _;have hs0:(w.alloc (.cells #[.int .i64 kd,.int .i64 st,.string Ld,.slice A n c] 30)).heap.size=w.heap.size+1:=by simp
 go_enter Tryz.func67,Tryz.ntmps67;go_wp2_with fail;generalize w.alloc (.cells #[.int .i64 kd,.int .i64 st,.string Ld,.slice A n c] 30)=w0 at *;refine (p0 _).mono ?_;rintro e w1 ⟨rfl,rfl⟩;have q0:=z0;have q3:=z3;have hv1:aZ (w0.alloc (.cells #[.string zk] 9)) (w.heap.size+1) [zk.data.toList]:=by
  have:=heap_alloc_new w0 (.cells #[.string zk] 9);rw [hs0] at this;exact this
 have hB1:Below (w.heap.size+1) w0 (w0.alloc (.cells #[.string zk] 9)):=(Below.refl _ _).alloc (by rw [hs0];exact Nat.le_refl _) _;have VQ:=Lib.hid hs0;go_wp2_with fail;clear hs0 z0 z3;generalize w0.alloc (.cells #[.string zk] 9)=w1 at *
 go_loopw [7] (fun i wr=>∃ (q:Nat) (x:Bs),i=.int .i64 q/\q<=n/\Below (w.heap.size+1) w0 wr/\aZ wr (w.heap.size+1) [x]/\x.length<=802/\Hid (R=lH kd (ss.drop q) (v.drop q) x)) (fun i _=>n-(intOf i).toNat)
 case atStart=>exact⟨0,_,rfl,by omega,hB1,hv1,hzl,HR.out⟩
 case round =>
  clear hB1 hv1;obtain⟨q,x,rfl,hq,hBr,Vp,hxr,HS⟩:=hrel;have hBw:Below w.heap.size w wr:=hb0.trans (hBr.mono (Nat.le_succ _));have m0:=(hBr.cell (p:=⟨w.heap.size,0,none⟩) (Nat.lt_succ_self _)).trans q0;have m3:=(hBr.cell (p:=⟨w.heap.size,3,none⟩) (Nat.lt_succ_self _)).trans q3;by_cases hlt:q<n
  ·have VX:q<ss.length:=by rw [HN.out];exact hlt
   have U4:q<v.length:=by rw [UH.1];exact hlt
   obtain⟨b,o,rfl,Vb,hc0,A',c',hc1,TK⟩:=HV.out q VX;have HD:=Lib.hid (HS.out.trans (Hq VX U4));have hso:=Ug.out _ (List.getElem_mem VX);have hxl:=UH.2 _ (List.getElem_mem U4);have Vo:=Z8.out.cell U4;generalize ss[q]=s at *;obtain⟨fin,arcs⟩:=s;simp only at *;obtain⟨X,hX⟩:∃ X:ByteArray,(⟨v[q].toArray⟩:ByteArray)=X:=⟨_,rfl⟩;have UB:v[q]=X.data.toList:=by rw [<-hX]
   unfold S at Vo;rw [hX] at Vo;rw [UB] at HD hxl;have Vm:X.size<=802:=by rw [Lib.size_eq];exact hxl
   obtain⟨Fn,hFn⟩:∃ Fn:ByteArray,(⟨fin.toArray⟩:ByteArray)=Fn:=⟨_,rfl⟩;have Wy:fin=Fn.data.toList:=by rw [<-hFn]
   unfold S at hc0;rw [hFn] at hc0;subst Wy;have mv:=(hBw.cell (p:=⟨bv,q,none⟩) hbv).trans Vo;have mf:=(hBw.cell (p:=⟨b,o+q * 2,none⟩) Vb).trans hc0;have i0:(0:Int)<=(q:Int):=by omega
   have il:(q:Int)<(n:Int):=by omega
   clear hX UB hxl hFn TK;by_cases hfn:Fn.size=0
   ·have t1:(Fn.toList != [])=false:=rf (fF hfn)
    have t1':(Fn.toList == [])=true:=iR (fF hfn);have hem:=jF hfn;have HX:=Lib.hid (HD.out.trans (if_pos (fF hfn)));clear hfn HD;go_wp2_with fail;go_roundw
    case rel=>exact⟨q+1,x,by go_num,by omega,hBr,Vp,hxr,HX.out⟩
    case measure=>simp [intOf];omega
   ·have t1:(Fn.toList != [])=true:=rq (gB hfn)
    have t1':(Fn.toList == [])=false:=iT (gB hfn);have hem:=jI hfn;have HX:=Lib.hid (HD.out.trans (if_neg (gB hfn)));have Uy:Fn.size<=802:=by
     rw [Lib.size_eq];rcases (pg.1 hso).1 with h|h
     ·exact absurd h (gB hfn)
     ·exact wC h
    have pA:∀ W,aZ W (w.heap.size+1) [x]->Calls Tryz.prog 88 #[.int .i64 kd,.slice (some ⟨w.heap.size+1,0,none⟩) 1 1,.int .i64 0,.string X,.string Fn] W (pz W (w.heap.size+1) (fK kd [x] 0 X.data.toList Fn.data.toList)):=by
     intro W hW;exact uy kd (w.heap.size+1) 1 [x] 0 X Fn W hW (by omega) (by simp) Vm Uy hxr
    have HE:Hid (∀ e,fK kd [x] 0 X.data.toList Fn.data.toList=.error e->R=.error e):=fun e he=>by rw [HX.out,xq he]
    have HK:Hid (∀ l',fK kd [x] 0 X.data.toList Fn.data.toList=.ok l'->R=lH kd (ss.drop (q+1)) (v.drop (q+1)) (l'.headD [])):=fun l' he=>by rw [HX.out,xu he]
    have hx1:dK 1 [x]:=⟨rfl,fun y hy=>by rw [List.mem_singleton.1 hy];exact hxr⟩;clear hfn HD HX;go_wp2_with fail
    go_still_tail 13,(by kernel_rfl)
    change wpList _ _ _ _ _ wr.drew;go_wp2_with fail;have hvd:aZ wr.drew (w.heap.size+1) [x]:=Vp;refine (pA _ hvd).mono ?_;rintro e w6 ⟨hu,hr⟩;have hb6:Below (w.heap.size+1) w0 w6:=hBr.drew.trans (hu.low _ (Nat.le_refl _) (Nat.le_of_lt Vp.lt))
    cases hadd:fK kd [x] 0 X.data.toList Fn.data.toList with
    | error e' =>
     rw [hadd] at hr;obtain⟨rfl,hne⟩:=hr;have HY:=Lib.hid (HE.out e' hadd);have t9:((e':Int) != 0)=true:=by simpa using hne
     have U6:=Lib.hid hne;clear hadd hne;go_wp2_with fail;go_returns;refine⟨hb0.trans (hb6.mono (Nat.le_succ _)),?_⟩;rw [HY.out];exact⟨rfl,U6.out⟩
    | ok l' =>
     rw [hadd] at hr;obtain⟨rfl,hv6⟩:=hr;have HY:=Lib.hid (HK.out l' hadd);obtain⟨x',rfl,hx'⟩:=Ol (uX hx1 hadd);clear hadd;go_wp2_with fail;go_roundw
     case rel=>exact⟨q+1,x',by go_num,by omega,hb6,hv6,hx',HY.out⟩
     case measure=>simp [intOf];omega
  ·obtain rfl:q=n:=by omega
   have HX:Hid (R=.ok x):=by
    have:=HS.out;rw [List.drop_of_length_le (by rw [HN.out];exact Nat.le_refl _)] at this;exact this
   have k0:wr.cell? ⟨w.heap.size+1,0,none⟩=some (.string ⟨x.toArray⟩):=Vp.cell (j:=0) (by simp);go_wp2_with fail;go_returns;refine⟨hBw,?_⟩;rw [HX.out];exact⟨rfl,hxr⟩
def jP (w:World) (A:Option Addr) (a:ak):Prop:=∀ i,(h:i<a.length)->∃ b o,A=some ⟨b,o,none⟩/\b<w.heap.size/\∃ r c',w.cell? ⟨b,o+i,none⟩=some (.slice (some ⟨r,0,none⟩) a[i].length c')/\r<w.heap.size/\∀ j,(hj:j<a[i].length)->w.cell? ⟨r,j,none⟩=some (S a[i][j])
theorem jP.below {w w':World} {A:Option Addr} {a:ak} (h:jP w A a) (hb:Below w.heap.size w w'):jP w' A a:=by
 intro i hi;obtain⟨b,o,hA,hlt,r,c',h1,h2,h3⟩:=h i hi;exact⟨b,o,hA,Nat.lt_of_lt_of_le hlt hb.size,r,c',(hb.cell (p:=⟨b,_,none⟩) hlt).trans h1,Nat.lt_of_lt_of_le h2 hb.size,fun j hj=>(hb.cell (p:=⟨r,_,none⟩) h2).trans (h3 j hj)⟩
def iM (n:Nat) (a:ak):Prop:=a.length=n/\∀ r∈a,dK n r
theorem Li {k:Int} {v l:Vec} {a:ak} {q:Nat} (hq:q<v.length) (ha:q<a.length):lU k (v.drop q) (a.drop q) l=bi (lT k v[q] (a[q].drop 0) 0 l) (lU k (v.drop (q+1)) (a.drop (q+1))):=by
 rw [List.drop_eq_getElem_cons hq,List.drop_eq_getElem_cons ha]
 rfl
theorem Lh {k:Int} {x:Bs} {row l:Vec} {p:Nat} (hp:p<row.length):lT k x (row.drop p) p l=if x=aF k\/row[p]=aF k then lT k x (row.drop (p+1)) (p+1) l else bi (fK k l p x row[p]) (lT k x (row.drop (p+1)) (p+1)):=by
 rw [List.drop_eq_getElem_cons hp]
 rfl
theorem LZ (m:aQ) (A:Option Addr) (c bv cv cs:Nat) (v:Vec) (AS:Addr) (a:ak) (w:World) (hn1:1<=m.states.length) (hn2:m.states.length<=3000) (hv:aZ w bv v) (UH:dK m.states.length v) (hS:jP w (some AS) a) (ha:iM m.states.length a) :
  Calls Tryz.prog 64 #[di m A c,.slice (some ⟨bv,0,none⟩) m.states.length cv,.slice (some AS) m.states.length cs] w (sP w m.states.length (lU m.kind v a (eT m))):=by
 have pZ:=fun W=>wu m A c W hn1 hn2
 have hzn:=wR m;obtain⟨R,hR⟩:∃ R,lU m.kind v a (eT m)=R:=⟨_,rfl⟩;rw [hR];have HR:=Lib.hid hR.symm;clear hR;generalize eT m=Z at *;unfold di S at *;obtain⟨kd,st,ld,ss⟩:=m;simp only at *;generalize (⟨ld.toArray⟩:ByteArray)=Ld at *;have hbv:=hv.lt;have Z8:=Lib.hid hv;have HMt:=Lib.hid hS;generalize ss.length=n at *;obtain⟨zk,U5⟩:∃ zk:ByteArray,(⟨(aF kd).toArray⟩:ByteArray)=zk:=⟨_,rfl⟩;have Ua:aF kd=zk.data.toList:=by rw [<-U5]
 have p0:∀ W,Calls Tryz.prog 34 #[.int .i64 kd] W fun e w'=>e=.returned (.string zk)/\w'=W:=fun W=>by
  have:=o9 kd W;unfold S at this;rw [U5] at this;exact this.mono fun e w' h=>⟨h.1,h.2.symm⟩
 have HZK:=Lib.hid Ua;clear hv hS U5 Ua;have z0:=az w #[.int .i64 kd,.int .i64 st,.string Ld,.slice A n c] 30 0 _ rfl;have z1:=az w #[.int .i64 kd,.int .i64 st,.string Ld,.slice A n c] 30 1 _ rfl;have z2:=az w #[.int .i64 kd,.int .i64 st,.string Ld,.slice A n c] 30 2 _ rfl;have z3:=az w #[.int .i64 kd,.int .i64 st,.string Ld,.slice A n c] 30 3 _ rfl;have hb0:Below w.heap.size w (w.alloc (.cells #[.int .i64 kd,.int .i64 st,.string Ld,.slice A n c] 30)):=(Below.refl _ _).alloc (Nat.le_refl _) _;have hn0:w.heap.size<(w.alloc (.cells #[.int .i64 kd,.int .i64 st,.string Ld,.slice A n c] 30)).heap.size:=by simp
 have hnil:∀ W:World,(binOp .eql 108 (.slice (some AS) n cs) (.slice none 0 0)).run Tryz.prog W=.ok (.bool false) W:=fun W=>run_eql_slice_nil (P:=Tryz.prog) W 108 22 (some AS) n cs Tryz.underlying108
 go_enter Tryz.func64,Tryz.ntmps64;go_wp2_with fail;generalize w.alloc (.cells #[.int .i64 kd,.int .i64 st,.string Ld,.slice A n c] 30)=w0 at *;refine (pZ _).mono ?_;rintro e w1 ⟨bl,rfl,Vq,hbl,hb1⟩;have q0:=(hb1.cell (p:=⟨w.heap.size,0,none⟩) hn0).trans z0;have hnb:w.heap.size<bl:=Nat.lt_of_lt_of_le hn0 hbl;have hbw:=ae hb0 hb1;clear z0 z1 z2 z3 pZ;go_wp2_with fail
 go_loopw [9] (fun i wr=>∃ (q:Nat) (l:Vec),i=.int .i64 q/\q<=n/\Below bl w1 wr/\aZ wr bl l/\dK n l/\Hid (R=lU kd (v.drop q) (a.drop q) l)) (fun i _=>n-(intOf i).toNat)
 case atStart=>exact⟨0,Z,rfl,by omega,Below.refl _ _,Vq,hzn,HR.out⟩
 case round =>
  obtain⟨q,l,rfl,hq,hBr,Vp,hlr,VQ⟩:=hrel;by_cases hlt:q<n
  ·have U4:q<v.length:=by rw [UH.1];exact hlt
   have VM:q<a.length:=by rw [ha.1];exact hlt
   have HD:=Lib.hid (VQ.out.trans (Li U4 VM));have hxl:=UH.2 _ (List.getElem_mem U4);have Vo:=Z8.out.cell U4;obtain⟨bs,os,Yj,hbs,br,cr,hr0,hr1,hr2⟩:=HMt.out q VM;have hrn:=ha.2 _ (List.getElem_mem VM);obtain rfl:=Option.some.inj Yj;rw [hrn.1] at hr0;have Yf:=Lib.hid hr2;generalize a[q]=row at *;obtain⟨X,hX⟩:∃ X:ByteArray,(⟨v[q].toArray⟩:ByteArray)=X:=⟨_,rfl⟩;have UB:v[q]=X.data.toList:=by rw [<-hX]
   unfold S at Vo;rw [hX] at Vo;rw [UB] at HD hxl;have Vm:X.size<=802:=by rw [Lib.size_eq];exact hxl
   have i0:(0:Int)<=(q:Int):=by omega
   have il:(q:Int)<(n:Int):=by omega
   obtain⟨F,hF⟩:∃ F,lU kd (v.drop (q+1)) (a.drop (q+1))=F:=⟨_,rfl⟩;have HF:=Lib.hid hF;rw [hF] at HD;clear hX UB hxl hF hr2 Yj VQ;go_wp2_with fail
   go_loopw [10] (fun i wr=>∃ (j:Nat) (l:Vec),i=.int .i64 j/\j<=n/\Below bl w1 wr/\aZ wr bl l/\dK n l/\Hid (R=bi (lT kd X.data.toList (row.drop j) j l) F)) (fun i _=>n-(intOf i).toNat)
   case atStart=>exact⟨0,l,rfl,by omega,hBr,Vp,hlr,HD.out⟩
   case round =>
    clear hlr HD hBr Vp;obtain⟨j,l,rfl,hj,T9,XG,hln,HJ⟩:=hrel;have hBw:Below w.heap.size w wr:=hbw.trans (T9.mono (Nat.le_of_lt hnb));have m0:=(T9.cell (p:=⟨w.heap.size,0,none⟩) hnb).trans q0;have mv:=(hBw.cell (p:=⟨bv,q,none⟩) hbv).trans Vo;have ms:=(hBw.cell (p:=⟨bs,os+q,none⟩) hbs).trans hr0;by_cases hjl:j<n
    ·have hjr:j<row.length:=by rw [hrn.1];exact hjl
     have HD:=Lib.hid (HJ.out.trans (congrArg (fun z=>bi z F) (Lh hjr)));have hyl:=hrn.2 _ (List.getElem_mem hjr);have Wi:=Yf.out j hjr;obtain⟨Y,hY⟩:∃ Y:ByteArray,(⟨row[j].toArray⟩:ByteArray)=Y:=⟨_,rfl⟩;have hYd:row[j]=Y.data.toList:=by rw [<-hY]
     unfold S at Wi;rw [hY] at Wi;rw [hYd,HZK.out] at HD;rw [hYd] at hyl;have hYs:Y.size<=802:=by rw [Lib.size_eq];exact hyl
     have my:=(hBw.cell (p:=⟨br,j,none⟩) hr1).trans Wi;have ij0:(0:Int)<=(j:Int):=by omega
     have ijl:(j:Int)<(n:Int):=by omega
     clear hY hYd hyl;by_cases hx:X.data.toList=zk.data.toList
     ·have t1:=str_eq hx
      have HS:Hid (R=bi (lT kd X.data.toList (row.drop (j+1)) (j+1) l) F):=by rw [Hid,HD.out,if_pos (Or.inl hx)]
      clear HD hx HJ;go_wp2_with fail
      go_quiet (first|(go_at_call 34;with_reducible exact Calls.quiet_of_same (p0 _)))
      go_wp2_with fail;go_roundw
      case rel=>exact⟨j+1,l,by go_num,by omega,lh T9 _,XG,hln,HS.out⟩
      case measure=>simp [intOf];omega
     ·have t1:=qB hx
      by_cases hy:Y.data.toList=zk.data.toList
      ·have t2:=str_eq hy
       have HS:Hid (R=bi (lT kd X.data.toList (row.drop (j+1)) (j+1) l) F):=by rw [Hid,HD.out,if_pos (Or.inr hy)]
       clear HD hx hy HJ;go_wp2_with fail
       go_quiet (first|(go_at_call 34;with_reducible exact Calls.quiet_of_same (p0 _)))
       go_wp2_with fail;go_roundw
       case rel=>exact⟨j+1,l,by go_num,by omega,lh T9 _,XG,hln,HS.out⟩
       case measure=>simp [intOf];omega
      ·have t2:=qB hy
       have HD2:=Lib.hid (HD.out.trans (congrArg (fun z=>bi z F) (if_neg (by rintro (h|h);exact hx h;exact hy h))));have pA:∀ W,aZ W bl l->Calls Tryz.prog 88 #[.int .i64 kd,.slice (some ⟨bl,0,none⟩) n n,.int .i64 j,.string X,.string Y] W (pz W bl (fK kd l j X.data.toList Y.data.toList)):=by
        intro W hW;have:=uy kd bl n l j X Y W hW (by omega) (by rw [hln.1];exact ijl) Vm hYs (hln.get _);rw [hln.1] at this;exact this
       have HE:Hid (∀ e,fK kd l j X.data.toList Y.data.toList=.error e->R=.error e):=fun e he=>by rw [HD2.out,xq he];rfl
       have HK:Hid (∀ l',fK kd l j X.data.toList Y.data.toList=.ok l'->R=bi (lT kd X.data.toList (row.drop (j+1)) (j+1) l') F):=fun l' he=>by rw [HD2.out,xu he]
       clear HD HD2 hx hy HJ;go_wp2_with fail
       go_quiet (first|(go_at_call 34;with_reducible exact Calls.quiet_of_same (p0 _)))
       go_wp2_with fail;have TS:Below bl w1 (wr.drewN nq):=lh T9 _;have hv5:aZ (wr.drewN nq) bl l:=XG;have x0:(wr.drewN nq).cell? ⟨w.heap.size,0,none⟩=some (.int .i64 kd):=m0;have x1:(wr.drewN nq).cell? ⟨bv,q,none⟩=some (.string X):=mv;have x2:(wr.drewN nq).cell? ⟨bs,os+q,none⟩=some (.slice (some ⟨br,0,none⟩) n cr):=ms;have x3:(wr.drewN nq).cell? ⟨br,j,none⟩=some (.string Y):=my;clear m0 mv ms my T9 XG hBw;generalize wr.drewN nq=w5 at *
       go_still_tail 15,(by kernel_rfl)
       change wpList _ _ _ _ _ w5.drew;go_wp2_with fail;have hvd:aZ w5.drew bl l:=hv5;refine (pA _ hvd).mono ?_;rintro e w6 ⟨hu,hr⟩;have hb6:Below bl w1 w6:=TS.drew.trans (hu.low bl (Nat.le_refl _) (Nat.le_of_lt hv5.lt))
       cases hadd:fK kd l j X.data.toList Y.data.toList with
       | error e' =>
        rw [hadd] at hr;obtain⟨rfl,hne⟩:=hr;have HX:=Lib.hid (HE.out e' hadd);have t9:((e':Int) != 0)=true:=by simpa using hne
        have U6:=Lib.hid hne;clear hadd hne;go_wp2_with fail;go_returns;refine⟨hbw.trans (hb6.mono (Nat.le_of_lt hnb)),?_⟩;rw [HX.out];exact⟨rfl,U6.out⟩
       | ok l' =>
        rw [hadd] at hr;obtain⟨rfl,hv6⟩:=hr;have HX:=Lib.hid (HK.out l' hadd);have hl6:=uX hln hadd;clear hadd;go_wp2_with fail;go_roundw
        case rel=>exact⟨j+1,l',by go_num,by omega,hb6,hv6,hl6,HX.out⟩
        case measure=>simp [intOf];omega
    ·obtain rfl:j=n:=by omega
     have HX:Hid (R=lU kd (v.drop (q+1)) (a.drop (q+1)) l):=by
      have:=HJ.out;rw [List.drop_of_length_le (by rw [hrn.1];exact Nat.le_refl _)] at this;rw [Hid,HF.out,this];rfl
     go_wp2_with fail;go_roundw
     case rel=>exact⟨q+1,l,by go_num,by omega,T9,XG,hln,HX.out⟩
     case measure=>simp [intOf];omega
  ·obtain rfl:q=n:=by omega
   have HX:Hid (R=.ok l):=by
    have:=VQ.out;rw [List.drop_of_length_le (by rw [UH.1];exact Nat.le_refl _)] at this;exact this
   go_wp2_with fail;go_returns;refine⟨hbw.trans (hBr.mono (Nat.le_of_lt hnb)),?_⟩;rw [HX.out];exact⟨bl,rfl,Vp,Nat.le_of_lt hnb,hlr⟩
theorem LY (m:aQ) (A:Option Addr) (c bv cv:Nat) (v:Vec) (w:World) (hv:aZ w bv v) (UH:dK m.states.length v) :
  Calls Tryz.prog 64 #[di m A c,.slice (some ⟨bv,0,none⟩) m.states.length cv,.slice none 0 0] w fun e w'=>e=.returned (.tuple #[.slice (some ⟨bv,0,none⟩) m.states.length cv,.int .i64 0])/\Below w.heap.size w w':=by
 unfold di S;generalize (⟨m.lead.toArray⟩:ByteArray)=Ld;generalize m.states.length=n at *;have hb0:Below w.heap.size w (w.alloc (.cells #[.int .i64 m.kind,.int .i64 m.start,.string Ld,.slice A n c] 30)):=(Below.refl _ _).alloc (Nat.le_refl _) _;have hnil:∀ W:World,(binOp .eql 108 (.slice none 0 0) (.slice none 0 0)).run Tryz.prog W=.ok (.bool true) W:=fun W=>run_eql_slice_nil (P:=Tryz.prog) W 108 22 none 0 0 Tryz.underlying108
 go_enter Tryz.func64,Tryz.ntmps64;go_wp2_with fail;go_returns;exact⟨rfl,hb0⟩
end Go.Proofs.YtppnecgeboonbaaGreatDoor
