/- Walks of layer 22: Eliminate, whole (written by wip/eg.py). -/
import Derived.Test.YtppnecgeboonbaaGreatDoorZ41
import Derived.Test.YtppnecgeboonbaaGreatDoorZ42
namespace Go.Proofs.YtppnecgeboonbaaGreatDoor
set_option maxRecDepth 100000
set_option linter.unusedVariables false
set_option maxHeartbeats 16000000
open Go Go.RowKit Go.Maps
def pQ (w:World) (r:aQ × Nat) (e:Ending) (w':World):Prop:=∃ A c,e=.returned (.tuple #[di r.1 A c,.int .i64 (r.2:Int)])/\dY w' A r.1.states/\Below w.heap.size w w'
theorem mq:∀ (ds:List Nat) (w:World) (p:Addr) (v:Value),(∀ d∈ds,w.heap[d]? = some (.deferred (some [])))->w.cell? p=some v->(kQ ds w).cell? p=some v/\p.block ∉ ds:=by
 intro ds w p v hd hv;have hn:p.block ∉ ds:=fun h=>by
  have:=hd _ h;unfold World.cell? at hv;rw [this] at hv
  cases hv
 exact⟨by rw [World.cell?_of_block (zU ds w p.block hn)];exact hv,hn⟩
theorem NH {ds:List Nat} {w:World} {A:Option Addr} {l:List bI} (hd:∀ d∈ds,w.heap[d]? = some (.deferred (some []))) (h:dY w A l):dY (kQ ds w) A l:=by
 have hs:(kQ ds w).heap.size=w.heap.size:=by
  clear hd h
  induction ds generalizing w with
  | nil=>rfl
  | cons d r ih=>rw [kQ,ih];simp
 intro k hk;obtain⟨b,o,hA,hlt,h0,A',c',h1,h2⟩:=h k hk;refine⟨b,o,hA,by rw [hs];exact hlt,(mq ds w _ _ hd h0).1,A',c',(mq ds w _ _ hd h1).1,fun j hj=>?_⟩;obtain⟨b2,o2,hA2,hlt2,g0,g1,g2,g3⟩:=h2 j hj;exact⟨b2,o2,hA2,by rw [hs];exact hlt2,(mq ds w _ _ hd g0).1,(mq ds w _ _ hd g1).1,(mq ds w _ _ hd g2).1,(mq ds w _ _ hd g3).1⟩
theorem zV {ds:List Nat} {w0 w:World} (h:Below w0.heap.size w0 w) (hd:∀ d∈ds,w0.heap.size<=d):Below w0.heap.size w0 (kQ ds w):=h.trans (zT ds w hd)
theorem DJ {w:World} {A:Option Addr} {n cf:Nat} {xs:List Value} (h:w.ownsRow 0 9 1 (.slice A n cf) n xs):ay w A xs:=by
 intro hne;have hp:0<n:=by
  rcases Nat.eq_zero_or_pos n with e|e
  ·have:=h.1
   rw [e,Nat.zero_mul] at this;exact absurd (List.length_eq_zero_iff.1 this) hne
  ·exact e
 obtain⟨g,cap,hv,hlt,hc⟩:=vV h hp;simp only [Value.slice.injEq] at hv;exact⟨g,0,hv.1,hlt,fun j u hj=>by rw [Nat.zero_add];exact hc j u hj⟩
theorem BK {m:aQ} {t:List Bs} {w W:World} {tmps:Array Value} {ds:List Nat} {k s r:Int} {L:ByteArray} {A2:Option Addr} {n cp:Nat} (hdd:∀ d∈ds,W.heap[d]? = some (.deferred (some []))/\w.heap.size<=d) (hdn:ds.Nodup)
  (h4:W.heap[w.heap.size+1]? = some (.cells #[.int .i64 k,.int .i64 s,.string L,.slice A2 n cp] 30 (0,0))) (ht4:tmps[4]?.getD undef=.pointer (some ⟨w.heap.size+1,0,none⟩)) (Xb:tmps[5]?.getD undef=.int .i64 r)
  (hR:∀ Z,Z=kQ ds W->pQ w (jd m t) (.returned (.tuple #[.agg #[.int .i64 k,.int .i64 s,.string L,.slice A2 n cp],.int .i64 r])) Z) :
  NoPanic (bodyPostM Fence.wide 6 Tryz.prog Tryz.f13 (pQ w (jd m t))) .ret { tmps:=tmps,defers:=qi ds } W:=by
 show LeavesInM Fence.wide 6 Tryz.prog Tryz.f13 tmps (pQ w (jd m t)) (qi ds) .returning W;refine Bo ds W (fun d hd=>(hdd d hd).1) hdn ?_;have c0:W.cell? ⟨w.heap.size+1,0,none⟩=some (.int .i64 k):=by rw [cell_of_row W _ 0 _ _ _ h4];rfl
 have c1:W.cell? ⟨w.heap.size+1,1,none⟩=some (.int .i64 s):=by rw [cell_of_row W _ 1 _ _ _ h4];rfl
 have c2:W.cell? ⟨w.heap.size+1,2,none⟩=some (.string L):=by rw [cell_of_row W _ 2 _ _ _ h4];rfl
 have c3:W.cell? ⟨w.heap.size+1,3,none⟩=some (.slice A2 n cp):=by rw [cell_of_row W _ 3 _ _ _ h4];rfl
 have e0:=(mq ds W _ _ (fun d hd=>(hdd d hd).1) c0).1;have e1:=(mq ds W _ _ (fun d hd=>(hdd d hd).1) c1).1;have e2:=(mq ds W _ _ (fun d hd=>(hdd d hd).1) c2).1;have e3:=(mq ds W _ _ (fun d hd=>(hdd d hd).1) c3).1;have hR2:=hR _ rfl;generalize kQ ds W=Z at *;show ∃ v,(results Tryz.f13 tmps).run Tryz.prog Z=.ok v Z/\pQ w (jd m t) (.returned v) Z;refine⟨_,?_,hR2⟩;simp [results,Tryz.results13,ht4,Xb,e0,e1,e2,e3,go_sem]
theorem AP {m:aQ} {t:List Bs} {w W:World} {tmps:Array Value} {r:Nat} (hx:jd m t=(rz,r)) (hb:Below w.heap.size w W) (h4:W.heap[w.heap.size+1]? = some (.cells #[.int .i64 0,.int .i64 0,.string ⟨#[]⟩,.slice none 0 0] 30 (0,0)))
  (ht4:tmps[4]?.getD undef=.pointer (some ⟨w.heap.size+1,0,none⟩)) (Xb:tmps[5]?.getD undef=.int .i64 (r:Int)) :
  NoPanic (bodyPostM Fence.wide 6 Tryz.prog Tryz.f13 (pQ w (jd m t))) .ret { tmps:=tmps,defers:=[] } (((((W.setCell ⟨w.heap.size+1,0,none⟩ (.int .i64 0)).setCell ⟨w.heap.size+1,1,none⟩ (.int .i64 0)).setCell ⟨w.heap.size+1,2,none⟩ (.string ⟨#[]⟩)).setCell ⟨w.heap.size+1,3,none⟩ (.slice none 0 0))):=by
 have hC:aB (fun b=>b=w.heap.size+1) W (((((W.setCell ⟨w.heap.size+1,0,none⟩ (.int .i64 0)).setCell ⟨w.heap.size+1,1,none⟩ (.int .i64 0)).setCell ⟨w.heap.size+1,2,none⟩ (.string ⟨#[]⟩)).setCell ⟨w.heap.size+1,3,none⟩ (.slice none 0 0))):=(((dP W _ 0 _).trans (dP _ _ 1 _) fun b _ e=>e).trans (dP _ _ 2 _) fun b _ e=>e).trans (dP _ _ 3 _) fun b _ e=>e
 have hz:=dO (dO (dO (dO h4 0 (.int .i64 0) rfl) 1 (.int .i64 0) rfl) 2 (.string ⟨#[]⟩) rfl) 3 (.slice none 0 0) rfl;have hB:Below w.heap.size w (((((W.setCell ⟨w.heap.size+1,0,none⟩ (.int .i64 0)).setCell ⟨w.heap.size+1,1,none⟩ (.int .i64 0)).setCell ⟨w.heap.size+1,2,none⟩ (.string ⟨#[]⟩)).setCell ⟨w.heap.size+1,3,none⟩ (.slice none 0 0))):=lq hb hC (Nat.le_refl _) (fun b hb e=>by omega);generalize ((((W.setCell ⟨w.heap.size+1,0,none⟩ (.int .i64 0)).setCell ⟨w.heap.size+1,1,none⟩ (.int .i64 0)).setCell ⟨w.heap.size+1,2,none⟩ (.string ⟨#[]⟩)).setCell ⟨w.heap.size+1,3,none⟩ (.slice none 0 0))=Z at *;have c0:Z.cell? ⟨w.heap.size+1,0,none⟩=some (.int .i64 0):=by rw [cell_of_row Z _ 0 _ _ _ hz];rfl
 have c1:Z.cell? ⟨w.heap.size+1,1,none⟩=some (.int .i64 0):=by rw [cell_of_row Z _ 1 _ _ _ hz];rfl
 have c2:Z.cell? ⟨w.heap.size+1,2,none⟩=some (.string ⟨#[]⟩):=by rw [cell_of_row Z _ 2 _ _ _ hz];rfl
 have c3:Z.cell? ⟨w.heap.size+1,3,none⟩=some (.slice none 0 0):=by rw [cell_of_row Z _ 3 _ _ _ hz];rfl
 show ∃ v,(results Tryz.f13 tmps).run Tryz.prog Z=.ok v Z/\pQ w (jd m t) (.returned v) Z;refine⟨.tuple #[.agg #[.int .i64 0,.int .i64 0,.string ⟨#[]⟩,.slice none 0 0],.int .i64 (r:Int)],?_,?_⟩
 ·simp [results,Tryz.results13,ht4,Xb,c0,c1,c2,c3,go_sem]
 ·rw [hx]
  exact⟨none,0,rfl,fun k hk=>absurd hk (Nat.not_lt_zero _),hB⟩
theorem G6 (m:aQ) (A At:Option Addr) (c ct:Nat) (t:List Bs) (w:World) (hT:fD w) (hS:dY w A m.states) (hV:ay w At (t.map S)) (hl:m.states.length<=140737488355328) (Uu:m.lead.length<=9223372036854775807) (hsw:oH 9223372036854775807 m.states) :
  Calls Tryz.prog 13 #[di m A c,.slice At t.length ct] w (pQ w (jd m t)):=by
 obtain⟨Ld,TJ⟩:∃ Z,S m.lead=.string Z:=⟨_,rfl⟩;have hmv:di m A c=.agg #[.int .i64 m.kind,.int .i64 m.start,.string Ld,.slice A m.states.length c]:=by unfold di;rw [TJ]
 rw [hmv];have HMV:=Lib.hid hmv;have HS:=Lib.hid hS;have HV:=Lib.hid hV;have HSW:=Lib.hid hsw;clear hmv hS hV hsw;obtain⟨w1,hw1⟩:∃ w1,w1=(w.alloc (.cells #[.int .i64 m.kind,.int .i64 m.start,.string Ld,.slice A m.states.length c] 30)).alloc (.cells #[.int .i64 0,.int .i64 0,.string ⟨#[]⟩,.slice none 0 0] 30):=⟨_,rfl⟩;have hb1:Below w.heap.size w w1:=by rw [hw1];exact ((Below.refl _ _).alloc (Nat.le_refl _) _).alloc (by simp) _
 have hs1:w1.heap.size=w.heap.size+2:=by rw [hw1];simp
 have h2:w1.heap[w.heap.size]? = some (.cells #[.int .i64 m.kind,.int .i64 m.start,.string Ld,.slice A m.states.length c] 30 (0,0)):=by rw [hw1,heap_alloc_old _ _ (by simp)];exact heap_alloc_new w _
 have h4:w1.heap[w.heap.size+1]? = some (.cells #[.int .i64 0,.int .i64 0,.string ⟨#[]⟩,.slice none 0 0] 30 (0,0)):=by
  have:=heap_alloc_new (w.alloc (.cells #[.int .i64 m.kind,.int .i64 m.start,.string Ld,.slice A m.states.length c] 30)) (.cells #[.int .i64 0,.int .i64 0,.string ⟨#[]⟩,.slice none 0 0] 30);rw [World.size_alloc] at this;rw [hw1];exact this
 have pM:=IZ m A c w1 (hT.r.below hb1) (HS.out.below hb1) hl Uu HSW.out;rw [HMV.out] at pM;have pT:=fun W (hb:Below w.heap.size w W)=>Er At ct t W (hT.t.below hb) (HV.out.below hb)
 refine callsIn_wide.1 (callsIn_of_wp_marks (n:=6) Tryz.func13 rfl trivial ?_ rfl);simp only [Tryz.ntmps13,List.size_toArray,List.length_cons,List.length_nil,Nat.reduceAdd,Nat.reduceSub,Array.replicate_succ,Array.replicate_zero,List.push_toArray,List.append_toArray,List.nil_append,List.cons_append];refine wpIn_wide.2 (Code.wp_mono NoPanic.imp ?_);have hz:∀ W3,Below w1.heap.size w1 W3->(W3.cell? ⟨w.heap.size+1,0,none⟩=some (.int .i64 0)/\W3.cell? ⟨w.heap.size+1,1,none⟩=some (.int .i64 0)/\W3.cell? ⟨w.heap.size+1,2,none⟩=some (.string ⟨#[]⟩)/\W3.cell? ⟨w.heap.size+1,3,none⟩=some (.slice none 0 0))/\∀ o,W3.frozen? ⟨w.heap.size+1,o,none⟩=false:=by
  intro W3 hb;have h43:=(hb.block (w.heap.size+1) (by omega)).trans h4;refine⟨⟨?_,?_,?_,?_⟩,fun o=>?_⟩
  ·rw [cell_of_row W3 _ 0 _ _ _ h43];rfl
  ·rw [cell_of_row W3 _ 1 _ _ _ h43];rfl
  ·rw [cell_of_row W3 _ 2 _ _ _ h43];rfl
  ·rw [cell_of_row W3 _ 3 _ _ _ h43];rfl
  ·unfold World.frozen?;rw [h43];simp
 have m0:w1.cell? ⟨w.heap.size,0,none⟩=some (.int .i64 m.kind):=by rw [cell_of_row w1 _ 0 _ _ _ h2];rfl
 have m1:w1.cell? ⟨w.heap.size,1,none⟩=some (.int .i64 m.start):=by rw [cell_of_row w1 _ 1 _ _ _ h2];rfl
 have m2:w1.cell? ⟨w.heap.size,2,none⟩=some (.string Ld):=by rw [cell_of_row w1 _ 2 _ _ _ h2];rfl
 have m3:w1.cell? ⟨w.heap.size,3,none⟩=some (.slice A m.states.length c):=by rw [cell_of_row w1 _ 3 _ _ _ h2];rfl
 go_upto_region 1 with (fail)
 rw [<-hw1];have HZ:=Lib.hid hz;have H2:=Lib.hid h2;have H4:=Lib.hid h4;have HW1:=Lib.hid hw1;clear hz h2 h4 hw1
 cases hmk:bM m with
 | false =>
  have HX:Hid (jd m t=(rz,1)):=by unfold Hid jd;rw [hmk,if_neg (by simp)]
  rw [hmk] at pM;clear pT hmk;go_wp2_with (first|(go_at_call 39;refine pM.mono ?_;rintro e w3 ⟨rfl,hb3⟩;obtain⟨⟨z0,z1,z2,z3⟩,fz⟩:=HZ.out w3 hb3;have f0:=fz 0;have f1:=fz 1;have f2:=fz 2;have f3:=fz 3;clear fz));exact AP HX.out (ae hb1 hb3) ((hb3.block (w.heap.size+1) (by omega)).trans H4.out) rfl rfl
 | true =>
  cases htk:l7 t with
  | false =>
   have HX:Hid (jd m t=(rz,1)):=by unfold Hid jd;rw [hmk,htk,if_neg (by simp)]
   rw [hmk] at pM;rw [htk] at pT;clear hmk htk
   go_wp2_with (first
    | (go_at_call 39;refine pM.mono ?_;rintro e w3 ⟨rfl,hb3⟩;have pT3:=pT w3 (ae hb1 hb3))
    | (go_at_call 40;refine pT3.mono ?_;rintro e w4 ⟨rfl,hb4⟩;obtain⟨⟨z0,z1,z2,z3⟩,fz⟩:=HZ.out w4 (ae hb3 hb4);have f0:=fz 0;have f1:=fz 1;have f2:=fz 2;have f3:=fz 3;clear fz))
   exact AP HX.out (ae (ae hb1 hb3) hb4) (((ae hb3 hb4).block (w.heap.size+1) (by omega)).trans H4.out) rfl rfl
  | true =>
   rw [hmk] at pM;rw [htk] at pT;have Xb:t.length<=500:=by unfold l7 at htk;simp at htk;exact htk.1.1
   have HMK:=Lib.hid hmk;have Um:=Lib.hid htk;have hmm1:∀ W:World,(Instr.makeMap 68 none).run Tryz.prog W=.ok (.map (some W.heap.size)) (W.alloc (.map #[] 0)):=fun _=>rfl
   have hmm2:∀ W:World,(Instr.makeMap 72 none).run Tryz.prog W=.ok (.map (some W.heap.size)) (W.alloc (.map #[] 0)):=fun _=>rfl
   clear hmk htk
   go_upto_region 3 with (first
    | (go_at_call 39;refine pM.mono ?_;rintro e w3 ⟨rfl,hb3⟩;have pT3:=pT w3 (ae hb1 hb3))
    | (go_at_call 40;refine pT3.mono ?_;rintro e w4 ⟨rfl,hb4⟩))
   have TR:=ae hb3 hb4;have k0:=(TR.cell (p:=⟨w.heap.size,0,none⟩) (ax m0)).trans m0;have k1:=(TR.cell (p:=⟨w.heap.size,1,none⟩) (ax m1)).trans m1;have k2:=(TR.cell (p:=⟨w.heap.size,2,none⟩) (ax m2)).trans m2;have k3:=(TR.cell (p:=⟨w.heap.size,3,none⟩) (ax m3)).trans m3;have aB6:Below w.heap.size w w4:=ae hb1 TR;have Zy:=Lib.hid TR;clear pT3 pM pT hb3 hb4 TR m0 m1 m2 m3;have mk:∀ W',Below w4.heap.size w4 W'->(W'.cell? ⟨w.heap.size,0,none⟩=some (.int .i64 m.kind)/\W'.cell? ⟨w.heap.size,1,none⟩=some (.int .i64 m.start)/\W'.cell? ⟨w.heap.size,2,none⟩=some (.string Ld)/\W'.cell? ⟨w.heap.size,3,none⟩=some (.slice A m.states.length c)/\Below w4.heap.size w4 W'):=fun W' hb =>
    ⟨(hb.cell (p:=⟨w.heap.size,0,none⟩) (ax k0)).trans k0,(hb.cell (p:=⟨w.heap.size,1,none⟩) (ax k1)).trans k1,(hb.cell (p:=⟨w.heap.size,2,none⟩) (ax k2)).trans k2,(hb.cell (p:=⟨w.heap.size,3,none⟩) (ax k3)).trans k3,hb⟩
   have z0:=mk _ (Below.refl w4.heap.size w4);have kD:∀ W',(W'.cell? ⟨w.heap.size,0,none⟩=some (.int .i64 m.kind)/\W'.cell? ⟨w.heap.size,1,none⟩=some (.int .i64 m.start)/\W'.cell? ⟨w.heap.size,2,none⟩=some (.string Ld)/\W'.cell? ⟨w.heap.size,3,none⟩=some (.slice A m.states.length c)/\Below w4.heap.size w4 W')->_:=fun W' h=>mk _ h.2.2.2.2.drew
   have kA:=fun W' (o:Obj) (h:(W'.cell? ⟨w.heap.size,0,none⟩=some (.int .i64 m.kind)/\W'.cell? ⟨w.heap.size,1,none⟩=some (.int .i64 m.start)/\W'.cell? ⟨w.heap.size,2,none⟩=some (.string Ld)/\W'.cell? ⟨w.heap.size,3,none⟩=some (.slice A m.states.length c)/\Below w4.heap.size w4 W'))=>mk _ (h.2.2.2.2.alloc h.2.2.2.2.size o)
   have kC:=fun W' (a:Addr) u (ha:w4.heap.size<=a.block) (h:(W'.cell? ⟨w.heap.size,0,none⟩=some (.int .i64 m.kind)/\W'.cell? ⟨w.heap.size,1,none⟩=some (.int .i64 m.start)/\W'.cell? ⟨w.heap.size,2,none⟩=some (.string Ld)/\W'.cell? ⟨w.heap.size,3,none⟩=some (.slice A m.states.length c)/\Below w4.heap.size w4 W'))=>mk _ (h.2.2.2.2.setCell ha u)
   have kB:=fun W' W2 (h:(W'.cell? ⟨w.heap.size,0,none⟩=some (.int .i64 m.kind)/\W'.cell? ⟨w.heap.size,1,none⟩=some (.int .i64 m.start)/\W'.cell? ⟨w.heap.size,2,none⟩=some (.string Ld)/\W'.cell? ⟨w.heap.size,3,none⟩=some (.slice A m.states.length c)/\Below w4.heap.size w4 W')) (hb:Below W'.heap.size W' W2)=>mk _ (ae h.2.2.2.2 hb)
   have pF:=fun W' (h:(W'.cell? ⟨w.heap.size,0,none⟩=some (.int .i64 m.kind)/\W'.cell? ⟨w.heap.size,1,none⟩=some (.int .i64 m.start)/\W'.cell? ⟨w.heap.size,2,none⟩=some (.string Ld)/\W'.cell? ⟨w.heap.size,3,none⟩=some (.slice A m.states.length c)/\Below w4.heap.size w4 W'))=>AZ At ct t W' ((hT.below aB6).below h.2.2.2.2) ((HV.out.below aB6).below h.2.2.2.2) Xb
   clear k0 k1 k2 k3;go_cut [6] from 28 to 33 (fun p wx=>∃ b6 X fb nb,p=.pointer (some ⟨b6,0,none⟩)/\wx.heap[b6]? = some (.cells #[.pointer (some ⟨X,0,none⟩)] 64 (0,0))/\wx.heap[X]? = some (.cells (aW ⟨m.kind,m.start,Ld,A,m.states.length,c,fb,nb,.slice none 0 0⟩ (.slice none 0 0)) 71 (0,0))/\ji wx fb (dW t 0 [])/\kJ wx nb []/\(w4.heap.size<=b6/\w4.heap.size<=X/\w4.heap.size<=fb/\w4.heap.size<=nb)/\[b6,X,fb,nb].Nodup/\Below w4.heap.size w4 wx)
   case first =>
    refine zh 7 (fun W'=>W'.cell? ⟨w.heap.size,0,none⟩=some (.int .i64 m.kind)/\W'.cell? ⟨w.heap.size,1,none⟩=some (.int .i64 m.start)/\W'.cell? ⟨w.heap.size,2,none⟩=some (.string Ld)/\W'.cell? ⟨w.heap.size,3,none⟩=some (.slice A m.states.length c)/\Below w4.heap.size w4 W') (by kernel_rfl) ?_;have hS:=mk _ (Below.refl w4.heap.size w4).drew;obtain⟨W0,hw0⟩:∃ X,X=w4.drew:=⟨_,rfl⟩;have hz0:w4.heap.size<=W0.heap.size:=by rw [hw0];exact Nat.le_refl _
    rw [<-hw0] at hS ⊢;clear hw0;refine takeB 0 ?_
    try simp only [qO]
    refine takeB 1 ?_
    try simp only [qO]
    refine dw [2,3,6] (by kernel_rfl) (by simp) ?_;refine bL 2 rfl (fun K hK=>?_) ?_
    ·rw [if_pos (by rfl)]
     go_simp
     refine (pF _ hS).mono ?_;rintro e W1 ⟨fb,rfl,hF,WN,hb⟩;go_wp2_with fail;replace hS:=mk _ (ae hS.2.2.2.2 hb);refine hK.out _ _ (fun _=>hS) ?_;clear hK K
     try simp only [qO]
     have hfl:=hF.lt;have hz1:=hb.size;refine dw [3,6] (by kernel_rfl) (by simp) ?_;refine bL 3 rfl (fun K hK=>?_) ?_
     ·rw [if_pos (by rfl)]
      go_simp
      have hb:Below W1.heap.size W1 (W1.alloc (.map #[] 0)):=(Below.refl _ _).alloc (Nat.le_refl _) _;have hz:(W1.alloc (.map #[] 0)).heap.size=W1.heap.size+1:=by simp
      replace hF:=hF.below hb;have hN:kJ (W1.alloc (.map #[] 0)) W1.heap.size []:=bN.new W1;replace hS:=mk _ (ae hS.2.2.2.2 hb);refine hK.out _ _ (fun _=>hS) ?_;clear hK K
      try simp only [qO]
      obtain⟨W2,hw2⟩:∃ X,X=W1.alloc (.map #[] 0):=⟨_,rfl⟩;rw [<-hw2] at hb hz hS hF hN ⊢;clear hw2;have hz2:W1.heap.size<W2.heap.size:=by omega
      clear hz;refine takeB 4 ?_
      try simp only [qO]
      refine dw [5,6] (by kernel_rfl) (by simp) ?_;refine bL 5 rfl (fun K hK=>?_) ?_
      ·rw [if_pos (by rfl)]
       go_simp
       have hb:Below W2.heap.size W2 (W2.alloc (.cells (aW ⟨m.kind,m.start,Ld,A,m.states.length,c,fb,W1.heap.size,.slice none 0 0⟩ (.slice none 0 0)) 71)):=(Below.refl _ _).alloc (Nat.le_refl _) _;have hz:(W2.alloc (.cells (aW ⟨m.kind,m.start,Ld,A,m.states.length,c,fb,W1.heap.size,.slice none 0 0⟩ (.slice none 0 0)) 71)).heap.size=W2.heap.size+1:=by simp
       replace hF:=hF.below hb;replace hN:=hN.below hb;have h5:=heap_alloc_new W2 (.cells (aW ⟨m.kind,m.start,Ld,A,m.states.length,c,fb,W1.heap.size,.slice none 0 0⟩ (.slice none 0 0)) 71);replace hS:=mk _ (ae hS.2.2.2.2 hb);refine hK.out _ _ (fun _=>hS) ?_;clear hK K
       try simp only [qO]
       obtain⟨W3,hw3⟩:∃ X,X=W2.alloc (.cells (aW ⟨m.kind,m.start,Ld,A,m.states.length,c,fb,W1.heap.size,.slice none 0 0⟩ (.slice none 0 0)) 71):=⟨_,rfl⟩;show wpAnyS _ _ _ _ _ _ _ _ _ (W2.alloc (.cells (aW ⟨m.kind,m.start,Ld,A,m.states.length,c,fb,W1.heap.size,.slice none 0 0⟩ (.slice none 0 0)) 71));rw [<-hw3] at hb hz hS h5 hF hN ⊢;clear hw3;have hz3:W2.heap.size<W3.heap.size:=by omega
       clear hz;refine dw [6] (by kernel_rfl) (by simp) ?_;refine bL 6 rfl (fun K hK=>?_) ?_
       ·rw [if_pos (by rfl)]
        go_simp
        have hb:Below W3.heap.size W3 (W3.alloc (.cells #[.pointer none] 64)):=(Below.refl _ _).alloc (Nat.le_refl _) _;have hz:(W3.alloc (.cells #[.pointer none] 64)).heap.size=W3.heap.size+1:=by simp
        replace h5:=(hb.block _ (lt_of_block h5)).trans h5;replace hF:=hF.below hb;replace hN:=hN.below hb;have h6:=heap_alloc_new W3 (.cells #[.pointer none] 64);replace hS:=mk _ (ae hS.2.2.2.2 hb);refine hK.out _ _ (fun _=>hS) ?_;clear hK K
        try simp only [qO]
        obtain⟨W4,hw4⟩:∃ X,X=W3.alloc (.cells #[.pointer none] 64):=⟨_,rfl⟩;rw [<-hw4] at hb hz hS h6 h5 hF hN ⊢;clear hw4;have Zj:W3.heap.size<W4.heap.size:=by omega
        clear hz;refine dw [7] (by kernel_rfl) (by simp) ?_;refine bL 7 rfl (fun K hK=>?_) bS.nil;rw [if_pos (by rfl)];have q6:W4.cell? ⟨W3.heap.size,0,none⟩=some (.pointer none):=by rw [cell_of_row W4 _ 0 _ _ _ h6];rfl
        have f6:W4.frozen? ⟨W3.heap.size,0,none⟩=false:=by unfold World.frozen?;rw [h6];simp
        go_simp
        refine hK.out _ _ (fun h=>by cases h) ?_;clear hK K q6 f6;refine l8 (by kernel_rfl) ?_ _;have hC:=dP W4 W3.heap.size 0 (.pointer (some ⟨W2.heap.size,0,none⟩));have l2:=hF.lt;have l3:=hN.lt;have l5:=lt_of_block h5;have l6:=lt_of_block h6;have r6:=dO h6 0 (.pointer (some ⟨W2.heap.size,0,none⟩)) rfl;have r5:=(hC.block _ l5 (by omega)).trans h5;have rF:=hF.same (hC.block _ l2 (by omega));have rN:=hN.same (hC.block _ l3 (by omega));have rB:Below w4.heap.size w4 (W4.setCell ⟨W3.heap.size,0,none⟩ (.pointer (some ⟨W2.heap.size,0,none⟩))):=hS.2.2.2.2.setCell (p:=⟨W3.heap.size,0,none⟩) (by show w4.heap.size<=W3.heap.size;omega) _;have hnd:[W3.heap.size,W2.heap.size,fb,W1.heap.size].Nodup:=by simp only [List.nodup_cons,List.mem_cons,List.not_mem_nil,or_false,not_or,not_false_eq_true,List.nodup_nil,and_true];refine⟨⟨?_,?_,?_⟩,⟨?_,?_⟩,?_⟩ <;> omega
        go_wp2_with fail
        go_meet
        exact⟨_,_,_,_,rfl,r6,r5,rF,rN,⟨by omega,by omega,by omega,by omega⟩,hnd,rB⟩
       exact bS.nil
      refine bL 6 rfl (fun K hK=>?_) ?_
      ·rw [if_pos (by rfl)]
       go_simp
       have hb:Below W2.heap.size W2 (W2.alloc (.cells #[.pointer none] 64)):=(Below.refl _ _).alloc (Nat.le_refl _) _;have hz:(W2.alloc (.cells #[.pointer none] 64)).heap.size=W2.heap.size+1:=by simp
       replace hF:=hF.below hb;replace hN:=hN.below hb;have h6:=heap_alloc_new W2 (.cells #[.pointer none] 64);replace hS:=mk _ (ae hS.2.2.2.2 hb);refine hK.out _ _ (fun _=>hS) ?_;clear hK K
       try simp only [qO]
       obtain⟨W3,hw3⟩:∃ X,X=W2.alloc (.cells #[.pointer none] 64):=⟨_,rfl⟩;rw [<-hw3] at hb hz hS h6 hF hN ⊢;clear hw3;have hz3:W2.heap.size<W3.heap.size:=by omega
       clear hz;refine dw [5] (by kernel_rfl) (by simp) ?_;refine bL 5 rfl (fun K hK=>?_) ?_
       ·rw [if_pos (by rfl)]
        go_simp
        have hb:Below W3.heap.size W3 (W3.alloc (.cells (aW ⟨m.kind,m.start,Ld,A,m.states.length,c,fb,W1.heap.size,.slice none 0 0⟩ (.slice none 0 0)) 71)):=(Below.refl _ _).alloc (Nat.le_refl _) _;have hz:(W3.alloc (.cells (aW ⟨m.kind,m.start,Ld,A,m.states.length,c,fb,W1.heap.size,.slice none 0 0⟩ (.slice none 0 0)) 71)).heap.size=W3.heap.size+1:=by simp
        replace h6:=(hb.block _ (lt_of_block h6)).trans h6;replace hF:=hF.below hb;replace hN:=hN.below hb;have h5:=heap_alloc_new W3 (.cells (aW ⟨m.kind,m.start,Ld,A,m.states.length,c,fb,W1.heap.size,.slice none 0 0⟩ (.slice none 0 0)) 71);replace hS:=mk _ (ae hS.2.2.2.2 hb);refine hK.out _ _ (fun _=>hS) ?_;clear hK K
        try simp only [qO]
        obtain⟨W4,hw4⟩:∃ X,X=W3.alloc (.cells (aW ⟨m.kind,m.start,Ld,A,m.states.length,c,fb,W1.heap.size,.slice none 0 0⟩ (.slice none 0 0)) 71):=⟨_,rfl⟩;show wpAnyS _ _ _ _ _ _ _ _ _ (W3.alloc (.cells (aW ⟨m.kind,m.start,Ld,A,m.states.length,c,fb,W1.heap.size,.slice none 0 0⟩ (.slice none 0 0)) 71));rw [<-hw4] at hb hz hS h6 h5 hF hN ⊢;clear hw4;have Zj:W3.heap.size<W4.heap.size:=by omega
        clear hz;refine dw [7] (by kernel_rfl) (by simp) ?_;refine bL 7 rfl (fun K hK=>?_) bS.nil;rw [if_pos (by rfl)];have q6:W4.cell? ⟨W2.heap.size,0,none⟩=some (.pointer none):=by rw [cell_of_row W4 _ 0 _ _ _ h6];rfl
        have f6:W4.frozen? ⟨W2.heap.size,0,none⟩=false:=by unfold World.frozen?;rw [h6];simp
        go_simp
        refine hK.out _ _ (fun h=>by cases h) ?_;clear hK K q6 f6;refine l8 (by kernel_rfl) ?_ _;have hC:=dP W4 W2.heap.size 0 (.pointer (some ⟨W3.heap.size,0,none⟩));have l2:=hF.lt;have l3:=hN.lt;have l5:=lt_of_block h5;have l6:=lt_of_block h6;have r6:=dO h6 0 (.pointer (some ⟨W3.heap.size,0,none⟩)) rfl;have r5:=(hC.block _ l5 (by omega)).trans h5;have rF:=hF.same (hC.block _ l2 (by omega));have rN:=hN.same (hC.block _ l3 (by omega));have rB:Below w4.heap.size w4 (W4.setCell ⟨W2.heap.size,0,none⟩ (.pointer (some ⟨W3.heap.size,0,none⟩))):=hS.2.2.2.2.setCell (p:=⟨W2.heap.size,0,none⟩) (by show w4.heap.size<=W2.heap.size;omega) _;have hnd:[W2.heap.size,W3.heap.size,fb,W1.heap.size].Nodup:=by simp only [List.nodup_cons,List.mem_cons,List.not_mem_nil,or_false,not_or,not_false_eq_true,List.nodup_nil,and_true];refine⟨⟨?_,?_,?_⟩,⟨?_,?_⟩,?_⟩ <;> omega
        go_wp2_with fail
        go_meet
        exact⟨_,_,_,_,rfl,r6,r5,rF,rN,⟨by omega,by omega,by omega,by omega⟩,hnd,rB⟩
       exact bS.nil
      exact bS.nil
     refine bL 6 rfl (fun K hK=>?_) ?_
     ·rw [if_pos (by rfl)]
      go_simp
      have hb:Below W1.heap.size W1 (W1.alloc (.cells #[.pointer none] 64)):=(Below.refl _ _).alloc (Nat.le_refl _) _;have hz:(W1.alloc (.cells #[.pointer none] 64)).heap.size=W1.heap.size+1:=by simp
      replace hF:=hF.below hb;have h6:=heap_alloc_new W1 (.cells #[.pointer none] 64);replace hS:=mk _ (ae hS.2.2.2.2 hb);refine hK.out _ _ (fun _=>hS) ?_;clear hK K
      try simp only [qO]
      obtain⟨W2,hw2⟩:∃ X,X=W1.alloc (.cells #[.pointer none] 64):=⟨_,rfl⟩;rw [<-hw2] at hb hz hS h6 hF ⊢;clear hw2;have hz2:W1.heap.size<W2.heap.size:=by omega
      clear hz;refine dw [3] (by kernel_rfl) (by simp) ?_;refine bL 3 rfl (fun K hK=>?_) ?_
      ·rw [if_pos (by rfl)]
       go_simp
       have hb:Below W2.heap.size W2 (W2.alloc (.map #[] 0)):=(Below.refl _ _).alloc (Nat.le_refl _) _;have hz:(W2.alloc (.map #[] 0)).heap.size=W2.heap.size+1:=by simp
       replace h6:=(hb.block _ (lt_of_block h6)).trans h6;replace hF:=hF.below hb;have hN:kJ (W2.alloc (.map #[] 0)) W2.heap.size []:=bN.new W2;replace hS:=mk _ (ae hS.2.2.2.2 hb);refine hK.out _ _ (fun _=>hS) ?_;clear hK K
       try simp only [qO]
       obtain⟨W3,hw3⟩:∃ X,X=W2.alloc (.map #[] 0):=⟨_,rfl⟩;rw [<-hw3] at hb hz hS h6 hF hN ⊢;clear hw3;have hz3:W2.heap.size<W3.heap.size:=by omega
       clear hz;refine takeB 4 ?_
       try simp only [qO]
       refine dw [5] (by kernel_rfl) (by simp) ?_;refine bL 5 rfl (fun K hK=>?_) ?_
       ·rw [if_pos (by rfl)]
        go_simp
        have hb:Below W3.heap.size W3 (W3.alloc (.cells (aW ⟨m.kind,m.start,Ld,A,m.states.length,c,fb,W2.heap.size,.slice none 0 0⟩ (.slice none 0 0)) 71)):=(Below.refl _ _).alloc (Nat.le_refl _) _;have hz:(W3.alloc (.cells (aW ⟨m.kind,m.start,Ld,A,m.states.length,c,fb,W2.heap.size,.slice none 0 0⟩ (.slice none 0 0)) 71)).heap.size=W3.heap.size+1:=by simp
        replace h6:=(hb.block _ (lt_of_block h6)).trans h6;replace hF:=hF.below hb;replace hN:=hN.below hb;have h5:=heap_alloc_new W3 (.cells (aW ⟨m.kind,m.start,Ld,A,m.states.length,c,fb,W2.heap.size,.slice none 0 0⟩ (.slice none 0 0)) 71);replace hS:=mk _ (ae hS.2.2.2.2 hb);refine hK.out _ _ (fun _=>hS) ?_;clear hK K
        try simp only [qO]
        obtain⟨W4,hw4⟩:∃ X,X=W3.alloc (.cells (aW ⟨m.kind,m.start,Ld,A,m.states.length,c,fb,W2.heap.size,.slice none 0 0⟩ (.slice none 0 0)) 71):=⟨_,rfl⟩;show wpAnyS _ _ _ _ _ _ _ _ _ (W3.alloc (.cells (aW ⟨m.kind,m.start,Ld,A,m.states.length,c,fb,W2.heap.size,.slice none 0 0⟩ (.slice none 0 0)) 71));rw [<-hw4] at hb hz hS h6 h5 hF hN ⊢;clear hw4;have Zj:W3.heap.size<W4.heap.size:=by omega
        clear hz;refine dw [7] (by kernel_rfl) (by simp) ?_;refine bL 7 rfl (fun K hK=>?_) bS.nil;rw [if_pos (by rfl)];have q6:W4.cell? ⟨W1.heap.size,0,none⟩=some (.pointer none):=by rw [cell_of_row W4 _ 0 _ _ _ h6];rfl
        have f6:W4.frozen? ⟨W1.heap.size,0,none⟩=false:=by unfold World.frozen?;rw [h6];simp
        go_simp
        refine hK.out _ _ (fun h=>by cases h) ?_;clear hK K q6 f6;refine l8 (by kernel_rfl) ?_ _;have hC:=dP W4 W1.heap.size 0 (.pointer (some ⟨W3.heap.size,0,none⟩));have l2:=hF.lt;have l3:=hN.lt;have l5:=lt_of_block h5;have l6:=lt_of_block h6;have r6:=dO h6 0 (.pointer (some ⟨W3.heap.size,0,none⟩)) rfl;have r5:=(hC.block _ l5 (by omega)).trans h5;have rF:=hF.same (hC.block _ l2 (by omega));have rN:=hN.same (hC.block _ l3 (by omega));have rB:Below w4.heap.size w4 (W4.setCell ⟨W1.heap.size,0,none⟩ (.pointer (some ⟨W3.heap.size,0,none⟩))):=hS.2.2.2.2.setCell (p:=⟨W1.heap.size,0,none⟩) (by show w4.heap.size<=W1.heap.size;omega) _;have hnd:[W1.heap.size,W3.heap.size,fb,W2.heap.size].Nodup:=by simp only [List.nodup_cons,List.mem_cons,List.not_mem_nil,or_false,not_or,not_false_eq_true,List.nodup_nil,and_true];refine⟨⟨?_,?_,?_⟩,⟨?_,?_⟩,?_⟩ <;> omega
        go_wp2_with fail
        go_meet
        exact⟨_,_,_,_,rfl,r6,r5,rF,rN,⟨by omega,by omega,by omega,by omega⟩,hnd,rB⟩
       exact bS.nil
      exact bS.nil
     exact bS.nil
    refine bL 3 rfl (fun K hK=>?_) ?_
    ·rw [if_pos (by rfl)]
     go_simp
     have hb:Below W0.heap.size W0 (W0.alloc (.map #[] 0)):=(Below.refl _ _).alloc (Nat.le_refl _) _;have hz:(W0.alloc (.map #[] 0)).heap.size=W0.heap.size+1:=by simp
     have hN:kJ (W0.alloc (.map #[] 0)) W0.heap.size []:=bN.new W0;replace hS:=mk _ (ae hS.2.2.2.2 hb);refine hK.out _ _ (fun _=>hS) ?_;clear hK K
     try simp only [qO]
     obtain⟨W1,hw1⟩:∃ X,X=W0.alloc (.map #[] 0):=⟨_,rfl⟩;rw [<-hw1] at hb hz hS hN ⊢;clear hw1;have hz1:W0.heap.size<W1.heap.size:=by omega
     clear hz;refine dw [2,6] (by kernel_rfl) (by simp) ?_;refine bL 2 rfl (fun K hK=>?_) ?_
     ·rw [if_pos (by rfl)]
      go_simp
      refine (pF _ hS).mono ?_;rintro e W2 ⟨fb,rfl,hF,WN,hb⟩;go_wp2_with fail;replace hN:=hN.below hb;replace hS:=mk _ (ae hS.2.2.2.2 hb);refine hK.out _ _ (fun _=>hS) ?_;clear hK K
      try simp only [qO]
      have hfl:=hF.lt;have hz2:=hb.size;refine takeB 4 ?_
      try simp only [qO]
      refine dw [5,6] (by kernel_rfl) (by simp) ?_;refine bL 5 rfl (fun K hK=>?_) ?_
      ·rw [if_pos (by rfl)]
       go_simp
       have hb:Below W2.heap.size W2 (W2.alloc (.cells (aW ⟨m.kind,m.start,Ld,A,m.states.length,c,fb,W0.heap.size,.slice none 0 0⟩ (.slice none 0 0)) 71)):=(Below.refl _ _).alloc (Nat.le_refl _) _;have hz:(W2.alloc (.cells (aW ⟨m.kind,m.start,Ld,A,m.states.length,c,fb,W0.heap.size,.slice none 0 0⟩ (.slice none 0 0)) 71)).heap.size=W2.heap.size+1:=by simp
       replace hF:=hF.below hb;replace hN:=hN.below hb;have h5:=heap_alloc_new W2 (.cells (aW ⟨m.kind,m.start,Ld,A,m.states.length,c,fb,W0.heap.size,.slice none 0 0⟩ (.slice none 0 0)) 71);replace hS:=mk _ (ae hS.2.2.2.2 hb);refine hK.out _ _ (fun _=>hS) ?_;clear hK K
       try simp only [qO]
       obtain⟨W3,hw3⟩:∃ X,X=W2.alloc (.cells (aW ⟨m.kind,m.start,Ld,A,m.states.length,c,fb,W0.heap.size,.slice none 0 0⟩ (.slice none 0 0)) 71):=⟨_,rfl⟩;show wpAnyS _ _ _ _ _ _ _ _ _ (W2.alloc (.cells (aW ⟨m.kind,m.start,Ld,A,m.states.length,c,fb,W0.heap.size,.slice none 0 0⟩ (.slice none 0 0)) 71));rw [<-hw3] at hb hz hS h5 hF hN ⊢;clear hw3;have hz3:W2.heap.size<W3.heap.size:=by omega
       clear hz;refine dw [6] (by kernel_rfl) (by simp) ?_;refine bL 6 rfl (fun K hK=>?_) ?_
       ·rw [if_pos (by rfl)]
        go_simp
        have hb:Below W3.heap.size W3 (W3.alloc (.cells #[.pointer none] 64)):=(Below.refl _ _).alloc (Nat.le_refl _) _;have hz:(W3.alloc (.cells #[.pointer none] 64)).heap.size=W3.heap.size+1:=by simp
        replace h5:=(hb.block _ (lt_of_block h5)).trans h5;replace hF:=hF.below hb;replace hN:=hN.below hb;have h6:=heap_alloc_new W3 (.cells #[.pointer none] 64);replace hS:=mk _ (ae hS.2.2.2.2 hb);refine hK.out _ _ (fun _=>hS) ?_;clear hK K
        try simp only [qO]
        obtain⟨W4,hw4⟩:∃ X,X=W3.alloc (.cells #[.pointer none] 64):=⟨_,rfl⟩;rw [<-hw4] at hb hz hS h6 h5 hF hN ⊢;clear hw4;have Zj:W3.heap.size<W4.heap.size:=by omega
        clear hz;refine dw [7] (by kernel_rfl) (by simp) ?_;refine bL 7 rfl (fun K hK=>?_) bS.nil;rw [if_pos (by rfl)];have q6:W4.cell? ⟨W3.heap.size,0,none⟩=some (.pointer none):=by rw [cell_of_row W4 _ 0 _ _ _ h6];rfl
        have f6:W4.frozen? ⟨W3.heap.size,0,none⟩=false:=by unfold World.frozen?;rw [h6];simp
        go_simp
        refine hK.out _ _ (fun h=>by cases h) ?_;clear hK K q6 f6;refine l8 (by kernel_rfl) ?_ _;have hC:=dP W4 W3.heap.size 0 (.pointer (some ⟨W2.heap.size,0,none⟩));have l2:=hF.lt;have l3:=hN.lt;have l5:=lt_of_block h5;have l6:=lt_of_block h6;have r6:=dO h6 0 (.pointer (some ⟨W2.heap.size,0,none⟩)) rfl;have r5:=(hC.block _ l5 (by omega)).trans h5;have rF:=hF.same (hC.block _ l2 (by omega));have rN:=hN.same (hC.block _ l3 (by omega));have rB:Below w4.heap.size w4 (W4.setCell ⟨W3.heap.size,0,none⟩ (.pointer (some ⟨W2.heap.size,0,none⟩))):=hS.2.2.2.2.setCell (p:=⟨W3.heap.size,0,none⟩) (by show w4.heap.size<=W3.heap.size;omega) _;have hnd:[W3.heap.size,W2.heap.size,fb,W0.heap.size].Nodup:=by simp only [List.nodup_cons,List.mem_cons,List.not_mem_nil,or_false,not_or,not_false_eq_true,List.nodup_nil,and_true];refine⟨⟨?_,?_,?_⟩,⟨?_,?_⟩,?_⟩ <;> omega
        go_wp2_with fail
        go_meet
        exact⟨_,_,_,_,rfl,r6,r5,rF,rN,⟨by omega,by omega,by omega,by omega⟩,hnd,rB⟩
       exact bS.nil
      refine bL 6 rfl (fun K hK=>?_) ?_
      ·rw [if_pos (by rfl)]
       go_simp
       have hb:Below W2.heap.size W2 (W2.alloc (.cells #[.pointer none] 64)):=(Below.refl _ _).alloc (Nat.le_refl _) _;have hz:(W2.alloc (.cells #[.pointer none] 64)).heap.size=W2.heap.size+1:=by simp
       replace hF:=hF.below hb;replace hN:=hN.below hb;have h6:=heap_alloc_new W2 (.cells #[.pointer none] 64);replace hS:=mk _ (ae hS.2.2.2.2 hb);refine hK.out _ _ (fun _=>hS) ?_;clear hK K
       try simp only [qO]
       obtain⟨W3,hw3⟩:∃ X,X=W2.alloc (.cells #[.pointer none] 64):=⟨_,rfl⟩;rw [<-hw3] at hb hz hS h6 hF hN ⊢;clear hw3;have hz3:W2.heap.size<W3.heap.size:=by omega
       clear hz;refine dw [5] (by kernel_rfl) (by simp) ?_;refine bL 5 rfl (fun K hK=>?_) ?_
       ·rw [if_pos (by rfl)]
        go_simp
        have hb:Below W3.heap.size W3 (W3.alloc (.cells (aW ⟨m.kind,m.start,Ld,A,m.states.length,c,fb,W0.heap.size,.slice none 0 0⟩ (.slice none 0 0)) 71)):=(Below.refl _ _).alloc (Nat.le_refl _) _;have hz:(W3.alloc (.cells (aW ⟨m.kind,m.start,Ld,A,m.states.length,c,fb,W0.heap.size,.slice none 0 0⟩ (.slice none 0 0)) 71)).heap.size=W3.heap.size+1:=by simp
        replace h6:=(hb.block _ (lt_of_block h6)).trans h6;replace hF:=hF.below hb;replace hN:=hN.below hb;have h5:=heap_alloc_new W3 (.cells (aW ⟨m.kind,m.start,Ld,A,m.states.length,c,fb,W0.heap.size,.slice none 0 0⟩ (.slice none 0 0)) 71);replace hS:=mk _ (ae hS.2.2.2.2 hb);refine hK.out _ _ (fun _=>hS) ?_;clear hK K
        try simp only [qO]
        obtain⟨W4,hw4⟩:∃ X,X=W3.alloc (.cells (aW ⟨m.kind,m.start,Ld,A,m.states.length,c,fb,W0.heap.size,.slice none 0 0⟩ (.slice none 0 0)) 71):=⟨_,rfl⟩;show wpAnyS _ _ _ _ _ _ _ _ _ (W3.alloc (.cells (aW ⟨m.kind,m.start,Ld,A,m.states.length,c,fb,W0.heap.size,.slice none 0 0⟩ (.slice none 0 0)) 71));rw [<-hw4] at hb hz hS h6 h5 hF hN ⊢;clear hw4;have Zj:W3.heap.size<W4.heap.size:=by omega
        clear hz;refine dw [7] (by kernel_rfl) (by simp) ?_;refine bL 7 rfl (fun K hK=>?_) bS.nil;rw [if_pos (by rfl)];have q6:W4.cell? ⟨W2.heap.size,0,none⟩=some (.pointer none):=by rw [cell_of_row W4 _ 0 _ _ _ h6];rfl
        have f6:W4.frozen? ⟨W2.heap.size,0,none⟩=false:=by unfold World.frozen?;rw [h6];simp
        go_simp
        refine hK.out _ _ (fun h=>by cases h) ?_;clear hK K q6 f6;refine l8 (by kernel_rfl) ?_ _;have hC:=dP W4 W2.heap.size 0 (.pointer (some ⟨W3.heap.size,0,none⟩));have l2:=hF.lt;have l3:=hN.lt;have l5:=lt_of_block h5;have l6:=lt_of_block h6;have r6:=dO h6 0 (.pointer (some ⟨W3.heap.size,0,none⟩)) rfl;have r5:=(hC.block _ l5 (by omega)).trans h5;have rF:=hF.same (hC.block _ l2 (by omega));have rN:=hN.same (hC.block _ l3 (by omega));have rB:Below w4.heap.size w4 (W4.setCell ⟨W2.heap.size,0,none⟩ (.pointer (some ⟨W3.heap.size,0,none⟩))):=hS.2.2.2.2.setCell (p:=⟨W2.heap.size,0,none⟩) (by show w4.heap.size<=W2.heap.size;omega) _;have hnd:[W2.heap.size,W3.heap.size,fb,W0.heap.size].Nodup:=by simp only [List.nodup_cons,List.mem_cons,List.not_mem_nil,or_false,not_or,not_false_eq_true,List.nodup_nil,and_true];refine⟨⟨?_,?_,?_⟩,⟨?_,?_⟩,?_⟩ <;> omega
        go_wp2_with fail
        go_meet
        exact⟨_,_,_,_,rfl,r6,r5,rF,rN,⟨by omega,by omega,by omega,by omega⟩,hnd,rB⟩
       exact bS.nil
      exact bS.nil
     refine bL 6 rfl (fun K hK=>?_) ?_
     ·rw [if_pos (by rfl)]
      go_simp
      have hb:Below W1.heap.size W1 (W1.alloc (.cells #[.pointer none] 64)):=(Below.refl _ _).alloc (Nat.le_refl _) _;have hz:(W1.alloc (.cells #[.pointer none] 64)).heap.size=W1.heap.size+1:=by simp
      replace hN:=hN.below hb;have h6:=heap_alloc_new W1 (.cells #[.pointer none] 64);replace hS:=mk _ (ae hS.2.2.2.2 hb);refine hK.out _ _ (fun _=>hS) ?_;clear hK K
      try simp only [qO]
      obtain⟨W2,hw2⟩:∃ X,X=W1.alloc (.cells #[.pointer none] 64):=⟨_,rfl⟩;rw [<-hw2] at hb hz hS h6 hN ⊢;clear hw2;have hz2:W1.heap.size<W2.heap.size:=by omega
      clear hz;refine dw [2] (by kernel_rfl) (by simp) ?_;refine bL 2 rfl (fun K hK=>?_) ?_
      ·rw [if_pos (by rfl)]
       go_simp
       refine (pF _ hS).mono ?_;rintro e W3 ⟨fb,rfl,hF,WN,hb⟩;go_wp2_with fail;replace h6:=(hb.block _ (lt_of_block h6)).trans h6;replace hN:=hN.below hb;replace hS:=mk _ (ae hS.2.2.2.2 hb);refine hK.out _ _ (fun _=>hS) ?_;clear hK K
       try simp only [qO]
       have hfl:=hF.lt;have hz3:=hb.size;refine takeB 4 ?_
       try simp only [qO]
       refine dw [5] (by kernel_rfl) (by simp) ?_;refine bL 5 rfl (fun K hK=>?_) ?_
       ·rw [if_pos (by rfl)]
        go_simp
        have hb:Below W3.heap.size W3 (W3.alloc (.cells (aW ⟨m.kind,m.start,Ld,A,m.states.length,c,fb,W0.heap.size,.slice none 0 0⟩ (.slice none 0 0)) 71)):=(Below.refl _ _).alloc (Nat.le_refl _) _;have hz:(W3.alloc (.cells (aW ⟨m.kind,m.start,Ld,A,m.states.length,c,fb,W0.heap.size,.slice none 0 0⟩ (.slice none 0 0)) 71)).heap.size=W3.heap.size+1:=by simp
        replace h6:=(hb.block _ (lt_of_block h6)).trans h6;replace hF:=hF.below hb;replace hN:=hN.below hb;have h5:=heap_alloc_new W3 (.cells (aW ⟨m.kind,m.start,Ld,A,m.states.length,c,fb,W0.heap.size,.slice none 0 0⟩ (.slice none 0 0)) 71);replace hS:=mk _ (ae hS.2.2.2.2 hb);refine hK.out _ _ (fun _=>hS) ?_;clear hK K
        try simp only [qO]
        obtain⟨W4,hw4⟩:∃ X,X=W3.alloc (.cells (aW ⟨m.kind,m.start,Ld,A,m.states.length,c,fb,W0.heap.size,.slice none 0 0⟩ (.slice none 0 0)) 71):=⟨_,rfl⟩;show wpAnyS _ _ _ _ _ _ _ _ _ (W3.alloc (.cells (aW ⟨m.kind,m.start,Ld,A,m.states.length,c,fb,W0.heap.size,.slice none 0 0⟩ (.slice none 0 0)) 71));rw [<-hw4] at hb hz hS h6 h5 hF hN ⊢;clear hw4;have Zj:W3.heap.size<W4.heap.size:=by omega
        clear hz;refine dw [7] (by kernel_rfl) (by simp) ?_;refine bL 7 rfl (fun K hK=>?_) bS.nil;rw [if_pos (by rfl)];have q6:W4.cell? ⟨W1.heap.size,0,none⟩=some (.pointer none):=by rw [cell_of_row W4 _ 0 _ _ _ h6];rfl
        have f6:W4.frozen? ⟨W1.heap.size,0,none⟩=false:=by unfold World.frozen?;rw [h6];simp
        go_simp
        refine hK.out _ _ (fun h=>by cases h) ?_;clear hK K q6 f6;refine l8 (by kernel_rfl) ?_ _;have hC:=dP W4 W1.heap.size 0 (.pointer (some ⟨W3.heap.size,0,none⟩));have l2:=hF.lt;have l3:=hN.lt;have l5:=lt_of_block h5;have l6:=lt_of_block h6;have r6:=dO h6 0 (.pointer (some ⟨W3.heap.size,0,none⟩)) rfl;have r5:=(hC.block _ l5 (by omega)).trans h5;have rF:=hF.same (hC.block _ l2 (by omega));have rN:=hN.same (hC.block _ l3 (by omega));have rB:Below w4.heap.size w4 (W4.setCell ⟨W1.heap.size,0,none⟩ (.pointer (some ⟨W3.heap.size,0,none⟩))):=hS.2.2.2.2.setCell (p:=⟨W1.heap.size,0,none⟩) (by show w4.heap.size<=W1.heap.size;omega) _;have hnd:[W1.heap.size,W3.heap.size,fb,W0.heap.size].Nodup:=by simp only [List.nodup_cons,List.mem_cons,List.not_mem_nil,or_false,not_or,not_false_eq_true,List.nodup_nil,and_true];refine⟨⟨?_,?_,?_⟩,⟨?_,?_⟩,?_⟩ <;> omega
        go_wp2_with fail
        go_meet
        exact⟨_,_,_,_,rfl,r6,r5,rF,rN,⟨by omega,by omega,by omega,by omega⟩,hnd,rB⟩
       exact bS.nil
      exact bS.nil
     exact bS.nil
    refine bL 6 rfl (fun K hK=>?_) ?_
    ·rw [if_pos (by rfl)]
     go_simp
     have hb:Below W0.heap.size W0 (W0.alloc (.cells #[.pointer none] 64)):=(Below.refl _ _).alloc (Nat.le_refl _) _;have hz:(W0.alloc (.cells #[.pointer none] 64)).heap.size=W0.heap.size+1:=by simp
     have h6:=heap_alloc_new W0 (.cells #[.pointer none] 64);replace hS:=mk _ (ae hS.2.2.2.2 hb);refine hK.out _ _ (fun _=>hS) ?_;clear hK K
     try simp only [qO]
     obtain⟨W1,hw1⟩:∃ X,X=W0.alloc (.cells #[.pointer none] 64):=⟨_,rfl⟩;rw [<-hw1] at hb hz hS h6 ⊢;clear hw1;have hz1:W0.heap.size<W1.heap.size:=by omega
     clear hz;refine dw [2,3] (by kernel_rfl) (by simp) ?_;refine bL 2 rfl (fun K hK=>?_) ?_
     ·rw [if_pos (by rfl)]
      go_simp
      refine (pF _ hS).mono ?_;rintro e W2 ⟨fb,rfl,hF,WN,hb⟩;go_wp2_with fail;replace h6:=(hb.block _ (lt_of_block h6)).trans h6;replace hS:=mk _ (ae hS.2.2.2.2 hb);refine hK.out _ _ (fun _=>hS) ?_;clear hK K
      try simp only [qO]
      have hfl:=hF.lt;have hz2:=hb.size;refine dw [3] (by kernel_rfl) (by simp) ?_;refine bL 3 rfl (fun K hK=>?_) ?_
      ·rw [if_pos (by rfl)]
       go_simp
       have hb:Below W2.heap.size W2 (W2.alloc (.map #[] 0)):=(Below.refl _ _).alloc (Nat.le_refl _) _;have hz:(W2.alloc (.map #[] 0)).heap.size=W2.heap.size+1:=by simp
       replace h6:=(hb.block _ (lt_of_block h6)).trans h6;replace hF:=hF.below hb;have hN:kJ (W2.alloc (.map #[] 0)) W2.heap.size []:=bN.new W2;replace hS:=mk _ (ae hS.2.2.2.2 hb);refine hK.out _ _ (fun _=>hS) ?_;clear hK K
       try simp only [qO]
       obtain⟨W3,hw3⟩:∃ X,X=W2.alloc (.map #[] 0):=⟨_,rfl⟩;rw [<-hw3] at hb hz hS h6 hF hN ⊢;clear hw3;have hz3:W2.heap.size<W3.heap.size:=by omega
       clear hz;refine takeB 4 ?_
       try simp only [qO]
       refine dw [5] (by kernel_rfl) (by simp) ?_;refine bL 5 rfl (fun K hK=>?_) ?_
       ·rw [if_pos (by rfl)]
        go_simp
        have hb:Below W3.heap.size W3 (W3.alloc (.cells (aW ⟨m.kind,m.start,Ld,A,m.states.length,c,fb,W2.heap.size,.slice none 0 0⟩ (.slice none 0 0)) 71)):=(Below.refl _ _).alloc (Nat.le_refl _) _;have hz:(W3.alloc (.cells (aW ⟨m.kind,m.start,Ld,A,m.states.length,c,fb,W2.heap.size,.slice none 0 0⟩ (.slice none 0 0)) 71)).heap.size=W3.heap.size+1:=by simp
        replace h6:=(hb.block _ (lt_of_block h6)).trans h6;replace hF:=hF.below hb;replace hN:=hN.below hb;have h5:=heap_alloc_new W3 (.cells (aW ⟨m.kind,m.start,Ld,A,m.states.length,c,fb,W2.heap.size,.slice none 0 0⟩ (.slice none 0 0)) 71);replace hS:=mk _ (ae hS.2.2.2.2 hb);refine hK.out _ _ (fun _=>hS) ?_;clear hK K
        try simp only [qO]
        obtain⟨W4,hw4⟩:∃ X,X=W3.alloc (.cells (aW ⟨m.kind,m.start,Ld,A,m.states.length,c,fb,W2.heap.size,.slice none 0 0⟩ (.slice none 0 0)) 71):=⟨_,rfl⟩;show wpAnyS _ _ _ _ _ _ _ _ _ (W3.alloc (.cells (aW ⟨m.kind,m.start,Ld,A,m.states.length,c,fb,W2.heap.size,.slice none 0 0⟩ (.slice none 0 0)) 71));rw [<-hw4] at hb hz hS h6 h5 hF hN ⊢;clear hw4;have Zj:W3.heap.size<W4.heap.size:=by omega
        clear hz;refine dw [7] (by kernel_rfl) (by simp) ?_;refine bL 7 rfl (fun K hK=>?_) bS.nil;rw [if_pos (by rfl)];have q6:W4.cell? ⟨W0.heap.size,0,none⟩=some (.pointer none):=by rw [cell_of_row W4 _ 0 _ _ _ h6];rfl
        have f6:W4.frozen? ⟨W0.heap.size,0,none⟩=false:=by unfold World.frozen?;rw [h6];simp
        go_simp
        refine hK.out _ _ (fun h=>by cases h) ?_;clear hK K q6 f6;refine l8 (by kernel_rfl) ?_ _;have hC:=dP W4 W0.heap.size 0 (.pointer (some ⟨W3.heap.size,0,none⟩));have l2:=hF.lt;have l3:=hN.lt;have l5:=lt_of_block h5;have l6:=lt_of_block h6;have r6:=dO h6 0 (.pointer (some ⟨W3.heap.size,0,none⟩)) rfl;have r5:=(hC.block _ l5 (by omega)).trans h5;have rF:=hF.same (hC.block _ l2 (by omega));have rN:=hN.same (hC.block _ l3 (by omega));have rB:Below w4.heap.size w4 (W4.setCell ⟨W0.heap.size,0,none⟩ (.pointer (some ⟨W3.heap.size,0,none⟩))):=hS.2.2.2.2.setCell (p:=⟨W0.heap.size,0,none⟩) (by show w4.heap.size<=W0.heap.size;omega) _;have hnd:[W0.heap.size,W3.heap.size,fb,W2.heap.size].Nodup:=by simp only [List.nodup_cons,List.mem_cons,List.not_mem_nil,or_false,not_or,not_false_eq_true,List.nodup_nil,and_true];refine⟨⟨?_,?_,?_⟩,⟨?_,?_⟩,?_⟩ <;> omega
        go_wp2_with fail
        go_meet
        exact⟨_,_,_,_,rfl,r6,r5,rF,rN,⟨by omega,by omega,by omega,by omega⟩,hnd,rB⟩
       exact bS.nil
      exact bS.nil
     refine bL 3 rfl (fun K hK=>?_) ?_
     ·rw [if_pos (by rfl)]
      go_simp
      have hb:Below W1.heap.size W1 (W1.alloc (.map #[] 0)):=(Below.refl _ _).alloc (Nat.le_refl _) _;have hz:(W1.alloc (.map #[] 0)).heap.size=W1.heap.size+1:=by simp
      replace h6:=(hb.block _ (lt_of_block h6)).trans h6;have hN:kJ (W1.alloc (.map #[] 0)) W1.heap.size []:=bN.new W1;replace hS:=mk _ (ae hS.2.2.2.2 hb);refine hK.out _ _ (fun _=>hS) ?_;clear hK K
      try simp only [qO]
      obtain⟨W2,hw2⟩:∃ X,X=W1.alloc (.map #[] 0):=⟨_,rfl⟩;rw [<-hw2] at hb hz hS h6 hN ⊢;clear hw2;have hz2:W1.heap.size<W2.heap.size:=by omega
      clear hz;refine dw [2] (by kernel_rfl) (by simp) ?_;refine bL 2 rfl (fun K hK=>?_) ?_
      ·rw [if_pos (by rfl)]
       go_simp
       refine (pF _ hS).mono ?_;rintro e W3 ⟨fb,rfl,hF,WN,hb⟩;go_wp2_with fail;replace h6:=(hb.block _ (lt_of_block h6)).trans h6;replace hN:=hN.below hb;replace hS:=mk _ (ae hS.2.2.2.2 hb);refine hK.out _ _ (fun _=>hS) ?_;clear hK K
       try simp only [qO]
       have hfl:=hF.lt;have hz3:=hb.size;refine takeB 4 ?_
       try simp only [qO]
       refine dw [5] (by kernel_rfl) (by simp) ?_;refine bL 5 rfl (fun K hK=>?_) ?_
       ·rw [if_pos (by rfl)]
        go_simp
        have hb:Below W3.heap.size W3 (W3.alloc (.cells (aW ⟨m.kind,m.start,Ld,A,m.states.length,c,fb,W1.heap.size,.slice none 0 0⟩ (.slice none 0 0)) 71)):=(Below.refl _ _).alloc (Nat.le_refl _) _;have hz:(W3.alloc (.cells (aW ⟨m.kind,m.start,Ld,A,m.states.length,c,fb,W1.heap.size,.slice none 0 0⟩ (.slice none 0 0)) 71)).heap.size=W3.heap.size+1:=by simp
        replace h6:=(hb.block _ (lt_of_block h6)).trans h6;replace hF:=hF.below hb;replace hN:=hN.below hb;have h5:=heap_alloc_new W3 (.cells (aW ⟨m.kind,m.start,Ld,A,m.states.length,c,fb,W1.heap.size,.slice none 0 0⟩ (.slice none 0 0)) 71);replace hS:=mk _ (ae hS.2.2.2.2 hb);refine hK.out _ _ (fun _=>hS) ?_;clear hK K
        try simp only [qO]
        obtain⟨W4,hw4⟩:∃ X,X=W3.alloc (.cells (aW ⟨m.kind,m.start,Ld,A,m.states.length,c,fb,W1.heap.size,.slice none 0 0⟩ (.slice none 0 0)) 71):=⟨_,rfl⟩;show wpAnyS _ _ _ _ _ _ _ _ _ (W3.alloc (.cells (aW ⟨m.kind,m.start,Ld,A,m.states.length,c,fb,W1.heap.size,.slice none 0 0⟩ (.slice none 0 0)) 71));rw [<-hw4] at hb hz hS h6 h5 hF hN ⊢;clear hw4;have Zj:W3.heap.size<W4.heap.size:=by omega
        clear hz;refine dw [7] (by kernel_rfl) (by simp) ?_;refine bL 7 rfl (fun K hK=>?_) bS.nil;rw [if_pos (by rfl)];have q6:W4.cell? ⟨W0.heap.size,0,none⟩=some (.pointer none):=by rw [cell_of_row W4 _ 0 _ _ _ h6];rfl
        have f6:W4.frozen? ⟨W0.heap.size,0,none⟩=false:=by unfold World.frozen?;rw [h6];simp
        go_simp
        refine hK.out _ _ (fun h=>by cases h) ?_;clear hK K q6 f6;refine l8 (by kernel_rfl) ?_ _;have hC:=dP W4 W0.heap.size 0 (.pointer (some ⟨W3.heap.size,0,none⟩));have l2:=hF.lt;have l3:=hN.lt;have l5:=lt_of_block h5;have l6:=lt_of_block h6;have r6:=dO h6 0 (.pointer (some ⟨W3.heap.size,0,none⟩)) rfl;have r5:=(hC.block _ l5 (by omega)).trans h5;have rF:=hF.same (hC.block _ l2 (by omega));have rN:=hN.same (hC.block _ l3 (by omega));have rB:Below w4.heap.size w4 (W4.setCell ⟨W0.heap.size,0,none⟩ (.pointer (some ⟨W3.heap.size,0,none⟩))):=hS.2.2.2.2.setCell (p:=⟨W0.heap.size,0,none⟩) (by show w4.heap.size<=W0.heap.size;omega) _;have hnd:[W0.heap.size,W3.heap.size,fb,W1.heap.size].Nodup:=by simp only [List.nodup_cons,List.mem_cons,List.not_mem_nil,or_false,not_or,not_false_eq_true,List.nodup_nil,and_true];refine⟨⟨?_,?_,?_⟩,⟨?_,?_⟩,?_⟩ <;> omega
        go_wp2_with fail
        go_meet
        exact⟨_,_,_,_,rfl,r6,r5,rF,rN,⟨by omega,by omega,by omega,by omega⟩,hnd,rB⟩
       exact bS.nil
      exact bS.nil
     exact bS.nil
    exact bS.nil
   case rest =>
    obtain⟨b6,X,fb,nb,rfl,g6,gX,gF,gN,hlo,hnd,hb5⟩:=hcut;have hbc:=ae Zy.out hb5;have hb0c:=ae hb1 hbc;have hst:=kV.1 HMK.out;have d2:=(hbc.block w.heap.size (by omega)).trans H2.out;have d4:=(hbc.block (w.heap.size+1) (by omega)).trans H4.out;have hs4:w.heap.size+2<=w4.heap.size:=by have:=Zy.out.size;omega
    clear mk z0 kD kA kC kB pF;obtain⟨D,hD⟩:∃ D:dH,D=⟨m.kind,m.start,Ld,A,m.states.length,c,fb,nb,.slice none 0 0⟩:=⟨_,rfl⟩;have WN:D.fb=fb:=by rw [hD]
    have hnb:D.nb=nb:=by rw [hD]
    obtain⟨W1,hW1⟩:∃ W1,W1=wc.alloc (.map #[] 0):=⟨_,rfl⟩;have bA:Below wc.heap.size wc W1:=by rw [hW1];exact (Below.refl _ _).alloc (Nat.le_refl _) _
    have l6:=lt_of_block g6;have lX:=lt_of_block gX;have lF:=gF.lt;have lN:=gN.lt;have hF:iL t W1 W1 X b6 wc.heap.size D (.slice none 0 0) []:=by
     refine⟨aB.refl _ _,(bA.block _ l6).trans g6,?_,World.ownsRow_nil _ _ _ _,?_,?_,?_,?_,fun g hg=>by simp [Value.ownBlock] at hg⟩
     ·rw [show ({ D with fv:=.slice none 0 0 }:dH)=⟨m.kind,m.start,Ld,A,m.states.length,c,fb,nb,.slice none 0 0⟩ by rw [hD]]
      exact (bA.block _ lX).trans gX
     ·rw [hW1];exact bN.new wc
     ·rw [WN];exact gF.below bA
     ·rw [hnb];exact gN.below bA
     ·rw [WN,hnb]
      simp only [List.nodup_cons,List.mem_cons,List.not_mem_nil,or_false,not_or,not_false_eq_true,List.nodup_nil,and_true] at hnd ⊢;omega
    have e3:W1.cell? ⟨w.heap.size,3,none⟩=some (.slice A m.states.length c):=by rw [cell_of_row W1 _ 3 _ _ _ ((bA.block _ (lt_of_block d2)).trans d2)];rfl
    have aB5:=ae hb0c bA;have d2':=(bA.block _ (lt_of_block d2)).trans d2;have d4':=(bA.block _ (lt_of_block d4)).trans d4;have HF:=Lib.hid hF;have HND:=Lib.hid hnd;clear hF g6 gX gF gN d2 d4 hnd;go_upto_region 5 with (fail)
    rw [<-hW1];clear hW1;go_wp2_with fail;refine Ho t m A c w W1 X w.heap.size b6 wc.heap.size D HS.out aB5 ⟨by omega,by omega⟩ HF.out Xb (fun s hs a ha=>⟨(mh.1 ((pg.1 (hst.2.2.2.1 s hs)).2 a ha)).1,(mh.1 ((pg.1 (hst.2.2.2.1 s hs)).2 a ha)).2.1⟩) hst.2.1.2.1 hst.2.2.2.2 _ _ _ _ _ _ _ _ _ _ _ _ _ _ _ _ _ _ _ _ _ _ _ _ _ _ _ _ _ _ _ _ _ _ _ _ _ _ _ _ _ _ _ _ _ _ _ _ _ _ _ _ _ _ _ _ _ _ _ _ _ _ _ _ _ _ _ _ _ _ _ _ _ _ _ _ _ _ _ _ _ _ _ _ _ _ _ _ _ _ _ _ _ _ _ _ _ _ _ _ _ _ _ _ _ _ _ _ _ _ _ _ _ _ _ _ _ _ _ _ _ _ _ _ _ _ _ _ _ _ _ _ _ _ _ _ _ _ _ _ _ _ _ _ _ _ _ _ _ _ _ _ _ _ _ _ _ _ _ _ _ _ _ _ _ _ _ _ _ _ ?hq ?hk
    case hq=>exact fun _ _ _ h=>h
    case hk =>
     intro fv z9 z11 z12 z13 z35 z36 z37 z38 z39 z40 z41 z42 z43 z44 z45 z46 z47 z48 z49 z50 z51 z52 z53 z54 z55 z56 z57 z58 z59 z60 z61 z62 z63 z64 z65 z66 z67 z68 z69 z70 z71 z72 z73 z74 z75 z76 z77 z78 z79 z80 z81 W2 hF2
     dsimp only
     obtain⟨fs,hfs⟩:∃ fs,fs=fG t m.states []:=⟨_,rfl⟩;rw [<-hfs] at hF2;obtain⟨Af,cf,rfl⟩:=oZ hF2.own;have hnd:=HND.out;simp only [List.nodup_cons,List.mem_cons,List.not_mem_nil,or_false,not_or,not_false_eq_true,List.nodup_nil,and_true] at hnd;have l2':=lt_of_block d2';have l4':=lt_of_block d4';have d2W:=(hF2.ch.block _ l2' (by omega)).trans d2';have d4W:=(hF2.ch.block _ l4' (by omega)).trans d4';have p0:W2.cell? ⟨w.heap.size,0,none⟩=some (.int .i64 m.kind):=by rw [cell_of_row W2 _ 0 _ _ _ d2W];rfl
     have p2:W2.cell? ⟨w.heap.size,2,none⟩=some (.string Ld):=by rw [cell_of_row W2 _ 2 _ _ _ d2W];rfl
     have q0:W2.cell? ⟨w.heap.size+1,0,none⟩=some (.int .i64 0):=by rw [cell_of_row W2 _ 0 _ _ _ d4W];rfl
     have q1:W2.cell? ⟨w.heap.size+1,1,none⟩=some (.int .i64 0):=by rw [cell_of_row W2 _ 1 _ _ _ d4W];rfl
     have q2:W2.cell? ⟨w.heap.size+1,2,none⟩=some (.string ⟨#[]⟩):=by rw [cell_of_row W2 _ 2 _ _ _ d4W];rfl
     have q3:W2.cell? ⟨w.heap.size+1,3,none⟩=some (.slice none 0 0):=by rw [cell_of_row W2 _ 3 _ _ _ d4W];rfl
     have hfz:∀ o,W2.frozen? ⟨w.heap.size+1,o,none⟩=false:=fun o=>by unfold World.frozen?;rw [d4W];simp
     have f0:=hfz 0;have f1:=hfz 1;have f2:=hfz 2;have f3:=hfz 3;have Ww:aB (fun b=>b=w.heap.size+1) W2 ((((W2.setCell ⟨w.heap.size+1,0,none⟩ (.int .i64 m.kind)).setCell ⟨w.heap.size+1,1,none⟩ (.int .i64 0)).setCell ⟨w.heap.size+1,2,none⟩ (.string Ld)).setCell ⟨w.heap.size+1,3,none⟩ (.slice none 0 0)):=(((dP W2 _ 0 _).trans (dP _ _ 1 _) fun b _ e=>e).trans (dP _ _ 2 _) fun b _ e=>e).trans (dP _ _ 3 _) fun b _ e=>e
     have h43:=dO (dO (dO (dO d4W 0 (.int .i64 m.kind) rfl) 1 (.int .i64 0) rfl) 2 (.string Ld) rfl) 3 (.slice none 0 0) rfl;have aCu:Below w.heap.size w W2:=lq aB5 hF2.ch (Nat.le_refl _) (fun b hb e=>by omega);have Uw:=Lib.hid hF2;have H43:=Lib.hid h43;have VZ:=Lib.hid Ww;clear hfz hF2 h43 Ww;go_upto_region 18 with (fail)
     obtain⟨W3,hW3⟩:∃ W3,W3=((((W2.setCell ⟨w.heap.size+1,0,none⟩ (.int .i64 m.kind)).setCell ⟨w.heap.size+1,1,none⟩ (.int .i64 0)).setCell ⟨w.heap.size+1,2,none⟩ (.string Ld)).setCell ⟨w.heap.size+1,3,none⟩ (.slice none 0 0)):=⟨_,rfl⟩;rw [<-hW3] at H43 VZ ⊢;clear hW3 p0 p2 q0 q1 q2 q3 f0 f1 f2 f3;have hF2:=Uw.out;have Ww:=VZ.out;obtain⟨D2,hD2⟩:∃ D2:dH,D2={ D with fv:=.slice Af fs.length cf }:=⟨_,rfl⟩;have x3:W3.heap[X]? = some (.cells (aW D2 (.slice none 0 0)) 71 (0,0)):=by rw [hD2];exact (Ww.block X (lt_of_block hF2.x) (by omega)).trans hF2.x
     have c63:=(Ww.block b6 (lt_of_block hF2.c6) (by omega)).trans hF2.c6;have d23:=(Ww.block w.heap.size (lt_of_block d2W) (by omega)).trans d2W;have UL:D2.fb=fb:=by rw [hD2];exact WN
     have UG:D2.nb=nb:=by rw [hD2];exact hnb
     have YO:D2.fv=.slice Af fs.length cf:=by rw [hD2]
     have hA2:D2.A=A:=by rw [hD2,hD]
     have hn2:D2.n=m.states.length:=by rw [hD2,hD]
     have fl3:ji W3 D2.fb (dW t 0 []):=by
      have:=hF2.fl;rw [WN] at this;rw [UL];exact this.same (Ww.block fb this.lt (by omega))
     have nm3:kJ W3 D2.nb []:=by
      have:=hF2.nm;rw [hnb] at this;rw [UG];exact this.same (Ww.block nb this.lt (by omega))
     have own3:W3.ownsRow 0 9 1 (.slice Af fs.length cf) fs.length (fs.map S):=eP hF2.own Ww (fun g hg e=>by have:=(hF2.fo g hg).1;omega);have Uq:∀ g,(Value.slice Af fs.length cf).ownBlock=some g->W1.heap.size<=g/\g≠X/\g≠nb:=fun g hg=>by
      obtain⟨g1,g2⟩:=hF2.fo g hg;rw [WN,hnb] at g2;simp only [List.mem_cons,List.not_mem_nil,or_false,not_or] at g2;exact⟨g1,g2.2.1,g2.2.2.2.2⟩
     have aCv:Below w.heap.size w W3:=lq aCu Ww (Nat.le_refl _) (fun b hb e=>by omega);have hE3:jA W3 X 0 D2 (.slice none 0 0) []:=⟨x3,nm3,World.ownsRow_nil _ _ _ _,by rw [UG];omega,fun g hg=>by simp [Value.ownBlock] at hg⟩;have hfok:∀ f∈fs,bz f:=by rw [hfs];exact vF t m.states [] (fun f hf=>absurd hf List.not_mem_nil)
     have aCi:fs.length<=30000:=by
      have:=vG t m.states [];rw [<-hfs] at this;have h2:=hst.2.2.2.2;simp at this;omega
     have hS3:W3.drew.cell? ⟨b6,0,none⟩=some (.pointer (some ⟨X,0,none⟩))/\W3.drew.cell? ⟨w.heap.size,1,none⟩=some (.int .i64 m.start):=⟨by show W3.cell? _=_;rw [cell_of_row W3 b6 0 _ _ _ c63];rfl,by show W3.cell? _=_;rw [cell_of_row W3 _ 1 _ _ _ d23];rfl⟩;have hx5:W3.drew.cell? ⟨X,5,none⟩=some (.slice Af fs.length cf):=(hE3.below (Below.refl _ _).drew).cell 5 _ (by unfold aW;rw [YO];rfl);have pW:=OA X Af cf fs W3.drew (lt_of_block x3) hx5 (DJ (show W3.drew.ownsRow 0 9 1 (.slice Af fs.length cf) fs.length (fs.map S) from own3)) (by omega) hfok;have pV:∀ W,Below W3.heap.size W3 W->Calls Tryz.prog 43 #[.pointer (some ⟨X,0,none⟩),.agg #[.int .i64 m.start,.string ⟨(dE fs []).toArray⟩]] W (sQ X 0 D2 (.slice none 0 0) [] (m.start,dE fs []) W):=fun W hb =>
      ED X 0 D2 (.slice none 0 0) [] (m.start,dE fs []) W (hE3.below hb) (fun p hp=>absurd hp List.not_mem_nil) ⟨⟨by have:=hst.2.1.2.2;show _<=m.start;omega,by have:=hst.2.1;show m.start<=_;omega⟩,by have:=(xR (Bc fs)).1;show (dE fs []).length<=_;omega⟩ (by simp) (Nat.zero_le _)
     have HS3:=Lib.hid hS3;have Wj:=Lib.hid hfs;have HX3:=Lib.hid x3;clear hfs;refine zh 6 (fun w'=>w'.cell? ⟨b6,0,none⟩=some (.pointer (some ⟨X,0,none⟩))/\w'.cell? ⟨w.heap.size,1,none⟩=some (.int .i64 m.start)) (by kernel_rfl) ?_;refine takeB 0 ?_
     try simp only [qO]
     refine takeB 1 ?_
     try simp only [qO]
     refine takeB 2 ?_
     try simp only [qO]
     refine takeB 3 ?_
     try simp only [qO]
     refine dw [4] (by kernel_rfl) (by simp) ?_;refine bL 4 rfl (fun K hK=>?_) bS.nil;rw [if_pos (by rfl)]
     go_simp
     refine pW.mono ?_;rintro e W4 ⟨rfl,hb4⟩;go_wp2_with fail;have hS4:W4.cell? ⟨b6,0,none⟩=some (.pointer (some ⟨X,0,none⟩))/\W4.cell? ⟨w.heap.size,1,none⟩=some (.int .i64 m.start):=⟨(hb4.cell (p:=⟨b6,0,none⟩) (lt_of_block c63)).trans hS3.1,(hb4.cell (p:=⟨w.heap.size,1,none⟩) (lt_of_block d23)).trans hS3.2⟩;refine hK.out _ _ (fun _=>hS4) ?_;clear hK K
     try simp only [qO]
     refine takeB 5 ?_
     try simp only [qO]
     have WI:Below W3.heap.size W3 W4:=(Below.refl _ _).drew.trans hb4;refine dw [6] (by kernel_rfl) (by simp) ?_;refine bL 6 rfl (fun K hK=>?_) bS.nil;rw [if_pos (by rfl)]
     go_simp
     refine (pV _ WI).mono ?_;rintro e W5 ⟨pv5,rfl,hE5,hC5,hg5⟩;go_wp2_with fail;refine hK.out _ _ (fun h=>by cases h) ?_;clear hK K hS3 hS4;refine l8 (by kernel_rfl) ?_ _;have hX2:=Uw.out;have hb4n:=lt_of_block H43.out;have hW34:=WI.size;have aCw:=ae aCv WI;have aCx:Below w.heap.size w W5:=lq aCw hC5 (Nat.le_refl _) (fun b hb e=>by
      rcases e with e|e|e
      ·omega
      ·rw [UG] at e;omega
      ·simp [Value.ownBlock] at e)
     have hk5:∀ b,b<W3.heap.size->b≠X->b≠nb->W5.heap[b]? = W3.heap[b]?:=fun b hb n1 n2=>(hC5.block b (by omega) (fun e=>by
      rcases e with e|e|e
      ·exact n1 e
      ·rw [UG] at e;exact n2 e
      ·simp [Value.ownBlock] at e)).trans (WI.block b hb)
     have YP:∀ g,pv5.ownBlock=some g->W4.heap.size<=g:=fun g hg=>by
      rcases hg5 g hg with e|e
      ·simp [Value.ownBlock] at e
      ·exact e
     have WR:∀ b,b<W4.heap.size->b≠X->b≠nb->b≠w.heap.size+1->¬ qH X D2.nb (w.heap.size+1) pv5 (.slice none 0 0) b:=fun b hb n1 n2 n3 e=>by
      rcases e with e|e|e|e|e
      ·exact n1 e
      ·rw [UG] at e;exact n2 e
      ·exact n3 e
      ·have:=YP b e;omega
      ·simp [Value.ownBlock] at e
     obtain⟨bs,ofs,Yk,-⟩:=HS.out 0 (by have:=hst.2.1;omega);have l23:=lt_of_block d23;have l63:=lt_of_block c63;have lf3:=fl3.lt;rw [UL] at lf3;have d25:W5.heap[w.heap.size]? = some (.cells #[.int .i64 m.kind,.int .i64 m.start,S m.lead,.slice (some ⟨bs,ofs,none⟩) m.states.length c] 30 (0,0)):=by
      rw [hk5 _ l23 (by omega) (by omega),d23,TJ,Yk]
     have c65:=(hk5 b6 l63 (by omega) (by omega)).trans c63;have fl5:ji W5 D2.fb (dW t 0 []):=fl3.same (hk5 _ (by omega) (by omega) (by omega));have own5:W5.ownsRow 0 9 1 (.slice Af fs.length cf) fs.length (fs.map S):=eP (eP own3 (aB.of_new (X:=fun _=>False) WI) (fun _ _ e=>e)) hC5 (fun g hg e=>by
      rcases e with e|e|e
      ·exact (Uq g hg).2.1 e
      ·rw [UG] at e;exact (Uq g hg).2.2 e
      ·simp [Value.ownBlock] at e)
     have hown3:∀ g,(Value.slice Af fs.length cf).ownBlock=some g->g<W3.heap.size:=fun g hg=>mU own3 hg
     have hW1:w.heap.size+1<W1.heap.size:=l4';have hO5:gz t fs m w W5 (some ⟨bs,ofs,none⟩) c w.heap.size (w.heap.size+1) b6 X D2 Af cf pv5 [(m.start,dE fs [])] (.slice none 0 0) [] []:=by
      refine⟨aCx,hE5,?_,World.ownsRow_nil _ _ _ _,?_,⟨by omega,by rw [UG];omega⟩,⟨by omega,by rw [UG];omega,by rw [UL];omega,by rw [UL,UG];omega⟩,fun g hg=>?_,fun g hg=>by simp [Value.ownBlock] at hg,⟨by omega,by rw [UG];omega,by omega⟩,List.nodup_nil,fun d hd=>absurd hd List.not_mem_nil,YO⟩
      ·rw [hk5 _ hb4n (by omega) (by omega),H43.out,TJ];rfl
      ·intro w' hs hb
       refine⟨?_,?_,?_,?_,fun d hd=>absurd hd List.not_mem_nil,fun p hp=>absurd hp List.not_mem_nil⟩
       ·exact (hb _ (lt_of_block d25) (WR _ (by omega) (by omega) (by omega) (by omega))).trans d25
       ·exact (hb _ (lt_of_block c65) (WR _ (by omega) (by omega) (by omega) (by omega))).trans c65
       ·exact fl5.same (hb _ fl5.lt (WR _ (by rw [UL];omega) (by rw [UL];omega) (by rw [UL];omega) (by rw [UL];omega)))
       ·exact DJ (Cz own5 (fun g hg=>WR g (by have:=hown3 g hg;omega) (Uq g hg).2.1 (Uq g hg).2.2 (by have:=(Uq g hg).1;omega)) w' hs hb)
      ·have:=YP g hg
       refine⟨by omega,by omega,by omega,by rw [UL];omega,by simp [Value.ownBlock]⟩
     have HO5:=Lib.hid hO5;have HAE:=Lib.hid Yk;have HN2:=Lib.hid hn2;have HA2:=Lib.hid hA2;clear hO5 Yk WR hk5 YP own5 fl5 c65 d25 fl3 nm3 own3 hE3 hE5 hC5 hg5 Uq hown3 hX2 Ww hF2 x3 c63 d23 hx5 pW pV hn2 hA2 UL UG YO WN hnb hD2 hD hnd l23 l63 lf3;go_wp2_with fail;refine IW t fs m (lC m t fs 3001 0 [(m.start,dE fs [])] [] 0) w W5 bs ofs c w.heap.size (w.heap.size+1) b6 X D2 Af cf pv5 [(m.start,dE fs [])] hT (by rw [<-HAE.out];exact HS.out) HMK.out Xb Wj.out (by rw [HA2.out,HAE.out]) HN2.out rfl ?hl0 (by simp) HO5.out _ _ _ _ _ _ _ _ _ _ _ _ _ _ _ _ _ _ _ _ _ _ _ _ _ _ _ _ _ _ _ _ _ _ _ _ _ _ _ _ _ _ _ _ _ _ _ _ _ _ _ _ _ _ _ _ _ _ _ _ _ _ _ _ _ _ _ _ _ _ _ _ _ _ _ _ _ _ _ _ _ _ _ _ _ _ _ _ _ _ _ _ _ _ _ _ _ _ _ _ _ _ _ _ _ _ _ _ _ _ _ _ _ _ _ _ _ _ _ _ _ _ _ _ _ _ _ _ _ _ _ _ _ _ _ _ _ _ _ _ _ _ _ _ _ _ _ _ _ _ _ _ _ _ _ _ _ _ _ _ _ _ _ _ _ _ _ _ _ _ _ _ ?hok ?hlong
     case hl0 =>
      intro p hp;rw [List.mem_singleton] at hp;subst hp;exact⟨⟨hst.2.1.2.2.1,hst.2.1.2.2.2⟩,Bc fs⟩
     case hlong =>
      intro ds v14 v15 x16 x94 x95 x96 x97 x98 x99 x100 x101 x102 x103 x104 x105 x106 x107 x108 x109 x110 x111 x112 x113 x114 x115 x116 x117 x118 x119 x120 x121 x122 x123 x124 x125 x153 x154 x155 x156 x157 x158 x159 x160 x161 x162 x163 x164 x165 x166 x167 x168 x169 x170 x171 x172 x173 u174 W6 hR TV h46 hdd hdn;have hX:jd m t=(rz,2):=by
       unfold jd;rw [if_pos ⟨HMK.out,Um.out⟩,<-Wj.out,hR]
      refine BK hdd hdn h46 rfl rfl (fun Z hZ=>?_);rw [hX];exact⟨none,0,rfl,fun k hk=>absurd hk (Nat.not_lt_zero _),by rw [hZ];exact zV TV (fun d hd=>(hdd d hd).2)⟩
     case hok =>
      intro i cN ds l pv os sv x16 x94 x95 x96 x97 x98 x99 x100 x101 x102 x103 x104 x105 x106 x107 x108 x109 x110 x111 x112 x113 x114 x115 x116 x117 x118 x119 x120 x121 x122 x123 x124 x125 x153 x154 x155 x156 x157 x158 x159 x160 x161 x162 x163 x164 x165 x166 x167 x168 x169 x170 x171 x172 x173 W6 hR hO6
      dsimp only
      obtain⟨As,cs,rfl,aCI⟩:=hO6.sts;have h4:=hO6.c4;rw [TJ] at h4;have y0:W6.cell? ⟨w.heap.size+1,0,none⟩=some (.int .i64 m.kind):=by rw [cell_of_row W6 _ 0 _ _ _ h4];rfl
      have y1:W6.cell? ⟨w.heap.size+1,1,none⟩=some (.int .i64 0):=by rw [cell_of_row W6 _ 1 _ _ _ h4];rfl
      have y2:W6.cell? ⟨w.heap.size+1,2,none⟩=some (.string Ld):=by rw [cell_of_row W6 _ 2 _ _ _ h4];rfl
      have y3:W6.cell? ⟨w.heap.size+1,3,none⟩=some (.slice As os.length cs):=by rw [cell_of_row W6 _ 3 _ _ _ h4];rfl
      have hfz:∀ o,W6.frozen? ⟨w.heap.size+1,o,none⟩=false:=fun o=>by unfold World.frozen?;rw [h4];simp
      have f0:=hfz 0;have f1:=hfz 1;have f2:=hfz 2;have f3:=hfz 3;have hC7:aB (fun b=>b=w.heap.size+1) W6 ((((W6.setCell ⟨w.heap.size+1,0,none⟩ (.int .i64 m.kind)).setCell ⟨w.heap.size+1,1,none⟩ (.int .i64 0)).setCell ⟨w.heap.size+1,2,none⟩ (.string Ld)).setCell ⟨w.heap.size+1,3,none⟩ (.slice As os.length cs)):=(((dP W6 _ 0 _).trans (dP _ _ 1 _) fun b _ e=>e).trans (dP _ _ 2 _) fun b _ e=>e).trans (dP _ _ 3 _) fun b _ e=>e
      have h47:=dO (dO (dO (dO h4 0 (.int .i64 m.kind) rfl) 1 (.int .i64 0) rfl) 2 (.string Ld) rfl) 3 (.slice As os.length cs) rfl;have Zk:=Lib.hid hC7;have H47:=Lib.hid h47;have ZR:=Lib.hid hO6;have H4':=Lib.hid h4;have HST:=Lib.hid aCI;have HRR:=Lib.hid hR;clear hfz hC7 h47 hO6 h4 aCI hR;go_wp2_with fail;obtain⟨W7,Xp⟩:∃ W7,W7=((((W6.setCell ⟨w.heap.size+1,0,none⟩ (.int .i64 m.kind)).setCell ⟨w.heap.size+1,1,none⟩ (.int .i64 0)).setCell ⟨w.heap.size+1,2,none⟩ (.string Ld)).setCell ⟨w.heap.size+1,3,none⟩ (.slice As os.length cs)):=⟨_,rfl⟩;rw [<-Xp] at Zk H47 ⊢;have YB:Below W6.heap.size W6 W7:=⟨Zk.out.os,Zk.out.tape,Zk.out.output,Zk.out.size,fun b hb=>by
       by_cases hbb:b=w.heap.size+1
       ·rw [hbb,H47.out,H4'.out];rfl
       ·exact Zk.out.block b hb hbb⟩
      have hdd:∀ d∈ds,W7.heap[d]? = some (.deferred (some []))/\w.heap.size<=d:=fun d hd=>⟨(YB.block d (ZR.out.dl d hd).2).trans (ZR.out.fix.now.dd d hd),(ZR.out.dl d hd).1⟩
      have hX:jd m t=(⟨m.kind,0,m.lead,os.map Prod.fst⟩,0):=by
       unfold jd;rw [if_pos ⟨HMK.out,Um.out⟩,<-Wj.out,HRR.out]
      refine BK (k:=m.kind) (s:=0) (r:=0) (L:=Ld) (A2:=As) (n:=os.length) (cp:=cs) hdd ZR.out.dn H47.out rfl rfl (fun Z hZ=>?_);rw [hX];refine⟨As,cs,?_,?_,by rw [hZ];exact zV (ae ZR.out.bl YB) (fun d hd=>(hdd d hd).2)⟩
      ·unfold di
       rw [TJ];simp
      ·rw [hZ]
       exact NH (fun d hd=>(hdd d hd).1) (HST.out.below YB)
end Go.Proofs.YtppnecgeboonbaaGreatDoor
