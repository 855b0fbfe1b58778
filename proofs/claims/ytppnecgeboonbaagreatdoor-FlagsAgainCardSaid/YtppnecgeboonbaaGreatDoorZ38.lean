/- Walks. -/
import Derived.Test.YtppnecgeboonbaaGreatDoorZ36
import Derived.Test.YtppnecgeboonbaaGreatDoorZ37
namespace Go.Proofs.YtppnecgeboonbaaGreatDoor
set_option maxRecDepth 100000
set_option linter.all false
set_option maxHeartbeats 16000000
def aga:=@Go.lt_of_block
open Go Go.RowKit Go.Maps
def aC7(w:World)(r:aQ×Nat)(e:Ending)(w':World):Prop:=∃A c,e=.returned (.tuple #[di r.1 A c,.int .i64 (r.2:Int)])/\dY w' A r.1.states/\Below w w w'
def mq:∀(ds:List Nat) (w:World) (p:Addr) (v:Value),(∀d∈ds,w.heap[d]? = some (.deferred (some [])))->w.cell? p=some v->(kQ ds w).cell? p=some v/\p.block∉ds:=by
 intro ds w p v hd hv;have hn:p.block∉ds:=fun h=>by
  have:=hd _ h;unfold World.cell? at hv;rw[this]at hv
  cases hv
 exact⟨by rw[World.cell?_of_block (zU ds w p.block hn)];exact hv,hn⟩
def NH{ds:List Nat}{w:World}{A:Option Addr}{l:List bI}(hd:∀d∈ds,w.heap[d]? = some (.deferred (some [])))(h:dY w A l):dY (kQ ds w) A l:=by
 have hs:(kQ ds w).heap.size=w.heap.size:=by
  clear hd h
  induction ds generalizing w with
  |nil=>rfl
  |cons d r ih=>rw[kQ,ih];simp
 intro k hk;obtain⟨b,o,hA,hlt,h0,A',c',h1,h2⟩:=h k hk;refine⟨b,o,hA,by rw[hs];exact hlt,(mq ds w _ _ hd h0).1,A',c',(mq ds w _ _ hd h1).1,fun j hj=>?_⟩;obtain⟨b2,o2,hA2,hlt2,g0,g1,g2,g3⟩:=h2 j hj;exact⟨b2,o2,hA2,by rw[hs];exact hlt2,(mq ds w _ _ hd g0).1,(mq ds w _ _ hd g1).1,(mq ds w _ _ hd g2).1,(mq ds w _ _ hd g3).1⟩
def zV{ds:List Nat}{w0 w:World}(h:Below w0 w0 w)(hd:∀d∈ds,w0.heap.size<=d):Below w0 w0 (kQ ds w):=h.trans (zT ds w hd)
def DJ{w:World}{A:Option Addr}{n cf:Nat}{xs:List Value}(h:w.ownsRow 0 9 1 (.slice A n cf) n xs):ay w A xs:=by
 intro hne;have hp:0<n:=by
  rcases abE n with e|e
  ·have:=h.1
   rw[e,Nat.zero_mul]at this;exact absurd (acW.1 this) hne
  ·exact e
 obtain⟨g,cap,hv,hlt,hc⟩:=vV h hp;simp only[acU]at hv;exact⟨g,0,hv.1,hlt,fun j u hj=>by rw[aaP];exact hc j u hj⟩
def BK{m:aQ}{t:List Bs}{w W:World}{tmps:Array Value}{ds:List Nat}{k s r:Int}{L:ByteArray}{A2:Option Addr}{n cp:Nat}(hdd:∀d∈ds,W.heap[d]? = some (.deferred (some []))/\w.heap.size<=d)(hdn:ds.Nodup)
  (h4:W.heap[w.heap.size+1]? = some (.cells #[.int .i64 k,.int .i64 s,.string L,.slice A2 n cp] 30 (0,0))) (ht4:tmps[4]?.getD undef=.pointer (some ⟨w.heap.size+1,0,none⟩)) (Xb:tmps[5]?.getD undef=.int .i64 r)
  (hR:∀Z,Z=kQ ds W->aC7 w (jd m t) (.returned (.tuple #[.agg #[.int .i64 k,.int .i64 s,.string L,.slice A2 n cp],.int .i64 r])) Z) :
  NoPanic (bodyPostM Fence.wide 6 Tryz.prog Tryz.f13 (aC7 w (jd m t))) .ret { tmps:=tmps,defers:=qi ds } W:=by
 show LeavesInM Fence.wide 6 Tryz.prog Tryz.f13 tmps (aC7 w (jd m t)) (qi ds) .returning W;refine Bo ds W (fun d hd=>(hdd d hd).1) hdn ?_;have c0:W.cell? ⟨w.heap.size+1,0,none⟩=some (.int .i64 k):=by rw[aap W _ 0 _ _ _ h4];rfl
 have c1:W.cell? ⟨w.heap.size+1,1,none⟩=some (.int .i64 s):=by rw[aap W _ 1 _ _ _ h4];rfl
 have c2:W.cell? ⟨w.heap.size+1,2,none⟩=some (.string L):=by rw[aap W _ 2 _ _ _ h4];rfl
 have c3:W.cell? ⟨w.heap.size+1,3,none⟩=some (.slice A2 n cp):=by rw[aap W _ 3 _ _ _ h4];rfl
 have e0:=(mq ds W _ _ (fun d hd=>(hdd d hd).1) c0).1;have e1:=(mq ds W _ _ (fun d hd=>(hdd d hd).1) c1).1;have e2:=(mq ds W _ _ (fun d hd=>(hdd d hd).1) c2).1;have e3:=(mq ds W _ _ (fun d hd=>(hdd d hd).1) c3).1;have hR2:=hR _ rfl;generalize kQ ds W=Z at*;show ∃v,(results Tryz.f13 tmps).run Tryz.prog Z=.ok v Z/\aC7 w (jd m t) (.returned v) Z;refine⟨_,?_,hR2⟩;simp[results,Tryz.results13,ht4,Xb,e0,e1,e2,e3,go_sem]
abbrev aF4(W:World)(b:Nat):World:=(((W.setCell ⟨b,0,none⟩ (.int .i64 0)).setCell ⟨b,1,none⟩ (.int .i64 0)).setCell ⟨b,2,none⟩ (.string ⟨#[]⟩)).setCell ⟨b,3,none⟩ (.slice none 0 0)
def AP{m:aQ}{t:List Bs}{w W:World}{tmps:Array Value}{r:Nat}(hx:jd m t=(rz,r))(hb:Below w w W)(h4:W.heap[w.heap.size+1]? = some (.cells #[.int .i64 0,.int .i64 0,.string ⟨#[]⟩,.slice none 0 0] 30 (0,0)))
  (ht4:tmps[4]?.getD undef=.pointer (some ⟨w.heap.size+1,0,none⟩)) (Xb:tmps[5]?.getD undef=.int .i64 (r:Int)) :
  NoPanic (bodyPostM Fence.wide 6 Tryz.prog Tryz.f13 (aC7 w (jd m t))) .ret { tmps:=tmps,defers:=[] } (aF4 W (w.heap.size+1)):=by
 have hC:aB (fun b=>b=w.heap.size+1) W (aF4 W (w.heap.size+1)):=(((dP W _ 0 _).trans (dP _ _ 1 _) fun b _ e=>e).trans (dP _ _ 2 _) fun b _ e=>e).trans (dP _ _ 3 _) fun b _ e=>e
 have hz:=show(aF4 W (w.heap.size+1)).heap[w.heap.size+1]? = _ from dO (dO (dO (dO h4 0 (.int .i64 0) rfl) 1 (.int .i64 0) rfl) 2 (.string ⟨#[]⟩) rfl) 3 (.slice none 0 0) rfl;have hB:Below w w (aF4 W (w.heap.size+1)):=lq hb hC (Pe _) (fun b hb e=>by omega);generalize aF4 W (w.heap.size+1)=Z at*;have c0:Z.cell? ⟨w.heap.size+1,0,none⟩=some (.int .i64 0):=by rw[aap Z _ 0 _ _ _ hz];rfl
 have c1:Z.cell? ⟨w.heap.size+1,1,none⟩=some (.int .i64 0):=by rw[aap Z _ 1 _ _ _ hz];rfl
 have c2:Z.cell? ⟨w.heap.size+1,2,none⟩=some (.string ⟨#[]⟩):=by rw[aap Z _ 2 _ _ _ hz];rfl
 have c3:Z.cell? ⟨w.heap.size+1,3,none⟩=some (.slice none 0 0):=by rw[aap Z _ 3 _ _ _ hz];rfl
 show ∃v,(results Tryz.f13 tmps).run Tryz.prog Z=.ok v Z/\aC7 w (jd m t) (.returned v) Z;refine⟨.tuple #[.agg #[.int .i64 0,.int .i64 0,.string ⟨#[]⟩,.slice none 0 0],.int .i64 (r:Int)],?_,?_⟩
 ·simp[results,Tryz.results13,ht4,Xb,c0,c1,c2,c3,go_sem]
 ·rw[hx]
  exact⟨none,0,rfl,fun k hk=>absurd hk (abW _),hB⟩
def G6(m:aQ)(A At:Option Addr)(c ct:Nat)(t:List Bs)(w:World)(hT:fD w)(hS:dY w A m.states)(hV:ay w At (t.map S))(hl:m.states.length<=140737488355328)(Uu:m.lead.length<=9223372036854775807)(hsw:oH 9223372036854775807 m.states) :
  Calls Tryz.prog 13 #[di m A c,.slice At t.length ct] w (aC7 w (jd m t)):=by
 obtain⟨Ld,TJ⟩:∃Z,S m.lead=.string Z:=⟨_,rfl⟩;have hmv:di m A c=.agg #[.int .i64 m.kind,.int .i64 m.start,.string Ld,.slice A m.states.length c]:=by unfold di;rw[TJ]
 rw[hmv];have HMV:=Pd hmv;have HS:=Pd hS;have HV:=Pd hV;have HSW:=Pd hsw;clear hmv hS hV hsw;obtain⟨w1,hw1⟩:∃w1,w1=(w.alloc (.cells #[.int .i64 m.kind,.int .i64 m.start,.string Ld,.slice A m.states.length c] 30)).alloc (.cells #[.int .i64 0,.int .i64 0,.string ⟨#[]⟩,.slice none 0 0] 30):=⟨_,rfl⟩;have hb1:Below w w w1:=by rw[hw1];exact((aac _ _).alloc (Pe _) _).alloc (by simp) _
 have hs1:w1.heap.size=w.heap.size+2:=by rw[hw1];simp
 have h2:w1.heap[w.heap.size]? = some (.cells #[.int .i64 m.kind,.int .i64 m.start,.string Ld,.slice A m.states.length c] 30 (0,0)):=by rw[hw1,heap_alloc_old _ _ (by simp)];exact aaq w _
 have h4:w1.heap[w.heap.size+1]? = some (.cells #[.int .i64 0,.int .i64 0,.string ⟨#[]⟩,.slice none 0 0] 30 (0,0)):=by
  have:=aaq (w.alloc (.cells #[.int .i64 m.kind,.int .i64 m.start,.string Ld,.slice A m.states.length c] 30)) (.cells #[.int .i64 0,.int .i64 0,.string ⟨#[]⟩,.slice none 0 0] 30);rw[adt]at this;rw[hw1];exact this
 have pM:=IZ m A c w1 (hT.r.below hb1) (HS.out.below hb1) hl Uu HSW.out;rw[HMV.out]at pM;have pT:=fun W (hb:Below w w W)=>Er At ct t W (hT.t.below hb) (HV.out.below hb)
 refine adL.1 (callsIn_of_wp_marks (n:=6) Tryz.func13 rfl trivial ?_ rfl);simp only[Tryz.ntmps13,afB,aaF,abG,Nat.reduceAdd,Nat.reduceSub,Array.replicate_succ,Array.replicate_zero,List.push_toArray,List.append_toArray,abH,abZ];refine wpIn_wide.2 (Code.wp_mono NoPanic.imp ?_);have hz:∀W3,Below w1 w1 W3->(W3.cell? ⟨w.heap.size+1,0,none⟩=some (.int .i64 0)/\W3.cell? ⟨w.heap.size+1,1,none⟩=some (.int .i64 0)/\W3.cell? ⟨w.heap.size+1,2,none⟩=some (.string ⟨#[]⟩)/\W3.cell? ⟨w.heap.size+1,3,none⟩=some (.slice none 0 0))/\∀o,W3.frozen? ⟨w.heap.size+1,o,none⟩=false:=by
  intro W3 hb;have h43:=(hb.block (w.heap.size+1) (by omega)).trans h4;refine⟨⟨?_,?_,?_,?_⟩,fun o=>?_⟩
  ·rw[aap W3 _ 0 _ _ _ h43];rfl
  ·rw[aap W3 _ 1 _ _ _ h43];rfl
  ·rw[aap W3 _ 2 _ _ _ h43];rfl
  ·rw[aap W3 _ 3 _ _ _ h43];rfl
  ·unfold World.frozen?;rw[h43];simp
 have m0:w1.cell? ⟨w.heap.size,0,none⟩=some (.int .i64 m.kind):=by rw[aap w1 _ 0 _ _ _ h2];rfl
 have m1:w1.cell? ⟨w.heap.size,1,none⟩=some (.int .i64 m.start):=by rw[aap w1 _ 1 _ _ _ h2];rfl
 have m2:w1.cell? ⟨w.heap.size,2,none⟩=some (.string Ld):=by rw[aap w1 _ 2 _ _ _ h2];rfl
 have m3:w1.cell? ⟨w.heap.size,3,none⟩=some (.slice A m.states.length c):=by rw[aap w1 _ 3 _ _ _ h2];rfl
 go_upto_region 1 with(fail)
 rw[<-hw1];have HZ:=Pd hz;have H2:=Pd h2;have H4:=Pd h4;have HW1:=Pd hw1;clear hz h2 h4 hw1
 cases hmk:bM m with
 |false=>
  have HX:Hid (jd m t=(rz,1)):=by unfold Hid jd;rw[hmk,aab (by simp)]
  rw[hmk]at pM;clear pT hmk;go_wp2_with (first|(go_at_call 39;refine pM.mono ?_;rintro e w3 ⟨rfl,hb3⟩;obtain⟨⟨z0,z1,z2,z3⟩,fz⟩:=HZ.out w3 hb3;have f0:=fz 0;have f1:=fz 1;have f2:=fz 2;have f3:=fz 3;clear fz));exact AP HX.out (ae hb1 hb3) ((hb3.block (w.heap.size+1) (by omega)).trans H4.out) rfl rfl
 |true=>
  cases htk:l7 t with
  |false=>
   have HX:Hid (jd m t=(rz,1)):=by unfold Hid jd;rw[hmk,htk,aab (by simp)]
   rw[hmk]at pM;rw[htk]at pT;clear hmk htk
   go_wp2_with (first
    |(go_at_call 39;refine pM.mono ?_;rintro e w3 ⟨rfl,hb3⟩;have pT3:=pT w3 (ae hb1 hb3))
    |(go_at_call 40;refine pT3.mono ?_;rintro e w4 ⟨rfl,hb4⟩;obtain⟨⟨z0,z1,z2,z3⟩,fz⟩:=HZ.out w4 (ae hb3 hb4);have f0:=fz 0;have f1:=fz 1;have f2:=fz 2;have f3:=fz 3;clear fz))
   exact AP HX.out (ae (ae hb1 hb3) hb4) (((ae hb3 hb4).block (w.heap.size+1) (by omega)).trans H4.out) rfl rfl
  |true=>
   rw[hmk]at pM;rw[htk]at pT;have Xb:t.length<=500:=by unfold l7 at htk;simp at htk;exact htk.1.1
   have HMK:=Pd hmk;have Um:=Pd htk;have hmm1:∀W:World,(Instr.makeMap 68 none).run Tryz.prog W=.ok (.map (some W.heap.size)) (W.alloc (.map #[] 0)):=fun _=>rfl
   have hmm2:∀W:World,(Instr.makeMap 72 none).run Tryz.prog W=.ok (.map (some W.heap.size)) (W.alloc (.map #[] 0)):=fun _=>rfl
   clear hmk htk
   go_upto_region 3 with(first
    |(go_at_call 39;refine pM.mono ?_;rintro e w3 ⟨rfl,hb3⟩;have pT3:=pT w3 (ae hb1 hb3))
    |(go_at_call 40;refine pT3.mono ?_;rintro e w4 ⟨rfl,hb4⟩))
   have TR:=ae hb3 hb4;have k0:=(TR.cell (p:=⟨w.heap.size,0,none⟩) (ax m0)).trans m0;have k1:=(TR.cell (p:=⟨w.heap.size,1,none⟩) (ax m1)).trans m1;have k2:=(TR.cell (p:=⟨w.heap.size,2,none⟩) (ax m2)).trans m2;have k3:=(TR.cell (p:=⟨w.heap.size,3,none⟩) (ax m3)).trans m3;have aB6:Below w w w4:=ae hb1 TR;have Zy:=Pd TR;clear pT3 pM pT hb3 hb4 TR m0 m1 m2 m3;have mk:∀W',Below w4 w4 W'->(W'.cell? ⟨w.heap.size,0,none⟩=some (.int .i64 m.kind)/\W'.cell? ⟨w.heap.size,1,none⟩=some (.int .i64 m.start)/\W'.cell? ⟨w.heap.size,2,none⟩=some (.string Ld)/\W'.cell? ⟨w.heap.size,3,none⟩=some (.slice A m.states.length c)/\Below w4 w4 W'):=fun W' hb=>
    ⟨(hb.cell (p:=⟨w.heap.size,0,none⟩) (ax k0)).trans k0,(hb.cell (p:=⟨w.heap.size,1,none⟩) (ax k1)).trans k1,(hb.cell (p:=⟨w.heap.size,2,none⟩) (ax k2)).trans k2,(hb.cell (p:=⟨w.heap.size,3,none⟩) (ax k3)).trans k3,hb⟩
   have z0:=mk _ (aac w4.heap.size w4);have kD:∀W',(W'.cell? ⟨w.heap.size,0,none⟩=some (.int .i64 m.kind)/\W'.cell? ⟨w.heap.size,1,none⟩=some (.int .i64 m.start)/\W'.cell? ⟨w.heap.size,2,none⟩=some (.string Ld)/\W'.cell? ⟨w.heap.size,3,none⟩=some (.slice A m.states.length c)/\Below w4 w4 W')->_:=fun W' h=>mk _ h.2.2.2.2.drew
   have kA:=fun W' (o:Obj) (h:(W'.cell? ⟨w.heap.size,0,none⟩=some (.int .i64 m.kind)/\W'.cell? ⟨w.heap.size,1,none⟩=some (.int .i64 m.start)/\W'.cell? ⟨w.heap.size,2,none⟩=some (.string Ld)/\W'.cell? ⟨w.heap.size,3,none⟩=some (.slice A m.states.length c)/\Below w4 w4 W'))=>mk _ (h.2.2.2.2.alloc h.2.2.2.2.size o)
   have kC:=fun W' (a:Addr) u (ha:w4.heap.size<=a.block) (h:(W'.cell? ⟨w.heap.size,0,none⟩=some (.int .i64 m.kind)/\W'.cell? ⟨w.heap.size,1,none⟩=some (.int .i64 m.start)/\W'.cell? ⟨w.heap.size,2,none⟩=some (.string Ld)/\W'.cell? ⟨w.heap.size,3,none⟩=some (.slice A m.states.length c)/\Below w4 w4 W'))=>mk _ (h.2.2.2.2.setCell ha u)
   have kB:=fun W' W2 (h:(W'.cell? ⟨w.heap.size,0,none⟩=some (.int .i64 m.kind)/\W'.cell? ⟨w.heap.size,1,none⟩=some (.int .i64 m.start)/\W'.cell? ⟨w.heap.size,2,none⟩=some (.string Ld)/\W'.cell? ⟨w.heap.size,3,none⟩=some (.slice A m.states.length c)/\Below w4 w4 W')) (hb:Below W' W' W2)=>mk _ (ae h.2.2.2.2 hb)
   have pF:=fun W' (h:(W'.cell? ⟨w.heap.size,0,none⟩=some (.int .i64 m.kind)/\W'.cell? ⟨w.heap.size,1,none⟩=some (.int .i64 m.start)/\W'.cell? ⟨w.heap.size,2,none⟩=some (.string Ld)/\W'.cell? ⟨w.heap.size,3,none⟩=some (.slice A m.states.length c)/\Below w4 w4 W'))=>AZ At ct t W' ((hT.below aB6).below h.2.2.2.2) ((HV.out.below aB6).below h.2.2.2.2) Xb
   clear k0 k1 k2 k3;go_cut [6] from 28 to 33 (fun p wx=>∃b6 X fb nb,p=.pointer (some ⟨b6,0,none⟩)/\wx.heap[b6]? = some (.cells #[.pointer (some ⟨X,0,none⟩)] 64 (0,0))/\wx.heap[X]? = some (.cells (aW ⟨m.kind,m.start,Ld,A,m.states.length,c,fb,nb,.slice none 0 0⟩ (.slice none 0 0)) 71 (0,0))/\ji wx fb (dW t 0 [])/\kJ wx nb []/\(w4.heap.size<=b6/\w4.heap.size<=X/\w4.heap.size<=fb/\w4.heap.size<=nb)/\[b6,X,fb,nb].Nodup/\Below w4 w4 wx)
   case first=>
    refine zh 7 (fun W'=>W'.cell? ⟨w.heap.size,0,none⟩=some (.int .i64 m.kind)/\W'.cell? ⟨w.heap.size,1,none⟩=some (.int .i64 m.start)/\W'.cell? ⟨w.heap.size,2,none⟩=some (.string Ld)/\W'.cell? ⟨w.heap.size,3,none⟩=some (.slice A m.states.length c)/\Below w4 w4 W') (by kernel_rfl) ?_;have hS:=mk _ (aac w4.heap.size w4).drew;obtain⟨W,hw0⟩:∃X,X=w4.drew:=⟨_,rfl⟩;have hz0:w4.heap.size<=W.heap.size:=by rw[hw0];exact Pe _
    rw[<-hw0]at hS ⊢;clear hw0;refine takeB 0 ?_;(try simp only[qO]);refine takeB 1 ?_;(try simp only[qO]);iterate 4
     all_goals
      first
       |(fail_if_success (replace hF:=hF))
       |(fail_if_success (replace hN:=hN))
       |(replace q4:=q4)
       |(refine takeB 4 ?_;try simp only[qO];have q4:=True.intro)
      first
       |(replace hF:=hF;replace hN:=hN;replace h6:=h6;refine dw [5] (by kernel_rfl) (by simp) (bL 5 rfl (fun K hK=>?_) bS.nil))
       |(replace hF:=hF;replace hN:=hN;replace h5:=h5;refine dw [6] (by kernel_rfl) (by simp) (bL 6 rfl (fun K hK=>?_) bS.nil))
       |(replace hF:=hF;replace hN:=hN;refine dw [5,6] (by kernel_rfl) (by simp) (bL 5 rfl (fun K hK=>?_) (bL 6 rfl (fun K hK=>?_) bS.nil)))
       |(replace hF:=hF;replace h6:=h6;refine dw [3] (by kernel_rfl) (by simp) (bL 3 rfl (fun K hK=>?_) bS.nil))
       |(replace hN:=hN;replace h6:=h6;refine dw [2] (by kernel_rfl) (by simp) (bL 2 rfl (fun K hK=>?_) bS.nil))
       |(replace hF:=hF;refine dw [3,6] (by kernel_rfl) (by simp) (bL 3 rfl (fun K hK=>?_) (bL 6 rfl (fun K hK=>?_) bS.nil)))
       |(replace hN:=hN;refine dw [2,6] (by kernel_rfl) (by simp) (bL 2 rfl (fun K hK=>?_) (bL 6 rfl (fun K hK=>?_) bS.nil)))
       |(replace h6:=h6;refine dw [2,3] (by kernel_rfl) (by simp) (bL 2 rfl (fun K hK=>?_) (bL 3 rfl (fun K hK=>?_) bS.nil)))
       |refine dw [2,3,6] (by kernel_rfl) (by simp) (bL 2 rfl (fun K hK=>?_) (bL 3 rfl (fun K hK=>?_) (bL 6 rfl (fun K hK=>?_) bS.nil)))
      all_goals
       rw[aaa (by rfl)]
       go_simp
       first
        |(show K _ (World.alloc _ (.map #[] 0))
          have hb:Below W W (W.alloc (.map #[] 0)):=(aac _ _).alloc (Pe _) _;have hz:(W.alloc (.map #[] 0)).heap.size=W.heap.size+1:=by simp
          try replace h6:=(hb.block _ (aga h6)).trans h6
          try replace hF:=hF.below hb
          have hN:kJ (W.alloc (.map #[] 0)) W.heap.size []:=bN.new W;replace hS:=mk _ (ae hS.2.2.2.2 hb);refine hK.out _ _ (fun _=>hS) ?_;clear hK K
          try simp only[qO]
          obtain⟨nb,hn⟩:∃b,b=W.heap.size:=⟨_,rfl⟩;rw[<-hn]at hN ⊢;generalize W.alloc (.map #[] 0)=W at*;have hl:_<=nb/\nb<W.heap.size:=⟨aeS hn.symm,by omega⟩;clear hn hz)
        |(show K _ (World.alloc _ (.cells #[.pointer none] 64))
          obtain⟨o,ho⟩:∃o:Obj,o=.cells #[.pointer none] 64:=⟨_,rfl⟩;rw[<-ho];have hb:Below W W (W.alloc o):=(aac _ _).alloc (Pe _) _;have hz:(W.alloc o).heap.size=W.heap.size+1:=by simp
          try replace h5:=(hb.block _ (aga h5)).trans h5
          try replace hF:=hF.below hb
          try replace hN:=hN.below hb
          have h6:=aaq W o;replace hS:=mk _ (ae hS.2.2.2.2 hb);refine hK.out _ _ (fun _=>hS) ?_;clear hK K
          try simp only[qO]
          obtain⟨b6,hn⟩:∃b,b=W.heap.size:=⟨_,rfl⟩;rw[<-hn]at h6 ⊢;generalize W.alloc o=W at*;have hl6:_<=b6/\b6<W.heap.size:=⟨aeS hn.symm,by omega⟩;rw[ho]at h6;clear hn hz ho)
        |(show K _ (World.alloc _ (.cells (aW ⟨m.kind,m.start,Ld,A,m.states.length,c,fb,nb,.slice none 0 0⟩ (.slice none 0 0)) 71))
          obtain⟨o,ho⟩:∃o:Obj,o=(.cells (aW ⟨m.kind,m.start,Ld,A,m.states.length,c,fb,nb,.slice none 0 0⟩ (.slice none 0 0)) 71):=⟨_,rfl⟩;rw[<-ho];have hb:Below W W (W.alloc o):=(aac _ _).alloc (Pe _) _;have hz:(W.alloc o).heap.size=W.heap.size+1:=by simp
          try replace h6:=(hb.block _ (aga h6)).trans h6
          replace hF:=hF.below hb;replace hN:=hN.below hb;have h5:=aaq W o;replace hS:=mk _ (ae hS.2.2.2.2 hb);refine hK.out _ _ (fun _=>hS) ?_;clear hK K
          try simp only[qO]
          obtain⟨X,hn⟩:∃b,b=W.heap.size:=⟨_,rfl⟩;rw[<-hn]at h5 ⊢;generalize W.alloc o=W at*;have hl5:_<=X/\X<W.heap.size:=⟨aeS hn.symm,by omega⟩;rw[ho]at h5;clear hn hz ho)
        |(refine(pF _ hS).mono ?_
          rintro e W ⟨fb,rfl,hF,WN,hb⟩;go_wp2_with fail
          try replace h6:=(hb.block _ (aga h6)).trans h6
          try replace hN:=hN.below hb
          replace hS:=mk _ (ae hS.2.2.2.2 hb);refine hK.out _ _ (fun _=>hS) ?_;clear hK K
          try simp only[qO]
          have hfl:=hF.lt;have hz:=hb.size)
    all_goals
     refine dw [7] (by kernel_rfl) (by simp) ?_;refine bL 7 rfl (fun K hK=>?_) bS.nil;rw[aaa (by rfl)];have q6:W.cell? ⟨b6,0,none⟩=some (.pointer none):=by rw[aap W _ 0 _ _ _ h6];rfl
     have f6:W.frozen? ⟨b6,0,none⟩=false:=by unfold World.frozen?;rw[h6];simp
     go_simp
     refine hK.out _ _ (fun h=>by cases h) ?_;clear hK K q6 f6;refine l8 (by kernel_rfl) ?_ _;have hC:=dP W b6 0 (.pointer (some ⟨X,0,none⟩));have l2:=hF.lt;have l3:=hN.lt;have l5:=aga h5;have l6:=aga h6;have r6:=dO h6 0 (.pointer (some ⟨X,0,none⟩)) rfl;have r5:=(hC.block _ l5 (by omega)).trans h5;have rF:=hF.same (hC.block _ l2 (by omega));have rN:=hN.same (hC.block _ l3 (by omega));have rB:Below w4 w4 (W.setCell ⟨b6,0,none⟩ (.pointer (some ⟨X,0,none⟩))):=hS.2.2.2.2.setCell (p:=⟨b6,0,none⟩) (by show w4.heap.size<=b6;omega) _;have hnd:[b6,X,fb,nb].Nodup:=by simp only[aa8,aay,aaK,acI,acw,abO,abq,acH];refine⟨⟨?_,?_,?_⟩,⟨?_,?_⟩,?_⟩<;>omega
     go_wp2_with fail
     go_meet
     exact⟨_,_,_,_,rfl,r6,r5,rF,rN,⟨by omega,by omega,by omega,by omega⟩,hnd,rB⟩
   case rest=>
    obtain⟨b6,X,fb,nb,rfl,g6,gX,gF,gN,hlo,hnd,hb5⟩:=hcut;have hbc:=ae Zy.out hb5;have hb0c:=ae hb1 hbc;have hst:=kV.1 HMK.out;have d2:=(hbc.block w.heap.size (by omega)).trans H2.out;have d4:=(hbc.block (w.heap.size+1) (by omega)).trans H4.out;have hs4:w.heap.size+2<=w4.heap.size:=by have:=Zy.out.size;omega
    clear mk z0 kD kA kC kB pF;obtain⟨D,hD⟩:∃D:dH,D=⟨m.kind,m.start,Ld,A,m.states.length,c,fb,nb,.slice none 0 0⟩:=⟨_,rfl⟩;have WN:D.fb=fb:=by rw[hD]
    have hnb:D.nb=nb:=(by rw[hD]);obtain⟨W1,hW1⟩:∃W1,W1=wc.alloc (.map #[] 0):=⟨_,rfl⟩;have bA:Below wc wc W1:=by rw[hW1];exact(aac _ _).alloc (Pe _) _
    have l6:=aga g6;have lX:=aga gX;have lF:=gF.lt;have lN:=gN.lt;have hF:iL t W1 W1 X b6 wc.heap.size D (.slice none 0 0) []:=by
     refine⟨aB.refl _ _,(bA.block _ l6).trans g6,?_,abN _ _ _ _,?_,?_,?_,?_,fun g hg=>by simp[Value.ownBlock]at hg⟩
     ·rw[show({ D with fv:=.slice none 0 0 }:dH)=⟨m.kind,m.start,Ld,A,m.states.length,c,fb,nb,.slice none 0 0⟩ by rw[hD]]
      exact(bA.block _ lX).trans gX
     ·rw[hW1];exact bN.new wc
     ·rw[WN];exact gF.below bA
     ·rw[hnb];exact gN.below bA
     ·rw[WN,hnb]
      simp only[aa8,aay,aaK,acI,acw,abO,abq,acH]at hnd ⊢;omega
    have e3:W1.cell? ⟨w.heap.size,3,none⟩=some (.slice A m.states.length c):=by rw[aap W1 _ 3 _ _ _ ((bA.block _ (aga d2)).trans d2)];rfl
    have aB5:=ae hb0c bA;have d2':=(bA.block _ (aga d2)).trans d2;have d4':=(bA.block _ (aga d4)).trans d4;have HF:=Pd hF;have HND:=Pd hnd;clear hF g6 gX gF gN d2 d4 hnd;go_upto_region 5 with(fail)
    rw[<-hW1];clear hW1;go_wp2_with fail;refine Ho t m A c w W1 X w.heap.size b6 wc.heap.size D HS.out aB5 ⟨by omega,by omega⟩ HF.out Xb (fun s hs a ha=>⟨(mh.1 ((pg.1 (hst.2.2.2.1 s hs)).2 a ha)).1,(mh.1 ((pg.1 (hst.2.2.2.1 s hs)).2 a ha)).2.1⟩) hst.2.1.2.1 hst.2.2.2.2 _ _ _ _ _ _ _ _ _ _ _ _ _ _ _ _ _ _ _ _ _ _ _ _ _ _ _ _ _ _ _ _ _ _ _ _ _ _ _ _ _ _ _ _ _ _ _ _ _ _ _ _ _ _ _ _ _ _ _ _ _ _ _ _ _ _ _ _ _ _ _ _ _ _ _ _ _ _ _ _ _ _ _ _ _ _ _ _ _ _ _ _ _ _ _ _ _ _ _ _ _ _ _ _ _ _ _ _ _ _ _ _ _ _ _ _ _ _ _ _ _ _ _ _ _ _ _ _ _ _ _ _ _ _ _ _ _ _ _ _ _ _ _ _ _ _ _ _ _ _ _ _ _ _ _ _ _ _ _ _ _ _ _ _ _ _ _ _ _ _ ?hq ?hk
    case hq=>exact fun _ _ _ h=>h
    case hk=>
     intro fv z9 z11 z12 z13 z35 z36 z37 z38 z39 z40 z41 z42 z43 z44 z45 z46 z47 z48 z49 z50 z51 z52 z53 z54 z55 z56 z57 z58 z59 z60 z61 z62 z63 z64 z65 z66 z67 z68 z69 z70 z71 z72 z73 z74 z75 z76 z77 z78 z79 z80 z81 W2 hF2
     dsimp only
     obtain⟨fs,hfs⟩:∃fs,fs=fG t m.states []:=⟨_,rfl⟩;rw[<-hfs]at hF2;obtain⟨Af,cf,rfl⟩:=oZ hF2.own;have hnd:=HND.out;simp only[aa8,aay,aaK,acI,acw,abO,abq,acH]at hnd;have l2':=aga d2';have l4':=aga d4';have d2W:=(hF2.ch.block _ l2' (by omega)).trans d2';have d4W:=(hF2.ch.block _ l4' (by omega)).trans d4';have p0:W2.cell? ⟨w.heap.size,0,none⟩=some (.int .i64 m.kind):=by rw[aap W2 _ 0 _ _ _ d2W];rfl
     have p2:W2.cell? ⟨w.heap.size,2,none⟩=some (.string Ld):=by rw[aap W2 _ 2 _ _ _ d2W];rfl
     have q0:W2.cell? ⟨w.heap.size+1,0,none⟩=some (.int .i64 0):=by rw[aap W2 _ 0 _ _ _ d4W];rfl
     have q1:W2.cell? ⟨w.heap.size+1,1,none⟩=some (.int .i64 0):=by rw[aap W2 _ 1 _ _ _ d4W];rfl
     have q2:W2.cell? ⟨w.heap.size+1,2,none⟩=some (.string ⟨#[]⟩):=by rw[aap W2 _ 2 _ _ _ d4W];rfl
     have q3:W2.cell? ⟨w.heap.size+1,3,none⟩=some (.slice none 0 0):=by rw[aap W2 _ 3 _ _ _ d4W];rfl
     have hfz:∀o,W2.frozen? ⟨w.heap.size+1,o,none⟩=false:=fun o=>by unfold World.frozen?;rw[d4W];simp
     have f0:=hfz 0;have f1:=hfz 1;have f2:=hfz 2;have f3:=hfz 3;have Ww:aB (fun b=>b=w.heap.size+1) W2 ((((W2.setCell ⟨w.heap.size+1,0,none⟩ (.int .i64 m.kind)).setCell ⟨w.heap.size+1,1,none⟩ (.int .i64 0)).setCell ⟨w.heap.size+1,2,none⟩ (.string Ld)).setCell ⟨w.heap.size+1,3,none⟩ (.slice none 0 0)):=(((dP W2 _ 0 _).trans (dP _ _ 1 _) fun b _ e=>e).trans (dP _ _ 2 _) fun b _ e=>e).trans (dP _ _ 3 _) fun b _ e=>e
     have h43:=dO (dO (dO (dO d4W 0 (.int .i64 m.kind) rfl) 1 (.int .i64 0) rfl) 2 (.string Ld) rfl) 3 (.slice none 0 0) rfl;have aCu:Below w w W2:=lq aB5 hF2.ch (Pe _) (fun b hb e=>by omega);have Uw:=Pd hF2;have H43:=Pd h43;have VZ:=Pd Ww;clear hfz hF2 h43 Ww;go_upto_region 18 with(fail)
     obtain⟨W3,hW3⟩:∃W3,W3=((((W2.setCell ⟨w.heap.size+1,0,none⟩ (.int .i64 m.kind)).setCell ⟨w.heap.size+1,1,none⟩ (.int .i64 0)).setCell ⟨w.heap.size+1,2,none⟩ (.string Ld)).setCell ⟨w.heap.size+1,3,none⟩ (.slice none 0 0)):=⟨_,rfl⟩;rw[<-hW3]at H43 VZ ⊢;clear hW3 p0 p2 q0 q1 q2 q3 f0 f1 f2 f3;have hF2:=Uw.out;have Ww:=VZ.out;obtain⟨D2,hD2⟩:∃D2:dH,D2={ D with fv:=.slice Af fs.length cf }:=⟨_,rfl⟩;have x3:W3.heap[X]? = some (.cells (aW D2 (.slice none 0 0)) 71 (0,0)):=by rw[hD2];exact(Ww.block X (aga hF2.x) (by omega)).trans hF2.x
     have c63:=(Ww.block b6 (aga hF2.c6) (by omega)).trans hF2.c6;have d23:=(Ww.block w.heap.size (aga d2W) (by omega)).trans d2W;have UL:D2.fb=fb:=by rw[hD2];exact WN
     have UG:D2.nb=nb:=by rw[hD2];exact hnb
     have YO:D2.fv=.slice Af fs.length cf:=(by rw[hD2]);have hA2:D2.A=A:=(by rw[hD2,hD]);have hn2:D2.n=m.states.length:=by rw[hD2,hD]
     have fl3:ji W3 D2.fb (dW t 0 []):=by
      have:=hF2.fl;rw[WN]at this;rw[UL];exact this.same (Ww.block fb this.lt (by omega))
     have nm3:kJ W3 D2.nb []:=by
      have:=hF2.nm;rw[hnb]at this;rw[UG];exact this.same (Ww.block nb this.lt (by omega))
     have own3:W3.ownsRow 0 9 1 (.slice Af fs.length cf) fs.length (fs.map S):=eP hF2.own Ww (fun g hg e=>by have:=(hF2.fo g hg).1;omega);have Uq:∀g,(Value.slice Af fs.length cf).ownBlock=some g->W1.heap.size<=g/\g≠X/\g≠nb:=fun g hg=>by
      obtain⟨g1,g2⟩:=hF2.fo g hg;rw[WN,hnb]at g2;simp only[aay,aaK,acI,acw]at g2;exact⟨g1,g2.2.1,g2.2.2.2.2⟩
     have aCv:Below w w W3:=lq aCu Ww (Pe _) (fun b hb e=>by omega);have hE3:jA W3 X 0 D2 (.slice none 0 0) []:=⟨x3,nm3,abN _ _ _ _,by rw[UG];omega,fun g hg=>by simp[Value.ownBlock]at hg⟩;have hfok:∀f∈fs,bz f:=by rw[hfs];exact vF t m.states [] (fun f hf=>absurd hf aaK)
     have aCi:fs.length<=30000:=by
      have:=vG t m.states [];rw[<-hfs]at this;have h2:=hst.2.2.2.2;simp at this;omega
     have hS3:W3.drew.cell? ⟨b6,0,none⟩=some (.pointer (some ⟨X,0,none⟩))/\W3.drew.cell? ⟨w.heap.size,1,none⟩=some (.int .i64 m.start):=⟨by show W3.cell? _=_;rw[aap W3 b6 0 _ _ _ c63];rfl,by show W3.cell? _=_;rw[aap W3 _ 1 _ _ _ d23];rfl⟩;have hx5:W3.drew.cell? ⟨X,5,none⟩=some (.slice Af fs.length cf):=(hE3.below (aac _ _).drew).cell 5 _ (by unfold aW;rw[YO];rfl);have pW:=OA X Af cf fs W3.drew (aga x3) hx5 (DJ (show W3.drew.ownsRow 0 9 1 (.slice Af fs.length cf) fs.length (fs.map S) from own3)) (by omega) hfok;have pV:∀W,Below W3 W3 W->Calls Tryz.prog 43 #[.pointer (some ⟨X,0,none⟩),.agg #[.int .i64 m.start,.string ⟨(dE fs []).toArray⟩]] W (sQ X 0 D2 (.slice none 0 0) [] (m.start,dE fs []) W):=fun W hb=>
      ED X 0 D2 (.slice none 0 0) [] (m.start,dE fs []) W (hE3.below hb) (fun p hp=>absurd hp aaK) ⟨⟨by have:=hst.2.1.2.2;show _<=m.start;omega,by have:=hst.2.1;show m.start<=_;omega⟩,by have:=(xR (Bc fs)).1;show(dE fs []).length<=_;omega⟩ (by simp) (aaS _)
     have HS3:=Pd hS3;have Wj:=Pd hfs;have HX3:=Pd x3;clear hfs;refine zh 6 (fun w'=>w'.cell? ⟨b6,0,none⟩=some (.pointer (some ⟨X,0,none⟩))/\w'.cell? ⟨w.heap.size,1,none⟩=some (.int .i64 m.start)) (by kernel_rfl) ?_;refine takeB 0 ?_;(try simp only[qO]);refine takeB 1 ?_;(try simp only[qO]);refine takeB 2 ?_;(try simp only[qO]);refine takeB 3 ?_;(try simp only[qO]);refine dw [4] (by kernel_rfl) (by simp) ?_;refine bL 4 rfl (fun K hK=>?_) bS.nil;rw[aaa (by rfl)]
     go_simp
     refine pW.mono ?_;rintro e W4 ⟨rfl,hb4⟩;go_wp2_with fail;have hS4:W4.cell? ⟨b6,0,none⟩=some (.pointer (some ⟨X,0,none⟩))/\W4.cell? ⟨w.heap.size,1,none⟩=some (.int .i64 m.start):=⟨(hb4.cell (p:=⟨b6,0,none⟩) (aga c63)).trans hS3.1,(hb4.cell (p:=⟨w.heap.size,1,none⟩) (aga d23)).trans hS3.2⟩;refine hK.out _ _ (fun _=>hS4) ?_;clear hK K
     try simp only[qO]
     refine takeB 5 ?_;(try simp only[qO]);have WI:Below W3 W3 W4:=(aac _ _).drew.trans hb4;refine dw [6] (by kernel_rfl) (by simp) ?_;refine bL 6 rfl (fun K hK=>?_) bS.nil;rw[aaa (by rfl)]
     go_simp
     refine(pV _ WI).mono ?_;rintro e W5 ⟨pv5,rfl,hE5,hC5,hg5⟩;go_wp2_with fail;refine hK.out _ _ (fun h=>by cases h) ?_;clear hK K hS3 hS4;refine l8 (by kernel_rfl) ?_ _;have hX2:=Uw.out;have hb4n:=aga H43.out;have hW34:=WI.size;have aCw:=ae aCv WI;have aCx:Below w w W5:=lq aCw hC5 (Pe _) (fun b hb e=>by
      rcases e with e|e|e
      ·omega
      ·rw[UG]at e;omega
      ·simp[Value.ownBlock]at e)
     have hk5:∀b,b<W3.heap.size->b≠X->b≠nb->W5.heap[b]? = W3.heap[b]?:=fun b hb n1 n2=>(hC5.block b (by omega) (fun e=>by
      rcases e with e|e|e
      ·exact n1 e
      ·rw[UG]at e;exact n2 e
      ·simp[Value.ownBlock]at e)).trans (WI.block b hb)
     have YP:∀g,pv5.ownBlock=some g->W4.heap.size<=g:=fun g hg=>by
      rcases hg5 g hg with e|e
      ·simp[Value.ownBlock]at e
      ·exact e
     have WR:∀b,b<W4.heap.size->b≠X->b≠nb->b≠w.heap.size+1->¬ qH X D2.nb (w.heap.size+1) pv5 (.slice none 0 0) b:=fun b hb n1 n2 n3 e=>by
      rcases e with e|e|e|e|e
      ·exact n1 e
      ·rw[UG]at e;exact n2 e
      ·exact n3 e
      ·have:=YP b e;omega
      ·simp[Value.ownBlock]at e
     obtain⟨bs,ofs,Yk,-⟩:=HS.out 0 (by have:=hst.2.1;omega);have l23:=aga d23;have l63:=aga c63;have lf3:=fl3.lt;rw[UL]at lf3;have d25:W5.heap[w.heap.size]? = some (.cells #[.int .i64 m.kind,.int .i64 m.start,S m.lead,.slice (some ⟨bs,ofs,none⟩) m.states.length c] 30 (0,0)):=by
      rw[hk5 _ l23 (by omega) (by omega),d23,TJ,Yk]
     have c65:=(hk5 b6 l63 (by omega) (by omega)).trans c63;have fl5:ji W5 D2.fb (dW t 0 []):=fl3.same (hk5 _ (by omega) (by omega) (by omega));have own5:W5.ownsRow 0 9 1 (.slice Af fs.length cf) fs.length (fs.map S):=eP (eP own3 (aB.of_new (X:=fun _=>False) WI) (fun _ _ e=>e)) hC5 (fun g hg e=>by
      rcases e with e|e|e
      ·exact(Uq g hg).2.1 e
      ·rw[UG]at e;exact(Uq g hg).2.2 e
      ·simp[Value.ownBlock]at e)
     have hown3:∀g,(Value.slice Af fs.length cf).ownBlock=some g->g<W3.heap.size:=fun g hg=>mU own3 hg
     have hW1:w.heap.size+1<W1.heap.size:=l4';have hO5:gz t fs m w W5 (some ⟨bs,ofs,none⟩) c w.heap.size (w.heap.size+1) b6 X D2 Af cf pv5 [(m.start,dE fs [])] (.slice none 0 0) [] []:=by
      refine⟨aCx,hE5,?_,abN _ _ _ _,?_,⟨by omega,by rw[UG];omega⟩,⟨by omega,by rw[UG];omega,by rw[UL];omega,by rw[UL,UG];omega⟩,fun g hg=>?_,fun g hg=>by simp[Value.ownBlock]at hg,⟨by omega,by rw[UG];omega,by omega⟩,abq,fun d hd=>absurd hd aaK,YO⟩
      ·rw[hk5 _ hb4n (by omega) (by omega),H43.out,TJ];rfl
      ·intro w' hs hb
       refine⟨?_,?_,?_,?_,fun d hd=>absurd hd aaK,fun p hp=>absurd hp aaK⟩
       ·exact(hb _ (aga d25) (WR _ (by omega) (by omega) (by omega) (by omega))).trans d25
       ·exact(hb _ (aga c65) (WR _ (by omega) (by omega) (by omega) (by omega))).trans c65
       ·exact fl5.same (hb _ fl5.lt (WR _ (by rw[UL];omega) (by rw[UL];omega) (by rw[UL];omega) (by rw[UL];omega)))
       ·exact DJ (Cz own5 (fun g hg=>WR g (by have:=hown3 g hg;omega) (Uq g hg).2.1 (Uq g hg).2.2 (by have:=(Uq g hg).1;omega)) w' hs hb)
      ·have:=YP g hg
       refine⟨by omega,by omega,by omega,by rw[UL];omega,by simp[Value.ownBlock]⟩
     have HO5:=Pd hO5;have HAE:=Pd Yk;have HN2:=Pd hn2;have HA2:=Pd hA2;clear hO5 Yk WR hk5 YP own5 fl5 c65 d25 fl3 nm3 own3 hE3 hE5 hC5 hg5 Uq hown3 hX2 Ww hF2 x3 c63 d23 hx5 pW pV hn2 hA2 UL UG YO WN hnb hD2 hD hnd l23 l63 lf3;go_wp2_with fail;refine IW t fs m (lC m t fs 3001 0 [(m.start,dE fs [])] [] 0) w W5 bs ofs c w.heap.size (w.heap.size+1) b6 X D2 Af cf pv5 [(m.start,dE fs [])] hT (by rw[<-HAE.out];exact HS.out) HMK.out Xb Wj.out (by rw[HA2.out,HAE.out]) HN2.out rfl ?hl0 (by simp) HO5.out _ _ _ _ _ _ _ _ _ _ _ _ _ _ _ _ _ _ _ _ _ _ _ _ _ _ _ _ _ _ _ _ _ _ _ _ _ _ _ _ _ _ _ _ _ _ _ _ _ _ _ _ _ _ _ _ _ _ _ _ _ _ _ _ _ _ _ _ _ _ _ _ _ _ _ _ _ _ _ _ _ _ _ _ _ _ _ _ _ _ _ _ _ _ _ _ _ _ _ _ _ _ _ _ _ _ _ _ _ _ _ _ _ _ _ _ _ _ _ _ _ _ _ _ _ _ _ _ _ _ _ _ _ _ _ _ _ _ _ _ _ _ _ _ _ _ _ _ _ _ _ _ _ _ _ _ _ _ _ _ _ _ _ _ _ _ _ _ _ _ _ _ ?hok ?hlong
     case hl0=>
      intro p hp;rw[aar]at hp;subst hp;exact⟨⟨hst.2.1.2.2.1,hst.2.1.2.2.2⟩,Bc fs⟩
     case hlong=>
      intro ds v14 v15 x16 x94 x95 x96 x97 x98 x99 x100 x101 x102 x103 x104 x105 x106 x107 x108 x109 x110 x111 x112 x113 x114 x115 x116 x117 x118 x119 x120 x121 x122 x123 x124 x125 x153 x154 x155 x156 x157 x158 x159 x160 x161 x162 x163 x164 x165 x166 x167 x168 x169 x170 x171 x172 x173 u174 W6 hR TV h46 hdd hdn;have hX:jd m t=(rz,2):=by
       unfold jd;rw[aaa ⟨HMK.out,Um.out⟩,<-Wj.out,hR]
      refine BK hdd hdn h46 rfl rfl (fun Z hZ=>?_);rw[hX];exact⟨none,0,rfl,fun k hk=>absurd hk (abW _),by rw[hZ];exact zV TV (fun d hd=>(hdd d hd).2)⟩
     case hok=>
      intro i cN ds l pv os sv x16 x94 x95 x96 x97 x98 x99 x100 x101 x102 x103 x104 x105 x106 x107 x108 x109 x110 x111 x112 x113 x114 x115 x116 x117 x118 x119 x120 x121 x122 x123 x124 x125 x153 x154 x155 x156 x157 x158 x159 x160 x161 x162 x163 x164 x165 x166 x167 x168 x169 x170 x171 x172 x173 W6 hR hO6
      dsimp only
      obtain⟨As,cs,rfl,aCI⟩:=hO6.sts;have h4:=hO6.c4;rw[TJ]at h4;have y0:W6.cell? ⟨w.heap.size+1,0,none⟩=some (.int .i64 m.kind):=by rw[aap W6 _ 0 _ _ _ h4];rfl
      have y1:W6.cell? ⟨w.heap.size+1,1,none⟩=some (.int .i64 0):=by rw[aap W6 _ 1 _ _ _ h4];rfl
      have y2:W6.cell? ⟨w.heap.size+1,2,none⟩=some (.string Ld):=by rw[aap W6 _ 2 _ _ _ h4];rfl
      have y3:W6.cell? ⟨w.heap.size+1,3,none⟩=some (.slice As os.length cs):=by rw[aap W6 _ 3 _ _ _ h4];rfl
      have hfz:∀o,W6.frozen? ⟨w.heap.size+1,o,none⟩=false:=fun o=>by unfold World.frozen?;rw[h4];simp
      have f0:=hfz 0;have f1:=hfz 1;have f2:=hfz 2;have f3:=hfz 3;have hC7:aB (fun b=>b=w.heap.size+1) W6 ((((W6.setCell ⟨w.heap.size+1,0,none⟩ (.int .i64 m.kind)).setCell ⟨w.heap.size+1,1,none⟩ (.int .i64 0)).setCell ⟨w.heap.size+1,2,none⟩ (.string Ld)).setCell ⟨w.heap.size+1,3,none⟩ (.slice As os.length cs)):=(((dP W6 _ 0 _).trans (dP _ _ 1 _) fun b _ e=>e).trans (dP _ _ 2 _) fun b _ e=>e).trans (dP _ _ 3 _) fun b _ e=>e
      have h47:=dO (dO (dO (dO h4 0 (.int .i64 m.kind) rfl) 1 (.int .i64 0) rfl) 2 (.string Ld) rfl) 3 (.slice As os.length cs) rfl;have Zk:=Pd hC7;have H47:=Pd h47;have ZR:=Pd hO6;have H4':=Pd h4;have HST:=Pd aCI;have HRR:=Pd hR;clear hfz hC7 h47 hO6 h4 aCI hR;go_wp2_with fail;obtain⟨W7,hW7⟩:∃W7,W7=((((W6.setCell ⟨w.heap.size+1,0,none⟩ (.int .i64 m.kind)).setCell ⟨w.heap.size+1,1,none⟩ (.int .i64 0)).setCell ⟨w.heap.size+1,2,none⟩ (.string Ld)).setCell ⟨w.heap.size+1,3,none⟩ (.slice As os.length cs)):=⟨_,rfl⟩;rw[<-hW7]at Zk H47 ⊢;have YB:Below W6 W6 W7:=⟨Zk.out.os,Zk.out.tape,Zk.out.output,Zk.out.size,fun b hb=>by
       by_cases hbb:b=w.heap.size+1
       ·rw[hbb,H47.out,H4'.out];rfl
       ·exact Zk.out.block b hb hbb⟩
      have hdd:∀d∈ds,W7.heap[d]? = some (.deferred (some []))/\w.heap.size<=d:=fun d hd=>⟨(YB.block d (ZR.out.dl d hd).2).trans (ZR.out.fix.now.dd d hd),(ZR.out.dl d hd).1⟩
      have hX:jd m t=(⟨m.kind,0,m.lead,os.map Prod.fst⟩,0):=by
       unfold jd;rw[aaa ⟨HMK.out,Um.out⟩,<-Wj.out,HRR.out]
      refine BK (k:=m.kind) (s:=0) (r:=0) (L:=Ld) (A2:=As) (n:=os.length) (cp:=cs) hdd ZR.out.dn H47.out rfl rfl (fun Z hZ=>?_);rw[hX];refine⟨As,cs,?_,?_,by rw[hZ];exact zV (ae ZR.out.bl YB) (fun d hd=>(hdd d hd).2)⟩
      ·unfold di
       rw[TJ];simp
      ·rw[hZ]
       exact NH (fun d hd=>(hdd d hd).1) (HST.out.below YB)
end Go.Proofs.YtppnecgeboonbaaGreatDoor
