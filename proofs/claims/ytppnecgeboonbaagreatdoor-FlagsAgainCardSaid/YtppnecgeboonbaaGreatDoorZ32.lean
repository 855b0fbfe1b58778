/- Walks. -/
import Derived.Test.YtppnecgeboonbaaGreatDoorZ28
namespace Go.Proofs.YtppnecgeboonbaaGreatDoor
set_option maxRecDepth 100000
set_option linter.all false
set_option maxHeartbeats 8000000
open Go Go.RowKit Go.Maps
def Kh(q:Int)(Z:ByteArray):iy (q,Z.data.toList)=.agg #[.int .i64 q,.string Z]:=by unfold iy;rw[eX]
abbrev zx(X b6 b16 b17 b18 fb:Nat)(av:Value)(x y q:Int)(Wt Z:ByteArray)(w:World):Prop:=w.cell? ⟨b6,0,none⟩=some (.pointer (some ⟨X,0,none⟩))/\w.cell? ⟨b16,1,none⟩=some av/\w.cell? ⟨X,4,none⟩=some (.map (some fb))/\w.cell? ⟨b17,0,none⟩=some (.int .i64 x)/\w.cell? ⟨b17,1,none⟩=some (.int .i64 y)/\w.cell? ⟨b17,2,none⟩=some (.string Wt)/\w.cell? ⟨b18,0,none⟩=some (.int .i64 q)/\w.cell? ⟨b18,1,none⟩=some (.string Z)
def zB(X nb b16:Nat)(pv0 av0:Value)(b:Nat):Prop:=b=X\/b=nb\/b=b16\/pv0.ownBlock=some b\/av0.ownBlock=some b
structure iZ (t:List Bs) (Wb:World) (pv0:Value) (W:World) (X B:Nat) (D:dH) (pv:Value) (pl:List aR) (b6 b16 b17 b18:Nat) (fin:Value) (av:Value) (BA:Nat) (out:List aO) (A17 A18:Array Value):Prop where
 rv:kL t W X B D pv pl b6 b16 fin av BA out
 c17:W.heap[b17]? = some (.cells A17 77 (0,0))
 c18:W.heap[b18]? = some (.cells A18 82 (0,0))
 n17:b17≠X/\b17≠D.nb/\b17≠b16/\pv.ownBlock≠some b17/\av.ownBlock≠some b17
 n18:b18≠X/\b18≠D.nb/\b18≠b16/\pv.ownBlock≠some b18/\av.ownBlock≠some b18
 ch:aB (zB X D.nb b16 pv0 av) Wb W
 po:∀g,pv.ownBlock=some g->pv0.ownBlock=some g\/Wb.heap.size<=g
section
variable {t:List Bs} {Wb W W':World} {X B:Nat} {D:dH} {pv0 pv:Value} {pl:List aR} {b6 b16 b17 b18:Nat} {fin:Value} {av:Value} {BA:Nat} {out:List aO} {A17 A18:Array Value}
def iZ.below(h:iZ t Wb pv0 W X B D pv pl b6 b16 b17 b18 fin av BA out A17 A18)(hb:Below W W W'):iZ t Wb pv0 W' X B D pv pl b6 b16 b17 b18 fin av BA out A17 A18 where
 rv:=h.rv.below hb
 c17:=(hb.block _ (lt_of_block h.c17)).trans h.c17
 c18:=(hb.block _ (lt_of_block h.c18)).trans h.c18
 n17:=h.n17
 n18:=h.n18
 ch:=h.ch.trans (aB.of_new (X:=fun _=>False) hb) (fun _ _ e=>e.elim)
 po:=h.po
def iZ.visit{p:aR}{e:Ending}(h:iZ t Wb pv0 W X B D pv pl b6 b16 b17 b18 fin av BA out A17 A18)(hv:sQ X B D pv pl p W e W') :
  ∃pv',e=.returned (.int .i64 (((dG pl p).1:Nat):Int))/\iZ t Wb pv0 W' X B D pv' (dG pl p).2 b6 b16 b17 b18 fin av BA out A17 A18:=by
 obtain⟨pv',he,hR,hC,hg⟩:=h.rv.visit hv;have hgn:∀b,b<W.heap.size->pv.ownBlock≠some b->pv'.ownBlock≠some b:=fun b hb hn e=>by
  rcases hg b e with e|e
  ·exact hn e
  ·omega
 obtain⟨a1,a2,a3,a4,a5⟩:=h.n17;obtain⟨e1,e2,e3,e4,e5⟩:=h.n18;refine⟨pv',he,hR,?_,?_,⟨a1,a2,a3,hgn _ (lt_of_block h.c17) a4,a5⟩,⟨e1,e2,e3,hgn _ (lt_of_block h.c18) e4,e5⟩,?_,?_⟩
 ·refine(hC.block _ (lt_of_block h.c17) ?_).trans h.c17
  rintro(e|e|e)
  ·exact a1 e
  ·exact a2 e
  ·exact a4 e
 ·refine(hC.block _ (lt_of_block h.c18) ?_).trans h.c18
  rintro(e|e|e)
  ·exact e1 e
  ·exact e2 e
  ·exact e4 e
 ·refine h.ch.trans hC fun b hb e=>?_
  rcases e with e|e|e
  ·exact aam e
  ·exact aad (aam e)
  ·rcases h.po b e with e|e
   ·exact aad (aad (aad (aam e)))
   ·omega
 ·intro g hg'
  rcases hg g hg' with e|e
  ·exact h.po g e
  ·exact aad (aaB h.ch.size e)
structure qG (W:World) (X b6 b16 b17 b18:Nat) (D:dH) (pv fin av:Value) (A17 A18:Array Value):Prop where
 c6:W.heap[b6]? = some (.cells #[.pointer (some ⟨X,0,none⟩)] 64 (0,0))
 s16:W.heap[b16]? = some (.cells #[fin,av] 75 (0,0))
 x:W.heap[X]? = some (.cells (aW D pv) 71 (0,0))
 c17:W.heap[b17]? = some (.cells A17 77 (0,0))
 c18:W.heap[b18]? = some (.cells A18 82 (0,0))
def qG.ld{x y tg q:Int}{Wt Z:ByteArray}(h:qG W X b6 b16 b17 b18 D pv fin av #[.int .i64 x,.int .i64 y,.string Wt,.int .i64 tg] #[.int .i64 q,.string Z]):zx X b6 b16 b17 b18 D.fb av x y q Wt Z W:=by
 refine⟨?_,?_,?_,?_,?_,?_,?_,?_⟩
 ·rw[aap W b6 0 _ _ _ h.c6];rfl
 ·rw[aap W b16 1 _ _ _ h.s16];rfl
 ·rw[aap W X 4 _ _ _ h.x];rfl
 ·rw[aap W b17 0 _ _ _ h.c17];rfl
 ·rw[aap W b17 1 _ _ _ h.c17];rfl
 ·rw[aap W b17 2 _ _ _ h.c17];rfl
 ·rw[aap W b18 0 _ _ _ h.c18];rfl
 ·rw[aap W b18 1 _ _ _ h.c18];rfl
def qG.free(h:qG W X b6 b16 b17 b18 D pv fin av A17 A18):W.frozen? ⟨b16,1,none⟩=false:=by
 unfold World.frozen?;rw[h.s16];simp
def iZ.ldp(h:iZ t Wb pv0 W X B D pv pl b6 b16 b17 b18 fin av BA out A17 A18):qG W X b6 b16 b17 b18 D pv fin av A17 A18:=⟨h.rv.c6,h.rv.s16,h.rv.el.x,h.c17,h.c18⟩
def iZ.ld{x y tg q:Int}{Wt Z:ByteArray}(h:iZ t Wb pv0 W X B D pv pl b6 b16 b17 b18 fin av BA out #[.int .i64 x,.int .i64 y,.string Wt,.int .i64 tg] #[.int .i64 q,.string Z]):zx X b6 b16 b17 b18 D.fb av x y q Wt Z W:=h.ldp.ld
def iZ.grown(h:iZ t Wb pv0 W X B D pv pl b6 b16 b17 b18 fin av BA out A17 A18)(hg:W.grownBy W' av.ownBlock):qG W' X b6 b16 b17 b18 D pv fin av A17 A18:=by
 have key:∀b,b<W.heap.size->av.ownBlock≠some b->W'.heap[b]? = W.heap[b]?:=fun b hb hn=>hg.block b hb (fun e=>hn e.symm)
 refine⟨?_,?_,?_,?_,?_⟩
 ·exact(key _ (lt_of_block h.rv.c6) (fun e=>(h.rv.ab _ e).2.2.1 rfl)).trans h.rv.c6
 ·exact(key _ (lt_of_block h.rv.s16) (fun e=>(h.rv.ab _ e).2.2.2.1 rfl)).trans h.rv.s16
 ·exact(key _ (lt_of_block h.rv.el.x) (fun e=>(h.rv.ab _ e).1 rfl)).trans h.rv.el.x
 ·exact(key _ (lt_of_block h.c17) h.n17.2.2.2.2).trans h.c17
 ·exact(key _ (lt_of_block h.c18) h.n18.2.2.2.2).trans h.c18
def zA(t:List Bs)(Wb:World)(X B:Nat)(D:dH)(pv0:Value)(pl:List aR)(b6 b16:Nat)(fin av:Value)(BA:Nat)(out:List aO)(p:aR)(x y:Int)(Wt:ByteArray)(W':World):Prop:=
 ∃pv' av',kL t W' X B D pv' (dG pl p).2 b6 b16 fin av' BA (out++[⟨fE t x,fE t y,Wt.data.toList,(((dG pl p).1:Nat):Int)⟩])/\aB (zB X D.nb b16 pv0 av) Wb W' ∧
  (∀g,pv'.ownBlock=some g->pv0.ownBlock=some g\/Wb.heap.size<=g)/\∀g,av'.ownBlock=some g->av.ownBlock=some g\/Wb.heap.size<=g
def iZ.closing{x y:Int}{Wt:ByteArray}{g2 cap:Nat}{w5:World}{pl0:List aR}{p:aR}{W2:World}{o:Obj}
  (h:iZ t Wb pv0 (W2.alloc o) X B D pv (dG pl0 p).2 b6 b16 b17 b18 fin av BA out A17 A18)
  (hown:w5.ownsRow BA 77 4 (.slice (some ⟨g2,0,none⟩) (out.length+1) cap) (out.length+1) (jD out++[.int .i64 (fE t x),.int .i64 (fE t y),.string Wt,.int .i64 (((dG pl0 p).1:Nat):Int)]))
  (hgr:(W2.alloc o).grownBy w5 av.ownBlock) (hat:av.ownBlock=some g2\/g2=(W2.alloc o).heap.size) (hlt:g2<w5.heap.size) (hsz:Wb.heap.size<=W2.heap.size) :
  zA t Wb X B D pv0 pl0 b6 b16 fin av BA out p x y Wt (w5.setCell ⟨b16,1,none⟩ (.slice (some ⟨g2,0,none⟩) (out.length+1) cap)):=by
 have hP:=h.grown hgr;have g1:aB (fun b=>av.ownBlock=some b) (W2.alloc o) w5:=aB.of_grown hgr;have g3:=dP w5 b16 1 (.slice (some ⟨g2,0,none⟩) (out.length+1) cap);have hsA:(W2.alloc o).heap.size=W2.heap.size+1:=by simp
 have hgn:av.ownBlock=some g2\/(W2.alloc o).heap.size<=g2:=hat.imp id (fun e=>aeS e.symm);have key:∀b,b<(W2.alloc o).heap.size->av.ownBlock≠some b->g2≠b:=fun b hb hn e=>by
  rcases hgn with e'|e'
  ·exact hn (e ▸ e')
  ·omega
 have s5:=g1.size;refine⟨pv,.slice (some ⟨g2,0,none⟩) (out.length+1) cap,⟨?_,?_,?_,?_,?_,h.rv.n1,h.rv.n2,h.rv.pb,?_⟩,?_,h.po,?_⟩
 ·exact(h.rv.el.chg g1 (fun e=>(h.rv.ab _ e).1 rfl) (fun e=>(h.rv.ab _ e).2.1 rfl) (fun g hg e=>(h.rv.ab _ e).2.2.2.2.2 hg)).chg g3 (fun e=>h.rv.n1.1 e.symm) (fun e=>h.rv.n1.2.1 e.symm) (fun g hg e=>(h.rv.pb g hg).2.1 e)
 ·exact(g3.block b6 (lt_of_block hP.c6) (fun e=>h.rv.n1.2.2.1 e.symm)).trans hP.c6
 ·exact dO hP.s16 1 _ rfl
 ·rw[aas,Fh]
  simp only[eX];exact eP hown g3 (fun g hg e=>by
   simp only[Value.ownBlock,aao]at hg;subst hg;exact key b16 (lt_of_block h.rv.s16) (fun e=>(h.rv.ab _ e).2.2.2.1 rfl) e)
 ·exact(h.rv.fl.same (g1.block _ h.rv.fl.lt (fun e=>(h.rv.ab _ e).2.2.2.2.1 rfl))).same (g3.block _ (aah h.rv.fl.lt s5) (fun e=>h.rv.n1.2.2.2 e.symm))
 ·intro g hg
  simp only[Value.ownBlock,aao]at hg;subst hg;refine⟨key _ (lt_of_block h.rv.el.x) (fun e=>(h.rv.ab _ e).1 rfl),key _ h.rv.el.nm.lt (fun e=>(h.rv.ab _ e).2.1 rfl),key _ (lt_of_block h.rv.c6) (fun e=>(h.rv.ab _ e).2.2.1 rfl),key _ (lt_of_block h.rv.s16) (fun e=>(h.rv.ab _ e).2.2.2.1 rfl),key _ h.rv.fl.lt (fun e=>(h.rv.ab _ e).2.2.2.2.1 rfl),fun e=>?_⟩;rcases hgn with e'|e'
  ·exact(h.rv.ab _ e').2.2.2.2.2 e
  ·have:=mU h.rv.el.own e
   omega
 ·refine(h.ch.trans g1 fun b hb e=>aad (aad (aad (aad e)))).trans g3 fun b hb e=>aad (aad (aam e))
 ·intro g hg
  simp only[Value.ownBlock,aao]at hg;subst hg;exact hgn.imp id (fun e=>by omega)
end
def LJ(t:List Bs)(W:World)(X B:Nat)(D:dH)(pv:Value)(pl:List aR)(b6 b16 b17 b18:Nat)(fin:Value)(av:Value)(BA:Nat)(out:List aO)(x y tg q:Int)(Wt Z:ByteArray)
  (h0:iZ t W pv W X B D pv pl b6 b16 b17 b18 fin av BA out #[.int .i64 x,.int .i64 y,.string Wt,.int .i64 tg] #[.int .i64 q,.string Z])
  (ht:t.length<=500) (hx0:0<=x) (hx1:x<=500) (hy0:0<=y) (hy1:y<=500) (hpl:∀p∈pl,kK p) (hp:kK (q,Z.data.toList)) (hn:pl.length<=100000) (ho:out.length<=100000) (hB:B<=W.heap.size) (hBA:BA<=W.heap.size)
  (L:Nat) (Q:Exit->Act->World->Prop) (Uz:∀c a w,Q (.panic c) a w->False) (hQo:∀a w,Q .outgrown a w->False)
  (Xl:∀a' W',zA t W X B D pv pl b6 b16 fin av BA out (q,Z.data.toList) x y Wt W'->Q .normal a' W') (y0 y1 y2 y3 y4 y5 y7 y8 y9 y10 y11 y12 y13 y14 y15 y19 y20 y21 y22 y23 y24 y25 y26 y27 y28 y29 y30 y31 y32 y33 y34 y35 y36 y37 y38 y39 y40 y41 y42 y43 y44 y45 y46 y47 y48 y49 y50 y51 y52 y53 y54 y55 y56 y57 y58 y59 y60 y61 y62 y63 y64 y65 y66 y67 y68 y69 y70 y71 y72 y73 y74 y75 y76 y77 y78 y79 y80 y81 y82 y83 y84 y85 y86 y87 y88 y89 y90 y91 y92 y93 y94 y95 y96 y97 y98 y99 y100 y101 y102 y103 y104 y105 y106 y107 y108 y109 y110 y111 y112 y113 y114 y115 y116 y117 y118 y119 y120 y121 y122 y123 y124 y125 y126 y127 y128 y129 y130 y131 y132 y133 y134 y135 y136 y137 y138 y139 y140 y141 y142 y143 y144 y145 y146 y147 y148 y149 y150 y151 y152 y153 y154 y155 y156 y157 y158 y159 y160 y161 y162 y163 y164 y165 y166 y167 y168 y169 y170 y171 y172 y173 y174 y175:Value) :
  (cutAt [1,1,1,1,1,1,1,1,0,1,3,2,1,0,3,1,0,1,3,7] (tu Tryz.f13)).wpIn (Fence.wide.inRound L) 4 Tryz.prog Q { tmps:=#[y0,y1,y2,y3,y4,y5,.pointer (some ⟨b6,0,none⟩),y7,y8,y9,y10,y11,y12,y13,y14,y15,.pointer (some ⟨b16,0,none⟩),.pointer (some ⟨b17,0,none⟩),.pointer (some ⟨b18,0,none⟩),y19,y20,y21,y22,y23,y24,y25,y26,y27,y28,y29,y30,y31,y32,y33,y34,y35,y36,y37,y38,y39,y40,y41,y42,y43,y44,y45,y46,y47,y48,y49,y50,y51,y52,y53,y54,y55,y56,y57,y58,y59,y60,y61,y62,y63,y64,y65,y66,y67,y68,y69,y70,y71,y72,y73,y74,y75,y76,y77,y78,y79,y80,y81,y82,y83,y84,y85,y86,y87,y88,y89,y90,y91,y92,y93,y94,y95,y96,y97,y98,y99,y100,y101,y102,y103,y104,y105,y106,y107,y108,y109,y110,y111,y112,y113,y114,y115,y116,y117,y118,y119,y120,y121,y122,y123,y124,y125,y126,y127,y128,y129,y130,y131,y132,y133,y134,y135,y136,y137,y138,y139,y140,y141,y142,y143,y144,y145,y146,y147,y148,y149,y150,y151,y152,y153,y154,y155,y156,y157,y158,y159,y160,y161,y162,y163,y164,y165,y166,y167,y168,y169,y170,y171,y172,y173,y174,y175],defers:=[] } W:=by
 conv=>enter [4];whnf
 refine wpIn_block ?_;have pV:∀w' pv' ,iZ t W pv w' X B D pv' pl b6 b16 b17 b18 fin av BA out #[.int .i64 x,.int .i64 y,.string Wt,.int .i64 tg] #[.int .i64 q,.string Z]->Calls Tryz.prog 43 #[.pointer (some ⟨X,0,none⟩),.agg #[.int .i64 q,.string Z]] w' (sQ X B D pv' pl (q,Z.data.toList) w'):=fun w' pv' h=>by
  have:=ED X B D pv' pl (q,Z.data.toList) w' h.rv.el hpl hp hn (aaB hB h.ch.size);rwa[Kh]at this
 have pV:=fun w' h=>pV w' pv h
 obtain⟨ic,ci,cz0,cz1,cz2⟩:=abm Fj;have h63:out.length+1<=maxLen:=by unfold maxLen;omega
 have hby:(out.length+1)*40<=140737488355328:=by omega
 have hR:iZ t W pv W.drew X B D pv pl b6 b16 b17 b18 fin av BA out #[.int .i64 x,.int .i64 y,.string Wt,.int .i64 tg] #[.int .i64 q,.string Z]:=h0.below (aac _ W).drew;have TJ:=hR.ld;refine Oy 25 (fun w=>w.cell? ⟨b6,0,none⟩=some (.pointer (some ⟨X,0,none⟩))/\w.cell? ⟨b16,1,none⟩=some av/\w.cell? ⟨X,4,none⟩=some (.map (some D.fb))/\w.cell? ⟨b17,0,none⟩=some (.int .i64 x)/\w.cell? ⟨b17,1,none⟩=some (.int .i64 y)/\w.cell? ⟨b17,2,none⟩=some (.string Wt)/\w.cell? ⟨b18,0,none⟩=some (.int .i64 q)/\w.cell? ⟨b18,1,none⟩=some (.string Z)) (by kernel_rfl) (JJ (cutAt [1,1,1,1,1,1,1,1,0,1,3,2,1,0,3,1,0,1,3,7,3] (tu Tryz.f13)) (by kernel_rfl)) ?_ ?_
 ·rintro⟨a,w,h⟩
  exact hQo _ _ h
 refine takeB 0 ?_ (hQ:=fun c a w h=>(Uz _ _ _ h).elim)
 try simp only[qO]
 refine takeB 1 ?_ (hQ:=fun c a w h=>(Uz _ _ _ h).elim)
 try simp only[qO]
 refine takeB 2 ?_ (hQ:=fun c a w h=>(Uz _ _ _ h).elim)
 try simp only[qO]
 refine takeB 3 ?_ (hQ:=fun c a w h=>(Uz _ _ _ h).elim)
 try simp only[qO]
 refine takeB 4 ?_ (hQ:=fun c a w h=>(Uz _ _ _ h).elim)
 try simp only[qO]
 refine takeB 5 ?_ (hQ:=fun c a w h=>(Uz _ _ _ h).elim)
 try simp only[qO]
 refine takeB 6 ?_ (hQ:=fun c a w h=>(Uz _ _ _ h).elim)
 try simp only[qO]
 refine takeB 7 ?_ (hQ:=fun c a w h=>(Uz _ _ _ h).elim)
 try simp only[qO]
 refine takeB 9 ?_ (hQ:=fun c a w h=>(Uz _ _ _ h).elim)
 try simp only[qO]
 refine takeB 10 ?_ (hQ:=fun c a w h=>(Uz _ _ _ h).elim)
 try simp only[qO]
 refine takeB 11 ?_ (hQ:=fun c a w h=>(Uz _ _ _ h).elim)
 try simp only[qO]
 refine takeB 12 ?_ (hQ:=fun c a w h=>(Uz _ _ _ h).elim)
 try simp only[qO]
 refine takeB 13 ?_ (hQ:=fun c a w h=>(Uz _ _ _ h).elim)
 try simp only[qO]
 refine takeB 14 ?_ (hQ:=fun c a w h=>(Uz _ _ _ h).elim)
 try simp only[qO]
 refine takeB 16 ?_ (hQ:=fun c a w h=>(Uz _ _ _ h).elim)
 try simp only[qO]
 refine takeB 17 ?_ (hQ:=fun c a w h=>(Uz _ _ _ h).elim)
 try simp only[qO]
 refine takeB 18 ?_ (hQ:=fun c a w h=>(Uz _ _ _ h).elim)
 try simp only[qO]
 refine takeB 19 ?_ (hQ:=fun c a w h=>(Uz _ _ _ h).elim)
 try simp only[qO]
 refine dw [8] (by kernel_rfl) (by simp) ?_;refine bL 8 rfl (fun K hK=>?_) ?_
 ·rw[aaa (by rfl)]
  go_simp
  refine(Ep D.fb t _ hR.rv.fl ht x hx0 hx1).mono ?_;rintro e w2 ⟨rfl,hb⟩;go_wp2_with fail;have hR:=hR.below hb;have TJ:=hR.ld;refine hK.out _ _ (fun _=>TJ) ?_;clear hK K
  try simp only[qO]
  refine dw [15] (by kernel_rfl) (by simp) ?_;refine bL 15 rfl (fun K hK=>?_) ?_
  ·rw[aaa (by rfl)]
   go_simp
   refine(Ep D.fb t _ hR.rv.fl ht y hy0 hy1).mono ?_;rintro e w2 ⟨rfl,hb⟩;go_wp2_with fail;have hR:=hR.below hb;have TJ:=hR.ld;refine hK.out _ _ (fun _=>TJ) ?_;clear hK K
   try simp only[qO]
   refine dw [20] (by kernel_rfl) (by simp) ?_;refine bL 20 rfl (fun K hK=>?_) ?_
   ·rw[aaa (by rfl)]
    go_simp
    refine(pV _ hR).mono ?_;rintro e w2 hvp;obtain⟨pv2,rfl,hR2⟩:=hR.visit hvp;go_wp2_with fail;have hR:=hR2;have TJ:=hR.ld;refine hK.out _ _ (fun _=>TJ) ?_;clear hK K hR2 hvp
    try simp only[qO]
    refine takeB 21 ?_ (hQ:=fun c a w h=>(Uz _ _ _ h).elim)
    try simp only[qO]
    refine dw [22] (by kernel_rfl) (by simp) ?_;refine bL 22 rfl (fun K hK=>?_) bS.nil;rw[aaa (by rfl)]
    go_simp
    have bA:=(aac w2.heap.size w2).alloc (Pe _) (.cells #[.int .i64 (fE t x),.int .i64 (fE t y),.string Wt,.int .i64 (((dG pl (q,Z.data.toList)).1:Nat):Int)] 77);have hRA:=hR.below bA;have TJ:=hRA.ld;refine hK.out _ _ (fun _=>TJ) ?_;clear hK K
    try simp only[qO]
    refine dw [23] (by kernel_rfl) (by simp) ?_;refine bL 23 rfl (fun K hK=>?_) bS.nil;have hnews:∀j u,(#[Value.int .i64 (fE t x),.int .i64 (fE t y),.string Wt,.int .i64 (((dG pl (q,Z.data.toList)).1:Nat):Int)]).toList[j]? = some u->(w2.alloc (.cells #[.int .i64 (fE t x),.int .i64 (fE t y),.string Wt,.int .i64 (((dG pl (q,Z.data.toList)).1:Nat):Int)] 77)).cell? ((⟨w2.heap.size,0,none⟩:Addr).add j)=some u:=abK (aaq w2 _);have hbase:BA<=(w2.alloc (.cells #[.int .i64 (fE t x),.int .i64 (fE t y),.string Wt,.int .i64 (((dG pl (q,Z.data.toList)).1:Nat):Int)] 77)).heap.size:=aaB (aaB hBA hR.ch.size) bA.size;refine adO _ (by rfl) (.tmp 129) (.tmp 150) 73 (by rfl) BA 77 ic _ 4 40 Tryz.underlying73 ci cz0 cz1 cz2 (by rfl) (by decide) _ out.length (jD out) (by rfl) hRA.rv.own ⟨w2.heap.size,0,none⟩ 1 1 [.int .i64 (fE t x),.int .i64 (fE t y),.string Wt,.int .i64 (((dG pl (q,Z.data.toList)).1:Nat):Int)] (by rfl) rfl hnews (by simp[Value.oneCell']) (by decide) h63 hby hbase _ rfl ?_;intro g2 cap w5 hown6 hgr5 TW Ul;have hP:=hRA.grown hgr5;refine hK.out _ _ (fun _=>hP.ld) ?_;clear hK K
    try simp only[qO]
    have TJ:=hP.ld;refine takeB 24 ?_ (hQ:=fun c a w h=>(Uz _ _ _ h).elim)
    try simp only[qO]
    refine dw [25] (by kernel_rfl) (by simp) ?_;refine bL 25 rfl (fun K hK=>?_) bS.nil;rw[aaa (by rfl)];have f16:=hP.free;have k16:=hP.ld.2.1
    go_simp
    refine hK.out _ _ (fun h=>by cases h) ?_;clear hK K;refine l8 (by kernel_rfl) ?_ _;exact Xl _ _ (hRA.closing hown6 hgr5 TW Ul hR.ch.size)
   exact bS.nil
  exact bS.nil
 exact bS.nil
end Go.Proofs.YtppnecgeboonbaaGreatDoor
