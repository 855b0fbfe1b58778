/- Walks. -/
import Derived.Test.YtppnecgeboonbaaGreatDoorZ34
namespace Go.Proofs.YtppnecgeboonbaaGreatDoor
set_option maxRecDepth 100000
set_option linter.all false
set_option maxHeartbeats 8000000
open Go Go.RowKit Go.Maps
attribute [local go_sem] Oper.semAt_some
def Ox{P:Program}{α:Type}{g:Operand}{ps:Array Tmp}{assign body:Code}{Q:Exit->Act->World->Prop}{a:Act}{w:World}
  {gf:Nat} {lb:Array Value} (hg:a.eval g=.func (.func gf) #[] lb) (eg:∀args w,(callFunc gf args).run P w=.ok (.enter gf args) w)
  {encs:α->Array Value} {xs:List α} {Hc:World->Prop} (hseq:zw P gf lb encs xs Hc) (hps:∀x,(encs x).size=ps.size)
  (I:List α->World->Prop) (h0:∀o1 o2,I [] ((w.alloc o1).alloc o2))
  (hIl:∀pre W o,I pre W->I pre (W.putObj (w.heap.size+1) o)) (hIb:∀pre W W',I pre W->Below W W W'->I pre W') (hIc:∀pre W,I pre W->Hc W)
  (Ax:α->World->Act->World->Prop) (hAx:∀x Wp a' W o,w.heap.size+2<=Wp.heap.size->Ax x Wp a' W->Ax x Wp a' (W.putObj (w.heap.size+1) o))
  (hassign:∀(x:α) (W:World) (K:Act->World->Prop),w.heap.size+2<=W.heap.size->(∀a' W',Below W W W'->Ax x W a' W'->K a' W') ->
   assign.wpIn (Fence.wide.inRound (w.heap.size+1)) 4 P (Exit.then K (fun _ _ _=>False)) { tmps:=(ps.zip (encs x)).foldl (fun t (p,v)=>t.setIfInBounds p v) a.tmps,defers:=[] } W)
  (hbody:∀(pre:List α) (x:α) (post:List α) (a':Act) (Wp Wa:World) (o:Obj),xs=pre++x::post->I pre Wp->w.heap.size+2<=Wp.heap.size->Below Wp Wp Wa->Ax x Wp a' (Wa.putObj (w.heap.size+1) o) ->
   body.wpIn (Fence.wide.inRound (w.heap.size+1)) 4 P (FO (w.heap.size+1) w.heap.size I pre x (Wa.putObj (w.heap.size+1) o)) a' (Wa.putObj (w.heap.size+1) o))
  (hdone:∀W,I xs W->W.heap[w.heap.size]? = some (.deferred (some []))->Q .normal { a with defers:={ target:=.collected w.heap.size,args:=#[] }::a.defers } W) :
  (Code.rangeFunc g ps assign body).wpIn Fence.wide 6 P Q a w:=by
 refine wpIn_rangeFunc ?_;intro fn hfn;obtain⟨rec,hrec⟩:∃rec:LoopState->Option Code->Loop,rec=fun st pe=>{ state:=st,pending:=pe,fn:=fn,tmps:=a.tmps,params:=ps,assign,body,defers:=w.heap.size }:=⟨_,rfl⟩
 obtain⟨W1,hW1⟩:∃W1,(w.alloc (.deferred (some []))).alloc (.loop (rec .ready none))=W1:=⟨_,rfl⟩;have hL1:W1.heap[w.heap.size+1]? = some (.loop (rec .ready none)):=by
  rw[<-hW1];have:=World.alloc_heap_new (w.alloc (.deferred (some []))) (.loop (rec .ready none));rwa[adt]at this
 have hK1:W1.heap[w.heap.size]? = some (.deferred (some [])):=by
  rw[<-hW1];exact(aeF _ _ _ (by simp)).trans (World.alloc_heap_new w _)
 refine⟨w.heap.size+1,[{ target:=.collected w.heap.size,args:=#[] }],W1,{ target:=.fn (.func gf) lb,args:=#[.func (.yield (w.heap.size+1)) #[] #[]] },W1,gf,
  #[.func (.yield (w.heap.size+1)) #[] #[]]++lb,W1,?_,?_,?_,?_,fun _=>by omega,?_⟩
 ·rw[<-hW1,hrec];exact run_enterLoop_outer _ _ _ _ _
 ·simp only[resolve,hg]
  simp[go_sem]
 ·intro f' hf';trivial
 ·simp[invoke,go_sem,eg]
 ·refine(hseq (w.heap.size+1)
   (fun pre W=>I pre W/\W.heap[w.heap.size+1]? = some (.loop (rec .ready none))/\W.heap[w.heap.size]? = some (.deferred (some [])))
   (fun pre W h=>hIc pre W h.1) (fun pre W W' h hb=>⟨hIb pre W W' h.1 hb,(hb.block _ (lt_of_block h.2.1)).trans h.2.1,(hb.block _ (lt_of_block h.2.2)).trans h.2.2⟩) ?_ W1 ⟨by rw[<-hW1];exact h0 _ _,hL1,hK1⟩).mono ?_
  ·rintro pre x post W hx ⟨hi,hl,hk⟩
   have hlt:w.heap.size+1<W.heap.size:=(abg.1 hl).1;have hy:=run_yield (P:=P) (args:=encs x) hl (by rw[hrec];exact hps x);rw[hrec]at hy;refine⟨fn,_,assign,body,hy,roundIn_of_wpIn trivial (hassign x W _ hlt ?_)⟩;clear hy;intro a' Wa VK hax;have hla:=(VK.block _ hlt).trans hl;have hka:=(VK.block _ (lt_of_block hk)).trans hk;have hlta:=aah hlt VK.size;refine⟨_,run_beginRound hla (by rw[hrec]),?_⟩;have hl2:(Wa.putObj (w.heap.size+1) (.loop { rec .ready none with state:=.busy })).heap[w.heap.size+1]? = some (.loop { rec .ready none with state:=.busy }):=World.putObj_heap_same hlta;have hk2:(Wa.putObj (w.heap.size+1) (.loop { rec .ready none with state:=.busy })).heap[w.heap.size]? = some (.deferred (some [])):=(abM (by omega)).trans hka;refine wpIn_mono (hbody pre x post a' W Wa _ hx hi hlt VK (hAx _ _ _ _ _ hlt hax)) ?_;rintro e a3 W3 hp
   cases e with
   |normal=>
    obtain⟨h1,h2,h3⟩:=hp;have hl3:=h1.trans hl2;have hr:=run_endRound (P:=P) none hl3;refine⟨_,_,hr,rfl,hIl _ _ _ h3,?_,?_⟩
    ·have:=World.putObj_heap_same (w:=W3) (o:=.loop { { rec .ready none with state:=.busy } with state:=if (none:Option Code).isNone then .ready else .done,pending:=none }) (abg.1 hl3).1
     rw[hrec]at this ⊢;exact this
    ·exact(abM (by omega)).trans (h2.trans hk2)
   |panic ch=>exact hp.elim
   |ret=>exact hp.elim
   |exit id=>exact hp.elim
   |goto t=>exact hp.elim
   |outgrown=>exact hp.elim
  ·rintro e W2 ⟨rfl,hi,hl,hk⟩
   exact⟨none,_,by have:=run_endLoop (P:=P) hl (by rw[hrec];simp);rw[hrec]at this;exact this,hdone _ (hIl _ _ _ hi) ((abM (by omega)).trans hk)⟩
def kL.chg{Y:Nat->Prop}{t:List Bs}{W W':World}{X B:Nat}{D:dH}{pv:Value}{pl:List aR}{b6 b16:Nat}{fin:Value}{av:Value}{BA:Nat}{out:List aO}(h:kL t W X B D pv pl b6 b16 fin av BA out)(hC:aB Y W W')(hY:¬ Y X/\¬ Y D.nb/\¬ Y b6/\¬ Y b16/\¬ Y D.fb)(hp:∀g,pv.ownBlock=some g->¬ Y g)(ha:∀g,av.ownBlock=some g->¬ Y g):kL t W' X B D pv pl b6 b16 fin av BA out where
 el:=h.el.chg hC hY.1 hY.2.1 hp
 c6:=(hC.block _ (lt_of_block h.c6) hY.2.2.1).trans h.c6
 s16:=(hC.block _ (lt_of_block h.s16) hY.2.2.2.1).trans h.s16
 own:=eP h.own hC ha
 fl:=h.fl.same (hC.block _ h.fl.lt hY.2.2.2.2)
 n1:=h.n1
 n2:=h.n2
 pb:=h.pb
 ab:=h.ab
structure aDl (t:List Bs) (Wr:World) (L:Nat) (X:Nat) (D:dH) (pv0:Value) (l:List aR) (b6 b16 bx bp:Nat) (fin:Value) (q:Int) (M:ByteArray) (pre:List (aO×Bs)) (W:World) (pv av:Value):Prop where
 rv:kL t W X 0 D pv (jc t pre l []).2 b6 b16 fin av 0 (jc t pre l []).1
 ch:aB (fun b=>b=X\/b=D.nb\/pv0.ownBlock=some b) Wr W
 po:∀g,pv.ownBlock=some g->pv0.ownBlock=some g\/Wr.heap.size<=g
 ao:∀g,av.ownBlock=some g->Wr.heap.size<=g
 pL:∀g,pv.ownBlock=some g->g≠L/\g≠L+1/\g≠bx/\g≠bp
 aL:∀g,av.ownBlock=some g->g≠L/\g≠L+1/\g≠bx/\g≠bp
 sz:L+2<=W.heap.size
 bX:W.heap[bx]? = some (.cells #[.pointer (some ⟨X,0,none⟩)] 64 (0,0))
 bP:W.heap[bp]? = some (.cells #[.int .i64 q,.string M] 82 (0,0))
structure zy (Wr:World) (L X nb fb b6 b16 bx bp:Nat):Prop where
 a:Wr.heap.size<=b16/\Wr.heap.size<=bx/\Wr.heap.size<=bp
 b:X<L/\nb<L/\fb<L/\b6<L/\b16<L/\bx<L/\bp<L
 c:bx≠b16/\bp≠b16/\X≠bx/\X≠bp/\nb≠bx/\nb≠bp
def aDl.below{t:List Bs}{Wr:World}{L X:Nat}{D:dH}{pv0:Value}{l:List aR}{b6 b16 bx bp:Nat}{fin:Value}{q:Int}{M:ByteArray}{pre:List (aO×Bs)}{W W':World}{pv av:Value}(h:aDl t Wr L X D pv0 l b6 b16 bx bp fin q M pre W pv av)(hb:Below W W W'):aDl t Wr L X D pv0 l b6 b16 bx bp fin q M pre W' pv av:=
 ⟨h.rv.below hb,h.ch.trans (aB.of_new (X:=fun _=>False) hb) (fun _ _ e=>e.elim),h.po,h.ao,h.pL,h.aL,aaB h.sz hb.size,(hb.block _ (lt_of_block h.bX)).trans h.bX,(hb.block _ (lt_of_block h.bP)).trans h.bP⟩
def aDl.put{t:List Bs}{Wr:World}{L X:Nat}{D:dH}{pv0:Value}{l:List aR}{b6 b16 bx bp:Nat}{fin:Value}{q:Int}{M:ByteArray}{pre:List (aO×Bs)}{W:World}{pv av:Value}(h:aDl t Wr L X D pv0 l b6 b16 bx bp fin q M pre W pv av)(hl:zy Wr L X D.nb D.fb b6 b16 bx bp)(hr:Wr.heap.size<=L)(o:Obj):aDl t Wr L X D pv0 l b6 b16 bx bp fin q M pre (W.putObj (L+1) o) pv av:=by
 have hC:=zS W (L+1) o;obtain⟨x1,x2,x3,x4,x5,x6,x7⟩:=hl.b;refine⟨h.rv.chg hC ⟨by omega,by omega,by omega,by omega,by omega⟩ (fun g hg=>(h.pL g hg).2.1) (fun g hg=>(h.aL g hg).2.1),?_,h.po,h.ao,h.pL,h.aL,aaB h.sz hC.size,?_,?_⟩
 ·exact h.ch.trans hC fun b hb e=>by omega
 ·exact(hC.block bx (lt_of_block h.bX) (by omega)).trans h.bX
 ·exact(hC.block bp (lt_of_block h.bP) (by omega)).trans h.bP
def KO(t fs:List Bs)(m:aQ)(W0 Wr Wb:World)(bs ofs c b2 b4 b6 X:Nat)(D:dH)(Af:Option Addr)(cf:Nat)(pv:Value)(l:List aR)(sv:Value)(os:List (bI×Value))(ds:List Nat)(dl:List Deferred)
  (b16 bx bp q:Nat) (M:ByteArray) (fin:Value) (hT:fD W0) (hS:dY W0 (some ⟨bs,ofs,none⟩) m.states) (hm:bM m=true) (ht:t.length<=500) (hfs:fs=fG t m.states [])
  (hA:D.A=some ⟨bs,ofs,none⟩) (hDn:D.n=m.states.length)
  (hO:gz t fs m W0 Wr (some ⟨bs,ofs,none⟩) c b2 b4 b6 X D Af cf pv l sv os ds) (hB:Below Wr Wr Wb)
  (h16:Wb.heap[b16]? = some (.cells #[fin,.slice none 0 0] 75 (0,0))) (hX:Wb.heap[bx]? = some (.cells #[.pointer (some ⟨X,0,none⟩)] 64 (0,0))) (hP:Wb.heap[bp]? = some (.cells #[.int .i64 (q:Int),.string M] 82 (0,0)))
  (hlo:Wr.heap.size<=b16/\Wr.heap.size<=bx/\Wr.heap.size<=bp) (hq:q<m.states.length) (hg:OY fs M.data.toList) (hl:∀p∈l,(0<=p.1/\p.1<m.states.length)/\OY fs p.2) (hll:l.length<=3000)
  (y0 y1 y2 y3 y4 y5 y7 y8 y9 y10 y11 y12 y13 y14 y15 y17 y18 y19 y20 y21 y22 y23 y24 y25 y26 y27 y28 y29 y30 y31 y32 y33 y34 y35 y36 y37 y38 y39 y40 y41 y42 y43 y44 y45 y46 y47 y48 y49 y50 y51 y52 y53 y54 y55 y56 y57 y58 y59 y60 y61 y62 y63 y64 y65 y66 y67 y68 y69 y70 y71 y72 y73 y74 y75 y76 y77 y78 y79 y80 y81 y82 y83 y84 y85 y86 y87 y88 y89 y90 y91 y92 y93 y94 y95 y96 y97 y98 y99 y100 y101 y102 y103 y104 y105 y106 y107 y108 y109 y110 y111 y112 y113 y114 y115 y116 y117 y118 y119 y120 y121 y122 y123 y124 y126 y127 y128 y129 y130 y131 y132 y133 y134 y135 y136 y137 y138 y139 y140 y141 y142 y143 y144 y145 y146 y147 y148 y149 y150 y151 y152 y153 y154 y155 y156 y157 y158 y159 y160 y161 y162 y163 y164 y165 y166 y167 y168 y169 y170 y171 y172 y173 y174 y175:Value) (Q:Exit->Act->World->Prop)
  (Xl:∀W' pv' av',gz t fs m W0 W' (some ⟨bs,ofs,none⟩) c b2 b4 b6 X D Af cf pv' (iO t fs M.data.toList m.states[q].arcs l []).2 sv os (Wb.heap.size::ds) ->
   W'.ownsRow 0 77 4 av' (iO t fs M.data.toList m.states[q].arcs l []).1.length (jD (iO t fs M.data.toList m.states[q].arcs l []).1)->(∀g,av'.ownBlock=some g->¬ qH X D.nb b4 pv' sv g)->W'.heap[b16]? = some (.cells #[fin,av'] 75 (0,0)) ->
   Q .normal { tmps:=#[y0,y1,y2,y3,y4,y5,.pointer (some ⟨b6,0,none⟩),y7,y8,y9,y10,y11,y12,y13,y14,y15,.pointer (some ⟨b16,0,none⟩),y17,y18,y19,y20,y21,y22,y23,y24,y25,y26,y27,y28,y29,y30,y31,y32,y33,y34,y35,y36,y37,y38,y39,y40,y41,y42,y43,y44,y45,y46,y47,y48,y49,y50,y51,y52,y53,y54,y55,y56,y57,y58,y59,y60,y61,y62,y63,y64,y65,y66,y67,y68,y69,y70,y71,y72,y73,y74,y75,y76,y77,y78,y79,y80,y81,y82,y83,y84,y85,y86,y87,y88,y89,y90,y91,y92,y93,y94,y95,y96,y97,y98,y99,y100,y101,y102,y103,y104,y105,y106,y107,y108,y109,y110,y111,y112,y113,y114,y115,y116,y117,y118,y119,y120,y121,y122,y123,y124,.func (.func 79) #[] #[.pointer (some ⟨bx,0,none⟩),.pointer (some ⟨bp,0,none⟩)],y126,y127,y128,y129,y130,y131,y132,y133,y134,y135,y136,y137,y138,y139,y140,y141,y142,y143,y144,y145,y146,y147,y148,y149,y150,y151,y152,y153,y154,y155,y156,y157,y158,y159,y160,y161,y162,y163,y164,y165,y166,y167,y168,y169,y170,y171,y172,y173,y174,y175],defers:={ target:=.collected Wb.heap.size,args:=#[] }::dl } W') :
  (cutAt [1,1,1,1,1,1,1,1,0,1,3,2,1,0,3,1,0,1,3] (tu Tryz.f13)).wp Tryz.prog Q { tmps:=#[y0,y1,y2,y3,y4,y5,.pointer (some ⟨b6,0,none⟩),y7,y8,y9,y10,y11,y12,y13,y14,y15,.pointer (some ⟨b16,0,none⟩),y17,y18,y19,y20,y21,y22,y23,y24,y25,y26,y27,y28,y29,y30,y31,y32,y33,y34,y35,y36,y37,y38,y39,y40,y41,y42,y43,y44,y45,y46,y47,y48,y49,y50,y51,y52,y53,y54,y55,y56,y57,y58,y59,y60,y61,y62,y63,y64,y65,y66,y67,y68,y69,y70,y71,y72,y73,y74,y75,y76,y77,y78,y79,y80,y81,y82,y83,y84,y85,y86,y87,y88,y89,y90,y91,y92,y93,y94,y95,y96,y97,y98,y99,y100,y101,y102,y103,y104,y105,y106,y107,y108,y109,y110,y111,y112,y113,y114,y115,y116,y117,y118,y119,y120,y121,y122,y123,y124,.func (.func 79) #[] #[.pointer (some ⟨bx,0,none⟩),.pointer (some ⟨bp,0,none⟩)],y126,y127,y128,y129,y130,y131,y132,y133,y134,y135,y136,y137,y138,y139,y140,y141,y142,y143,y144,y145,y146,y147,y148,y149,y150,y151,y152,y153,y154,y155,y156,y157,y158,y159,y160,y161,y162,y163,y164,y165,y166,y167,y168,y169,y170,y171,y172,y173,y174,y175],defers:=dl } Wb:=by
 conv=>enter [2];whnf
 refine(wpIn_wide (n:=6)).1 ?_;rw[vC]at Xl;obtain⟨xs,hxs⟩:∃xs,xs=fU t fs M.data.toList m.states[q].arcs:=⟨_,rfl⟩;rw[<-hxs]at Xl;have hOb:=hO.below hB;have hFb:=hOb.fix.now;have lX:=lt_of_block hOb.el.x;have lN:=hOb.el.nm.lt;have lF:=hFb.fl.lt;have l6:=lt_of_block hFb.c6;have l16:=lt_of_block h16;have lbx:=lt_of_block hX;have lbp:=lt_of_block hP;have rX:=lt_of_block hO.el.x;have rN:=hO.el.nm.lt;have rF:=hO.fix.now.fl.lt;have r6:=lt_of_block hO.fix.now.c6;have nbx:bx≠b16:=fun e=>by rw[e]at hX;rw[hX]at h16;simp at h16
 have nbp:bp≠b16:=fun e=>by rw[e]at hP;rw[hP]at h16;simp at h16
 have hL3:zy Wr Wb.heap.size X D.nb D.fb b6 b16 bx bp:=⟨hlo,⟨lX,lN,lF,l6,l16,lbx,lbp⟩,nbx,nbp,by omega,by omega,by omega,by omega⟩;have hst:=kV.1 hm;have WU:=pg.1 (hst.2.2.2.1 _ (aag hq));obtain⟨bq,oq,hAq,hbq,-,A',c',hsa,har⟩:=hS q hq;simp only[aao,adP]at hAq;obtain⟨rfl,rfl,-⟩:=hAq;have WE:m.states[q].arcs.length<=30000:=by
  have h1:=sW hq;have h2:=PS m.states (q+1);have h3:=hst.2.2.2.2;omega
 have X3:=xN t m.states [] abq;have hfF:=vF t m.states [] (fun f hf=>absurd hf aaK);have hfL:=vG t m.states [];rw[<-hfs]at X3 hfF hfL;have hfe:∀a∈m.states[q].arcs,∀f,eO t a=some f->f.feat∈fs:=fun a ha f hf=>X3.2.2 _ (aag hq) a ha f hf
 have hsy:∀a∈m.states[q].arcs,aBU a.inn=true/\aBU a.out=true:=fun a ha=>⟨(mh.1 (WU.2 a ha)).1,(mh.1 (WU.2 a ha)).2.1⟩
 have hseq:=Nw t fs m.states[q].arcs bs ofs m.states.length D.c A' c' D.fb Af cf X bx bp q M hq ht X3.1 hfF (by simp at hfL;omega) hg hsy hfe WE;rw[<-hxs]at hseq;have hxm:∀x∈xs,x.1∈m.states[q].arcs/\jy t fs M.data.toList x.1=some x.2:=fun x hx=>Ej (hxs ▸ hx)
 have hxl:xs.length<=30000:=by rw[hxs];exact aaB (Ei _ _ _ _) WE
 have hPl:∀p:aR,(0<=p.1/\p.1<m.states.length)/\OY fs p.2->kK p:=fun p hp=>by
  have h1:=(xR hp.2).1;have h2:=hst.2.1.2.1;refine⟨⟨by omega,by omega⟩,?_⟩;simp at hfL;have:fs.length<=30000:=by omega
  omega
 have hPx:∀x∈xs,(0<=x.1.to/\x.1.to<m.states.length)/\OY fs x.2:=fun x hx=>⟨(mh.1 (WU.2 _ (hxm x hx).1)).2.2.1,Be X3.1 hg (hfe _ (hxm x hx).1) (hxm x hx).2⟩
 refine Ox (gf:=79) (lb:=#[.pointer (some ⟨bx,0,none⟩),.pointer (some ⟨bp,0,none⟩)]) rfl (enters_of Tryz.func79 (by kernel_rfl) rfl) hseq (fun _=>rfl)
  (fun pre W=>∃pv' av',aDl t Wr Wb.heap.size X D pv l b6 b16 bx bp fin (q:Int) M pre W pv' av') ?h0 ?hIl ?hIb ?hIc
  (fun x Wp a' W=>∃b17 b18,Wp.heap.size<=b17/\Wp.heap.size<=b18/\a'={ tmps:=#[y0,y1,y2,y3,y4,y5,.pointer (some ⟨b6,0,none⟩),y7,y8,y9,y10,y11,y12,y13,y14,y15,.pointer (some ⟨b16,0,none⟩),.pointer (some ⟨b17,0,none⟩),.pointer (some ⟨b18,0,none⟩),y19,y20,y21,y22,y23,y24,y25,y26,y27,y28,y29,y30,y31,y32,y33,y34,y35,y36,y37,y38,y39,y40,y41,y42,y43,y44,y45,y46,y47,y48,y49,y50,y51,y52,y53,y54,y55,y56,y57,y58,y59,y60,y61,y62,y63,y64,y65,y66,y67,y68,y69,y70,y71,y72,y73,y74,y75,y76,y77,y78,y79,y80,y81,y82,y83,y84,y85,y86,y87,y88,y89,y90,y91,y92,y93,y94,y95,y96,y97,y98,y99,y100,y101,y102,y103,y104,y105,y106,y107,y108,y109,y110,y111,y112,y113,y114,y115,y116,y117,y118,y119,y120,y121,y122,y123,y124,.func (.func 79) #[] #[.pointer (some ⟨bx,0,none⟩),.pointer (some ⟨bp,0,none⟩)],qR x.1,iy (x.1.to,x.2),y128,y129,y130,y131,y132,y133,y134,y135,y136,y137,y138,y139,y140,y141,y142,y143,y144,y145,y146,y147,y148,y149,y150,y151,y152,y153,y154,y155,y156,y157,y158,y159,y160,y161,y162,y163,y164,y165,y166,y167,y168,y169,y170,y171,y172,y173,y174,y175],defers:=[] }/\W.heap[b17]? = some (.cells #[.int .i64 x.1.inn,.int .i64 x.1.out,S x.1.w,.int .i64 x.1.to] 77 (0,0))/\W.heap[b18]? = some (.cells #[.int .i64 x.1.to,S x.2] 82 (0,0))) ?hAx ?assign ?body ?done
 case h0=>
  intro o1 o2;have hb2:Below Wb Wb ((Wb.alloc o1).alloc o2):=((aac _ _).alloc (Pe _) _).alloc (by simp) _;have hO2:=hOb.below hb2;have hf2:=hO2.fix.now;have hbr:Below Wr Wr ((Wb.alloc o1).alloc o2):=ae hB hb2;have hpr:∀g,pv.ownBlock=some g->g<Wr.heap.size:=fun g hg=>mU hO.el.own hg
  have hWr:=hB.size;refine⟨pv,.slice none 0 0,⟨hO2.el,hf2.c6,(hb2.block b16 l16).trans h16,abN _ _ _ _,hf2.fl,⟨by omega,by omega,by omega,by omega⟩,hO2.n2,fun g hg=>?_,fun g hg=>by simp[Value.ownBlock]at hg⟩,aB.of_new hbr,fun g hg=>aam hg,fun g hg=>by simp[Value.ownBlock]at hg,fun g hg=>?_,fun g hg=>by simp[Value.ownBlock]at hg,by simp,(hb2.block bx lbx).trans hX,(hb2.block bp lbp).trans hP⟩
  ·obtain⟨p1,p2,p3,p4,p5⟩:=hO2.pb g hg
   have:=hpr g hg;exact⟨p3,by omega,p4⟩
  ·have:=hpr g hg
   exact⟨by omega,by omega,by omega,by omega⟩
 case hIl=>
  rintro pre W o ⟨pv',av',h⟩;exact⟨pv',av',h.put hL3 hB.size o⟩
 case hIb=>
  rintro pre W W' ⟨pv',av',h⟩ hb;exact⟨pv',av',h.below hb⟩
 case hIc=>
  rintro pre W ⟨pv',av',h⟩;have hf:=hO.fix W h.ch.size (fun b hb hn=>h.ch.block b hb (fun e=>hn (by
   rcases e with e|e|e
   ·exact aam e
   ·exact aad (aam e)
   ·exact aad (aad (aad (aam e))))))
  have hlow:Below W0 W0 W:=lq hO.bl h.ch (Pe _) (fun b hb e=>by
   rcases e with e|e|e
   ·have:=hO.lo.1;omega
   ·have:=hO.lo.2.1;omega
   ·have:=(hO.pb b e).1;omega)
  refine⟨hT.below hlow,?_,?_,?_,?_,?_,?_,?_,har.below hlow,hf.fl,hf.ft⟩
  ·rw[aap W bx 0 _ _ _ h.bX];rfl
  ·rw[aap W bp 0 _ _ _ h.bP];rfl
  ·rw[aap W bp 1 _ _ _ h.bP];rfl
  ·exact h.rv.el.cell 3 _ (by unfold aW;rw[hA,hDn];rfl)
  ·exact h.rv.el.cell 4 _ rfl
  ·exact h.rv.el.cell 5 _ (by unfold aW;rw[hO.fv];rfl)
  ·exact(hlow.cell (p:=⟨bs,ofs+q*2+1,none⟩) hbq).trans hsa
 case hAx=>
  rintro x Wp a' W o hsz ⟨b17,b18,h1,h2,h3,h4,h5⟩;exact⟨b17,b18,h1,h2,h3,(abM (by omega)).trans h4,(abM (by omega)).trans h5⟩
 case assign=>
  intro x W K hsz hK;obtain⟨⟨ai,ao,aw,at'⟩,x2⟩:=x;obtain⟨Zw,hZw⟩:∃Z,S aw=.string Z:=⟨_,rfl⟩;obtain⟨Zx,hZx⟩:∃Z,S x2=.string Z:=⟨_,rfl⟩;have HK:=Pd hK;clear hK Xl;simp only[wP,qR,iy,hZw,hZx]at HK ⊢;simp (config:={ decide:=true }) only[List.zip_toArray,List.zip_cons_cons,List.zip_nil_right,List.foldl_toArray,List.foldl_cons,List.foldl_nil,afq,afm,List.set_cons_succ]
  gi_wp2
  refine HK.out _ _ (((aac _ _).alloc (Pe _) _).alloc (by simp) _) ⟨W.heap.size,W.heap.size+1,Pe _,adU _,rfl,?_,?_⟩
  ·rw[heap_alloc_old _ _ (by simp)];exact aaq W _
  ·have:=aaq (W.alloc (.cells #[.int .i64 ai,.int .i64 ao,.string Zw,.int .i64 at'] 77)) (.cells #[.int .i64 at',.string Zx] 82)
   rwa[adt]at this
 case body=>
  rintro pre x post a' Wp Wa o hx ⟨pv',av',h⟩ hsz VK ⟨b17,b18,n17,n18,rfl,h17,h18⟩;have hI:=(h.below VK).put hL3 hB.size o;have hmx:x∈xs:=by rw[hx];simp
  have hpre:∀y∈pre,y∈xs:=fun y hy=>by rw[hx];exact abB _ hy
  have hlen:=xM t pre l [];have hprel:pre.length<xs.length:=by rw[hx];simp
  obtain⟨⟨ai,ao,aw,at'⟩,x2⟩:=x;obtain⟨Zw,hZw⟩:∃Z:ByteArray,aw=Z.data.toList:=⟨⟨aw.toArray⟩,rfl⟩;obtain⟨Zx,hZx⟩:∃Z:ByteArray,x2=Z.data.toList:=⟨⟨x2.toArray⟩,rfl⟩;subst hZw hZx;have YZ:=hsy _ (hxm _ hmx).1;have hpx:=hPx _ hmx;simp only at YZ hpx;have s1:=eZ.1 YZ.1;have s2:=eZ.1 YZ.2;simp only[qR,iy,eX]at h17 h18 ⊢;obtain⟨W,hW⟩:∃W,W=Wa.putObj (Wb.heap.size+1) o:=⟨_,rfl⟩;have hszW:Wp.heap.size<=W.heap.size:=by rw[hW];exact aaB VK.size (by simp)
  rw[<-hW]at h17 h18 hI ⊢;have lt17:=lt_of_block h17;have hav:∀g,av'.ownBlock=some g->g<Wp.heap.size:=fun g hg=>mU h.rv.own hg
  have hpv:∀g,pv'.ownBlock=some g->g<Wp.heap.size:=fun g hg=>mU h.rv.el.own hg
  have wX:=lt_of_block h.rv.el.x;have wN:=h.rv.el.nm.lt;have w16:=lt_of_block h.rv.s16;obtain⟨e1,e2,e3,e4,e5,e6,e7⟩:=hL3.b;have hsz2:=h.sz;refine LJ t W X 0 D pv' (jc t pre l []).2 b6 b16 b17 b18 fin av' 0 (jc t pre l []).1 ai ao at' at' Zw Zx
   ⟨hI.rv,h17,h18,⟨by omega,by omega,by omega,fun e=>(by have:=hpv _ e;omega),fun e=>(by have:=hav _ e;omega)⟩,⟨by omega,by omega,by omega,fun e=>(by have:=hpv _ e;omega),fun e=>(by have:=hav _ e;omega)⟩,aB.refl _ _,fun g hg=>aam hg⟩
   ht s1.1 s1.2 s2.1 s2.2 (fun p hp=>?_) (hPl _ hpx) (by omega) (by simp at hlen;omega) (aaS _) (aaS _) _ _ (fun _ _ _ hh=>hh) (fun _ _ hh=>hh) (fun a'' W' hp=>?_) _ _ _ _ _ _ _ _ _ _ _ _ _ _ _ _ _ _ _ _ _ _ _ _ _ _ _ _ _ _ _ _ _ _ _ _ _ _ _ _ _ _ _ _ _ _ _ _ _ _ _ _ _ _ _ _ _ _ _ _ _ _ _ _ _ _ _ _ _ _ _ _ _ _ _ _ _ _ _ _ _ _ _ _ _ _ _ _ _ _ _ _ _ _ _ _ _ _ _ _ _ _ _ _ _ _ _ _ _ _ _ _ _ _ _ _ _ _ _ _ _ _ _ _ _ _ _ _ _ _ _ _ _ _ _ _ _ _ _ _ _ _ _ _ _ _ _ _ _ _ _ _ _ _ _ _ _ _ _ _ _ _ _ _ _ _ _ _ _ _ _ _
  ·rcases hlen.2.2.2 p hp with hp|⟨y,hy,rfl⟩
   ·exact hPl _ (hl p hp)
   ·exact hPl _ (hPx y (hpre y hy))
  ·obtain⟨pv2,av2,r1,r2,r3,r4⟩:=hp
   have hns:∀g,(pv2.ownBlock=some g->pv'.ownBlock=some g\/W.heap.size<=g):=r3;refine⟨?_,?_,pv2,av2,⟨?_,?_,?_,?_,?_,?_,?_,?_,?_⟩⟩
   ·refine r2.block _ (by omega) ?_
    rintro(e|e|e|e|e)
    ·omega
    ·omega
    ·omega
    ·exact(h.pL _ e).2.1 rfl
    ·exact(h.aL _ e).2.1 rfl
   ·refine r2.block _ (by omega) ?_
    rintro(e|e|e|e|e)
    ·omega
    ·omega
    ·omega
    ·exact(h.pL _ e).1 rfl
    ·exact(h.aL _ e).1 rfl
   ·rw[AC];exact r1
   ·refine hI.ch.trans r2 fun b hb e=>?_
    rcases e with e|e|e|e|e
    ·exact aam e
    ·exact aad (aam e)
    ·have:=hlo.1;omega
    ·rcases h.po b e with e|e
     ·exact aad (aad e)
     ·omega
    ·have:=h.ao b e;omega
   ·intro g hg
    rcases r3 g hg with e|e
    ·exact h.po g e
    ·exact aad (by have:=hB.size;omega)
   ·intro g hg
    rcases r4 g hg with e|e
    ·exact h.ao g e
    ·have:=hB.size;omega
   ·intro g hg
    rcases r3 g hg with e|e
    ·exact h.pL g e
    ·exact⟨by omega,by omega,by omega,by omega⟩
   ·intro g hg
    rcases r4 g hg with e|e
    ·exact h.aL g e
    ·exact⟨by omega,by omega,by omega,by omega⟩
   ·have:=r2.size;omega
   ·refine(r2.block bx (by omega) ?_).trans hI.bX
    rintro(e|e|e|e|e)
    ·exact hL3.c.2.2.1 e.symm
    ·exact hL3.c.2.2.2.2.1 e.symm
    ·exact hL3.c.1 e
    ·exact(h.pL _ e).2.2.1 rfl
    ·exact(h.aL _ e).2.2.1 rfl
   ·refine(r2.block bp (by omega) ?_).trans hI.bP
    rintro(e|e|e|e|e)
    ·exact hL3.c.2.2.2.1 e.symm
    ·exact hL3.c.2.2.2.2.2 e.symm
    ·exact hL3.c.2.1 e
    ·exact(h.pL _ e).2.2.2 rfl
    ·exact(h.aL _ e).2.2.2 rfl
 case done=>
  rintro W ⟨pv',av',h⟩ hd;refine Xl W pv' av' ((hO.step h.ch h.rv.el h.po).mark hd (fun hin=>?_) (aaB hO.bl.size hB.size)) h.rv.own (fun g hg=>?_) h.rv.s16
  ·have:=(hO.dl _ hin).2
   have:=hB.size;omega
  ·obtain⟨a1,a2,a3,a4,a5,a6⟩:=h.rv.ab g hg
   have hgr:=h.ao g hg;rintro(e|e|e|e|e)
   ·exact a1 e
   ·exact a2 e
   ·have:=lt_of_block hO.c4;omega
   ·exact a6 e
   ·have:=mU hO.own e;omega
end Go.Proofs.YtppnecgeboonbaaGreatDoor
