/- Walks. -/
import Derived.Test.YtppnecgeboonbaaGreatDoorZ28
namespace Go.Proofs.YtppnecgeboonbaaGreatDoor
set_option maxRecDepth 100000
set_option linter.all false
set_option maxHeartbeats 8000000
open Go Go.RowKit Go.Maps
theorem AQ(t:List Bs):∀(arcs:List aO) (l:List Bs) (k:Nat) (hk:k<arcs.length),dR t (arcs.take (k+1)) l=match eO t arcs[k] with|some f=>if f.feat∈dR t (arcs.take k) l then dR t (arcs.take k) l else dR t (arcs.take k) l++[f.feat]|none=>dR t (arcs.take k) l
 |a::r,l,0,_=>by
  simp only[aa1,ab7,acy];unfold dR
  cases eO t a with
  |none=>rfl
  |some f=>simp only[];split<;>rfl
 |a::r,l,k+1,hk=>by
  have hk':k<r.length:=by simpa using hk
  rw[aa1,aa1,abP];have e:∀x,dR t (a::x) l=dR t x (match eO t a with|some f=>if f.feat∈l then l else l++[f.feat]|none=>l):=fun x=>by
   conv=>lhs;unfold dR
   cases eO t a with
   |none=>rfl
   |some f=>simp only[];split<;>rfl
  rw[e,e,AQ t r _ k hk']
theorem AR(t:List Bs):∀(ss:List bI) (l:List Bs) (k:Nat) (hk:k<ss.length),fG t (ss.take (k+1)) l=dR t ss[k].arcs (fG t (ss.take k) l)
 |s::r,l,0,_=>by simp[fG]
 |s::r,l,k+1,hk=>by
  have hk':k<r.length:=by simpa using hk
  rw[aa1,aa1,abP,fG,fG];exact AR t r _ k hk'
theorem ui(t:List Bs):∀(arcs:List aO) (l:List Bs),(dR t arcs l).length<=l.length+arcs.length
 |[],l=>Pe _
 |a::r,l=>by
  unfold dR
  cases eO t a with
  |none=>have:=ui t r l;simp only[aaF];omega
  |some f=>
   simp only[]
   split
   ·have:=ui t r l;simp only[aaF];omega
   ·have:=ui t r (l++[f.feat]);simp only[aas,aaF,abG]at this ⊢;omega
theorem vG(t:List Bs):∀(ss:List bI) (l:List Bs),(fG t ss l).length<=l.length+dh ss
 |[],l=>Pe _
 |s::r,l=>by
  unfold fG;have h1:=vG t r (dR t s.arcs l);have h2:=ui t s.arcs l;have h3:dh (s::r)=s.arcs.length+dh r:=by simp[dh]
  omega
theorem uh(t:List Bs):∀(arcs:List aO) (l:List Bs),(∀f∈l,bz f)->∀f∈dR t arcs l,bz f
 |[],l,h=>h
 |a::r,l,h=>by
  unfold dR
  cases ha:eO t a with
  |none=>exact uh t r l h
  |some f=>
   simp only[]
   split
   ·exact uh t r l h
   ·refine uh t r _ fun g hg=>?_
    rcases aaG.1 hg with hg|hg
    ·exact h g hg
    ·rw[aar]at hg
     subst hg;exact(vI (vT ha)).1
theorem vF(t:List Bs):∀(ss:List bI) (l:List Bs),(∀f∈l,bz f)->∀f∈fG t ss l,bz f
 |[],l,h=>h
 |s::r,l,h=>vF t r _ (uh t s.arcs l h)
abbrev sO(w:World)(b:Nat)(fs:List Bs):Prop:=bN Tryz.prog 9 S Value.bool w b (fs.map fun f=>(f,true))
def FP(w:World):(zeroValue 4).run Tryz.prog w=.ok (.bool false) w:=by kernel_rfl
theorem D5:∀(fs:List Bs) (f:Bs),bO (fs.map fun g=>(g,true)) f=if f∈fs then some true else none
 |[],f=>rfl
 |g::r,f=>by
  rw[aa5];unfold bO;by_cases h:g=f
  ·rw[aaa h,aaa (by rw[h];exact aal)]
  ·rw[aab h,D5 r f]
   by_cases h2:f∈r
   ·rw[aaa h2,aaa (aaj _ h2)]
   ·rw[aab h2,aab (fun e=>by rcases aay.1 e with e|e;exact h e.symm;exact h2 e)]
def D6{fs:List Bs}(hl:∀f∈fs,bz f):∀p∈(fs.map fun g=>(g,true)),bz p.1:=by
 intro p hp;obtain⟨g,hg,rfl⟩:=abk.1 hp;exact hl g hg
def MF(W:World)(b:Nat)(fs:List Bs)(h:sO W b fs)(hl:∀f∈fs,bz f)(f:Bs)(hf:bz f):(Instr.lookup 72 (.map (some b)) (S f) false).run Tryz.prog W=.ok (.bool (decide (f∈fs))) W:=by
 have:=bN.look qK qJ Tryz.underlying72 (FP W) h (D6 hl) f hf false;rw[this,D5];by_cases h2:f∈fs
 ·rw[aaa h2,aaA h2];rfl
 ·rw[aab h2,aai h2];rfl
def MG(W:World)(b:Nat)(fs:List Bs)(h:sO W b fs)(hl:∀f∈fs,bz f)(f:Bs)(hf:bz f)(hn:f∉fs):∃o,(Instr.mapUpdate 72 (.map (some b)) (S f) (.bool true)).run Tryz.prog W=.ok () (aU W b o)/\sO (aU W b o) b (fs++[f]):=by
 have:=bN.put qK qJ Tryz.underlying72 h (D6 hl) f hf true;rw[vX (fun p hp=>by
  obtain⟨g,hg,rfl⟩:=abk.1 hp;exact fun e=>hn (e ▸ hg)),show((fs.map fun g=>(g,true))++[(f,true)])=(fs++[f]).map (fun g=>(g,true)) by simp]at this
 exact this
structure iL (t:List Bs) (W1 W:World) (X b6 sb:Nat) (D:dH) (fv:Value) (fs:List Bs):Prop where
 ch:aB (fun b=>b=X\/b=sb) W1 W
 c6:W.heap[b6]? = some (.cells #[.pointer (some ⟨X,0,none⟩)] 64 (0,0))
 x:W.heap[X]? = some (.cells (aW { D with fv:=fv } (.slice none 0 0)) 71 (0,0))
 own:W.ownsRow 0 9 1 fv fs.length (fs.map S)
 seen:sO W sb fs
 fl:ji W D.fb (dW t 0 [])
 nm:kJ W D.nb []
 ds:[b6,X,sb,D.fb,D.nb].Nodup
 fo:∀g,fv.ownBlock=some g->W1.heap.size<=g/\g∉[b6,X,sb,D.fb,D.nb]
def iL.below{t:List Bs}{W1 W W':World}{X b6 sb:Nat}{D:dH}{fv:Value}{fs:List Bs}(h:iL t W1 W X b6 sb D fv fs)(hb:Below W W W'):iL t W1 W' X b6 sb D fv fs where
 ch:=h.ch.trans (aB.of_new (X:=fun _=>False) hb) (fun _ _ e=>e.elim)
 c6:=(hb.block _ (lt_of_block h.c6)).trans h.c6
 x:=(hb.block _ (lt_of_block h.x)).trans h.x
 own:=eP h.own (aB.of_new (X:=fun _=>False) hb) (fun _ _ e=>e)
 seen:=h.seen.below hb
 fl:=h.fl.below hb
 nm:=h.nm.below hb
 ds:=h.ds
 fo:=h.fo
def iL.cell{t:List Bs}{W1 W:World}{X b6 sb:Nat}{D:dH}{fv:Value}{fs:List Bs}(h:iL t W1 W X b6 sb D fv fs)(o:Nat)(v:Value)(hv:(aW { D with fv:=fv } (.slice none 0 0))[o]? = some v):W.cell? ⟨X,o,none⟩=some v:=by
 rw[aap W X o _ _ _ h.x];exact hv
def iL.ptr{t:List Bs}{W1 W:World}{X b6 sb:Nat}{D:dH}{fv:Value}{fs:List Bs}(h:iL t W1 W X b6 sb D fv fs):W.cell? ⟨b6,0,none⟩=some (.pointer (some ⟨X,0,none⟩)):=by
 rw[aap W b6 0 _ _ _ h.c6];rfl
def iL.push{t:List Bs}{W1 W w5:World}{X b6 sb:Nat}{D:dH}{fv:Value}{fs:List Bs}{F:Bs}{o o':Obj}{g2 cap:Nat}(h:iL t W1 W X b6 sb D fv fs)(hs:sO (aU W sb o) sb (fs++[F])){W3:World}(hb3:Below (aU W sb o).heap.size (aU W sb o) W3)
  (hown:w5.ownsRow 0 9 1 (.slice (some ⟨g2,0,none⟩) (fs.length+1) cap) (fs.length+1) (fs.map S++[S F])) (hgr:W3.grownBy w5 fv.ownBlock) (hat:fv.ownBlock=some g2\/g2=W3.heap.size) (hlt:g2<w5.heap.size) :
  iL t W1 (w5.setCell ⟨X,5,none⟩ (.slice (some ⟨g2,0,none⟩) (fs.length+1) cap)) X b6 sb D (.slice (some ⟨g2,0,none⟩) (fs.length+1) cap) (fs++[F]):=by
 have c1:aB (fun b=>b=sb) W (aU W sb o):=tJ W sb o;have c2:aB (fun _=>False) (aU W sb o) W3:=aB.of_new hb3;have c3:aB (fun b=>fv.ownBlock=some b) W3 w5:=aB.of_grown hgr;have c4:aB (fun b=>b=X) w5 (w5.setCell ⟨X,5,none⟩ (.slice (some ⟨g2,0,none⟩) (fs.length+1) cap)):=dP w5 X 5 _;have s1:(aU W sb o).heap.size=W.heap.size:=by simp[aU]
 have hW1:=h.ch.size;have s2:=c2.size;have s3:=c3.size;obtain⟨d1,d2,d3,d4⟩:(b6≠X/\b6≠sb/\b6≠D.fb/\b6≠D.nb)/\(X≠sb/\X≠D.fb/\X≠D.nb)/\(sb≠D.fb/\sb≠D.nb)/\D.fb≠D.nb:=by
  have:=h.ds;simp only[aa8,aay,aaK,acw,abq,abO,acH]at this;obtain⟨⟨a1,a2,a3,a4⟩,⟨a5,a6,a7⟩,⟨a8,a9⟩,a10⟩:=this;exact⟨⟨a1,a2,a3,a4⟩,⟨a5,a6,a7⟩,⟨a8,a9⟩,a10⟩
 have fo:∀b,b∈[b6,X,sb,D.fb,D.nb]->fv.ownBlock≠some b:=fun b hb e=>(h.fo b e).2 hb
 have keep:∀b,b<W.heap.size->b∈[b6,X,sb,D.fb,D.nb]->b≠sb->b≠X->(w5.setCell ⟨X,5,none⟩ (.slice (some ⟨g2,0,none⟩) (fs.length+1) cap)).heap[b]? = W.heap[b]?:=fun b hb hm h1 h2=>
  (c4.block b (by omega) h2).trans ((c3.block b (by omega) (fo b hm)).trans ((c2.block b (by omega) (fun e=>e)).trans (c1.block b hb h1)))
 have hx5:w5.heap[X]? = W.heap[X]?:=by
  have:=lt_of_block h.x;exact(c3.block X (by omega) (fo X (by simp))).trans ((c2.block X (by omega) (fun e=>e)).trans (c1.block X this d2.1))
 have hg2:W1.heap.size<=g2/\g2∉[b6,X,sb,D.fb,D.nb]:=by
  rcases hat with e|e
  ·exact h.fo g2 e
  ·refine⟨by omega,fun hm=>?_⟩
   have l1:=lt_of_block h.c6;have l2:=lt_of_block h.x;have l3:=h.seen.lt;have l4:=h.fl.lt;have l5:=h.nm.lt;simp only[aay,aaK,acI]at hm;omega
 refine⟨?_,?_,?_,?_,?_,?_,?_,h.ds,?_⟩
 ·refine(((h.ch.trans c1 fun b _ e=>aad e).trans c2 fun b _ e=>e.elim).trans c3 fun b hb e=>?_).trans c4 fun b _ e=>aam e
  have:=(h.fo b e).1;omega
 ·exact(keep b6 (lt_of_block h.c6) (by simp) d1.2.1 d1.1).trans h.c6
 ·exact dO (hx5.trans h.x) 5 _ (by unfold aW;rfl)
 ·rw[aas,aa3]
  refine eP hown c4 fun g hg e=>?_
  simp only[Value.ownBlock,aao]at hg;exact hg2.2 (by rw[hg,e];simp)
 ·have l3:=h.seen.lt
  refine hs.same ?_;exact(c4.block sb (by omega) (fun e=>d2.1 e.symm)).trans ((c3.block sb (by omega) (fo sb (by simp))).trans (c2.block sb (by omega) (fun e=>e)))
 ·exact h.fl.same (keep D.fb h.fl.lt (by simp) (fun e=>d3.1 e.symm) (fun e=>d2.2.1 e.symm))
 ·exact h.nm.same (keep D.nb h.nm.lt (by simp) (fun e=>d3.2 e.symm) (fun e=>d2.2.2 e.symm))
 ·intro g hg
  simp only[Value.ownBlock,aao]at hg;subst hg;exact hg2
def Ho(t:List Bs)(m:aQ)(A:Option Addr)(c:Nat)(w0 W1:World)(X b2 b6 sb:Nat)(D:dH)(hS:dY w0 A m.states)(hB1:Below w0 w0 W1)(hge:w0.heap.size<=X/\w0.heap.size<=sb)
  (h0:iL t W1 W1 X b6 sb D (.slice none 0 0) []) (ht:t.length<=500) (WC:∀s∈m.states,∀a∈s.arcs,aBU a.inn=true/\aBU a.out=true) (hN:m.states.length<=3000) (hNa:dh m.states<=30000)
  (y0 y1 y3 y4 y5 y8 y9 y10 y11 y12 y13 y14 y15 y16 y17 y18 y19 y20 y21 y22 y23 y24 y25 y26 y27 y28 y29 y30 y31 y32 y33 y34 y39 y40 y41 y42 y43 y44 y45 y46 y47 y48 y49 y50 y51 y52 y53 y54 y55 y56 y57 y58 y59 y60 y61 y62 y63 y64 y65 y66 y67 y68 y69 y70 y71 y72 y73 y74 y75 y76 y77 y78 y79 y80 y81 y82 y83 y84 y85 y86 y87 y88 y89 y90 y91 y92 y93 y94 y95 y96 y97 y98 y99 y100 y101 y102 y103 y104 y105 y106 y107 y108 y109 y110 y111 y112 y113 y114 y115 y116 y117 y118 y119 y120 y121 y122 y123 y124 y125 y126 y127 y128 y129 y130 y131 y132 y133 y134 y135 y136 y137 y138 y139 y140 y141 y142 y143 y144 y145 y146 y147 y148 y149 y150 y151 y152 y153 y154 y155 y156 y157 y158 y159 y160 y161 y162 y163 y164 y165 y166 y167 y168 y169 y170 y171 y172 y173 y174 y175:Value) (Q:Exit->Act->World->Prop) (Uz:∀c a w,Q (.panic c) a w->False)
  (Xl:∀(fv z9 z11 z12 z13 z35 z36 z37 z38 z39 z40 z41 z42 z43 z44 z45 z46 z47 z48 z49 z50 z51 z52 z53 z54 z55 z56 z57 z58 z59 z60 z61 z62 z63 z64 z65 z66 z67 z68 z69 z70 z71 z72 z73 z74 z75 z76 z77 z78 z79 z80 z81:Value) (W':World),iL t W1 W' X b6 sb D fv (fG t m.states [])->Q (.exit 0) { tmps:=#[y0,y1,.pointer (some ⟨b2,0,none⟩),y3,y4,y5,.pointer (some ⟨b6,0,none⟩),.map (some sb),y8,z9,y10,z11,z12,z13,y14,y15,y16,y17,y18,y19,y20,y21,y22,y23,y24,y25,y26,y27,y28,y29,y30,y31,y32,y33,y34,z35,z36,z37,z38,z39,z40,z41,z42,z43,z44,z45,z46,z47,z48,z49,z50,z51,z52,z53,z54,z55,z56,z57,z58,z59,z60,z61,z62,z63,z64,z65,z66,z67,z68,z69,z70,z71,z72,z73,z74,z75,z76,z77,z78,z79,z80,z81,y82,y83,y84,y85,y86,y87,y88,y89,y90,y91,y92,y93,y94,y95,y96,y97,y98,y99,y100,y101,y102,y103,y104,y105,y106,y107,y108,y109,y110,y111,y112,y113,y114,y115,y116,y117,y118,y119,y120,y121,y122,y123,y124,y125,y126,y127,y128,y129,y130,y131,y132,y133,y134,y135,y136,y137,y138,y139,y140,y141,y142,y143,y144,y145,y146,y147,y148,y149,y150,y151,y152,y153,y154,y155,y156,y157,y158,y159,y160,y161,y162,y163,y164,y165,y166,y167,y168,y169,y170,y171,y172,y173,y174,y175],defers:=[] } W'):
  (cutAt [1,1,1,1,0,1,3] (tu Tryz.f13)).wp Tryz.prog Q { tmps:=#[y0,y1,.pointer (some ⟨b2,0,none⟩),y3,y4,y5,.pointer (some ⟨b6,0,none⟩),.map (some sb),y8,y9,y10,y11,y12,y13,y14,y15,y16,y17,y18,y19,y20,y21,y22,y23,y24,y25,y26,y27,y28,y29,y30,y31,y32,y33,y34,.pointer (some ⟨b2,3,none⟩),.slice A m.states.length c,.int .i64 (m.states.length:Int),.int .i64 0,y39,y40,y41,y42,y43,y44,y45,y46,y47,y48,y49,y50,y51,y52,y53,y54,y55,y56,y57,y58,y59,y60,y61,y62,y63,y64,y65,y66,y67,y68,y69,y70,y71,y72,y73,y74,y75,y76,y77,y78,y79,y80,y81,y82,y83,y84,y85,y86,y87,y88,y89,y90,y91,y92,y93,y94,y95,y96,y97,y98,y99,y100,y101,y102,y103,y104,y105,y106,y107,y108,y109,y110,y111,y112,y113,y114,y115,y116,y117,y118,y119,y120,y121,y122,y123,y124,y125,y126,y127,y128,y129,y130,y131,y132,y133,y134,y135,y136,y137,y138,y139,y140,y141,y142,y143,y144,y145,y146,y147,y148,y149,y150,y151,y152,y153,y154,y155,y156,y157,y158,y159,y160,y161,y162,y163,y164,y165,y166,y167,y168,y169,y170,y171,y172,y173,y174,y175],defers:=[] } W1:=by
 conv=>enter [2];whnf
 obtain⟨ic,ci,cz0,cz1,cz2⟩:=abm rW;have HK0:=Pd Xl;have Xf:=Pd Uz;clear Uz;have Yb:=Pd WC;clear Xl WC;have lowB:∀W fv fs,iL t W1 W X b6 sb D fv fs->Below w0 w0 W:=fun W fv fs h=>lq hB1 h.ch (Pe _) (fun b hb e=>by rcases e with rfl|rfl<;>omega)
 have ZK:=Pd lowB;clear lowB;have HH0:=Pd h0;clear h0
 dsimp only
 go_loopw [38] (fun v wr=>∃(j:Nat) (fv:Value),v=.int .i64 j/\j<=m.states.length/\iL t W1 wr X b6 sb D fv (fG t (m.states.take j) [])) (fun v _=>m.states.length-(intOf v).toNat)
 case atStart=>exact⟨0,_,rfl,by omega,by simpa[fG]using HH0.out⟩
 case round=>
  obtain⟨j,fv,rfl,hj,hF⟩:=hrel;obtain⟨Wr,hWr⟩:∃W,W=wr:=⟨_,rfl⟩;subst hWr;by_cases hlt:j<m.states.length
  ·have hlow:=ZK.out _ _ _ hF
   obtain⟨b,o,rfl,hbl,a0,A',c',a1,hAr⟩:=hS j hlt;have HT1:=Pd (AR t m.states [] j hlt);have hmem:=aag hlt;have hF0:=vG t (m.states.take j) [];have hN1:=sW hlt;have hN2:=PS m.states (j+1);have hok0:=vF t (m.states.take j) [] (fun f hf=>absurd hf aaK);simp only[abG,aaP]at hF0;have hlen:(fG t (m.states.take j) []).length+m.states[j].arcs.length<=30000:=by omega
   have hsy:=Yb.out _ hmem;generalize fG t (m.states.take j) []=F0 at*;generalize m.states[j]=st at*;obtain⟨Fi,hFi⟩:∃Z,S st.fin=.string Z:=⟨_,rfl⟩;rw[hFi]at a0;have k0:=(hlow.cell (p:=⟨b,o+j*2,none⟩) hbl).trans a0;have k1:=(hlow.cell (p:=⟨b,o+j*2+1,none⟩) hbl).trans a1;have i0:(0:Int)<=(j:Int):=by omega
   have il:(j:Int)<(m.states.length:Int):=(by omega);have Yl:=hF.below ((aac _ _).alloc (Pe _) (.cells #[.string Fi,.slice A' st.arcs.length c'] 75));have HSY:=Pd hsy;have HOK0:=Pd hok0;have HLEN:=Pd hlen;have hL1:st.arcs.length<=30000:=by omega
   clear a0 a1 hF0 hN1 hN2 hsy hok0 hF hlow hmem hlen;go_wp2_with fail;generalize Wr.alloc (.cells #[.string Fi,.slice A' st.arcs.length c'] 75)=W9 at*;have HF9:=Pd Yl;clear Yl k0 k1 i0 il
   go_loopw [45] (fun v wr=>∃(k:Nat) (fv:Value),v=.int .i64 k/\k<=st.arcs.length/\iL t W1 wr X b6 sb D fv (dR t (st.arcs.take k) F0)) (fun v _=>st.arcs.length-(intOf v).toNat)
   case atStart=>exact⟨0,_,rfl,by omega,by simpa[dR]using HF9.out⟩
   case round=>
    clear HF9;obtain⟨k,fv,rfl,hk,hF⟩:=hrel;by_cases hlk:k<st.arcs.length
    ·have hlow:=ZK.out _ _ _ hF
     obtain⟨bb,ob,rfl,hbb,a0,a1,a2,a3⟩:=hAr k hlk;have HT2:=Pd (AQ t st.arcs F0 k hlk);have hsy:=HSY.out _ (aag hlk);have aCi:(dR t (st.arcs.take k) F0).length<=30000:=by
      have:=ui t (st.arcs.take k) F0;have h2:=HLEN.out;rw[aaI]at this;omega
     have hok:=uh t (st.arcs.take k) F0 HOK0.out;generalize dR t (st.arcs.take k) F0=fs at*;generalize st.arcs[k]=ar at*;obtain⟨x,y,wt,tg⟩:=ar;obtain⟨Wt,Ue⟩:∃Z:ByteArray,(⟨wt.toArray⟩:ByteArray)=Z:=⟨_,rfl⟩;have hWd:wt=Wt.data.toList:=by rw[<-Ue]
     subst hWd;unfold S at a2;rw[Ue]at a2;simp only at a0 a1 a2 a3 hsy;clear Ue;have k0:=(hlow.cell (p:=⟨bb,ob+k*4,none⟩) hbb).trans a0;have k1:=(hlow.cell (p:=⟨bb,ob+k*4+1,none⟩) hbb).trans a1;have k2:=(hlow.cell (p:=⟨bb,ob+k*4+2,none⟩) hbb).trans a2;have k3:=(hlow.cell (p:=⟨bb,ob+k*4+3,none⟩) hbb).trans a3;have i0:(0:Int)<=(k:Int):=by omega
     have il:(k:Int)<(st.arcs.length:Int):=(by omega);have hsx:=eZ.1 hsy.1;have hsy2:=eZ.1 hsy.2;have hF2:=hF.below ((aac _ _).alloc (Pe _) (.cells #[.int .i64 x,.int .i64 y,.string Wt,.int .i64 tg] 77));have hs2:(wr.alloc (.cells #[.int .i64 x,.int .i64 y,.string Wt,.int .i64 tg] 77)).heap.size=wr.heap.size+1:=by simp
     have c0:=aJ wr #[.int .i64 x,.int .i64 y,.string Wt,.int .i64 tg] 77 0 _ rfl;have c1:=aJ wr #[.int .i64 x,.int .i64 y,.string Wt,.int .i64 tg] 77 1 _ rfl;have c2:=aJ wr #[.int .i64 x,.int .i64 y,.string Wt,.int .i64 tg] 77 2 _ rfl;have c3:=aJ wr #[.int .i64 x,.int .i64 y,.string Wt,.int .i64 tg] 77 3 _ rfl;have Uw:=Pd hF2;clear a0 a1 a2 a3 hlow hF hsy hF2;go_upto_region 11 with(fail)
     clear k0 k1 k2 k3;generalize wr.alloc (.cells #[.int .i64 x,.int .i64 y,.string Wt,.int .i64 tg] 77)=w2 at*;have e6:=Uw.out.ptr;have e4:=Uw.out.cell 4 (.map (some D.fb)) rfl;have mk:∀W',Below w2 w2 W'->(W'.cell? ⟨b6,0,none⟩=some (.pointer (some ⟨X,0,none⟩))/\W'.cell? ⟨X,4,none⟩=some (.map (some D.fb))/\W'.cell? ⟨wr.heap.size,0,none⟩=some (.int .i64 x)/\W'.cell? ⟨wr.heap.size,1,none⟩=some (.int .i64 y)/\W'.cell? ⟨wr.heap.size,2,none⟩=some (.string Wt)/\W'.cell? ⟨wr.heap.size,3,none⟩=some (.int .i64 tg)/\Below w2 w2 W'):=fun W' hb=>
      ⟨(hb.cell (p:=⟨b6,0,none⟩) (ax e6)).trans e6,(hb.cell (p:=⟨X,4,none⟩) (ax e4)).trans e4,(hb.cell (p:=⟨wr.heap.size,0,none⟩) (ax c0)).trans c0,(hb.cell (p:=⟨wr.heap.size,1,none⟩) (ax c1)).trans c1,(hb.cell (p:=⟨wr.heap.size,2,none⟩) (ax c2)).trans c2,(hb.cell (p:=⟨wr.heap.size,3,none⟩) (ax c3)).trans c3,hb⟩
     obtain⟨r,hr⟩:∃r,r=eO t ⟨x,y,Wt.data.toList,tg⟩:=⟨_,rfl⟩;obtain⟨F,V,hfc,TN,Ub⟩:=lI (r.getD dX);obtain⟨oo,Ve⟩:∃oo,(r.getD dX).op=oo:=⟨_,rfl⟩;obtain⟨is,his⟩:∃q,r.isSome=q:=⟨_,rfl⟩;have pO:∀W',(W'.cell? ⟨b6,0,none⟩=some (.pointer (some ⟨X,0,none⟩))/\W'.cell? ⟨X,4,none⟩=some (.map (some D.fb))/\W'.cell? ⟨wr.heap.size,0,none⟩=some (.int .i64 x)/\W'.cell? ⟨wr.heap.size,1,none⟩=some (.int .i64 y)/\W'.cell? ⟨wr.heap.size,2,none⟩=some (.string Wt)/\W'.cell? ⟨wr.heap.size,3,none⟩=some (.int .i64 tg)/\Below w2 w2 W')->Calls Tryz.prog 42 #[.map (some D.fb),.agg #[.int .i64 x,.int .i64 y,.string Wt,.int .i64 tg]] W' fun e w'=>e=.returned (.tuple #[.agg #[.int .u8 oo.toNat,.string F,.string V],.bool is])/\w'=vS W' x y Wt tg oo F V:=fun W' hS=>by
      have:=Cr D.fb t W' (Uw.out.fl.below hS.2.2.2.2.2.2) ht x y Wt tg hsx.1 hsx.2 hsy2.1 hsy2.2;rw[<-hr,hfc,Ve,his,TN,Ub,acg,acg]at this;exact this
     have kD:∀W',(W'.cell? ⟨b6,0,none⟩=some (.pointer (some ⟨X,0,none⟩))/\W'.cell? ⟨X,4,none⟩=some (.map (some D.fb))/\W'.cell? ⟨wr.heap.size,0,none⟩=some (.int .i64 x)/\W'.cell? ⟨wr.heap.size,1,none⟩=some (.int .i64 y)/\W'.cell? ⟨wr.heap.size,2,none⟩=some (.string Wt)/\W'.cell? ⟨wr.heap.size,3,none⟩=some (.int .i64 tg)/\Below w2 w2 W')->_:=fun W' h=>mk _ h.2.2.2.2.2.2.drew
     have kA:=fun W' (o:Obj) (h:(W'.cell? ⟨b6,0,none⟩=some (.pointer (some ⟨X,0,none⟩))/\W'.cell? ⟨X,4,none⟩=some (.map (some D.fb))/\W'.cell? ⟨wr.heap.size,0,none⟩=some (.int .i64 x)/\W'.cell? ⟨wr.heap.size,1,none⟩=some (.int .i64 y)/\W'.cell? ⟨wr.heap.size,2,none⟩=some (.string Wt)/\W'.cell? ⟨wr.heap.size,3,none⟩=some (.int .i64 tg)/\Below w2 w2 W'))=>mk _ (h.2.2.2.2.2.2.alloc h.2.2.2.2.2.2.size o)
     have kC:=fun W' (a:Addr) u (ha:w2.heap.size<=a.block) (h:(W'.cell? ⟨b6,0,none⟩=some (.pointer (some ⟨X,0,none⟩))/\W'.cell? ⟨X,4,none⟩=some (.map (some D.fb))/\W'.cell? ⟨wr.heap.size,0,none⟩=some (.int .i64 x)/\W'.cell? ⟨wr.heap.size,1,none⟩=some (.int .i64 y)/\W'.cell? ⟨wr.heap.size,2,none⟩=some (.string Wt)/\W'.cell? ⟨wr.heap.size,3,none⟩=some (.int .i64 tg)/\Below w2 w2 W'))=>mk _ (h.2.2.2.2.2.2.setCell ha u)
     have kO:=fun W' (h:(W'.cell? ⟨b6,0,none⟩=some (.pointer (some ⟨X,0,none⟩))/\W'.cell? ⟨X,4,none⟩=some (.map (some D.fb))/\W'.cell? ⟨wr.heap.size,0,none⟩=some (.int .i64 x)/\W'.cell? ⟨wr.heap.size,1,none⟩=some (.int .i64 y)/\W'.cell? ⟨wr.heap.size,2,none⟩=some (.string Wt)/\W'.cell? ⟨wr.heap.size,3,none⟩=some (.int .i64 tg)/\Below w2 w2 W'))=>mk _ (h.2.2.2.2.2.2.trans ((Cq W' x y Wt tg oo F V).mono h.2.2.2.2.2.2.size))
     have z0:=mk _ (aac w2.heap.size w2);have HS2:=Pd hs2;have XL:=Pd Ve;clear hfc Ve hs2 c0 c1 c2 c3 e6 e4;go_cut [12,13] from 49 to 57 (fun p v wx=>∃z,p=.pointer (some ⟨z,0,none⟩)/\w2.heap.size<=z/\v=.bool is/\wx.cell? ⟨z,0,none⟩=some (.int .u8 oo.toNat)/\wx.cell? ⟨z,1,none⟩=some (.string F)/\wx.cell? ⟨z,2,none⟩=some (.string V)/\Below w2 w2 wx)
     case first=>
      go_region_held3 (fun W'=>(W'.cell? ⟨b6,0,none⟩=some (.pointer (some ⟨X,0,none⟩))/\W'.cell? ⟨X,4,none⟩=some (.map (some D.fb))/\W'.cell? ⟨wr.heap.size,0,none⟩=some (.int .i64 x)/\W'.cell? ⟨wr.heap.size,1,none⟩=some (.int .i64 y)/\W'.cell? ⟨wr.heap.size,2,none⟩=some (.string Wt)/\W'.cell? ⟨wr.heap.size,3,none⟩=some (.int .i64 tg)/\Below w2 w2 W'))
       (repeat' (first|assumption|exact z0|refine kD _ ?_|refine kA _ _ ?_|refine kC _ _ _ (by simp) ?_|(refine kO _ ?_)))
       (first|(go_at_call 42;refine(pO _ (by assumption)).mono ?_;rintro e w3 ⟨rfl,rfl⟩))
      all_goals
       go_wp2_with fail
       go_meet
       refine⟨_,rfl,by(first|omega|(simp;omega)|simp),rfl,by simp[go_sem],by simp[go_sem],by simp[go_sem],?_⟩
       first|assumption|(repeat' (first|exact aac _ _|refine Below.drew ?_|refine aff ?_ (by simp<;>omega) _))
     case rest=>
      obtain⟨z,rfl,hzl,rfl,g0,g1,g2,b4⟩:=hcut;clear mk pO kD kA kC kO z0;have Xk:=Uw.out.below b4;have U3:=Pd Xk;clear b4 HS2 Xk
      cases is with
      |false=>
       have HX:Hid (dR t (st.arcs.take (k+1)) F0=fs):=by
        rw[Hid,HT2.out]
        cases r with
        |none=>rw[<-hr]
        |some f=>cases his
       clear HT2 hr his g0 g1 g2;go_wp2_with fail;go_roundw
       case rel=>exact⟨k+1,_,by go_num,by omega,by rw[HX.out];exact U3.out⟩
       case measure=>simp[intOf];omega
      |true=>
       obtain⟨f,rfl⟩:=adp.1 his;simp only[abL]at TN Ub XL;obtain⟨op,fe,va⟩:=f;simp only at TN Ub XL;subst TN Ub;have hfo:bz F.data.toList:=(vI (vT hr.symm)).1;have TG:=MF wc sb fs U3.out.seen hok F.data.toList hfo;rw[eX]at TG;by_cases hin:F.data.toList∈fs
       ·have HX:Hid (dR t (st.arcs.take (k+1)) F0=fs):=by
         rw[Hid,HT2.out,<-hr];simp only[];rw[aaa hin]
        rw[aaA hin]at TG;clear HT2 hr his hin XL;go_wp2_with fail;go_roundw
        case rel=>exact⟨k+1,_,by go_num,by omega,by rw[HX.out];exact U3.out⟩
        case measure=>simp[intOf];omega
       ·have HX:Hid (dR t (st.arcs.take (k+1)) F0=fs++[F.data.toList]):=by
         rw[Hid,HT2.out,<-hr];simp only[];rw[aab hin]
        rw[aai hin]at TG;obtain⟨o',hput,Ya⟩:=MG wc sb fs U3.out.seen hok F.data.toList hfo hin;rw[eX]at hput;clear HT2 hr his hin XL;go_upto_region 14 with(fail)
        have hz:z≠sb:=by
         rintro rfl;obtain⟨es,ck,hm,_⟩:=U3.out.seen;unfold World.cell? at g1;rw[hm]at g1
         cases g1
        have hc2:=tJ wc sb o';have hd:=U3.out.ds;have n6:b6≠sb:=fun e=>by rw[e]at hd;simp at hd
        have nX:X≠sb:=fun e=>by rw[e]at hd;simp at hd
        have v1:(aU wc sb o').cell? ⟨z,1,none⟩=some (.string F):=(lm (hc2.block z (ax g1) hz)).trans g1;have v6:(aU wc sb o').cell? ⟨b6,0,none⟩=some (.pointer (some ⟨X,0,none⟩)):=(lm (hc2.block b6 (lt_of_block U3.out.c6) n6)).trans U3.out.ptr;have Y6:(aU wc sb o').heap[X]? = some (.cells (aW { D with fv:=fv } (.slice none 0 0)) 71 (0,0)):=(hc2.block X (lt_of_block U3.out.x) nX).trans U3.out.x;have v5:(aU wc sb o').cell? ⟨X,5,none⟩=some fv:=by rw[aap _ X 5 _ _ _ Y6];rfl
        have f5:(aU wc sb o').frozen? ⟨X,5,none⟩=false:=by unfold World.frozen?;rw[Y6];simp
        have own2:(aU wc sb o').ownsRow 0 9 1 fv fs.length (fs.map S):=eP U3.out.own hc2 (fun g hg e=>(U3.out.fo g hg).2 (by rw[e];simp));have hs2:(aU wc sb o').heap.size=wc.heap.size:=by simp[aU]
        have UQ:=Pd hc2;have HSN:=Pd Ya;obtain⟨W2,hW2⟩:∃W2,W2=aU wc sb o':=⟨_,rfl⟩;rw[<-hW2]at v1 v6 v5 f5 own2 hs2 Y6 ⊢;have HW2:=Pd hW2;clear hput TG hc2 hd Ya g0 g1 g2 hW2 hs2;have hnews:∀j u,(#[Value.string F]).toList[j]? = some u->(W2.drew.alloc (.cells #[.string F] 9)).cell? ((⟨W2.heap.size,0,none⟩:Addr).add j)=some u:=abK (aaq W2.drew (.cells #[.string F] 9));have h63:fs.length+1<=maxLen:=by unfold maxLen;omega
        have hby:(fs.length+1)*16<=140737488355328:=by omega
        have bA:Below W2.drew.heap.size W2.drew (W2.drew.alloc (.cells #[.string F] 9)):=(aac _ _).alloc (Pe _) _;have KK:Hid (∀w5,(W2.drew.alloc (.cells #[.string F] 9)).grownBy w5 fv.ownBlock->(w5.cell? ⟨b6,0,none⟩=some (.pointer (some ⟨X,0,none⟩))/\w5.cell? ⟨X,5,none⟩=some fv/\w5.cell? ⟨z,1,none⟩=some (.string F))/\w5.frozen? ⟨X,5,none⟩=false):=by
         intro w5 hg;have h6:w5.heap[b6]? = W2.heap[b6]?:=(hg.block b6 (aah (ax v6) bA.size) (fun e=>(U3.out.fo b6 e.symm).2 (by simp))).trans (bA.block b6 (ax v6));have h1:w5.heap[X]? = W2.heap[X]?:=(hg.block X (aah (ax v5) bA.size) (fun e=>(U3.out.fo X e.symm).2 (by simp))).trans (bA.block X (ax v5));have hzg:fv.ownBlock≠some z:=fun e=>by have:=mU Uw.out.own e;omega
         have h7:w5.heap[z]? = W2.heap[z]?:=(hg.block z (aah (ax v1) bA.size) (fun e=>hzg e.symm)).trans (bA.block z (ax v1));exact⟨⟨(lm h6).trans v6,(lm h1).trans v5,(lm h7).trans v1⟩,dU h1 _ f5⟩
        clear Y6;have TJ:W2.drew.cell? ⟨b6,0,none⟩=some (.pointer (some ⟨X,0,none⟩))/\W2.drew.cell? ⟨X,5,none⟩=some fv/\W2.drew.cell? ⟨z,1,none⟩=some (.string F):=⟨v6,v5,v1⟩;refine zh 11 (fun w=>w.cell? ⟨b6,0,none⟩=some (.pointer (some ⟨X,0,none⟩))/\w.cell? ⟨X,5,none⟩=some fv/\w.cell? ⟨z,1,none⟩=some (.string F)) (by kernel_rfl) ?_;refine takeB 0 ?_ (hQ:=fun c a w h=>(Xf.out _ _ _ h).elim)
        try simp only[qO]
        refine takeB 1 ?_ (hQ:=fun c a w h=>(Xf.out _ _ _ h).elim)
        try simp only[qO]
        refine takeB 2 ?_ (hQ:=fun c a w h=>(Xf.out _ _ _ h).elim)
        try simp only[qO]
        refine takeB 3 ?_ (hQ:=fun c a w h=>(Xf.out _ _ _ h).elim)
        try simp only[qO]
        refine takeB 4 ?_ (hQ:=fun c a w h=>(Xf.out _ _ _ h).elim)
        try simp only[qO]
        refine takeB 5 ?_ (hQ:=fun c a w h=>(Xf.out _ _ _ h).elim)
        try simp only[qO]
        refine takeB 6 ?_ (hQ:=fun c a w h=>(Xf.out _ _ _ h).elim)
        try simp only[qO]
        refine dw [7] (by kernel_rfl) (by simp) ?_;refine bL 7 rfl (fun K hK=>?_) bS.nil;rw[aaa (by rfl)]
        go_simp
        change K _ (W2.drew.alloc (.cells #[.string F] 9));have TJ:=(KK.out _ ⟨rfl,rfl,rfl,Pe _,fun _ _ _=>rfl⟩).1;refine hK.out _ _ (fun _=>TJ) ?_;clear hK K
        try simp only[qO]
        refine dw [8] (by kernel_rfl) (by simp) ?_;refine bL 8 rfl (fun K hK=>?_) bS.nil;have hown5:=eP (show W2.drew.ownsRow 0 9 1 fv fs.length (fs.map S) from own2) (p9 (fun _=>False) W2.drew (.cells #[.string F] 9)) (fun _ _ e=>e);refine adO _ (by rfl) (.tmp 73) (.tmp 76) 22 (by rfl) 0 9 ic _ 1 16 abU ci cz0 cz1 cz2 (by rfl) (by decide) _ fs.length (fs.map S) (by rfl) hown5 ⟨W2.heap.size,0,none⟩ 1 1 [.string F] (by rfl) rfl hnews (by simp[Value.oneCell']) (by decide) h63 hby (aaS _) _ rfl ?_;intro g2 cap w5 hown6 hgr5 TW Ul;have hKK:=KK.out w5 hgr5;have TJ:=hKK.1;refine hK.out _ _ (fun _=>TJ) ?_;clear hK K
        try simp only[qO]
        refine takeB 9 ?_ (hQ:=fun c a w h=>(Xf.out _ _ _ h).elim)
        try simp only[qO]
        refine takeB 10 ?_ (hQ:=fun c a w h=>(Xf.out _ _ _ h).elim)
        try simp only[qO]
        refine dw [11] (by kernel_rfl) (by simp) ?_;refine bL 11 rfl (fun K hK=>?_) bS.nil;rw[aaa (by rfl)];have f16:=hKK.2;have k16:=TJ.2.1
        go_simp
        refine hK.out _ _ (fun h=>by cases h) ?_;clear hK K f16 k16;refine l8 (by kernel_rfl) ?_ _;have XV:=iL.push (F:=F.data.toList) (o':=.map #[] 0) U3.out HSN.out (W3:=W2.drew.alloc (.cells #[.string F] 9)) (by rw[<-HW2.out];exact(aac W2.heap.size W2).drew.trans bA) (by rw[eX];exact hown6) hgr5 TW Ul;have ZV:=Pd XV;clear XV hown6 hgr5 TW Ul hnews bA hown5 KK TJ hKK;go_wp2_with fail;go_roundw
        case rel=>exact⟨k+1,_,by go_num,by omega,by rw[HX.out];exact ZV.out⟩
        case measure=>simp[intOf];omega
    ·obtain rfl:k=st.arcs.length:=by omega
     have HX:Hid (iL t W1 wr X b6 sb D fv (fG t (m.states.take (j+1)) [])):=by
      rw[Hid,HT1.out];have:=hF;rw[aaJ]at this;exact this
     clear hF;go_wp2_with fail;go_roundw
     case rel=>exact⟨j+1,_,by go_num,by omega,HX.out⟩
     case measure=>simp[intOf];omega
  ·obtain rfl:j=m.states.length:=by omega
   rw[aaJ]at hF;have HF:=Pd hF;clear hF;go_wp2_with fail;exact HK0.out _ _ _ _ _ _ _ _ _ _ _ _ _ _ _ _ _ _ _ _ _ _ _ _ _ _ _ _ _ _ _ _ _ _ _ _ _ _ _ _ _ _ _ _ _ _ _ _ _ _ _ _ _ HF.out
end Go.Proofs.YtppnecgeboonbaaGreatDoor
