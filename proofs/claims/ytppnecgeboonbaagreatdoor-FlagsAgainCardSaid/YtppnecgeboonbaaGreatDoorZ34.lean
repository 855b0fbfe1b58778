/- Walks. -/
import Derived.Test.YtppnecgeboonbaaGreatDoorZ32
import Derived.Test.YtppnecgeboonbaaGreatDoorZ33
namespace Go.Proofs.YtppnecgeboonbaaGreatDoor
set_option maxRecDepth 100000
set_option linter.all false
open Go Go.RowKit Go.Maps
def kH(l:List (bI×Value)):List Value:=l.flatMap fun p=>[S p.1.fin,p.2]
def M3(l:List (bI×Value))(p:bI×Value):kH (l++[p])=kH l++[S p.1.fin,p.2]:=by simp[kH]
theorem Ef:∀(l:List (bI×Value)) (k:Nat) (h:k<l.length),(kH l)[k*2]? = some (S l[k].1.fin)/\(kH l)[k*2+1]? = some l[k].2
 |s::r,0,h=>⟨rfl,rfl⟩
 |s::r,k+1,h=>by
  have:=Ef r k (by simpa using h);have e:kH (s::r)=[S s.1.fin,s.2]++kH r:=rfl;rw[e,abP];refine⟨?_,?_⟩
  ·rw[aaU (by simp;omega)]
   simpa[show(k+1)*2-2=k*2 by omega]using this.1
  ·rw[aaU (by simp;omega)]
   simpa[show(k+1)*2+1-2=k*2+1 by omega]using this.2
theorem zF:∀(l:List aO) (k:Nat) (h:k<l.length),(jD l)[k*4]? = some (.int .i64 l[k].inn)/\(jD l)[k*4+1]? = some (.int .i64 l[k].out)/\(jD l)[k*4+2]? = some (S l[k].w)/\(jD l)[k*4+3]? = some (.int .i64 l[k].to)
 |s::r,0,h=>⟨rfl,rfl,rfl,rfl⟩
 |s::r,k+1,h=>by
  have:=zF r k (by simpa using h);have e:jD (s::r)=[.int .i64 s.inn,.int .i64 s.out,S s.w,.int .i64 s.to]++jD r:=rfl;rw[e,abP];refine⟨?_,?_,?_,?_⟩
  ·rw[aaU (by simp;omega)]
   simpa[show(k+1)*4-4=k*4 by omega]using this.1
  ·rw[aaU (by simp;omega)]
   simpa[show(k+1)*4+1-4=k*4+1 by omega]using this.2.1
  ·rw[aaU (by simp;omega)]
   simpa[show(k+1)*4+2-4=k*4+2 by omega]using this.2.2.1
  ·rw[aaU (by simp;omega)]
   simpa[show(k+1)*4+3-4=k*4+3 by omega]using this.2.2.2
theorem C9:∀(l:List aR) (k:Nat) (h:k<l.length),(nQ l)[k*2]? = some (.int .i64 l[k].1)/\(nQ l)[k*2+1]? = some (S l[k].2)
 |s::r,0,h=>⟨rfl,rfl⟩
 |s::r,k+1,h=>by
  have:=C9 r k (by simpa using h);have e:nQ (s::r)=[.int .i64 s.1,S s.2]++nQ r:=rfl;rw[e,abP];refine⟨?_,?_⟩
  ·rw[aaU (by simp;omega)]
   simpa[show(k+1)*2-2=k*2 by omega]using this.1
  ·rw[aaU (by simp;omega)]
   simpa[show(k+1)*2+1-2=k*2+1 by omega]using this.2
def vV{w:World}{base:Nat}{e:TypeId}{size:Nat}{v:Value}{n:Nat}{xs:List Value}(h:w.ownsRow base e size v n xs)(hn:0<n):∃g cap,v=.slice (some ⟨g,0,none⟩) n cap/\g<w.heap.size/\∀j u,xs[j]? = some u->w.cell? ⟨g,j,none⟩=some u:=by
 rcases h.2 with⟨rfl,h2⟩|⟨g,cap,cur,hv,hB,hg,hn,hm,hc,ht⟩
 ·omega
 ·refine⟨g,cap,hv,lt_of_block hg,fun j u hj=>?_⟩
  have:=h.cells (g:=g) (by rw[hv];rfl) j u hj;have hadd:(⟨g,0,none⟩:Addr).add j=⟨g,j,none⟩:=by unfold Addr.add;split<;>simp_all
  rwa[hadd]at this
def Cz{X:Nat->Prop}{w:World}{base:Nat}{e:TypeId}{size:Nat}{v:Value}{n:Nat}{xs:List Value}(h:w.ownsRow base e size v n xs)(hX:∀g,v.ownBlock=some g->¬ X g):lg X w (fun w=>w.ownsRow base e size v n xs):=by
 intro w' hs hb;refine⟨h.1,?_⟩;rcases h.2 with h2|⟨g,cap,cur,hv,hB,hg,hn,hm,hc,ht⟩
 ·exact aam h2
 ·exact aad ⟨g,cap,cur,hv,hB,(hb g (lt_of_block hg) (hX g (by rw[hv];rfl))).trans hg,hn,hm,hc,ht⟩
def Fp{w:World}{B:Nat}{v:Value}{l:List aO}(h:w.ownsRow B 77 4 v l.length (jD l)):∃A c,v=.slice A l.length c/\oG w A l:=by
 rcases abE l.length with h0|hp
 ·obtain⟨A,c,hv⟩:=oZ h
  exact⟨A,c,hv,fun k hk=>by omega⟩
 ·obtain⟨g,cap,hv,hlt,hc⟩:=vV h hp
  refine⟨_,cap,hv,fun k hk=>⟨g,0,rfl,hlt,?_⟩⟩;obtain⟨c0,c1,c2,c3⟩:=zF l k hk;rw[aaP];exact⟨hc _ _ c0,hc _ _ c1,hc _ _ c2,hc _ _ c3⟩
def qH(X nb b4:Nat)(pv sv:Value)(b:Nat):Prop:=b=X\/b=nb\/b=b4\/pv.ownBlock=some b\/sv.ownBlock=some b
structure aDX (t fs:List Bs) (m:aQ) (A:Option Addr) (c b2 b6 X:Nat) (D:dH) (Af:Option Addr) (ds:List Nat) (os:List (bI×Value)) (w:World):Prop where
 c2:w.heap[b2]? = some (.cells #[.int .i64 m.kind,.int .i64 m.start,S m.lead,.slice A m.states.length c] 30 (0,0))
 c6:w.heap[b6]? = some (.cells #[.pointer (some ⟨X,0,none⟩)] 64 (0,0))
 fl:ji w D.fb (dW t 0 [])
 ft:ay w Af (fs.map S)
 dd:∀d∈ds,w.heap[d]? = some (.deferred (some []))
 ar:∀p∈os,∃A c,p.2=.slice A p.1.arcs.length c/\oG w A p.1.arcs
structure gz (t fs:List Bs) (m:aQ) (W0 W:World) (A:Option Addr) (c b2 b4 b6 X:Nat) (D:dH) (Af:Option Addr) (cf:Nat) (pv:Value) (l:List aR) (sv:Value) (os:List (bI×Value)) (ds:List Nat):Prop where
 bl:Below W0 W0 W
 el:jA W X 0 D pv l
 c4:W.heap[b4]? = some (.cells #[.int .i64 m.kind,.int .i64 0,S m.lead,sv] 30 (0,0))
 own:W.ownsRow 0 75 2 sv os.length (kH os)
 fix:lg (qH X D.nb b4 pv sv) W (aDX t fs m A c b2 b6 X D Af ds os)
 n4:b4≠X/\b4≠D.nb
 n2:b6≠X/\b6≠D.nb/\D.fb≠X/\D.fb≠D.nb
 pb:∀g,pv.ownBlock=some g->W0.heap.size<=g/\g≠b4/\g≠b6/\g≠D.fb/\sv.ownBlock≠some g
 sb:∀g,sv.ownBlock=some g->W0.heap.size<=g/\g≠X/\g≠D.nb/\g≠b4
 lo:W0.heap.size<=X/\W0.heap.size<=D.nb/\W0.heap.size<=b4
 dn:ds.Nodup
 dl:∀d∈ds,W0.heap.size<=d/\d<W.heap.size
 fv:D.fv=.slice Af fs.length cf
section
variable {t fs:List Bs} {m:aQ} {W0 W W':World} {A:Option Addr} {c b2 b4 b6 X:Nat} {D:dH} {Af:Option Addr} {cf:Nat} {pv pv':Value} {l l':List aR} {sv:Value} {os:List (bI×Value)} {ds:List Nat}
def gz.step(h:gz t fs m W0 W A c b2 b4 b6 X D Af cf pv l sv os ds)(hC:aB (fun b=>b=X\/b=D.nb\/pv.ownBlock=some b) W W')(hE:jA W' X 0 D pv' l')(po:∀g,pv'.ownBlock=some g->pv.ownBlock=some g\/W.heap.size<=g) :
  gz t fs m W0 W' A c b2 b4 b6 X D Af cf pv' l' sv os ds:=by
 have hf:=h.fix.now;have l4:=lt_of_block h.c4;have l6:=lt_of_block hf.c6;have lf:=hf.fl.lt;refine⟨?_,hE,?_,?_,?_,h.n4,h.n2,?_,h.sb,h.lo,h.dn,fun d hd=>⟨(h.dl d hd).1,aah (h.dl d hd).2 hC.size⟩,h.fv⟩
 ·refine lq h.bl hC (Pe _) fun b hb e=>?_
  rcases e with e|e|e
  ·have:=h.lo.1;omega
  ·have:=h.lo.2.1;omega
  ·have:=(h.pb b e).1;omega
 ·refine(hC.block b4 l4 ?_).trans h.c4
  rintro(e|e|e)
  ·exact h.n4.1 e
  ·exact h.n4.2 e
  ·exact(h.pb b4 e).2.1 rfl
 ·refine eP h.own hC fun g hg e=>?_
  rcases e with e|e|e
  ·exact(h.sb g hg).2.1 e
  ·exact(h.sb g hg).2.2.1 e
  ·exact(h.pb g e).2.2.2.2 hg
 ·refine h.fix.step hC (fun b _ e=>?_) (fun b hb e=>?_)
  ·rcases e with e|e|e
   ·exact aam e
   ·exact aad (aam e)
   ·exact aad (aad (aad (aam e)))
  ·rcases e with e|e|e|e|e
   ·exact aam e
   ·exact aad (aam e)
   ·exact aad (aad (aam e))
   ·rcases po b e with e'|e'
    ·exact aad (aad (aad (aam e')))
    ·omega
   ·exact aad (aad (aad (aad e)))
 ·intro g hg
  rcases po g hg with e|e
  ·exact h.pb g e
  ·refine⟨by have:=h.bl.size;omega,by omega,by omega,by omega,fun e'=>?_⟩
   have:=mU h.own e';omega
def gz.below(h:gz t fs m W0 W A c b2 b4 b6 X D Af cf pv l sv os ds)(hb:Below W W W'):gz t fs m W0 W' A c b2 b4 b6 X D Af cf pv l sv os ds:=
 h.step (aB.of_new hb) (h.el.below hb) (fun g e=>aam e)
def gz.mark(h:gz t fs m W0 W A c b2 b4 b6 X D Af cf pv l sv os ds){d:Nat}(hd:W.heap[d]? = some (.deferred (some [])))(hn:d∉ds)(hlow:W0.heap.size<=d):gz t fs m W0 W A c b2 b4 b6 X D Af cf pv l sv os (d::ds):=by
 have hm:¬ qH X D.nb b4 pv sv d:=by
  rintro(e|e|e|e|e)
  ·have:=h.el.x;rw[e]at hd;rw[hd]at this;cases this
  ·obtain⟨es,ck,hm,_⟩:=h.el.nm;rw[e]at hd;rw[hd]at hm;cases hm
  ·have:=h.c4;rw[e]at hd;rw[hd]at this;cases this
  ·rcases h.el.own.2 with⟨rfl,_⟩|⟨g,cap,cur,hv,_,hg,_⟩
   ·simp[Value.ownBlock]at e
   ·rw[hv]at e;simp only[Value.ownBlock,aao]at e;rw[e]at hg;rw[hd]at hg;cases hg
  ·rcases h.own.2 with⟨rfl,_⟩|⟨g,cap,cur,hv,_,hg,_⟩
   ·simp[Value.ownBlock]at e
   ·rw[hv]at e;simp only[Value.ownBlock,aao]at e;rw[e]at hg;rw[hd]at hg;cases hg
 refine⟨h.bl,h.el,h.c4,h.own,?_,h.n4,h.n2,h.pb,h.sb,h.lo,aa8.2 ⟨hn,h.dn⟩,fun d' hd'=>?_,h.fv⟩
 ·intro w' hs hb
  have hf:=h.fix w' hs hb;refine⟨hf.c2,hf.c6,hf.fl,hf.ft,fun d' hd'=>?_,hf.ar⟩;rcases aay.1 hd' with rfl|hd'
  ·exact(hb d' (lt_of_block hd) hm).trans hd
  ·exact hf.dd d' hd'
 ·rcases aay.1 hd' with rfl|hd'
  ·exact⟨hlow,lt_of_block hd⟩
  ·exact h.dl d' hd'
def gz.push{st:bI}{av:Value}{o:Obj}{w5:World}{g2 cap:Nat}(h:gz t fs m W0 W A c b2 b4 b6 X D Af cf pv l sv os ds)(ha:W.ownsRow 0 77 4 av st.arcs.length (jD st.arcs))(hag:∀g,av.ownBlock=some g->¬ qH X D.nb b4 pv sv g)
  (hown:w5.ownsRow 0 75 2 (.slice (some ⟨g2,0,none⟩) (os.length+1) cap) (os.length+1) (kH os++[S st.fin,av])) (hgr:(W.alloc o).grownBy w5 sv.ownBlock) (hat:sv.ownBlock=some g2\/g2=(W.alloc o).heap.size) :
  gz t fs m W0 (w5.setCell ⟨b4,3,none⟩ (.slice (some ⟨g2,0,none⟩) (os.length+1) cap)) A c b2 b4 b6 X D Af cf pv l (.slice (some ⟨g2,0,none⟩) (os.length+1) cap) (os++[(st,av)]) ds:=by
 have c1:aB (fun b=>sv.ownBlock=some b) W (W.alloc o):=p9 _ W o;have c3:aB (fun b=>sv.ownBlock=some b) (W.alloc o) w5:=aB.of_grown hgr;have c4:aB (fun b=>b=b4) w5 (w5.setCell ⟨b4,3,none⟩ (.slice (some ⟨g2,0,none⟩) (os.length+1) cap)):=dP w5 b4 3 _;have hC:aB (fun b=>b=b4\/sv.ownBlock=some b) W (w5.setCell ⟨b4,3,none⟩ (.slice (some ⟨g2,0,none⟩) (os.length+1) cap)):=((c1.trans c3 fun b _ e=>e).mono fun b _ e=>aad e).trans c4 fun b _ e=>aam e
 have hsA:(W.alloc o).heap.size=W.heap.size+1:=by simp
 have l4:=lt_of_block h.c4;have hg2:W0.heap.size<=g2/\g2≠X/\g2≠D.nb/\g2≠b4:=by
  rcases hat with e|e
  ·exact h.sb g2 e
  ·have:=lt_of_block h.el.x
   have:=h.el.nm.lt;have:=h.bl.size;exact⟨by omega,by omega,by omega,by omega⟩
 have h45:w5.heap[b4]? = W.heap[b4]?:=(c3.block b4 (by omega) (fun e=>(h.sb b4 e).2.2.2 rfl)).trans (c1.block b4 l4 (fun e=>(h.sb b4 e).2.2.2 rfl));refine⟨?_,?_,?_,?_,?_,h.n4,h.n2,?_,?_,h.lo,h.dn,fun d hd=>⟨(h.dl d hd).1,aah (h.dl d hd).2 hC.size⟩,h.fv⟩
 ·refine lq h.bl hC (Pe _) fun b hb e=>?_
  rcases e with e|e
  ·have:=h.lo.2.2;omega
  ·have:=(h.sb b e).1;omega
 ·refine h.el.chg hC ?_ ?_ ?_
  ·rintro(e|e)
   ·exact h.n4.1 e.symm
   ·exact(h.sb X e).2.1 rfl
  ·rintro(e|e)
   ·exact h.n4.2 e.symm
   ·exact(h.sb D.nb e).2.2.1 rfl
  ·intro g hg e
   rcases e with e|e
   ·exact(h.pb g hg).2.1 e
   ·exact(h.pb g hg).2.2.2.2 e
 ·exact dO (h45.trans h.c4) 3 _ rfl
 ·rw[aas,M3]
  refine eP hown c4 fun g hg e=>?_
  simp only[Value.ownBlock,aao]at hg;exact hg2.2.2.2 (by rw[hg,e])
 ·have f2:lg (qH X D.nb b4 pv sv) W (aDX t fs m A c b2 b6 X D Af ds (os++[(st,av)])):=by
   intro w' hs hb;have hf:=h.fix w' hs hb;refine⟨hf.c2,hf.c6,hf.fl,hf.ft,hf.dd,fun p hp=>?_⟩;rcases aaG.1 hp with hp|hp
   ·exact hf.ar p hp
   ·rw[aar]at hp
    subst hp;exact Fp (Cz ha hag w' hs hb)
  refine f2.step hC (fun b _ e=>?_) (fun b hb e=>?_)
  ·rcases e with e|e
   ·exact aad (aad (aam e))
   ·exact aad (aad (aad (aad e)))
  ·rcases e with e|e|e|e|e
   ·exact aam e
   ·exact aad (aam e)
   ·exact aad (aad (aam e))
   ·exact aad (aad (aad (aam e)))
   ·simp only[Value.ownBlock,aao]at e
    subst e;rcases hat with e'|e'
    ·exact aad (aad (aad (aad e')))
    ·omega
 ·intro g hg
  obtain⟨a1,a2,a3,a4,a5⟩:=h.pb g hg;refine⟨a1,a2,a3,a4,fun e=>?_⟩;simp only[Value.ownBlock,aao]at e;subst e;rcases hat with e'|e'
  ·exact a5 e'
  ·have:=mU h.el.own hg
   omega
 ·intro g hg
  simp only[Value.ownBlock,aao]at hg;subst hg;exact hg2
def gz.sts(h:gz t fs m W0 W A c b2 b4 b6 X D Af cf pv l sv os ds):∃As cs,sv=.slice As os.length cs/\dY W As (os.map Prod.fst):=by
 rcases abE os.length with h0|hp
 ·obtain⟨As,cs,hv⟩:=oZ h.own
  exact⟨As,cs,hv,fun k hk=>by simp at hk;omega⟩
 ·obtain⟨g,cap,hv,hlt,hc⟩:=vV h.own hp
  refine⟨_,cap,hv,fun k hk=>?_⟩;have hk':k<os.length:=by simpa using hk
  obtain⟨c0,c1⟩:=Ef os k hk';obtain⟨Ak,ck,hv2,har⟩:=h.fix.now.ar os[k] (aag hk');rw[hv2]at c1;refine⟨g,0,rfl,hlt,?_,Ak,ck,?_,?_⟩
  ·rw[aaP,acr];exact hc _ _ c0
  ·rw[aaP];simp only[acr];exact hc _ _ c1
  ·simp only[acr];exact har
end
end Go.Proofs.YtppnecgeboonbaaGreatDoor
