/- Walks. -/
import Derived.Test.YtppnecgeboonbaaGreatDoorZ25
import Derived.Maps.OwnSet
import Derived.Laws.Concat
import Derived.OrdersIn
import Derived.OrdersHeld
import Derived.Deep.RegionHeld
import Derived.RangeFuncIn
import Derived.Sort.QuietIn
import Derived.Shelf.Abstract
import Derived.Shelf.RegionOpen
import Derived.OwnWalkIn
import Derived.TacticsInMore
import Derived.LoopNIn
import Derived.LoopIn
namespace Go.Proofs.YtppnecgeboonbaaGreatDoor
set_option maxRecDepth 100000
set_option linter.all false
set_option maxHeartbeats 8000000
open Go.RowKit Go.Maps
structure dH where
 k:Int
 st:Int
 ld:ByteArray
 A:Option Addr
 n:Nat
 c:Nat
 fb:Nat
 nb:Nat
 fv:Value
def aW(D:dH)(pv:Value):Array Value:=#[.int .i64 D.k,.int .i64 D.st,.string D.ld,.slice D.A D.n D.c,.map (some D.fb),D.fv,.map (some D.nb),pv]
def nQ(l:List aR):List Value:=l.flatMap fun p=>[.int .i64 p.1,S p.2]
def Ki(l:List aR)(p:aR):nQ (l++[p])=nQ l++[.int .i64 p.1,S p.2]:=by simp[nQ]
structure jA (w:World) (X B:Nat) (D:dH) (pv:Value) (pl:List aR):Prop where
 x:w.heap[X]? = some (.cells (aW D pv) 71 (0,0))
 nm:kJ w D.nb pl
 own:w.ownsRow B 82 2 pv pl.length (nQ pl)
 ne:X≠D.nb
 pb:∀g,pv.ownBlock=some g->g≠X/\g≠D.nb
def jA.chg{Y:Nat->Prop}{w w':World}{X B:Nat}{D:dH}{pv:Value}{pl:List aR}(h:jA w X B D pv pl)(hc:aB Y w w')(h1:¬ Y X)(h2:¬ Y D.nb)(h3:∀g,pv.ownBlock=some g->¬ Y g):jA w' X B D pv pl:=
 ⟨(hc.block X (lt_of_block h.x) h1).trans h.x,h.nm.same (hc.block D.nb h.nm.lt h2),eP h.own hc h3,h.ne,h.pb⟩
def jA.below{w w':World}{X B:Nat}{D:dH}{pv:Value}{pl:List aR}(h:jA w X B D pv pl)(hb:Below w w w'):jA w' X B D pv pl:=
 h.chg (aB.of_new (X:=fun _=>False) hb) (fun e=>e) (fun e=>e) (fun _ _ e=>e)
def jA.cell{w:World}{X B:Nat}{D:dH}{pv:Value}{pl:List aR}(h:jA w X B D pv pl)(o:Nat)(v:Value)(hv:(aW D pv)[o]? = some v):w.cell? ⟨X,o,none⟩=some v:=by
 rw[aap w X o _ _ _ h.x];exact hv
def tJ(w:World)(b:Nat)(o:Obj):aB (fun c=>c=b) w (aU w b o):=⟨rfl,rfl,rfl,by simp[aU],fun c _ hx=>wH w b o c hx⟩
def IY{a b n:Nat}(h:a<=b)(k:n<a):n<b:=aah k h
def dO{w:World}{b:Nat}{A A':Array Value}{T:TypeId}(h:w.heap[b]? = some (.cells A T (0,0)))(k:Nat)(v:Value)(e:A.setIfInBounds k v=A'):(w.setCell ⟨b,k,none⟩ v).heap[b]? = some (.cells A' T (0,0)):=by
 subst e;unfold World.setCell;simp only[ab4];rw[h];simp
def Kj:(Tryz.prog.info? 82).map (fun i=>(i.zero,i.size,i.bytes))=some (some (.agg #[.int .i64 0,.string ⟨#[]⟩]),2,24):=by kernel_rfl
def oZ{w:World}{base:Nat}{e:TypeId}{size:Nat}{v:Value}{n:Nat}{xs:List Value}(h:w.ownsRow base e size v n xs):∃A c,v=.slice A n c:=by
 rcases h.2 with⟨rfl,rfl⟩|⟨g,cap,cur,rfl,hB,hg,hn,hm,hc,ht⟩
 ·exact⟨none,0,rfl⟩
 ·exact⟨_,_,rfl⟩
abbrev sQ(X B:Nat)(D:dH)(pv:Value)(pl:List aR)(p:aR)(w:World)(e:Ending)(w':World):Prop:=
 ∃pv',e=.returned (.int .i64 (((dG pl p).1:Nat):Int))/\jA w' X B D pv' (dG pl p).2/\aB (fun b=>b=X\/b=D.nb\/pv.ownBlock=some b) w w'/\∀g,pv'.ownBlock=some g->pv.ownBlock=some g\/w.heap.size<=g
def ED(X B:Nat)(D:dH)(pv:Value)(pl:List aR)(p:aR)(w:World)(h:jA w X B D pv pl)(hl:∀p∈pl,kK p)(hp:kK p)(hn:pl.length<=100000)(hB:B<=w.heap.size) :
  Calls Tryz.prog 43 #[.pointer (some ⟨X,0,none⟩),iy p] w (sQ X B D pv pl p w):=by
 obtain⟨q,M⟩:=p;obtain⟨Ap,cp,rfl⟩:=oZ h.own;obtain⟨Z,hZ⟩:∃Z:ByteArray,(⟨M.toArray⟩:ByteArray)=Z:=⟨_,rfl⟩;have hP:iy (q,M)=.agg #[.int .i64 q,.string Z]:=by unfold iy S;rw[hZ]
 rw[hP];have bA:=(aac w.heap.size w).alloc (Pe _) (.cells #[.int .i64 q,.string Z] 82);have hE:=h.below bA;have z0:=az w #[.int .i64 q,.string Z] 82 0 (.int .i64 q) rfl;have z1:=az w #[.int .i64 q,.string Z] 82 1 (.string Z) rfl;have hsz:(w.alloc (.cells #[.int .i64 q,.string Z] 82)).heap.size=w.heap.size+1:=by simp
 have hX:=lt_of_block h.x;have hNb:=h.nm.lt;go_enter Tryz.func43,Tryz.ntmps43;go_upto_region 1 with(fail)
 generalize w.alloc (.cells #[.int .i64 q,.string Z] 82)=w0 at*;have x6:=hE.cell 6 (.map (some D.nb)) rfl;have x7:=hE.cell 7 (.slice Ap pl.length cp) rfl;have lk:=fun k=>JM (w0.drewN k) D.nb pl (hE.chg (ve (fun _=>False) w0 k) (fun e=>e) (fun e=>e) (fun _ _ e=>e)).nm hl (q,M) hp
 rw[hP]at lk;have Hh:=Pd h;have HE:=Pd hE;have Hl:=Pd hl;clear h hE hl
 cases hf:jr pl (q,M) with
 |some n=>
  have HV:Hid (dG pl (q,M)=(n,pl)):=by rw[Hid];unfold dG;rw[hf]
  rw[hf]at lk;simp only[abL,acL]at lk
  go_quiet (fail)
  go_wp2_with fail;go_returns;refine⟨_,?_,?_,?_,fun g hg=>aam hg⟩
  ·rw[HV.out];rfl
  ·rw[HV.out];exact HE.out.chg (ve (fun _=>False) _ _) (fun e=>e) (fun e=>e) (fun _ _ e=>e)
  ·exact(aB.of_new bA).trans (ve (fun _=>False) _ _) (fun _ _ e=>e.elim)
 |none=>
  have HV:Hid (dG pl (q,M)=(pl.length,pl++[(q,M)])):=by rw[Hid];unfold dG;rw[hf]
  rw[hf]at lk;simp only[Option.getD_none,adA]at lk
  go_quiet (fail)
  have e1:=HE.out.chg (ve (fun _=>False) w0 nq) (fun e=>e) (fun e=>e) (fun _ _ e=>e);have b1:Below w w (w0.drewN nq):=⟨bA.os,bA.tape,bA.output,bA.size,bA.block⟩;have y0:(w0.drewN nq).cell? ⟨w.heap.size,0,none⟩=some (.int .i64 q):=z0;have y1:(w0.drewN nq).cell? ⟨w.heap.size,1,none⟩=some (.string Z):=z1;have hs1:(w0.drewN nq).heap.size=w.heap.size+1:=hsz;generalize w0.drewN nq=w1 at*;have x6':=e1.cell 6 (.map (some D.nb)) rfl;have x7':=e1.cell 7 (.slice Ap pl.length cp) rfl;have e2:jA w1.drew X B D (.slice Ap pl.length cp) pl:=e1.chg (zR (fun _=>False) _) (fun e=>e) (fun e=>e) (fun _ _ e=>e);obtain⟨o,ho,hN⟩:=JN w1.drew D.nb pl e2.nm Hl.out (q,M) hp hf;rw[hP]at ho;have HN:=Pd hN;have V5:=Pd e1;clear e1 e2 hN lk;go_wp2_with fail
  go_still_tail 6,(by kernel_rfl)
  change wpList _ _ _ _ _ w1.drew;go_wp2_with fail;have hx2:(aU w1.drew D.nb o).heap[X]? = some (.cells (aW D (.slice Ap pl.length cp)) 71 (0,0)):=(wH w1.drew D.nb o X V5.out.ne).trans V5.out.x;have c2:aB (fun b=>b=D.nb) w1 (aU w1.drew D.nb o):=(zR _ w1).trans (tJ w1.drew D.nb o) (fun _ _ e=>e);have own2:=eP V5.out.own c2 (fun g hg e=>(V5.out.pb g hg).2 e);have hs2:(aU w1.drew D.nb o).heap.size=w.heap.size+1:=by rw[<-hs1];simp[aU]
  have v0:(aU w1.drew D.nb o).cell? ⟨w.heap.size,0,none⟩=some (.int .i64 q):=(lm (c2.block w.heap.size (by omega) (by omega))).trans y0;have v1:(aU w1.drew D.nb o).cell? ⟨w.heap.size,1,none⟩=some (.string Z):=(lm (c2.block w.heap.size (by omega) (by omega))).trans y1;have c12:aB (fun b=>b=D.nb) w (aU w1.drew D.nb o):=(aB.of_new b1).trans c2 (fun _ _ e=>e);clear ho y0 y1 x6' x7' z0 z1 hsz hs1 bA c2 b1 x6 x7 HE V5;generalize aU w1.drew D.nb o=w2 at*;have x7:w2.cell? ⟨X,7,none⟩=some (.slice Ap pl.length cp):=by rw[aap w2 X 7 _ _ _ hx2];rfl
  have f7:w2.frozen? ⟨X,7,none⟩=false:=by unfold World.frozen?;rw[hx2];simp
  obtain⟨ic,ci,cz0,cz1,cz2⟩:=abm Kj;have bT:Below w2 w2 ((w2.alloc (.cells #[.int .i64 q,.string Z] 82)).drew):=((aac _ _).alloc (Pe _) _).drew;have hown5:=eP own2 (aB.of_new (X:=fun _=>False) bT) (fun _ _ e=>e);have hnews:∀j u,(#[Value.int .i64 q,.string Z]).toList[j]? = some u->((w2.alloc (.cells #[.int .i64 q,.string Z] 82)).drew).cell? ((⟨w2.heap.size,0,none⟩:Addr).add j)=some u:=abK (aaq w2 (.cells #[.int .i64 q,.string Z] 82));have h63:pl.length+1<=maxLen:=by unfold maxLen;omega
  have hby:(pl.length+1)*24<=140737488355328:=by omega
  have hbase:B<=((w2.alloc (.cells #[.int .i64 q,.string Z] 82)).drew).heap.size:=by have:=bT.size;omega
  have hX2:X<w2.heap.size:=by omega
  have HS2:=Pd hs2;clear hs2;have KK:Hid (∀w5,((w2.alloc (.cells #[.int .i64 q,.string Z] 82)).drew).grownBy w5 (Value.slice Ap pl.length cp).ownBlock->w5.cell? ⟨X,7,none⟩=some (.slice Ap pl.length cp)/\w5.frozen? ⟨X,7,none⟩=false/\w5.heap[X]? = some (.cells (aW D (.slice Ap pl.length cp)) 71 (0,0))):=by
   intro w5 hg;have h1:w5.heap[X]? = w2.heap[X]?:=(hg.block X (aah hX2 bT.size) (fun e=>(Hh.out.pb X e.symm).1 rfl)).trans (bT.block X hX2);exact⟨(lm h1).trans x7,dU h1 _ f7,h1.trans hx2⟩
  have ZT:=Pd own2;clear own2
  go_region_law
   ((refine adO _ (by rfl) (.tmp 33) (.tmp 35) 69 (by rfl) B 82 ic _ 2 24 Tryz.underlying69 ci cz0 cz1 cz2 (by rfl) (by decide) _ pl.length (nQ pl) (by rfl) hown5 ⟨w2.heap.size,0,none⟩ 1 1 [.int .i64 q,.string Z] (by rfl) rfl hnews (by simp[Value.oneCell']) (by decide) h63 hby hbase (w2.heap.size+1) (by simp) ?_;intro g2 cap w5 hown6 hgr5 TW Ul;obtain⟨q1,q2,q3⟩:=KK.out w5 hgr5))
  all_goals
   go_wp2_with fail;go_returns;have g1:aB (fun b=>(Value.slice Ap pl.length cp).ownBlock=some b) w2 w5:=(aB.of_new bT).trans (aB.of_grown hgr5) (fun _ _ e=>e);have g2':=dP w5 X 7 (.slice (some ⟨g2,0,none⟩) (pl.length+1) cap);have hgn:(Value.slice Ap pl.length cp).ownBlock=some g2\/w2.heap.size<=g2:=TW.imp id (fun e=>by rw[e];omega);have hgX:g2≠X/\g2≠D.nb:=by
    rcases hgn with e|e
    ·exact Hh.out.pb g2 e
    ·have:=HS2.out;exact⟨by omega,by omega⟩
   refine⟨.slice (some ⟨g2,0,none⟩) (pl.length+1) cap,?_,⟨?_,?_,?_,Hh.out.ne,?_⟩,?_,?_⟩
   ·rw[HV.out];rfl
   ·exact dO q3 7 _ (by unfold aW;rfl)
   ·rw[HV.out]
    exact((HN.out.same (g1.block D.nb (by have:=HS2.out;omega) (fun e=>(Hh.out.pb D.nb e).2 rfl))).same (g2'.block D.nb (IY (g1.size) (by have:=HS2.out;omega)) (fun e=>Hh.out.ne e.symm)))
   ·rw[HV.out]
    have:=eP hown6 g2' (fun g hg e=>by simp only[Value.ownBlock,aao]at hg;omega);rw[aas,Ki,show S (q,M).2=.string Z from by unfold S;rw[hZ]];exact this
   ·intro g hg
    simp only[Value.ownBlock,aao]at hg;subst hg;exact hgX
   ·refine((c12.mono (fun b _ e=>aad (aam e))).trans g1 (fun b _ e=>aad (aad e))).trans g2' (fun b _ e=>aam e)
   ·intro g hg
    simp only[Value.ownBlock,aao]at hg;subst hg;rcases hgn with e|e
    ·exact aam e
    ·exact aad (by have:=HS2.out;omega)
def Jc(fs:List Bs)(L:aBK)(k:Nat)(hk:k<fs.length):dE (fs.take (k+1)) L=dE (fs.take k) L++memT (aP L fs[k]):=by
 unfold dE;rw[aau hk,List.flatMap_append];simp
abbrev wT(m:eU):Prop:=m.kind<=2/\m.of.length<=40
def I8{m:eU}(h:wT m):(memT m).length<=42:=by
 unfold memT lY;simp only[aas,aaF,abG];have:=h.2
 split
 ·simp;omega
 ·split<;>simp<;>omega
def FH{B:Nat}{a w:World}(h:Below B a w)(n:Nat):Below B a (w.drewN n):=⟨h.os,h.tape,h.output,h.size,h.block⟩
def I9(k:Int)(G:ByteArray)(W:World):(Instr.field 141 (.agg #[.int .i64 k,.string G]) 0).run Tryz.prog W=.ok (.int .i64 k) W:=by
 simp[Instr.field,go_sem,acv Tryz.underlying141,asAgg]
def Ja(k:Int)(G:ByteArray)(W:World):(Instr.field 141 (.agg #[.int .i64 k,.string G]) 1).run Tryz.prog W=.ok (.string G) W:=by
 simp[Instr.field,go_sem,acv Tryz.underlying141,asAgg]
def MO(k:Nat)(hk:k=0\/k=1\/k=2)(W:World):(Instr.index 139 (.agg #[.string ⟨#[]⟩,.string ⟨#[61]⟩,.string ⟨#[94]⟩]) (.int .i64 (k:Int))).run Tryz.prog W=.ok (.string ⟨(lY k).toArray⟩) W:=by
 rcases hk with rfl|rfl|rfl<;>simp[Instr.index,acv Tryz.underlying139,asIntOf,go_sem,lY]
def EI(X:Nat)(Af:Option Addr)(cf:Nat)(fs:List Bs)(m:Option Nat)(L:aBK)(w:World)(hX:X<w.heap.size)(hx:w.cell? ⟨X,5,none⟩=some (.slice Af fs.length cf))(hV:ay w Af (fs.map S))(hn:fs.length<=1000000)
  (hlk:∀W,Below w w W->∀f∈fs,(Instr.lookup 89 (.map m) (S f) false).run Tryz.prog W=.ok (jw (aP L f)) W) (hL:∀f,wT (aP L f)) :
  Calls Tryz.prog 44 #[.pointer (some ⟨X,0,none⟩),.map m] w fun e w'=>e=.returned (.string ⟨(dE fs L).toArray⟩)/\Below w w w':=by
 have HV:=Pd hV;have b0:Below w w (w.alloc (.cells #[.pointer none,.slice none 0 0] 134)):=(aac _ _).alloc (Pe _) _;have hx0:=(b0.cell (p:=⟨X,5,none⟩) hX).trans hx;have B0:=Rat3.fC.new w;have HL:=Pd hL;have HLK:=Pd hlk;clear hV hx hL hlk;go_enter Tryz.func44,Tryz.ntmps44;go_wp2_with fail
 go_loopw [13] (fun i wr=>∃(q:Nat),i=.int .i64 q/\q<=fs.length/\Below w w wr/\Rat3.fC w.heap.size w.heap.size (dE (fs.take q) L) wr/\(dE (fs.take q) L).length<=42*q) (fun i _=>fs.length-(intOf i).toNat)
 case atStart=>exact⟨0,rfl,by omega,b0,by simpa[dE]using B0,by simp[dE]⟩
 case round=>
  clear B0 b0 hx0;obtain⟨q,rfl,hq,hB,hBl,hlen⟩:=hrel;by_cases hlt:q<fs.length
  ·obtain⟨b,o,rfl,hbl,hc0⟩:=row_of HV.out hlt
   have HE:=Pd (Jc fs L q hlt);have hm:=HL.out fs[q];have lk0:=fun W hW=>HLK.out W hW fs[q] (aag hlt)
   have hmt:=I8 hm;generalize aP L fs[q]=mm at*;obtain⟨kk,F⟩:=mm;obtain⟨Z,hZ⟩:∃Z:ByteArray,(⟨fs[q].toArray⟩:ByteArray)=Z:=⟨_,rfl⟩;obtain⟨G,hG⟩:∃Z:ByteArray,(⟨F.toArray⟩:ByteArray)=Z:=⟨_,rfl⟩;have TU:F=G.data.toList:=by rw[<-hG]
   unfold S jw at lk0;simp only[hZ,hG]at lk0;have k0:=(hB.cell (p:=⟨b,o+q,none⟩) hbl).trans (hc0.trans (by rw[S,hZ]));have i0:(0:Int)<=(q:Int):=by omega
   have il:(q:Int)<(fs.length:Int):=(by omega);have lk:=lk0 wr.drew hB.drew;have hkk:kk=0\/kk=1\/kk=2:=by have:=hm.1;simp only at this;omega
   have hGs:G.size<=40:=by rw[aae,<-TU];exact hm.2
   have HB2:=Pd hBl;clear hc0 hZ hG lk0 hm hBl;have hf0:=fun(k:Int) W=>I9 k G W
   have hf1:=fun(k:Int) W=>Ja k G W
   have hsg:=fun W=>MO kk hkk W
   obtain⟨K,hK⟩:∃Z:ByteArray,(⟨(lY kk).toArray⟩:ByteArray)=Z:=⟨_,rfl⟩;have hKd:lY kk=K.data.toList:=by rw[<-hK]
   have hKs:K.size<=1:=by
    rw[aae,<-hKd];rcases hkk with rfl|rfl|rfl<;>decide
   rw[hK]at hsg;have HT:Hid (memT ⟨kk,F⟩=((K++G)++(⟨#[46]⟩:ByteArray)).data.toList):=by
    rw[Hid,memT,hKd,TU];simp
   have hc1:=fun W=>aef (P:=Tryz.prog) W K G (by omega)
   have hc2:=fun W=>aef (P:=Tryz.prog) W (K++G) ⟨#[46]⟩ (by rw[adF];show K.size+G.size+1<=_;omega)
   have hT3:((K++G)++(⟨#[46]⟩:ByteArray)).size<=42:=by rw[adF,adF];show K.size+G.size+1<=_;omega
   clear hK hKd TU hkk;go_wp2_with fail
   go_still_tail 12,(by kernel_rfl)
   change wpList _ _ _ _ _ wr.drew;generalize (K++G)++(⟨#[46]⟩:ByteArray)=T at*;have hBd:Rat3.fC w.heap.size w.heap.size (dE (fs.take q) L) wr.drew:=HB2.out.below (aac _ _).drew;have pw:=Rat3.uU w.heap.size w.heap.size _ T wr.drew hBd (by omega) hB.drew.size;clear hc1 hc2 hsg hf0 hf1 lk;go_wp2_with fail;refine pw.mono ?_;rintro e w2 ⟨rfl,hB3,b3⟩;go_wp2_with fail;go_roundw
   case rel=>exact⟨q+1,by go_num,by omega,hB.drew.trans b3,by rw[HE.out,HT.out];exact hB3,by rw[HE.out,HT.out,aas,<-aae];omega⟩
   case measure=>simp[intOf];omega
  ·obtain rfl:q=fs.length:=by omega
   rw[aaJ]at hBl;have hstr:=Rat3.zq _ _ _ _ hBl hB.size;go_wp2_with fail;refine hstr.mono ?_;rintro e w2 ⟨rfl,b2⟩;go_wp2_with fail;go_returns;exact⟨rfl,hB.trans b2⟩
def IU(f:Bs)(hf:bz f)(W:World):(Instr.lookup 89 (.map none) (S f) false).run Tryz.prog W=.ok (jw iF) W:=by
 obtain⟨kl,hkl⟩:=qJ.key f hf;have:=Maps.look_nil (w:=W) false qK Tryz.underlying89 (BM W) hkl;exact this
def OA(X:Nat)(Af:Option Addr)(cf:Nat)(fs:List Bs)(w:World)(hX:X<w.heap.size)(hx:w.cell? ⟨X,5,none⟩=some (.slice Af fs.length cf))(hV:ay w Af (fs.map S))(hn:fs.length<=1000000)(hf:∀f∈fs,bz f) :
  Calls Tryz.prog 44 #[.pointer (some ⟨X,0,none⟩),.map none] w fun e w'=>e=.returned (.string ⟨(dE fs []).toArray⟩)/\Below w w w':=
 EI X Af cf fs none [] w hX hx hV hn (fun W _ f h=>IU f (hf f h) W) (fun f=>⟨by show(0:Nat)<=2;omega,by show(0:Nat)<=40;omega⟩)
def OB(X b:Nat)(Af:Option Addr)(cf:Nat)(fs:List Bs)(L:aBK)(w:World)(hX:X<w.heap.size)(hx:w.cell? ⟨X,5,none⟩=some (.slice Af fs.length cf))(hV:ay w Af (fs.map S))(hn:fs.length<=1000000)(hf:∀f∈fs,bz f)
  (hM:jC w b L) (hk:∀p∈L,bz p.1) (hL:∀f,wT (aP L f)) :
  Calls Tryz.prog 44 #[.pointer (some ⟨X,0,none⟩),.map (some b)] w fun e w'=>e=.returned (.string ⟨(dE fs L).toArray⟩)/\Below w w w':=
 EI X Af cf fs (some b) L w hX hx hV hn (fun W hW f h=>BP W b L (hM.below hW) hk f (hf f h)) hL
def NZ(Z:ByteArray)(h:0<Z.size):((((Z[0]'h).toNat:Nat):Int)==61)=decide (Z[0]'h=61):=by
 by_cases e:Z[0]'h=61
 ·rw[e];rfl
 ·rw[aai e,aaN]
  intro k;exact e (abz.1 (by have:((61:UInt8).toNat:Int)=61:=rfl;omega))
def K9(f:Bs)(r:List Bs)(p:Bs)(ps:List Bs)(L:aBK):iJ (f::r) (p::ps) L=iJ r ps (if p=[] then L else iW L f (mY p)):=by
 show(if p=[] then iJ r ps L else iJ r ps (iW L f (mY p)))=_;by_cases h:p=[]
 ·rw[aaa h,aaa h]
 ·rw[aab h,aab h]
def La(fs ps:List Bs)(L:aBK)(q:Nat)(hq:q<fs.length)(hp:q<ps.length):iJ (fs.drop q) (ps.drop q) L=iJ (fs.drop (q+1)) (ps.drop (q+1)) (if ps[q]=[] then L else iW L fs[q] (mY ps[q])):=by
 rw[aat hq,aat hp];exact K9 _ _ _ _ _
def AO(Z:ByteArray)(h:Z.size≠0):(Z.extract 1 Z.size).data.toList=Z.data.toList.tail:=by
 rw[eH,aav (by rw[aaH,<-aae];omega),List.drop_one]
def Ii(s:ByteArray)(w:World)(hT:fD w)(hs:s.size<=100000000):Calls Tryz.prog 36 #[.string s,.string ⟨#[46]⟩] w fun e w'=>∃b,e=.returned (.slice (some ⟨b,0,none⟩) (dots s.data.toList).length (dots s.data.toList).length)/\(∀j,(hj:j<(dots s.data.toList).length)->w'.cell? ⟨b,j,none⟩=some (S (dots s.data.toList)[j]))/\w.heap.size<=b/\b<w'.heap.size/\Below w w w':=by
 obtain⟨m,hm⟩:=hT.r.mx;refine(Tryz.strings_Split s ⟨#[46]⟩ m w (by omega) hm (by decide)).mono ?_;have hd:=Eb s;have hl:(dots s.data.toList).length=Lib.countB s ⟨#[46]⟩+1:=by
  rw[<-hd,aaC];exact Lib.splitB_all _ (by decide) 0 _ s rfl
 rintro e w' ⟨rfl,rfl⟩;refine⟨w.heap.size,by rw[hl],fun j hj=>?_,Pe _,by simp,(aac _ _).alloc (Pe _) _⟩;refine aJ w _ _ j _ ?_;rw[aeK,abA];have hj':j<(Lib.splitB ⟨#[46]⟩ 0 (Lib.countB s ⟨#[46]⟩) s).length:=by
  have:=aaw List.length hd;rw[aaC]at this;omega
 rw[aak hj',aba];congr 1;have:(dots s.data.toList)[j]=(Lib.splitB ⟨#[46]⟩ 0 (Lib.countB s ⟨#[46]⟩) s)[j].data.toList:=by
  simp only[<-hd,acr]
 rw[this,eX]
def GL(s:Bs):∀p∈dots s,p.length<=s.length:=by
 have key:∀(s cur:Bs),∀p∈ja cur s,p.length<=cur.length+s.length:=by
  intro s
  induction s with
  |nil=>intro cur p hp;simp only[ja,aar]at hp;subst hp;simp
  |cons c r ih=>
   intro cur p hp;unfold ja at hp
   split at hp
   ·rcases aay.1 hp with rfl|hp
    ·simp
    ·have:=ih [] p hp;simp at this ⊢;omega
   ·have:=ih _ p hp;simp at this ⊢;omega
 intro p hp;have:=key s [] p hp
 simpa using this
def lq{Y:Nat->Prop}{B:Nat}{w w1 w2:World}(h:Below B w w1)(hc:aB Y w1 w2)(hB:B<=w.heap.size)(hY:∀b,b<B->¬ Y b):Below B w w2:=
 h.trans ⟨hc.os,hc.tape,hc.output,hc.size,fun b hb=>hc.block b (aah hb (aaB hB h.size)) (hY b hb)⟩
def Lb(X:Nat)(Af:Option Addr)(cf:Nat)(fs:List Bs)(T:ByteArray)(w:World)(hT:fD w)(hX:X<w.heap.size)(hx:w.cell? ⟨X,5,none⟩=some (.slice Af fs.length cf))(hV:ay w Af (fs.map S))(hn:fs.length<=1000000)(hf:∀f∈fs,bz f)
  (hs:T.size<=100000000) (hd:fs.length<=(dots T.data.toList).length) :
  Calls Tryz.prog 80 #[.pointer (some ⟨X,0,none⟩),.string T] w fun e w'=>∃b,e=.returned (.map (some b))/\jC w' b (jg fs T.data.toList)/\(∀p∈jg fs T.data.toList,bz p.1)/\w.heap.size<=b/\Below w w w':=by
 have hmk:∀W:World,(Instr.makeMap 89 none).run Tryz.prog W=.ok (.map (some W.heap.size)) (W.alloc (.map #[] 0)):=fun _=>rfl
 have hM0:jC (w.alloc (.map #[] 0)) w.heap.size []:=bN.new w;have b0:Below w w (w.alloc (.map #[] 0)):=(aac _ _).alloc (Pe _) _;have hsz:w.heap.size<(w.alloc (.map #[] 0)).heap.size:=by simp
 have pS:=fun W hW=>Ii T W hW hs
 have XC:=GL T.data.toList;rw[<-aae]at XC;obtain⟨ps,hps⟩:∃ps,ps=dots T.data.toList:=⟨_,rfl⟩;have HR:Hid (jg fs T.data.toList=iJ fs ps []):=by rw[Hid,jg,hps]
 rw[<-hps]at pS XC hd;obtain⟨R,hR⟩:∃R,R=jg fs T.data.toList:=⟨_,rfl⟩;rw[<-hR]at HR ⊢;have HV:=Pd hV;have HF:=Pd hf;clear hps hR hV hf;go_enter Tryz.func80,Tryz.ntmps80;go_wp2_with fail;generalize w.alloc (.map #[] 0)=w0 at*;refine(pS _ (hT.below b0)).mono ?_;rintro e w1 ⟨b,rfl,hcell,hb0,hb1,bb⟩;have x5:=((b0.trans (bb.mono b0.size)).cell (p:=⟨X,5,none⟩) hX).trans hx;have hbw:=b0.trans (bb.mono b0.size);have hM1:=hM0.below bb;have hne:b≠w.heap.size:=by omega
 clear pS hmk hM0;go_wp2_with fail
 go_loopw [17] (fun i wr=>∃(q:Nat) (L:aBK),i=.int .i64 q/\q<=fs.length/\jC wr w.heap.size L/\(∀p∈L,bz p.1)/\aB (fun b=>b=w.heap.size) w1 wr/\Hid (R=iJ (fs.drop q) (ps.drop q) L)) (fun i _=>fs.length-(intOf i).toNat)
 case atStart=>exact⟨0,[],rfl,by omega,hM1,(fun p hp=>absurd hp aaK),aB.refl _ _,HR.out⟩
 case round=>
  clear hM1;obtain⟨q,L,rfl,hq,hM,hok,hC,HJ⟩:=hrel;by_cases hlt:q<fs.length
  ·have hpq:q<ps.length:=by omega
   have HJ2:=Pd (HJ.out.trans (La fs ps L q hlt hpq));obtain⟨bf,o,rfl,hbl,hc0⟩:=row_of HV.out hlt;have YN:bz fs[q]:=HF.out _ (aag hlt);have hc1:=hcell q hpq;have hpl:=XC _ (aag hpq);obtain⟨F,hF⟩:∃Z:ByteArray,(⟨fs[q].toArray⟩:ByteArray)=Z:=⟨_,rfl⟩;obtain⟨Z,hZ⟩:∃Z:ByteArray,(⟨ps[q].toArray⟩:ByteArray)=Z:=⟨_,rfl⟩;have Un:ps[q]=Z.data.toList:=by rw[<-hZ]
   have hput:=fun x=>BQ wr w.heap.size L hM hok fs[q] YN x
   unfold S at hc0 hc1 hput;rw[hF]at hc0 hput;rw[hZ]at hc1;rw[Un]at HJ2 hpl;rw[<-aae]at hpl;have k0:=(lm (hC.block bf (aah hbl hbw.size) (by omega))).trans ((hbw.cell (p:=⟨bf,o+q,none⟩) hbl).trans hc0);have k1:=(lm (s:=none) (o:=q) (hC.block b hb1 hne)).trans hc1;have i0:(0:Int)<=(q:Int):=by omega
   have il:(q:Int)<(fs.length:Int):=(by omega);have il2:(q:Int)<(ps.length:Int):=by omega
   have Xe:Hid (∀x,∀p∈iW L fs[q] x,bz p.1):=fun x=>by
    rw[uK];exact rC YN hok
   clear hc0 hc1 hF hZ Un HJ hcell XC;by_cases hz:Z.size=0
   ·have HX:Hid (R=iJ (fs.drop (q+1)) (ps.drop (q+1)) L):=by rw[Hid,HJ2.out,aaa (fF hz)]
    have Vs:=Pd hM;have UQ:=Pd hC;have hok2:=hok;have hem:=jF hz;clear hput HJ2 hM hC;go_wp2_with fail;go_roundw
    case rel=>exact⟨q+1,_,by go_num,by omega,Vs.out,hok2,UQ.out,HX.out⟩
    case measure=>simp[intOf];omega
   ·have hem:=jI hz
    have d1:(1:Int)<=(Z.size:Int):=(by omega);have d2:(0:Int)<(Z.size:Int):=(by omega);have Xu:=NZ Z (by omega);by_cases Zn:Z[0]'(by omega)=61
    ·have hrm:mY Z.data.toList=⟨1,Z.data.toList.tail⟩:=by
      unfold mY;rw[<-tC Z (by omega),aaa Zn]
     rw[aaA Zn]at Xu;have aB8:((((Z[0]'(by omega)).toNat:Nat):Int)==61)=true:=Xu;obtain⟨o',ho,V9⟩:=hput ⟨1,Z.data.toList.tail⟩;have hme:jw ⟨1,Z.data.toList.tail⟩=.agg #[.int .i64 1,.string (Z.extract 1 Z.size)]:=by
      unfold jw;rw[<-AO Z hz]
      rfl
     rw[hme]at ho;have HX:Hid (R=iJ (fs.drop (q+1)) (ps.drop (q+1)) (iW L fs[q] ⟨1,Z.data.toList.tail⟩)):=by rw[Hid,HJ2.out,aab (gB hz),hrm]
     have Vs:=Pd V9;have UQ:=Pd (hC.trans (tJ wr w.heap.size o') (fun _ _ e=>e));have hok2:=Xe.out ⟨1,Z.data.toList.tail⟩;clear hput HJ2 hM hC V9 hme hrm Zn hz hok Xe;go_wp2_with fail;go_roundw
     case rel=>exact⟨q+1,_,by go_num,by omega,Vs.out,hok2,UQ.out,HX.out⟩
     case measure=>simp[intOf];omega
    ·have hrm:mY Z.data.toList=⟨2,Z.data.toList.tail⟩:=by
      unfold mY;rw[<-tC Z (by omega),aab Zn]
     rw[aai Zn]at Xu;have aB8:((((Z[0]'(by omega)).toNat:Nat):Int)==61)=false:=Xu;obtain⟨o',ho,V9⟩:=hput ⟨2,Z.data.toList.tail⟩;have hme:jw ⟨2,Z.data.toList.tail⟩=.agg #[.int .i64 2,.string (Z.extract 1 Z.size)]:=by
      unfold jw;rw[<-AO Z hz]
      rfl
     rw[hme]at ho;have HX:Hid (R=iJ (fs.drop (q+1)) (ps.drop (q+1)) (iW L fs[q] ⟨2,Z.data.toList.tail⟩)):=by rw[Hid,HJ2.out,aab (gB hz),hrm]
     have Vs:=Pd V9;have UQ:=Pd (hC.trans (tJ wr w.heap.size o') (fun _ _ e=>e));have hok2:=Xe.out ⟨2,Z.data.toList.tail⟩;clear hput HJ2 hM hC V9 hme hrm Zn hz hok Xe;go_wp2_with fail;go_roundw
     case rel=>exact⟨q+1,_,by go_num,by omega,Vs.out,hok2,UQ.out,HX.out⟩
     case measure=>simp[intOf];omega
  ·obtain rfl:q=fs.length:=by omega
   have HX:Hid (R=L):=by
    have:=HJ.out;rw[acZ]at this;rw[Hid,this];unfold iJ;rfl
   go_wp2_with fail;go_returns;exact⟨_,rfl,by rw[HX.out];exact hM,by rw[HX.out];exact hok,Pe _,lq hbw hC (Pe _) (fun b hb=>by omega)⟩
open Rat3
def fU(t fs:List Bs)(mem:Bs)(arcs:List aO):List (aO×Bs):=arcs.filterMap fun a=>(jy t fs mem a).map (fun x=>(a,x))
def jc(t:List Bs):List (aO×Bs)->List aR->List aO->List aO×List aR
 |[],l,out=>(out,l)
 |(a,x)::r,l,out=>jc t r (dG l (a.to,x)).2 (out++[⟨fE t a.inn,fE t a.out,a.w,(dG l (a.to,x)).1⟩])
theorem vC(t fs:List Bs)(mem:Bs):∀(arcs:List aO) (l:List aR) (out:List aO),iO t fs mem arcs l out=jc t (fU t fs mem arcs) l out
 |[],l,out=>rfl
 |a::r,l,out=>by
  unfold iO fU;rw[List.filterMap_cons]
  cases h:jy t fs mem a with
  |none=>simp only[Option.map_none];exact vC t fs mem r l out
  |some x=>simp only[aba];unfold jc;exact vC t fs mem r _ _
theorem AC(t:List Bs)(a:aO)(x:Bs):∀(pre:List (aO×Bs)) (l:List aR) (out:List aO),jc t (pre++[(a,x)]) l out=((jc t pre l out).1++[⟨fE t a.inn,fE t a.out,a.w,(dG (jc t pre l out).2 (a.to,x)).1⟩],(dG (jc t pre l out).2 (a.to,x)).2)
 |[],l,out=>rfl
 |(b,y)::r,l,out=>by
  rw[abZ];unfold jc;exact AC t a x r _ _
theorem xM(t:List Bs):∀(pre:List (aO×Bs)) (l:List aR) (out:List aO),(jc t pre l out).1.length=out.length+pre.length/\(jc t pre l out).2.length<=l.length+pre.length/\l.length<=(jc t pre l out).2.length/\∀x∈(jc t pre l out).2,x∈l\/∃q∈pre,x=(q.1.to,q.2)
 |[],l,out=>⟨rfl,Pe _,Pe _,fun x hx=>aam hx⟩
 |(b,y)::r,l,out=>by
  unfold jc;obtain⟨h1,h2,h3,h4⟩:=xM t r (dG l (b.to,y)).2 (out++[⟨fE t b.inn,fE t b.out,b.w,(dG l (b.to,y)).1⟩]);obtain⟨v1,v2,v3,v4⟩:=Om l (b.to,y);have v5:(dG l (b.to,y)).2.length<=l.length+1:=by
   unfold dG
   cases jr l (b.to,y)<;>simp
  refine⟨by rw[h1];simp;omega,by simp only[aaF];omega,by omega,fun x hx=>?_⟩;rcases h4 x hx with h|⟨q,hq,rfl⟩
  ·rcases v3 x h with h|rfl
   ·exact aam h
   ·exact aad ⟨(b,y),aal,rfl⟩
  ·exact aad ⟨q,aaj _ hq,rfl⟩
def Nu(t fs:List Bs)(mem:Bs)(arcs:List aO)(j:Nat)(hj:j<arcs.length):fU t fs mem (arcs.take (j+1))=match jy t fs mem arcs[j] with|some x=>fU t fs mem (arcs.take j)++[(arcs[j],x)]|none=>fU t fs mem (arcs.take j):=by
 unfold fU;rw[aau hj,adH]
 cases h:jy t fs mem arcs[j] with
 |none=>simp[h]
 |some x=>simp[h]
def Nt(t fs:List Bs)(mem:Bs)(arcs:List aO)(j:Nat)(hj:j<arcs.length)(x:Bs)(h:jy t fs mem arcs[j]=some x):fU t fs mem arcs=fU t fs mem (arcs.take j)++(arcs[j],x)::fU t fs mem (arcs.drop (j+1)):=by
 unfold fU
 conv=>lhs;rw[<-aaY j arcs,aat hj]
 rw[adH,List.filterMap_cons,h]
 rfl
def Ei(t fs:List Bs)(mem:Bs)(arcs:List aO):(fU t fs mem arcs).length<=arcs.length:=afK _ _
def Ej{t fs:List Bs}{mem:Bs}{arcs:List aO}{q:aO×Bs}(h:q∈fU t fs mem arcs):q.1∈arcs/\jy t fs mem q.1=some q.2:=by
 unfold fU at h;obtain⟨a,ha,h⟩:=List.mem_filterMap.1 h
 cases hn:jy t fs mem a with
 |none=>rw[hn]at h;cases h
 |some x=>rw[hn]at h;simp only[aba,aao]at h;subst h;exact⟨ha,hn⟩
def OY(fs:List Bs)(mem:Bs):Prop:=∃m:aBK,mem=dE fs m/\(∀f,oU (aP m f))/\(∀f,f∉fs->aP m f=iF)/\∀f,(aP m f).kind<=2/\(aP m f).of.length<=40
def vI{f:aH}(h:aN f=true):f.feat.length<=40/\f.val.length<=40:=by
 unfold aN at h;rw[aaE,aax]at h;have h2:=h.2;unfold bU gZ at h2
 split at h2
 ·rename_i e
  simp at h2;rw[e];exact⟨by omega,by simp⟩
 ·simp at h2
  exact⟨by omega,by omega⟩
def Bc(fs:List Bs):OY fs (dE fs []):=⟨[],rfl,fun _=>I7,fun _ _=>rfl,fun _=>⟨aaS _,aaS _⟩⟩
def Np{m x:eU}{f:aH}(hm:m.kind<=2/\m.of.length<=40)(hf:aN f=true)(h:jZ m f.op f.val=some x):x.kind<=2/\x.of.length<=40:=by
 have hv:=(vI hf).2;have h0:iF.kind<=2/\iF.of.length<=40:=⟨aaS _,aaS _⟩;unfold jZ at h
 split at h
 ·cases h;exact⟨by show(1:Nat)<=2;omega,hv⟩
 ·split at h
  ·cases h;exact⟨by show(2:Nat)<=2;omega,hv⟩
  ·split at h
   ·cases h;exact h0
   ·split at h
    ·split at h<;>split at h<;>cases h<;>exact hm
    ·split at h
     ·split at h<;>split at h<;>cases h<;>exact hm
     ·split at h
      ·cases h;exact⟨by show(1:Nat)<=2;omega,hv⟩
      ·cases h
def Bd{t fs:List Bs}{mem:Bs}{a:aO}{f:aH}{L:aBK}(hn:fs.Nodup)(h:OY fs mem)(ha:eO t a=some f)(hf:f.feat∈fs)(hs:fT (jg fs mem) f=some L):(∀g,(aP L g).kind<=2/\(aP L g).of.length<=40)/\OY fs (dE fs L):=by
 obtain⟨m,rfl,ft,ou,sm⟩:=h;have hv:=vT ha;have hg:∀g,aP (jg fs (dE fs m)) g=aP m g:=fun g=>Jb hn ft ou g
 obtain⟨x,hx,hget⟩:∃x,jZ (aP m f.feat) f.op f.val=some x/\∀g,aP L g=if f.feat=g then x else aP m g:=by
  unfold fT at hs;rw[hg]at hs
  cases hx:jZ (aP m f.feat) f.op f.val with
  |none=>rw[hx]at hs;cases hs
  |some x=>
   rw[hx]at hs;simp only[aba,aao]at hs;exact⟨x,rfl,fun g=>by rw[<-hs,vK,hg]⟩
 have hsm:∀g,(aP L g).kind<=2/\(aP L g).of.length<=40:=fun g=>by
  rw[hget]
  split
  ·exact Np (sm _) hv hx
  ·exact sm g
 refine⟨hsm,L,rfl,fun g=>?_,fun g hout=>?_,hsm⟩
 ·rw[hget]
  split
  ·exact Nl (ft _) hv hx
  ·exact ft g
 ·rw[hget,aab (fun e:f.feat=g=>hout (e ▸ hf))]
  exact ou g hout
def xR{fs:List Bs}{mem:Bs}(h:OY fs mem):mem.length<=42*fs.length/\fs.length<=(dots mem).length:=by
 obtain⟨m,rfl,ft,ou,sm⟩:=h;constructor
 ·have key:∀l:List Bs,(dE l m).length<=42*l.length:=by
   intro l
   induction l with
   |nil=>simp[dE]
   |cons f r ih=>
    unfold dE at ih ⊢;rw[adb,aas,aaF];have:(memT (aP m f)).length<=42:=by
     unfold memT lY;simp only[aas,aaF,abG];have:=(sm f).2
     split
     ·simp;omega
     ·split<;>simp<;>omega
    omega
  exact key fs
 ·rw[BO,xJ _ (fun p hp=>by
   obtain⟨f,_,rfl⟩:=abk.1 hp;exact CV (ft f))]
  simp
def Be{t fs:List Bs}{mem:Bs}{a:aO}{x:Bs}(hn:fs.Nodup)(h:OY fs mem)(hf:∀f,eO t a=some f->f.feat∈fs)(hx:jy t fs mem a=some x):OY fs x:=by
 unfold jy at hx
 cases ha:eO t a with
 |none=>rw[ha]at hx;cases hx;exact h
 |some f=>
  rw[ha]at hx;simp only at hx
  cases hs:fT (jg fs mem) f with
  |none=>rw[hs]at hx;cases hx
  |some L=>
   rw[hs]at hx
   cases hx
   exact(Bd hn h ha (hf f ha) hs).2
open Go Go.RowKit
section
variable {P:Program} {n l:Nat} {ops:Array Oper} {Q:Exit->Act->World->Prop} {md:Region.Mode}
def JY{o:Oper}{a:Act}{w:World}{K:Act->World->Prop}(hd:∀c,o.op ≠ .defer c)(h:Oper.wp P o a w K Q):Oper.wpIn (Fence.wide.inRound l) n P o a w K Q:=by
 refine⟨fun _ _=>trivial,?_⟩;unfold Oper.wp at h;rw[show(Fence.wide.inRound l).round=some l from rfl,Oper.semAt_some l _ _ hd];generalize (execOp a.eval o).run P w=r at*
 cases r with
 |ok nx w'=>
  cases nx
  case value v=>exact h
  case skip=>exact h
  case defer d=>exact h
  case enter f args=>exact And.intro (fun e=>by cases e) (CallsIn.inRound l ((adL (n:=n-1)).2 h))
  case row row args=>
   refine And.intro (fun e=>by cases e) ?_;intro c cs _;obtain⟨v,w1,r,s⟩:=h c cs;exact⟨v,w1,r,stepsIn_wide.2 s⟩
  all_goals exact h.elim
 |halt x w'=>
  cases x<;>first|exact h|exact h.elim
theorem uY(hd:∀(i:Nat) (o:Oper) c,ops[i]? = some o->o.op ≠ .defer c)(hQ:¬ LetsOut Q):∀(fuel:Nat) (listed:Array Bool) (a:Act) (w:World),wpAny P md ops Q fuel listed a w->wpAnyIn (Fence.wide.inRound l) n P md ops Q fuel listed a w
 |0,_,_,_,h=>h
 |fuel+1,listed,a,w,h=>by
  refine⟨h.1,fun i hi=>?_⟩;have h2:=h.2 i hi;unfold wpOp at h2;unfold wpOpIn
  cases ho:ops[i]? with
  |none=>
   rw[ho]at h2;exact uY hd hQ fuel _ _ _ h2
  |some o=>
   rw[ho]at h2;simp only at h2 ⊢
   split at h2
   ·rename_i hw
    rw[aaa hw];rcases h2 with h2|h2
    ·have:=JY (l:=l) (n:=n) (fun c=>hd i o c ho) h2
     exact Oper.wpIn_mono (fun a' w' h3=>uY hd hQ fuel _ _ _ h3) this
    ·exact absurd h2.2 hQ
   ·rename_i hw
    rw[aab hw];exact⟨fun _ _=>trivial,uY hd hQ fuel _ _ _ h2⟩
end
variable {P:Program}
def zw{α:Type}(P:Program)(gf:Nat)(lb:Array Value)(encs:α->Array Value)(xs:List α)(Hc:World->Prop):Prop:=
 ∀(l:Nat) (J:List α->World->Prop),(∀pre W,J pre W->Hc W)->(∀pre W W',J pre W->Below W W W'->J pre W') ->
  (∀pre x post W,xs=pre++x::post->J pre W->YieldAt Fence.wide 4 P l (encs x) W fun e W'=>e=.returned (.bool true)/\J (pre++[x]) W') ->
  ∀W,J [] W->CallsIn Fence.wide 5 P gf (#[.func (.yield l) #[] #[]]++lb) W fun e W'=>e=.returned (.tuple #[])/\J xs W'
def FO{α:Type}(l D:Nat)(I:List α->World->Prop)(pre:List α)(x:α)(W:World):Exit->Act->World->Prop
 |.normal,_,W'=>W'.heap[l]? = W.heap[l]?/\W'.heap[D]? = W.heap[D]?/\I (pre++[x]) W'
 |_,_,_=>False
def qi(ds:List Nat):List Deferred:=ds.map fun D=>{ target:=.collected D,args:=#[] }
def kQ:List Nat->World->World
 |[],w=>w
 |D::r,w=>kQ r (w.putObj D (.deferred none))
theorem zU:∀(ds:List Nat) (w:World) (b:Nat),b∉ds->(kQ ds w).heap[b]? = w.heap[b]?
 |[],w,b,_=>rfl
 |D::r,w,b,h=>by
  simp only[aay,acw]at h;rw[kQ,zU r _ b h.2,abM h.1]
theorem zT{B:Nat}:∀(ds:List Nat) (w:World),(∀D∈ds,B<=D)->Below B w (kQ ds w)
 |[],w,_=>aac _ _
 |D::r,w,h=>by
  have h1:=zS w D (.deferred none);have:Below B w (w.putObj D (.deferred none)):=⟨h1.os,h1.tape,h1.output,h1.size,fun b hb=>abM (by have:=h D aal;omega)⟩;exact this.trans (zT r _ fun D' hD=>h D' (aaj _ hD))
theorem Bo{F:Fence}{n:Nat}{fn:Func}{tmps:Array Value}{R:Ending->World->Prop}:∀(ds:List Nat) (w:World),(∀D∈ds,w.heap[D]? = some (.deferred (some [])))->ds.Nodup ->
  LeavesIn F n P fn tmps R [] .returning (kQ ds w)->LeavesInM F n P fn tmps R (qi ds) .returning w
 |[],w,_,_,h=>h
 |D::r,w,h,hn,hl=>by
  rw[aa8]at hn;refine⟨by simp,aam ⟨D,_,rfl,run_takeDeferred (h D aal),?_⟩⟩;refine Bo r _ (fun D' hD=>?_) hn.2 hl;rw[abM (by rintro rfl;exact hn.1 hD)];exact h D' (aaj _ hD)
open Go.RowKit Go.Maps Go.Shelf
attribute [local go_sem] Oper.semAt_some
structure uR (t fs:List Bs) (arcs:List aO) (bs os n c:Nat) (A':Option Addr) (c' fb:Nat) (Af:Option Addr) (cf X bx bp q:Nat) (M:ByteArray) (W:World):Prop where
 tab:fD W
 bx:W.cell? ⟨bx,0,none⟩=some (.pointer (some ⟨X,0,none⟩))
 p0:W.cell? ⟨bp,0,none⟩=some (.int .i64 (q:Int))
 p1:W.cell? ⟨bp,1,none⟩=some (.string M)
 x3:W.cell? ⟨X,3,none⟩=some (.slice (some ⟨bs,os,none⟩) n c)
 x4:W.cell? ⟨X,4,none⟩=some (.map (some fb))
 x5:W.cell? ⟨X,5,none⟩=some (.slice Af fs.length cf)
 sa:W.cell? ⟨bs,os+q*2+1,none⟩=some (.slice A' arcs.length c')
 ar:oG W A' arcs
 fl:ji W fb (dW t 0 [])
 ft:ay W Af (fs.map S)
def uR.below{t fs:List Bs}{arcs:List aO}{bs os n c:Nat}{A':Option Addr}{c' fb:Nat}{Af:Option Addr}{cf X bx bp q:Nat}{M:ByteArray}{W W':World}(h:uR t fs arcs bs os n c A' c' fb Af cf X bx bp q M W)(hb:Below W W W'):uR t fs arcs bs os n c A' c' fb Af cf X bx bp q M W' where
 tab:=h.tab.below hb
 bx:=(hb.cell (p:=⟨bx,0,none⟩) (ax h.bx)).trans h.bx
 p0:=(hb.cell (p:=⟨bp,0,none⟩) (ax h.p0)).trans h.p0
 p1:=(hb.cell (p:=⟨bp,1,none⟩) (ax h.p1)).trans h.p1
 x3:=(hb.cell (p:=⟨X,3,none⟩) (ax h.x3)).trans h.x3
 x4:=(hb.cell (p:=⟨X,4,none⟩) (ax h.x4)).trans h.x4
 x5:=(hb.cell (p:=⟨X,5,none⟩) (ax h.x5)).trans h.x5
 sa:=(hb.cell (p:=⟨bs,_,none⟩) (ax h.sa)).trans h.sa
 ar:=h.ar.below hb
 fl:=h.fl.below hb
 ft:=h.ft.below hb
def eZ{s:Int}:aBU s=true↔0<=s/\s<=500:=by unfold aBU;rw[aaE,aax,aax]
def Nv(X:Nat)(q:Int)(Z:ByteArray)(w:World):Calls Tryz.prog 45 #[.pointer (some ⟨X,0,none⟩),.agg #[.int .i64 q,.string Z]] w fun e w'=>e=.returned (.func (.func 79) #[] #[.pointer (some ⟨w.heap.size,0,none⟩),.pointer (some ⟨w.heap.size+1,0,none⟩)])/\w'=(w.alloc (.cells #[.pointer (some ⟨X,0,none⟩)] 64)).alloc (.cells #[.int .i64 q,.string Z] 82):=by
 have hmf:∀(fn:Fn) (first cap:Array Value) (w:World),(Instr.makeFunc fn first cap).run Tryz.prog w=.ok (.func fn first cap) w:=fun _ _ _ _=>rfl
 go_enter Tryz.func45,Tryz.ntmps45;go_wp2_with fail;go_returns;exact⟨rfl,rfl⟩
def Cq(w:World)(x y:Int)(W:ByteArray)(tg:Int)(oo:UInt8)(F V:ByteArray):Below w w (vS w x y W tg oo F V):=(((aac _ _).alloc (Pe _) _).alloc (by simp) _).alloc (by simp;omega) _
abbrev wP(x:aO×Bs):Array Value:=#[qR x.1,iy (x.1.to,x.2)]
def Nw(t fs:List Bs)(arcs:List aO)(bs os n c:Nat)(A':Option Addr)(c' fb:Nat)(Af:Option Addr)(cf X bx bp q:Nat)(M:ByteArray)(hq:q<n)(ht:t.length<=500)(hfn:fs.Nodup)(hfo:∀f∈fs,bz f)(hfl:fs.length<=30000)
  (hg:OY fs M.data.toList) (WC:∀a∈arcs,aBU a.inn=true/\aBU a.out=true) (hfe:∀a∈arcs,∀f,eO t a=some f->f.feat∈fs) (hlen:arcs.length<=30000) :
  zw Tryz.prog 79 #[.pointer (some ⟨bx,0,none⟩),.pointer (some ⟨bp,0,none⟩)] wP (fU t fs M.data.toList arcs) (uR t fs arcs bs os n c A' c' fb Af cf X bx bp q M):=by
 intro l J hJc hJb hY W h0;have Zz:=hJc _ _ h0;have k0:=Zz.bx;have k1:=Zz.p0;have k3:=Zz.x3;have k4:=Zz.sa;have i0:(0:Int)<=(q:Int):=by omega
 have il:(q:Int)<(n:Int):=by omega
 have HJC:=Pd hJc;have HJB:=Pd hJb;have HY:=Pd hY;have Yb:=Pd WC;have HFE:=Pd hfe;have HFO:=Pd hfo;have HG:=Pd hg;clear hJc hJb hY WC hfe hfo hg;refine callsIn_of_wp Tryz.func79 rfl trivial ?_ rfl;simp only[Tryz.ntmps79,afB,aaF,abG,Nat.reduceAdd,Nat.reduceSub,Array.replicate_succ,Array.replicate_zero,List.push_toArray,List.append_toArray,abH,abZ]
 gi_wp2
 gi_quiet (fail)
 have hJ0:=HJB.out _ _ _ h0 (FH (aac _ W) nq);generalize W.drewN nq=W0 at*;clear Zz k0 k1 k3 k4 i0 il h0
 gi_wp2
 gi_loopw [21] (fun v wr=>∃(j:Nat),v=.int .i64 j/\j<=arcs.length/\J (fU t fs M.data.toList (arcs.take j)) wr)
  (fun v _=>arcs.length-(intOf v).toNat)
 case atStart=>exact⟨0,rfl,by omega,by simpa[fU]using hJ0⟩
 case round=>
  clear hJ0;obtain⟨j,rfl,hj,hJ⟩:=hrel;by_cases hlt:j<arcs.length
  ·have HC:=HJC.out _ _ hJ
   obtain⟨b,o,rfl,hbl,a0,a1,a2,a3⟩:=HC.ar j hlt;have HT1:=Pd (Nu t fs M.data.toList arcs j hlt);have Uf:=Pd (Nt t fs M.data.toList arcs j hlt);have hmem:=aag hlt;have hsy:=Yb.out _ hmem;have hfe:=HFE.out _ hmem;generalize arcs[j]=ar at*;obtain⟨x,y,wt,tg⟩:=ar;obtain⟨Wt,Ue⟩:∃Z:ByteArray,(⟨wt.toArray⟩:ByteArray)=Z:=⟨_,rfl⟩;have hWd:wt=Wt.data.toList:=by rw[<-Ue]
   subst hWd;unfold S at a2;rw[Ue]at a2;simp only at a0 a1 a2 a3 hsy hfe;clear Ue;have i0:(0:Int)<=(j:Int):=by omega
   have il:(j:Int)<(arcs.length:Int):=(by omega);have p1:=HC.p1;have p1':=((aac _ wr).alloc (Pe _) (.cells #[.int .i64 x,.int .i64 y,.string Wt,.int .i64 tg] 77)).cell (p:=⟨bp,1,none⟩) (ax p1) |>.trans p1
   have HHC:=Pd HC;clear HC
   gi_wp2
   have b2:Below wr wr ((wr.alloc (.cells #[.int .i64 x,.int .i64 y,.string Wt,.int .i64 tg] 77)).alloc (.cells #[.int .i64 tg,.string M] 82)):=((aac _ _).alloc (Pe _) _).alloc (by simp) _;have bq:=(aac (wr.alloc (.cells #[.int .i64 x,.int .i64 y,.string Wt,.int .i64 tg] 77)).heap.size (wr.alloc (.cells #[.int .i64 x,.int .i64 y,.string Wt,.int .i64 tg] 77))).alloc (Pe _) (.cells #[.int .i64 tg,.string M] 82);have hsa:(wr.alloc (.cells #[.int .i64 x,.int .i64 y,.string Wt,.int .i64 tg] 77)).heap.size=wr.heap.size+1:=by simp
   have c0:=(bq.cell (p:=⟨wr.heap.size,0,none⟩) (by simp)).trans (az wr #[.int .i64 x,.int .i64 y,.string Wt,.int .i64 tg] 77 0 (.int .i64 x) rfl);have c1:=(bq.cell (p:=⟨wr.heap.size,1,none⟩) (by simp)).trans (az wr #[.int .i64 x,.int .i64 y,.string Wt,.int .i64 tg] 77 1 (.int .i64 y) rfl);have c2:=(bq.cell (p:=⟨wr.heap.size,2,none⟩) (by simp)).trans (az wr #[.int .i64 x,.int .i64 y,.string Wt,.int .i64 tg] 77 2 (.string Wt) rfl);have c3:=(bq.cell (p:=⟨wr.heap.size,3,none⟩) (by simp)).trans (az wr #[.int .i64 x,.int .i64 y,.string Wt,.int .i64 tg] 77 3 (.int .i64 tg) rfl);have d0:=az (wr.alloc (.cells #[.int .i64 x,.int .i64 y,.string Wt,.int .i64 tg] 77)) #[.int .i64 tg,.string M] 82 0 (.int .i64 tg) rfl;have d1:=az (wr.alloc (.cells #[.int .i64 x,.int .i64 y,.string Wt,.int .i64 tg] 77)) #[.int .i64 tg,.string M] 82 1 (.string M) rfl;have f1:=nO (wr.alloc (.cells #[.int .i64 x,.int .i64 y,.string Wt,.int .i64 tg] 77)) #[.int .i64 tg,.string M] 82 1;rw[hsa]at d0 d1 f1;have hs2:((wr.alloc (.cells #[.int .i64 x,.int .i64 y,.string Wt,.int .i64 tg] 77)).alloc (.cells #[.int .i64 tg,.string M] 82)).heap.size=wr.heap.size+2:=by simp
   clear bq hsa p1';generalize (wr.alloc (.cells #[.int .i64 x,.int .i64 y,.string Wt,.int .i64 tg] 77)).alloc (.cells #[.int .i64 tg,.string M] 82)=w2 at*;have UQ:=HHC.out.below b2;have mk:∀W',Below w2 w2 W'->(W'.cell? ⟨bx,0,none⟩=some (.pointer (some ⟨X,0,none⟩))/\W'.cell? ⟨X,4,none⟩=some (.map (some fb))/\W'.cell? ⟨wr.heap.size,0,none⟩=some (.int .i64 x)/\W'.cell? ⟨wr.heap.size,1,none⟩=some (.int .i64 y)/\W'.cell? ⟨wr.heap.size,2,none⟩=some (.string Wt)/\W'.cell? ⟨wr.heap.size,3,none⟩=some (.int .i64 tg)/\Below w2 w2 W'):=fun W' hb=>
    ⟨(hb.cell (p:=⟨bx,0,none⟩) (ax UQ.bx)).trans UQ.bx,(hb.cell (p:=⟨X,4,none⟩) (ax UQ.x4)).trans UQ.x4,(hb.cell (p:=⟨wr.heap.size,0,none⟩) (ax c0)).trans c0,(hb.cell (p:=⟨wr.heap.size,1,none⟩) (ax c1)).trans c1,(hb.cell (p:=⟨wr.heap.size,2,none⟩) (ax c2)).trans c2,(hb.cell (p:=⟨wr.heap.size,3,none⟩) (ax c3)).trans c3,hb⟩
   obtain⟨r,hr⟩:∃r,r=eO t ⟨x,y,Wt.data.toList,tg⟩:=⟨_,rfl⟩;obtain⟨F,V,hfc,TN,Ub⟩:=lI (r.getD dX);obtain⟨oo,Ve⟩:∃oo,(r.getD dX).op=oo:=⟨_,rfl⟩;obtain⟨is,his⟩:∃q,r.isSome=q:=⟨_,rfl⟩;have hsx:=eZ.1 hsy.1;have hsy2:=eZ.1 hsy.2;have pO:∀W',(W'.cell? ⟨bx,0,none⟩=some (.pointer (some ⟨X,0,none⟩))/\W'.cell? ⟨X,4,none⟩=some (.map (some fb))/\W'.cell? ⟨wr.heap.size,0,none⟩=some (.int .i64 x)/\W'.cell? ⟨wr.heap.size,1,none⟩=some (.int .i64 y)/\W'.cell? ⟨wr.heap.size,2,none⟩=some (.string Wt)/\W'.cell? ⟨wr.heap.size,3,none⟩=some (.int .i64 tg)/\Below w2 w2 W')->Calls Tryz.prog 42 #[.map (some fb),.agg #[.int .i64 x,.int .i64 y,.string Wt,.int .i64 tg]] W' fun e w'=>e=.returned (.tuple #[.agg #[.int .u8 oo.toNat,.string F,.string V],.bool is])/\w'=vS W' x y Wt tg oo F V:=fun W' hS=>by
    have:=Cr fb t W' (UQ.fl.below hS.2.2.2.2.2.2) ht x y Wt tg hsx.1 hsx.2 hsy2.1 hsy2.2;rw[<-hr,hfc,Ve,his,TN,Ub,acg,acg]at this;exact this
   have kD:∀W',(W'.cell? ⟨bx,0,none⟩=some (.pointer (some ⟨X,0,none⟩))/\W'.cell? ⟨X,4,none⟩=some (.map (some fb))/\W'.cell? ⟨wr.heap.size,0,none⟩=some (.int .i64 x)/\W'.cell? ⟨wr.heap.size,1,none⟩=some (.int .i64 y)/\W'.cell? ⟨wr.heap.size,2,none⟩=some (.string Wt)/\W'.cell? ⟨wr.heap.size,3,none⟩=some (.int .i64 tg)/\Below w2 w2 W')->_:=fun W' h=>mk _ h.2.2.2.2.2.2.drew
   have kA:=fun W' (o:Obj) (h:(W'.cell? ⟨bx,0,none⟩=some (.pointer (some ⟨X,0,none⟩))/\W'.cell? ⟨X,4,none⟩=some (.map (some fb))/\W'.cell? ⟨wr.heap.size,0,none⟩=some (.int .i64 x)/\W'.cell? ⟨wr.heap.size,1,none⟩=some (.int .i64 y)/\W'.cell? ⟨wr.heap.size,2,none⟩=some (.string Wt)/\W'.cell? ⟨wr.heap.size,3,none⟩=some (.int .i64 tg)/\Below w2 w2 W'))=>mk _ (h.2.2.2.2.2.2.alloc h.2.2.2.2.2.2.size o)
   have kC:=fun W' (a:Addr) u (ha:w2.heap.size<=a.block) (h:(W'.cell? ⟨bx,0,none⟩=some (.pointer (some ⟨X,0,none⟩))/\W'.cell? ⟨X,4,none⟩=some (.map (some fb))/\W'.cell? ⟨wr.heap.size,0,none⟩=some (.int .i64 x)/\W'.cell? ⟨wr.heap.size,1,none⟩=some (.int .i64 y)/\W'.cell? ⟨wr.heap.size,2,none⟩=some (.string Wt)/\W'.cell? ⟨wr.heap.size,3,none⟩=some (.int .i64 tg)/\Below w2 w2 W'))=>mk _ (h.2.2.2.2.2.2.setCell ha u)
   have kO:=fun W' (h:(W'.cell? ⟨bx,0,none⟩=some (.pointer (some ⟨X,0,none⟩))/\W'.cell? ⟨X,4,none⟩=some (.map (some fb))/\W'.cell? ⟨wr.heap.size,0,none⟩=some (.int .i64 x)/\W'.cell? ⟨wr.heap.size,1,none⟩=some (.int .i64 y)/\W'.cell? ⟨wr.heap.size,2,none⟩=some (.string Wt)/\W'.cell? ⟨wr.heap.size,3,none⟩=some (.int .i64 tg)/\Below w2 w2 W'))=>mk _ (h.2.2.2.2.2.2.trans ((Cq W' x y Wt tg oo F V).mono h.2.2.2.2.2.2.size))
   have z0:=mk _ (aac w2.heap.size w2);have HS2:=Pd hs2;have XL:=Pd Ve;clear hfc Ve hs2 a0 a1 a2 a3;refine wpIn_wide.2 ?_;go_cut [7,8] (fun p v wx=>∃z,p=.pointer (some ⟨z,0,none⟩)/\v=.bool is/\wx.cell? ⟨z,0,none⟩=some (.int .u8 oo.toNat)/\wx.cell? ⟨z,1,none⟩=some (.string F)/\wx.cell? ⟨z,2,none⟩=some (.string V)/\Below w2 w2 wx)
   case first=>
    go_region_held3 (fun W'=>(W'.cell? ⟨bx,0,none⟩=some (.pointer (some ⟨X,0,none⟩))/\W'.cell? ⟨X,4,none⟩=some (.map (some fb))/\W'.cell? ⟨wr.heap.size,0,none⟩=some (.int .i64 x)/\W'.cell? ⟨wr.heap.size,1,none⟩=some (.int .i64 y)/\W'.cell? ⟨wr.heap.size,2,none⟩=some (.string Wt)/\W'.cell? ⟨wr.heap.size,3,none⟩=some (.int .i64 tg)/\Below w2 w2 W'))
     (repeat' (first|assumption|exact z0|refine kD _ ?_|refine kA _ _ ?_|refine kC _ _ _ (by simp) ?_|(refine kO _ ?_)))
     (first|(go_at_call 42;refine(pO _ (by assumption)).mono ?_;rintro e w3 ⟨rfl,rfl⟩))
    all_goals
     go_wp2_with fail
     go_meet
     refine⟨_,rfl,rfl,by simp[go_sem],by simp[go_sem],by simp[go_sem],?_⟩
     first|assumption|(repeat' (first|exact aac _ _|refine Below.drew ?_|refine aff ?_ (by simp<;>omega) _))
   case rest=>
    obtain⟨z,rfl,rfl,g0,g1,g2,b4⟩:=hcut;clear mk pO kD kA kC kO z0;have b24:Below wr wr wc:=ae b2 b4;have hJ4:=HJB.out _ _ _ hJ b24;have w0:=(b4.cell (p:=⟨wr.heap.size,0,none⟩) (ax c0)).trans c0;have w1:=(b4.cell (p:=⟨wr.heap.size,1,none⟩) (ax c1)).trans c1;have w2':=(b4.cell (p:=⟨wr.heap.size,2,none⟩) (ax c2)).trans c2;have w3:=(b4.cell (p:=⟨wr.heap.size,3,none⟩) (ax c3)).trans c3;have v0:=(b4.cell (p:=⟨wr.heap.size+1,0,none⟩) (ax d0)).trans d0;have v1:=(b4.cell (p:=⟨wr.heap.size+1,1,none⟩) (ax d1)).trans d1;have VZ:=UQ.below b4;have f4:=(b4.frozen (p:=⟨wr.heap.size+1,1,none⟩) (ax d1)).trans f1;clear c0 c1 c2 c3 d0 d1 f1 b2 b4 UQ
    cases is with
    |false=>
     have hN:jy t fs M.data.toList ⟨x,y,Wt.data.toList,tg⟩=some M.data.toList:=by
      unfold jy;rw[<-hr]
      cases r with
      |none=>rfl
      |some f=>cases his
     have HX:Hid (fU t fs M.data.toList (arcs.take (j+1))=fU t fs M.data.toList (arcs.take j)++[(⟨x,y,Wt.data.toList,tg⟩,M.data.toList)]):=by
      have:=HT1.out;rw[hN]at this;exact this
     obtain⟨fn,tmps,assign,body,hy,hR⟩:=HY.out _ _ _ wc (Uf.out M.data.toList hN) hJ4;simp only[wP,qR,iy,eX]at hy;clear hN HT1 Uf hr his hfe hsy hsx hsy2 g0 g1 g2 f4 VZ
     gi_wp2
     refine hR.mono ?_;rintro e W3 ⟨rfl,hJ3⟩
     gi_wp2
     go_roundw
     case rel=>exact⟨j+1,by go_num,by omega,by rw[HX.out];exact hJ3⟩
     case measure=>simp[intOf]<;>omega
    |true=>
     obtain⟨f,rfl⟩:=adp.1 his;simp only[abL]at TN Ub XL;obtain⟨op,fe,va⟩:=f;simp only at TN Ub XL;subst TN Ub;obtain rfl:=XL.out;have hval:=vT hr.symm;have hkn:eD op=true:=by
      unfold aN at hval;rw[aaE]at hval;exact(qd hval.1).1
     have hfo:bz F.data.toList:=(vI hval).1;have hin:=hfe _ hr.symm;have hNx:jy t fs M.data.toList ⟨x,y,Wt.data.toList,tg⟩=(fT (jg fs M.data.toList) (aD op F V)).map (dE fs):=by
      unfold jy;rw[<-hr]
     have hgl:=xR HG.out;have pR:=Lb X Af cf fs M wc VZ.tab (ax VZ.x5) VZ.x5 VZ.ft (by omega) HFO.out (by rw[aae];omega) hgl.2;have kbx:=VZ.bx;have kp1:=VZ.p1;have ZA:=Pd VZ;have pSt:∀W5 b5,jC W5 b5 (jg fs M.data.toList)->(∀p∈jg fs M.data.toList,bz p.1)->Calls Tryz.prog 50 #[.map (some b5),.agg #[.int .u8 op.toNat,.string F,.string V]] W5 (qM op F V (jg fs M.data.toList) b5 W5):=fun W5 b5 hM hk=>Eh op hkn F V hfo _ hk b5 W5 hM
     obtain⟨z',hz'⟩:∃z',z'=wr.heap.size+1:=⟨_,rfl⟩;clear hsx hsy2 hsy VZ hkn hgl his
     cases hst:fT (jg fs M.data.toList) (aD op F V) with
     |none=>
      have HX:Hid (fU t fs M.data.toList (arcs.take (j+1))=fU t fs M.data.toList (arcs.take j)):=by
       have:=HT1.out;rw[hNx,hst]at this;exact this
      gi_wp2_with (first
       |(refine⟨trivial,?_⟩;gi_at_call 80;refine(adL.2 pR).mono ?_;rintro e W5 ⟨b5,rfl,VS,hk5,hb5,b45⟩;have e0:=(b45.cell (p:=⟨z,0,none⟩) (ax g0)).trans g0;have e1:=(b45.cell (p:=⟨z,1,none⟩) (ax g1)).trans g1;have e2:=(b45.cell (p:=⟨z,2,none⟩) (ax g2)).trans g2;have pS:=pSt W5 b5 VS hk5;unfold qM at pS;rw[hst]at pS;simp only[adA]at pS))
      refine⟨trivial,(adL.2 pS).mono ?_⟩;rintro e W6 ⟨rfl,hU,-⟩
      gi_wp2
      go_roundw
      case rel=>exact⟨j+1,by go_num,by omega,by rw[HX.out];exact HJB.out _ _ _ hJ4 (b45.trans (hU.low _ hb5 b45.size))⟩
      case measure=>simp[intOf]<;>omega
     |some L'=>
      have hN:jy t fs M.data.toList ⟨x,y,Wt.data.toList,tg⟩=some (dE fs L'):=by rw[hNx,hst];rfl
      have HX:Hid (fU t fs M.data.toList (arcs.take (j+1))=fU t fs M.data.toList (arcs.take j)++[(⟨x,y,Wt.data.toList,tg⟩,dE fs L')]):=by
       have:=HT1.out;rw[hN]at this;exact this
      have hgn:=Bd hfn HG.out hr.symm hin hst
      gi_wp2_with (first
       |(refine⟨trivial,?_⟩;gi_at_call 80;refine(adL.2 pR).mono ?_;rintro e W5 ⟨b5,rfl,VS,hk5,hb5,b45⟩;have e0:=(b45.cell (p:=⟨z,0,none⟩) (ax g0)).trans g0;have e1:=(b45.cell (p:=⟨z,1,none⟩) (ax g1)).trans g1;have e2:=(b45.cell (p:=⟨z,2,none⟩) (ax g2)).trans g2;have pS:=pSt W5 b5 VS hk5;unfold qM at pS;rw[hst]at pS;simp only[acL]at pS))
      refine⟨trivial,(adL.2 pS).mono ?_⟩;rintro e W6 ⟨rfl,hU,hM6⟩;have hM6':=hM6 _ rfl;have b46:Below wc wc W6:=b45.trans (hU.low _ hb5 b45.size);have hk6:∀p∈L',bz p.1:=by
       unfold fT at hst
       cases hx:jZ (aP (jg fs M.data.toList) (aD op F V).feat) (aD op F V).op (aD op F V).val with
       |none=>rw[hx]at hst;cases hst
       |some x0=>
        rw[hx]at hst;simp only[aba,aao]at hst;rw[<-hst,uK];exact rC hfo hk5
      have ZB:=ZA.out.below b46;have pW:=OB X b5 Af cf fs L' W6 (ax ZB.x5) ZB.x5 ZB.ft (by omega) HFO.out hM6' hk6 hgn.1;have kbx6:=ZB.bx;have u0:=(b46.cell (p:=⟨wr.heap.size,0,none⟩) (ax w0)).trans w0;have u1:=(b46.cell (p:=⟨wr.heap.size,1,none⟩) (ax w1)).trans w1;have u2:=(b46.cell (p:=⟨wr.heap.size,2,none⟩) (ax w2')).trans w2';have u3:=(b46.cell (p:=⟨wr.heap.size,3,none⟩) (ax w3)).trans w3;have t0:=(b46.cell (p:=⟨wr.heap.size+1,0,none⟩) (ax v0)).trans v0;have t1:=(b46.cell (p:=⟨wr.heap.size+1,1,none⟩) (ax v1)).trans v1;have ft1:=(b46.frozen (p:=⟨wr.heap.size+1,1,none⟩) (ax v1)).trans f4;clear pSt pS hM6 VS hk5 hst e0 e1 e2 g0 g1 g2 w0 w1 w2' w3 v0 v1 f4 kbx kp1 hval hin hNx
      gi_wp2
      refine⟨trivial,(adL.2 pW).mono ?_⟩;rintro e W7 ⟨rfl,b7⟩;have b17:Below wr wr W7:=ae (b24.trans (b46.mono b24.size)) b7;have hJ8:=HJB.out _ _ (W7.setCell ⟨wr.heap.size+1,1,none⟩ (.string ⟨(dE fs L').toArray⟩)) hJ (b17.setCell (p:=⟨wr.heap.size+1,1,none⟩) (by show wr.heap.size<=wr.heap.size+1;omega) _);have y0:=(b7.cell (p:=⟨wr.heap.size,0,none⟩) (ax u0)).trans u0;have y1:=(b7.cell (p:=⟨wr.heap.size,1,none⟩) (ax u1)).trans u1;have y2:=(b7.cell (p:=⟨wr.heap.size,2,none⟩) (ax u2)).trans u2;have y3:=(b7.cell (p:=⟨wr.heap.size,3,none⟩) (ax u3)).trans u3;have s0:=(b7.cell (p:=⟨wr.heap.size+1,0,none⟩) (ax t0)).trans t0;have s1:=(b7.cell (p:=⟨wr.heap.size+1,1,none⟩) (ax t1)).trans t1;have fs1:=(b7.frozen (p:=⟨wr.heap.size+1,1,none⟩) (ax t1)).trans ft1;obtain⟨fn,tmps,assign,body,hy,hR⟩:=HY.out _ _ _ _ (Uf.out _ hN) hJ8;simp only[wP,qR,iy,eX]at hy;unfold S at hy;generalize (⟨(dE fs L').toArray⟩:ByteArray)=T at*;clear u0 u1 u2 u3 t0 t1 ft1 pW ZB ZA hJ8
      gi_wp2
      refine hR.mono ?_;rintro e W9 ⟨rfl,hJ9⟩
      gi_wp2
      go_roundw
      case rel=>exact⟨j+1,by go_num,by omega,by rw[HX.out];exact hJ9⟩
      case measure=>simp[intOf]<;>omega
  ·obtain rfl:j=arcs.length:=by omega
   rw[aaJ]at hJ
   gi_wp2
   refine bodyPost_end (results_none rfl _ _ _) rfl ?_;exact⟨rfl,hJ⟩
open Go Go.RowKit Go.Maps
def F4:Nat->Code->Code
 |0,.seq x _=>x
 |1,.seq _ y=>y
 |2,.loop c=>c
 |3,.block _ c=>c
 |4,.cond _ x _=>x
 |5,.cond _ _ y=>y
 |6,.rangeFunc _ _ a _=>a
 |7,.rangeFunc _ _ _ b=>b
 |_,c=>c
def cutAt:List Nat->Code->Code
 |[],c=>c
 |k::r,c=>cutAt r (F4 k c)
def tu(f:Func):Code:=f.body.getD .skip
def xA:Code->Array Oper
 |.region _ ops _=>ops
 |_=>#[]
def Ch(o:Oper):Bool:=match o.op with | .defer _=>false|_=>true
def JJ(c:Code)(h:(xA c).toList.all Ch=true)(i:Nat)(o:Oper)(d:Call)(ho:(xA c)[i]? = some o):o.op ≠ .defer d:=by
 have hm:o∈(xA c).toList:=by
  rw[Array.mem_toList_iff];exact Array.mem_of_getElem? ho
 have h2:=aaT.1 h o hm;intro e;unfold Ch at h2;rw[e]at h2
 cases h2
def jD(l:List aO):List Value:=l.flatMap fun a=>[.int .i64 a.inn,.int .i64 a.out,S a.w,.int .i64 a.to]
def Fh(l:List aO)(a:aO):jD (l++[a])=jD l++[.int .i64 a.inn,.int .i64 a.out,S a.w,.int .i64 a.to]:=by simp[jD]
def Fj:(Tryz.prog.info? 77).map (fun i=>(i.zero,i.size,i.bytes))=some (some (.agg #[.int .i64 0,.int .i64 0,.string ⟨#[]⟩,.int .i64 0]),4,40):=by kernel_rfl
structure kL (t:List Bs) (W:World) (X B:Nat) (D:dH) (pv:Value) (pl:List aR) (b6 b16:Nat) (fin:Value) (av:Value) (BA:Nat) (out:List aO):Prop where
 el:jA W X B D pv pl
 c6:W.heap[b6]? = some (.cells #[.pointer (some ⟨X,0,none⟩)] 64 (0,0))
 s16:W.heap[b16]? = some (.cells #[fin,av] 75 (0,0))
 own:W.ownsRow BA 77 4 av out.length (jD out)
 fl:ji W D.fb (dW t 0 [])
 n1:b16≠X/\b16≠D.nb/\b16≠b6/\b16≠D.fb
 n2:b6≠X/\b6≠D.nb/\D.fb≠X/\D.fb≠D.nb
 pb:∀g,pv.ownBlock=some g->g≠b6/\g≠b16/\g≠D.fb
 ab:∀g,av.ownBlock=some g->g≠X/\g≠D.nb/\g≠b6/\g≠b16/\g≠D.fb/\pv.ownBlock≠some g
variable {t:List Bs} {W W':World} {X B:Nat} {D:dH} {pv:Value} {pl:List aR} {b6 b16:Nat} {fin:Value} {av:Value} {BA:Nat} {out:List aO}
def kL.below(h:kL t W X B D pv pl b6 b16 fin av BA out)(hb:Below W W W'):kL t W' X B D pv pl b6 b16 fin av BA out where
 el:=h.el.below hb
 c6:=(hb.block _ (lt_of_block h.c6)).trans h.c6
 s16:=(hb.block _ (lt_of_block h.s16)).trans h.s16
 own:=eP h.own (aB.of_new (X:=fun _=>False) hb) (fun _ _ e=>e)
 fl:=h.fl.below hb
 n1:=h.n1
 n2:=h.n2
 pb:=h.pb
 ab:=h.ab
def mU{w:World}{base:Nat}{e:TypeId}{size:Nat}{v:Value}{n:Nat}{xs:List Value}(h:w.ownsRow base e size v n xs){g:Nat}(hg:v.ownBlock=some g):g<w.heap.size:=by
 rcases h.2 with⟨rfl,rfl⟩|⟨g',cap,cur,rfl,hB,hg',hn,hm,hc,ht⟩
 ·simp[Value.ownBlock]at hg
 ·simp only[Value.ownBlock,aao]at hg
  subst hg;exact lt_of_block hg'
def kL.visit{p:aR}{e:Ending}(h:kL t W X B D pv pl b6 b16 fin av BA out)(hv:sQ X B D pv pl p W e W') :
  ∃pv',e=.returned (.int .i64 (((dG pl p).1:Nat):Int))/\kL t W' X B D pv' (dG pl p).2 b6 b16 fin av BA out/\aB (fun b=>b=X\/b=D.nb\/pv.ownBlock=some b) W W'/\∀g,pv'.ownBlock=some g->pv.ownBlock=some g\/W.heap.size<=g:=by
 obtain⟨pv',he,hE,hC,hg⟩:=hv;refine⟨pv',he,⟨hE,?_,?_,?_,?_,h.n1,h.n2,?_,?_⟩,hC,hg⟩
 ·refine(hC.block _ (lt_of_block h.c6) ?_).trans h.c6
  rintro(e|e|e)
  ·exact h.n2.1 e
  ·exact h.n2.2.1 e
  ·exact(h.pb _ e).1 rfl
 ·refine(hC.block _ (lt_of_block h.s16) ?_).trans h.s16
  rintro(e|e|e)
  ·exact h.n1.1 e
  ·exact h.n1.2.1 e
  ·exact(h.pb _ e).2.1 rfl
 ·refine eP h.own hC (fun g hg'=>?_)
  obtain⟨a1,a2,a3,a4,a5,a6⟩:=h.ab g hg';rintro(e|e|e)
  ·exact a1 e
  ·exact a2 e
  ·exact a6 e
 ·refine h.fl.same (hC.block _ h.fl.lt ?_)
  rintro(e|e|e)
  ·exact h.n2.2.2.1 e
  ·exact h.n2.2.2.2 e
  ·exact(h.pb _ e).2.2 rfl
 ·intro g hg'
  rcases hg g hg' with e|e
  ·exact h.pb g e
  ·have:=lt_of_block h.c6
   have:=lt_of_block h.s16;have:=h.fl.lt;exact⟨by omega,by omega,by omega⟩
 ·intro g hg'
  obtain⟨a1,a2,a3,a4,a5,a6⟩:=h.ab g hg';refine⟨a1,a2,a3,a4,a5,fun e=>?_⟩;rcases hg g e with e|e
  ·exact a6 e
  ·have:=mU h.own hg'
   omega
end Go.Proofs.YtppnecgeboonbaaGreatDoor
