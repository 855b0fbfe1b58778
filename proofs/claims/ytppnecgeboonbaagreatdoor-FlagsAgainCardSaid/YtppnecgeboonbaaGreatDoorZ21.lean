/- Walks. -/
import Derived.SliceStrings
import Derived.Carry
import Derived.Test.YtppnecgeboonbaaGreatDoorZ10
import Derived.Test.YtppnecgeboonbaaGreatDoorZ20
import Derived.ChangeArms
import Derived.ChangeSame
import Derived.DataReads
namespace Go.Proofs.YtppnecgeboonbaaGreatDoor
set_option maxRecDepth 100000
set_option linter.all false
set_option maxHeartbeats 4000000
open Go.RowKit Go.ChangeShapes Go.WideShapes
def aAK(w:World)(A:Option Addr)(c:Nat)(l:List Bs):Prop:=
 l.length<=c/\c<=maxLen/\ay w A (l.map S)/\∀p∈l,p.length<=maxLen
def open_row{H:Type}{enc:TypeId×Value->H}{P:Program}{w:World}{base:Nat}{spare:Nat->Bool}{held:Bool}{t e:TypeId}{fuel:Nat}{a:Option Addr}{len cap:Nat}{x:DataW H×List MemPlace}
  (ht:P.underlying t=some (.slice e)) (he:P.underlying e=some .string) (hc:P.cellsOf e=1)
  (h:DataW.trod enc P w base spare held fuel t (Value.slice a len cap).cells.toList=some x):∃l:List Bs,len=l.length/\aAK w a cap l:=by
 rcases open_strings ht he hc h with⟨hcs,_⟩|⟨b,len',cap',ss,hcs,_,hl,hm,hz,_,hcell,hsz⟩
 ·simp[Value.cells]at hcs
  obtain⟨rfl,rfl,rfl⟩:=hcs;exact⟨[],rfl,Pe _,by unfold maxLen;omega,ay.nil _ _,fun p hp=>by cases hp⟩
 ·simp[Value.cells]at hcs
  obtain⟨rfl,rfl,rfl⟩:=hcs;have hle:len<=ss.length:=by rw[hz];split<;>omega
  have hll:((ss.take len).map (·.data.toList)).length=len:=by rw[aaC,aaI];omega
  refine⟨(ss.take len).map (·.data.toList),hll.symm,by rw[hll];exact hl,hm,?_,?_⟩
  ·intro hne
   have hpos:0<len:=by
    rcases abE len with h0|h0
    ·subst h0;simp at hne
    ·exact h0
   obtain⟨bk,off,spot⟩:=b;have hc0:=hcell 0 (by omega);have hspot:spot=none:=by simpa[Addr.add]using World.cell?_spot hc0
   subst hspot;have hcell':∀i,i<ss.length->w.cell? ⟨bk,off+i,none⟩=some (.string (ss.getD i ByteArray.empty)):=fun i hi=>by
    have:=hcell i hi;have e:(⟨bk,off,none⟩:Addr).add i=⟨bk,off+i,none⟩:=by
     unfold Addr.add
     split<;>simp_all
    rwa[e]at this
   refine⟨bk,off,rfl,ax (hcell' 0 (by omega)),fun j u hu=>?_⟩;rw[abA,abA]at hu;have hj:j<len:=by
    rcases aaz j len with hh|hh
    ·exact hh
    ·rw[aa4 (by rw[aaI];omega)]at hu;cases hu
   have e1:(ss.take len)[j]? = some (ss.getD j ByteArray.empty):=by
    rw[afJ hj,aaf,aak (show j<ss.length by omega)];rfl
   rw[e1]at hu;simp only[aba,aao]at hu;rw[hcell' j (by omega),<-hu];rfl
  ·intro p hp
   obtain⟨s,hs,rfl⟩:=abk.1 hp;have:=hsz s (ach hs);rwa[aae]at this
open Go Go.RowKit Go.ChangeShapes Go.WideShapes
def aAB{b o:Nat}(j:Nat):(⟨b,o,none⟩:Addr).add j=⟨b,o+j,none⟩:=by unfold Addr.add;split<;>simp_all
theorem flat_get{n:Nat}:∀(css:List (List Value)) (i j:Nat) (h:i<css.length),(∀x∈css,x.length=n)->j<n->css.flatten[i*n+j]? = css[i][j]?
 |c::r,0,j,h,hl,hj=>by
  have:=hl c aal;rw[adc,Nat.zero_mul,aaP,adi (by omega)];rfl
 |c::r,i+1,j,h,hl,hj=>by
  have h1:=hl c aal;have ih:=flat_get r i j (by simpa using h) (fun x hx=>hl x (aaj _ hx)) hj;rw[adc,aaU (by rw[h1,abJ];omega),h1,abJ,acA,show i*n+n+j-n=i*n+j by omega,ih]
  rfl
 |[],i,j,h,_,_=>absurd h (by simp)
theorem aAH{n:Nat}:∀(css:List (List Value)),(∀x∈css,x.length=n)->css.flatten.length=css.length*n
 |[],_=>by simp
 |c::r,h=>by
  have h1:=h c aal;have ih:=aAH r (fun x hx=>h x (aaj _ hx));rw[adc,aas,ih,aaF,h1,abJ];omega
def aAR{H:Type}{enc:TypeId×Value->H}{P:Program}{w:World}{base:Nat}{spare:Nat->Bool}{held:Bool}{t e:TypeId}{n fuel:Nat}{a:Option Addr}{len cap:Nat}{x:DataW H×List MemPlace}
  (ht:P.underlying t=some (.slice e)) (hn:P.cellsOf e=n) (hn0:0<n)
  (h:DataW.trod enc P w base spare held fuel t (Value.slice a len cap).cells.toList=some x) :
  ∃(css:List (List Value)) (ys:List (DataW H×List MemPlace)) (sp:List (DataW H)) (f:Nat),css.length=len/\ys.length=len/\len<=cap/\cap<=maxLen/\ay w a css.flatten/\(∀cs∈css,cs.length=n) ∧
   (∀(i:Nat) (h1:i<css.length) (h2:i<ys.length),DataW.trod enc P w base spare held f e css[i]=some ys[i])/\(x.1=.slice (ys.map (·.1)) sp\/(x.1=.nil/\len=0)):=by
 rcases DataW.trod_slice ht h with⟨hcs,hx⟩|⟨a',len',cap',elems,rest,f,_,hcs,hx,hb,hl,hm,hlen,hel,_,_⟩
 ·simp[Value.cells]at hcs
  obtain⟨rfl,rfl,rfl⟩:=hcs;exact⟨[],[],[],0,rfl,rfl,Pe _,by unfold maxLen;omega,ay.nil _ _,(fun _ h=>by cases h),(fun i h1 _=>absurd h1 (by simp)),aad ⟨by rw[hx],rfl⟩⟩
 ·simp[Value.cells]at hcs
  obtain⟨rfl,rfl,rfl⟩:=hcs;rw[hn]at hel;have hex:∀i (hi:i<len),∃cs,w.cells? base (a'.add (i*n)) n=some cs/\DataW.trod enc P w base spare held f e cs=some (elems[i]'(by omega)):=by
   intro i hi;have:=hel i hi;rw[aak (by omega),Option.bind_eq_some_iff]at this;exact this
  refine⟨(List.range len).map fun i=>(w.cells? base (a'.add (i*n)) n).getD [],elems,rest.map (·.1),f,by simp,hlen,hl,hm,?_,?_,?_,aam (by rw[hx])⟩
  ·intro hne
   have X7:∀cs∈(List.range len).map (fun i=>(w.cells? base (a'.add (i*n)) n).getD []),cs.length=n:=by
    intro cs hc;obtain⟨i,hi,rfl⟩:=abk.1 hc;obtain⟨cs,h1,_⟩:=hex i (afc.1 hi);rw[h1];exact(aer h1).2.1
   have hpos:0<len:=by
    rcases abE len with h0|h0
    ·subst h0;simp at hne
    ·exact h0
   obtain⟨bk,off,spot⟩:=a';obtain⟨c0,hc0,_⟩:=hex 0 hpos;obtain⟨_,hl0,hk0⟩:=aer hc0;have hz:=hk0 0 hn0;rw[aak (by omega)]at hz;have hspot:spot=none:=by simpa[Addr.add]using World.cell?_spot hz
   subst hspot;refine⟨bk,off,rfl,?_,fun j u hu=>?_⟩
   ·rw[Nat.zero_mul,aAB,aAB]at hz
    exact ax hz
   ·have hj:j<len*n:=by
     have:=aAH _ X7;rw[aaC,List.length_range]at this;have:=(aby.1 hu).1;omega
    have hi:j/n<len:=by rw[abS hn0];exact hj
    have hr:j%n<n:=abR _ hn0;have he:j/n*n+j%n=j:=by rw[aaR];exact Nat.div_add_mod j n
    obtain⟨cs,h1,_⟩:=hex (j/n) hi;have hg:=flat_get _ (j/n) (j%n) (by simpa using hi) X7 hr;rw[he,hu]at hg;simp only[acr,ad4]at hg;rw[h1]at hg;have:=(aer h1).2.2 (j%n) hr;rw[aAB,aAB,acV,he]at this;rw[this];exact hg.symm
  ·intro cs hc
   obtain⟨i,hi,rfl⟩:=abk.1 hc;obtain⟨cs,h1,_⟩:=hex i (afc.1 hi);rw[h1];exact(aer h1).2.1
  ·intro i h1 h2
   obtain⟨cs,h3,h4⟩:=hex i (by simpa using h1);simp only[acr,ad4];rw[h3];exact h4
theorem aAJ{α β:Type}{R:α->β->Prop}:∀ {l:List α},(∀a∈l,∃b,R a b)->∃m:List β,m.length=l.length/\∀(i:Nat) (h1:i<l.length) (h2:i<m.length),R l[i] m[i]
 |[],_=>⟨[],rfl,fun i h1 _=>absurd h1 (by simp)⟩
 |a::r,h=>by
  obtain⟨b,hb⟩:=h a aal;obtain⟨m,hm,hr⟩:=aAJ (l:=r) (fun x hx=>h x (aaj _ hx));refine⟨b::m,by simp[hm],fun i h1 h2=>?_⟩
  cases i with
  |zero=>exact hb
  |succ i=>exact hr i (by simpa using h1) (by simpa using h2)
section
variable {H:Type} {enc:TypeId×Value->H} {P:Program} {w:World} {base:Nat} {spare:Nat->Bool} {held:Bool}
end
section
variable {H:Type} {enc:TypeId×Value->H} {w:World} {base:Nat} {spare:Nat->Bool} {held:Bool}
def aBn{fuel:Nat}{a:Option Addr}{len cap:Nat}{x:DataW H×List MemPlace}(h:DataW.trod enc Tryz.prog w base spare held fuel 38 (Value.slice a len cap).cells.toList=some x) :
  ∃l:List Int,len=l.length/\ay w a (l.map IV)/\∀s∈l,-9223372036854775808<=s/\s<=9223372036854775807:=by
 obtain⟨css,ys,sp,f,h1,h2,h3,h4,h5,h6,h7,-⟩:=aAR ab3 (show Tryz.prog.cellsOf 3=1 by kernel_rfl) (by omega) h;have hex:∀cs∈css,∃s:Int,cs=[IV s]/\-9223372036854775808<=s/\s<=9223372036854775807:=by
  intro cs hc;obtain⟨i,hi,rfl⟩:=abr hc;have hl:=h6 _ hc;obtain⟨z,z1,-,wz⟩:=adG (k:=.i64) aaX (h7 i hi (by omega));refine⟨z,z1,?_⟩;have e1:IntKind.i64.min=-9223372036854775808:=by decide
  have e2:IntKind.i64.max=9223372036854775807:=by decide
  simp[Lit.wf]at wz;omega
 obtain⟨m,hm,hR⟩:=aAJ hex;have hfl:css.flatten=m.map IV:=by
  have:∀ {css:List (List Value)} {m:List Int},m.length=css.length->(∀(i:Nat) (h1:i<css.length) (h2:i<m.length),css[i]=[IV m[i]])->css.flatten=m.map IV:=by
   intro css
   induction css with
   |nil=>intro m hl _;obtain rfl:=aaQ hl;rfl
   |cons c r ih=>
    intro m hl h
    match m,hl with
    |y::m,hl=>
     have h0:=h 0 (by simp) (by simp);rw[adc,aa5,ih (m:=m) (by simpa using hl) (fun i h1 h2=>h (i+1) (by simpa using h1) (by simpa using h2)),show c=[IV y] from h0]
     rfl
  exact this hm (fun i g1 g2=>(hR i g1 g2).1)
 refine⟨m,by omega,by rw[<-hfl];exact h5,fun s hs=>?_⟩;obtain⟨i,hi,rfl⟩:=abr hs;exact(hR i (by omega) hi).2
end
def Light(P:Program){H:Type}(t:TypeId)(d:DataW H):Prop:=∀x∈DataW.weights P t d,x<=reachBytes
theorem Re{H:Type}{P:Program}{e:TypeId}:∀ {l:List (DataW H)},(∀x∈DataW.weightsAll P e l,x<=reachBytes)->∀d∈l,Light P e d
 |[],_,d,hd=>by cases hd
 |c::r,h,d,hd=>by
  unfold DataW.weightsAll at h;rcases aay.1 hd with rfl|hd
  ·exact fun x hx=>h x (abB _ hx)
  ·exact Re (fun x hx=>h x (ab6 _ hx)) d hd
def Sv{H:Type}{P:Program}{t e:TypeId}{l sp:List (DataW H)}(ht:P.underlying t=some (.slice e))(h:Light P t (.slice l sp)):(l.length+sp.length)*P.bytesOf e<=reachBytes/\∀d∈l,Light P e d:=by
 unfold Light DataW.weights at h;rw[ht]at h;exact⟨h _ aal,Re fun x hx=>h x (aaj _ (abB _ hx))⟩
def open_list{H:Type}{enc:TypeId×Value->H}{P:Program}{w:World}{base:Nat}{spare:Nat->Bool}{held:Bool}{t e:TypeId}{n by' fuel:Nat}{v:Value}{x:DataW H×List MemPlace}{β:Type}{R:List Value->β->Prop}
  (ht:P.underlying t=some (.slice e)) (hc:P.cellsOf e=n) (hn0:0<n) (hb:P.bytesOf e=by') (hb0:0<by')
  (hel:∀(f:Nat) (cs:List Value) (y:DataW H×List MemPlace),DataW.trod enc P w base spare held f e cs=some y->Light P e y.1->∃b,R cs b)
  (h:DataW.trod enc P w base spare held fuel t [v]=some x) (hw:Light P t x.1) :
  ∃(css:List (List Value)) (m:List β) (a:Option Addr) (cap:Nat),v=.slice a m.length cap/\m.length<=cap/\css.length=m.length/\ay w a css.flatten/\(∀(i:Nat) (h1:i<css.length) (h2:i<m.length),R css[i] m[i])/\m.length<=140737488355328:=by
 have hv:∃a len cap,v=.slice a len cap:=by
  rcases DataW.trod_slice ht h with⟨hcs,_⟩|⟨a',len',cap',_,_,_,_,hcs,_⟩
  ·exact⟨none,0,0,by simpa using hcs⟩
  ·exact⟨some a',len',cap',by simpa using hcs⟩
 obtain⟨a,len,cap,rfl⟩:=hv;obtain⟨css,ys,sp,f,h1,h2,h3,h4,h5,h6,h7,h8⟩:=aAR ht hc hn0 (by simpa[Value.cells]using h);have WP:len<=reachBytes/\∀d∈ys.map (·.1),Light P e d:=by
  rcases h8 with h8|⟨h8,h9⟩
  ·rw[h8]at hw
   obtain⟨g1,g2⟩:=Sv ht hw;rw[hb,aaC,h2]at g1;have:len<=(len+sp.length)*by':=aaB (afP _ _) (aen _ hb0)
   exact⟨by omega,g2⟩
  ·subst h9
   obtain rfl:ys=[]:=aaQ h2;exact⟨by unfold reachBytes;omega,fun d hd=>by cases hd⟩
 have hex:∀p∈css.zip ys,∃b:β,R p.1 b:=by
  intro p hp;obtain⟨i,hi,rfl⟩:=abr hp;rw[afX]at hi;rw[List.getElem_zip];exact hel f _ _ (h7 i (by omega) (by omega)) (WP.2 ys[i].1 (abk.2 ⟨ys[i],aag _,rfl⟩))
 obtain⟨m,hm,hR⟩:=aAJ hex;have TY:m.length=css.length:=by rw[hm,afX];omega
 have hlen:m.length=len:=by omega
 refine⟨css,m,a,cap,by rw[hlen],by omega,TY.symm,h5,fun i g1 g2=>?_,by have:=WP.1;unfold reachBytes at this;omega⟩;have:=hR i (by rw[afX];omega) g2;rwa[List.getElem_zip]at this
def Qr{H:Type}{P:Program}{t:TypeId}{fs:Array Field}{ds:List (DataW H)}(ht:P.underlying t=some (.struct fs))(h:Light P t (.agg ds)):∀x∈DataW.weightsEach P (fs.toList.map (·.type)) ds,x<=reachBytes:=by
 unfold Light DataW.weights at h;rw[ht]at h;exact h
def O9{H:Type}{P:Program}{t:TypeId}{ts:List TypeId}{d:DataW H}{ds:List (DataW H)}(h:∀x∈DataW.weightsEach P (t::ts) (d::ds),x<=reachBytes):Light P t d/\∀x∈DataW.weightsEach P ts ds,x<=reachBytes:=by
 unfold DataW.weightsEach at h;exact⟨fun x hx=>h x (abB _ hx),fun x hx=>h x (ab6 _ hx)⟩
def PQ(l:List bI):Prop:=∀s∈l,s.fin.length<=140737488355328/\s.arcs.length<=140737488355328/\EL 140737488355328 s.arcs
def Qq{H:Type}{P:Program}{t:TypeId}{s:ByteArray}(h:Light P t (.lit (.string s.data.toList):DataW H)):s.data.toList.length<=140737488355328:=by
 have:=h s.data.toList.length (by unfold DataW.weights;exact aal);unfold reachBytes at this;omega
section
variable {H:Type} {enc:TypeId×Value->H} {w:World} {base:Nat} {spare:Nat->Bool} {held:Bool}
def SC{fuel:Nat}{v:Value}{x:DataW H×List MemPlace}(h:DataW.trod enc Tryz.prog w base spare held fuel 73 [v]=some x)(hw:Light Tryz.prog 73 x.1) :
  ∃(l:List aO) (A:Option Addr) (c:Nat),v=.slice A l.length c/\oG w A l/\l.length<=140737488355328/\EL 140737488355328 l:=by
 obtain⟨css,m,a,cap,rfl,hcap,hcl,hrow,hR,hm⟩:=open_list (R:=fun cs (b:aO)=>cs=[.int .i64 b.inn,.int .i64 b.out,S b.w,.int .i64 b.to]/\b.w.length<=140737488355328) Tryz.underlying73 (show Tryz.prog.cellsOf 77=4 by kernel_rfl) (by omega) (show Tryz.prog.bytesOf 77=40 by kernel_rfl) (by omega) (fun f cs y h1 h2=>by
   obtain⟨y0,y1,y2,y3,n,hx,hl,g0,g1,g2,g3⟩:=Go.Joins.trod_struct4 Tryz.underlying77 h1;rw[hx]at h2;have e0:=(O9 (Qr Tryz.underlying77 h2)).2;have e1:=(O9 e0).2;have e2:=(O9 e1).1;rw[show Tryz.prog.cellsOf 77=4 by kernel_rfl]at hl;obtain⟨u0,u1,u2,u3,rfl⟩:∃u0 u1 u2 u3,cs=[u0,u1,u2,u3]:=by
    match cs,hl with
    |[u0,u1,u2,u3],_=>exact⟨u0,u1,u2,u3,rfl⟩
   rw[show Tryz.prog.cellsOf 3=1 by kernel_rfl]at g0 g1 g3;rw[show Tryz.prog.cellsOf 9=1 by kernel_rfl]at g2;obtain⟨z0,q0,-⟩:=adG (k:=.i64) aaX g0;obtain rfl:u0=.int .i64 z0:=by simpa using q0
   obtain⟨z1,q1,-⟩:=adG (k:=.i64) aaX g1;obtain rfl:u1=.int .i64 z1:=by simpa using q1
   obtain⟨s,q2,k2,-⟩:=afA aaV g2;obtain rfl:u2=.string s:=by simpa using q2
   obtain⟨z3,q3,-⟩:=adG (k:=.i64) aaX g3;obtain rfl:u3=.int .i64 z3:=by simpa using q3
   rw[k2]at e2;exact⟨⟨z0,z1,s.data.toList,z3⟩,by rw[eX],Qq e2⟩) h hw
 refine⟨m,a,cap,rfl,fun k hk=>?_,hm,fun b hb=>?_⟩
 ·have hk':k<css.length:=by omega
  have h6:∀cs∈css,cs.length=4:=by
   intro cs hc;obtain⟨i,hi,rfl⟩:=abr hc;rw[(hR i hi (by omega)).1];rfl
  have hfl:=aAH css h6;obtain⟨b,o,rfl,hlt,hcell⟩:=hrow (fun e=>by rw[e]at hfl;simp at hfl;omega);have e0:=flat_get css k 0 hk' h6 (by omega);have e1:=flat_get css k 1 hk' h6 (by omega);have e2:=flat_get css k 2 hk' h6 (by omega);have e3:=flat_get css k 3 hk' h6 (by omega);rw[(hR k hk' hk).1]at e0 e1 e2 e3;exact⟨b,o,rfl,hlt,hcell _ _ e0,hcell _ _ e1,hcell _ _ e2,hcell _ _ e3⟩
 ·obtain⟨i,hi,rfl⟩:=abr hb
  exact(hR i (by omega) hi).2
def SF{fuel:Nat}{v:Value}{x:DataW H×List MemPlace}(h:DataW.trod enc Tryz.prog w base spare held fuel 28 [v]=some x)(hw:Light Tryz.prog 28 x.1) :
  ∃(l:List bI) (A:Option Addr) (c:Nat),v=.slice A l.length c/\dY w A l/\l.length<=140737488355328/\PQ l:=by
 obtain⟨css,m,a,cap,rfl,hcap,hcl,hrow,hR,hm⟩:=open_list (R:=fun cs (s:bI)=>(∃A c,cs=[S s.fin,.slice A s.arcs.length c]/\oG w A s.arcs)/\s.fin.length<=140737488355328/\s.arcs.length<=140737488355328/\EL 140737488355328 s.arcs) Tryz.underlying28 (show Tryz.prog.cellsOf 75=2 by kernel_rfl) (by omega) (show Tryz.prog.bytesOf 75=40 by kernel_rfl) (by omega) (fun f cs y h1 h2=>by
   obtain⟨y0,y1,n,hx,hl,g0,g1⟩:=trod_struct2 Tryz.underlying75 h1;rw[hx]at h2;obtain⟨e0,e'⟩:=O9 (Qr Tryz.underlying75 h2);have e1:=(O9 e').1;rw[show Tryz.prog.cellsOf 75=2 by kernel_rfl]at hl;obtain⟨u0,u1,rfl⟩:∃u0 u1,cs=[u0,u1]:=by
    match cs,hl with
    |[u0,u1],_=>exact⟨u0,u1,rfl⟩
   rw[show Tryz.prog.cellsOf 9=1 by kernel_rfl]at g0;rw[show Tryz.prog.cellsOf 73=1 by kernel_rfl]at g1;obtain⟨s,q2,k2,-⟩:=afA aaV g0;obtain rfl:u0=.string s:=by simpa using q2
   obtain⟨l,A,c,r1,r2,r3,r4⟩:=SC (v:=u1) (by simpa using g1) e1;rw[k2]at e0;exact⟨⟨s.data.toList,l⟩,⟨A,c,by rw[eX,r1],r2⟩,Qq e0,r3,r4⟩) h hw
 refine⟨m,a,cap,rfl,fun k hk=>?_,hm,fun b hb=>?_⟩
 ·have hk':k<css.length:=by omega
  have h6:∀cs∈css,cs.length=2:=by
   intro cs hc;obtain⟨i,hi,rfl⟩:=abr hc;obtain⟨⟨A,c,e,-⟩,-⟩:=hR i hi (by omega);rw[e];rfl
  have hfl:=aAH css h6;obtain⟨b,o,rfl,hlt,hcell⟩:=hrow (fun e=>by rw[e]at hfl;simp at hfl;omega);have e0:=flat_get css k 0 hk' h6 (by omega);have e1:=flat_get css k 1 hk' h6 (by omega);obtain⟨⟨A,c,e,hA⟩,-⟩:=hR k hk' hk;rw[e]at e0 e1;exact⟨b,o,rfl,hlt,hcell _ _ e0,A,c,hcell _ _ e1,hA⟩
 ·obtain⟨i,hi,rfl⟩:=abr hb
  exact(hR i (by omega) hi).2
def SE{r:Reach}{b0:Nat}{v:Value}{d:DataW H}{p:List MemPlace}(hv:Value.okWide Tryz.prog w r b0 30 v)(h:DataW.Trod enc Tryz.prog w base spare held 30 v d p)(hw:Light Tryz.prog 30 d) :
  ∃(m:aQ) (A:Option Addr) (c:Nat),v=di m A c/\dY w A m.states/\m.states.length<=140737488355328/\m.lead.length<=140737488355328/\PQ m.states:=by
 obtain⟨c0,c1,c2,c3,y0,y1,y2,y3,n,rfl,rfl,rfl,g0,g1,g2,g3⟩:=Go.Joins.open_agg4 Tryz.underlying30 (by kernel_rfl) (by kernel_rfl) hv h;have e0:=(O9 (Qr Tryz.underlying30 hw)).2;have e1:=(O9 e0).2;obtain⟨e2,e'⟩:=O9 e1;have e3:=(O9 e').1;obtain⟨z0,q0,-⟩:=adG (k:=.i64) aaX g0;obtain rfl:c0=.int .i64 z0:=by simpa using q0
 obtain⟨z1,q1,-⟩:=adG (k:=.i64) aaX g1;obtain rfl:c1=.int .i64 z1:=by simpa using q1
 obtain⟨s,q2,k2,-⟩:=afA aaV g2;obtain rfl:c2=.string s:=by simpa using q2
 obtain⟨l,A,c,rfl,r2,r3,r4⟩:=SF g3 e3;rw[k2]at e2;exact⟨⟨z0,z1,s.data.toList,l⟩,A,c,by unfold di;rw[eX],r2,r3,Qq e2,r4⟩
end
def Sl{H:Type}{enc:TypeId×Value->H}{a:Assume}{C:Checked}{os:Os}{f:FuncId}{fn:Func}{s:ChangeSpec}{conds:List PathCond}{apart fresh handsOn again:Bool}{X:World->Array Value->Prop}
  (hX:∀(w w':World) (args:Array Value),w.heap=w'.heap->X w args->X w' args)
  (own:ownKnob C.prog.godebug=none) (started:os.Started) (noInit:C.prog.inits.idxOf? f=none) (hfn:C.prog.funcs[f]? = some fn)
  (witness:∃(w:World) (tape:Tape) (i:Input),w.os=os/\(w.forCall tape i).Shaped C.prog/\i.vars=[]/\Input.okWide C.prog (w.forCall tape i) .any w.heap.size f i ∧
   ((s.pre enc C.prog fn conds apart (w.forCall tape i).memory i.args/\X (w.forCall tape i).memory i.args)/\sizedMet enc C.prog fn (OpenSpec.ofChange s) apart (w.forCall tape i).memory i.args)/\a.holds C.prog (lone (Frame.enter C.prog f i.args .normal) [] (w.forCall tape i)))
  (contract:∀(W:World) (base:Nat) (args:Array Value) (ds gs:List (DataW H)) (before:List MemPlace),
   (∀(j:Nat) t v,fn.params[j]? = some t->args[j]? = some v->Value.okWide C.prog W .any base t v) ->
   DataW.Whole enc C.prog fn.params.toList (OpenSpec.ofChange s).vars apart W args.toList ds gs before->(∀x∈DataW.weightsEach C.prog (fn.params.toList++(OpenSpec.ofChange s).bare.plain.varTypes C.prog) (ds++gs),x<=reachBytes)->X W args->W.ShapedOpen C.prog ->
   Calls C.prog f args W fun e W'=>∃v,e=.returned v/\s.post enc C.prog fn apart fresh handsOn again W args v W') :
  ReturnsInHanded a C os f .any (fun w args=>(s.pre enc C.prog fn conds apart w args/\X w args)/\sizedMet enc C.prog fn (OpenSpec.ofChange s) apart w args) (s.post enc C.prog fn apart fresh handsOn again):=by
 refine returnsInHanded_of_calls own started noInit witness (fun w tape i _ hsh _ hok hpre _=>?_);obtain⟨_,_,_,g,hg,_,_,_,_,hval⟩:=hok;obtain rfl:g=fn:=acp (hg.symm.trans hfn);obtain⟨⟨_,hx⟩,_,ds,gs,before,hw,hwt⟩:=hpre;refine(contract (w.forCall tape i) w.heap.size i.args ds gs before hval (DataW.Whole.of_heap (by rfl) hw) (by simpa using hwt) (hX _ _ _ (by rfl) hx) hsh).mono ?_;rintro e W' ⟨v,rfl,hp⟩;exact ChangeSpec.post_blind hp
open Go.RowKit Go.Maps
def wm(op:UInt8)(t v:ByteArray)(w:World)(hsz:t.size<=16384)(hsv:v.size<=16384):Calls Tryz.prog 49 #[.agg #[.int .u8 op.toNat,.string t,.string v]] w fun e w'=>e=.returned (.string ⟨(bU (aD op t v)).toArray⟩)/\Below w w w':=by
 have hb0:Below w w (w.alloc (.cells #[.int .u8 op.toNat,.string t,.string v] 24)):=(aac _ _).alloc (Pe _) _;have k0:(w.alloc (.cells #[.int .u8 op.toNat,.string t,.string v] 24)).cell? ⟨w.heap.size,0,none⟩=some (.int .u8 op.toNat):=aJ w _ _ 0 _ rfl;have k1:(w.alloc (.cells #[.int .u8 op.toNat,.string t,.string v] 24)).cell? ⟨w.heap.size,1,none⟩=some (.string t):=aJ w _ _ 1 _ rfl;have k2:(w.alloc (.cells #[.int .u8 op.toNat,.string t,.string v] 24)).cell? ⟨w.heap.size,2,none⟩=some (.string v):=aJ w _ _ 2 _ rfl;obtain⟨Y,hY⟩:∃Y:ByteArray,(⟨#[op]⟩:ByteArray)=Y:=⟨_,rfl⟩;have hYs:Y.size=1:=by rw[<-hY];rfl
 have hYd:Y.data.toList=[op]:=by rw[<-hY]
 have hcv:=fun W=>Ab op W
 rw[hY]at hcv;clear hY;have hcv0:=hcv (w.alloc (.cells #[.int .u8 op.toNat,.string t,.string v] 24));rw[adt]at hcv0;have bA:=(aac (w.alloc (.cells #[.int .u8 op.toNat,.string t,.string v] 24)).heap.size (w.alloc (.cells #[.int .u8 op.toNat,.string t,.string v] 24))).alloc (Pe _) (.cells #[.int .u8 op.toNat] 5);have hlt:w.heap.size<(w.alloc (.cells #[.int .u8 op.toNat,.string t,.string v] 24)).heap.size:=by simp
 have j1:=(bA.cell (p:=⟨w.heap.size,1,none⟩) hlt).trans k1;have j2:=(bA.cell (p:=⟨w.heap.size,2,none⟩) hlt).trans k2;by_cases hv0:v.size=0
 ·have hem:=jF hv0
  go_enter Tryz.func49,Tryz.ntmps49;go_wp2_with fail;go_returns;refine⟨?_,ae hb0 bA⟩;refine uD ?_;show _=bU _;unfold bU gZ;rw[aaa (fF hv0)];simp[hYd]
 ·have hem:=jI hv0
  go_enter Tryz.func49,Tryz.ntmps49;go_wp2_with fail;go_returns;refine⟨?_,ae hb0 bA⟩;refine uD ?_;show _=bU _;unfold bU gZ;rw[aab (gB hv0)];simp[hYd]
def zb{t:Bs}(h:dF t=true):t≠[]:=by
 intro e;subst e;exact absurd h (by decide)
def xk{t:Bs}(h:t≠[]):aM t 0=(t.headD 0).toNat:=by
 cases t with
 |nil=>exact absurd rfl h
 |cons a b=>rfl
def Oh{t:Bs}(h:dF t=true)(hb:(t.headD 0).toNat<128):t=[t.headD 0]/\(point t 0).1=(t.headD 0).toNat:=by
 have hne:=zb h;obtain⟨h1,h2⟩:=QH h;have hl:¬ t.length<=0:=by have:=aaM.2 hne;omega
 have e:point t 0=(aM t 0,1):=by unfold point;rw[aab hl,aaa (by rw[xk hne];exact hb)]
 rw[e]at h2;have h2':t.length=1:=h2.symm;refine⟨?_,by rw[e,xk hne]⟩
 cases t with
 |nil=>exact absurd rfl hne
 |cons a b=>simp at h2';subst h2';rfl
def Oi{t:Bs}(h:dF t=true)(hb:(point t 0).1<128):t=[t.headD 0]/\(point t 0).1=(t.headD 0).toNat:=by
 apply Oh h;have hne:=zb h;have hl:¬ t.length<=0:=by have:=aaM.2 hne;omega
 rcases aaz (t.headD 0).toNat 128 with hh|hh
 ·exact hh
 exfalso;rw[<-xk hne]at hh;have ho:0<(point t 0).2:=abp (QH h).1;unfold point at hb ho;rw[aab hl,aab (by omega)]at hb ho
 split at hb
 ·simp only at hb;omega
 ·rename_i n1
  rw[aab n1]at ho
  split at hb
  ·simp only at hb;omega
  ·rename_i n2
   rw[aab n2]at ho
   split at hb
   ·simp only at hb;omega
   ·rename_i n3
    rw[aab n3]at ho;exact absurd ho (by decide)
open Go.RowKit
def kP(p:Bs):Bool:=decide (p=[46]\/p=[64])
def FD{t:Bs}(h:dF t=true):ed t=kP t:=by
 have hne:=zb h;obtain⟨h1,h2⟩:=QH h;have hs:(⟨t.toArray⟩:ByteArray).data.toList=t:=rfl;have hpos:0<(⟨t.toArray⟩:ByteArray).size:=by rw[aae,hs];exact aaM.2 hne
 obtain⟨r,n,e1,-,-,-,e5⟩:=zI hpos;have hx:((⟨t.toArray⟩:ByteArray).extract 0 (⟨t.toArray⟩:ByteArray).size).data.toList=t:=by
  rw[eH,hs,abj];exact aav (by rw[aae,hs];omega)
 rw[xD _ 0 hpos,Gj (by rw[hx];exact h),hx]at e1;have er:(point t 0).1=r:=by rw[e1]
 have en:n=t.length:=by rw[<-h2,e1]
 rw[hs,abj,en,aav (Pe _)]at e5;have hsm:∀c:UInt8,r=c.toNat->c.toNat<128->t=[c]:=by
  intro c hc hlt;obtain⟨g1,g2⟩:=Oi h (by rw[er,hc];exact hlt);rw[er,hc]at g2;rw[g1];have:t.headD 0=c:=abz.1 g2.symm;rw[this]
 unfold kP;by_cases hb:ed t=true
 ·rw[hb]
  rcases e5.2 hb with h|h
  ·exact(aaA (aam (hsm 46 (by show r=46;omega) (by decide)))).symm
  ·exact(aaA (aad (hsm 64 (by show r=64;omega) (by decide)))).symm
 ·rw[acX]at hb
  rw[hb];refine(aai ?_).symm;rintro(e|e)<;>rw[e]at hb<;>exact absurd hb (by decide)
theorem Eo:∀(l:List Bs) (i:Nat),iX l i=none->∀p∈l,dF p=true
 |[],_,_,p,hp=>absurd hp aaK
 |q::l,i,h,p,hp=>by
  unfold iX at h;by_cases hq:dF q=true
  ·rw[aaa hq]at h
   rcases aay.1 hp with rfl|hp
   ·exact hq
   ·exact Eo l _ h p hp
  ·rw[aab hq]at h;cases h
theorem zJ:∀(l:List Bs),ed l.flatten=l.any ed
 |[]=>rfl
 |p::l=>by
  rw[adc,adu,<-zJ l];unfold ed;rw[aeR]
theorem zD{α:Type}{p q:α->Bool}:∀ {l:List α},(∀x∈l,p x=q x)->l.any p=l.any q
 |[],_=>rfl
 |x::l,h=>by rw[adu,adu,h x aal,zD fun y hy=>h y (aaj _ hy)]
def Ed{s:Bs}(h:eQ s=0):H6 s=pieces s/\∀p∈pieces s,dF p=true:=by
 unfold eQ iC at h;unfold H6 iC;by_cases hl:16384<s.length
 ·rw[aaa hl]at h;cases h
 ·rw[aab hl]at h ⊢
  cases hs:iX (pieces s) 0 with
  |some i=>rw[hs]at h;cases h
  |none=>exact⟨rfl,Eo _ _ hs⟩
def Ka(s:Bs):dM s=(decide (eQ s=0) && !(H6 s).isEmpty && !(H6 s).any kP):=by
 unfold dM;by_cases he:eQ s=0
 ·obtain⟨e1,e2⟩:=Ed he
  rw[zH,e1,aaA he];have hf:=zJ (pieces s);rw[CX]at hf;rw[hf,zD fun p hp=>FD (e2 p hp)];have:s.isEmpty=(pieces s).isEmpty:=by
   cases s with
   |nil=>rfl
   |cons a b=>rw[rE _ (by simp)];rfl
  rw[this]
 ·rw[aai he];simp
def LK{w:World}{A:Option Addr}{l:List Bs}(h:ay w A (l.map S)){k:Nat}(hk:k<l.length):∃b o,A=some ⟨b,o,none⟩/\b<w.heap.size/\w.cell? ⟨b,o+k,none⟩=some (S l[k]):=by
 obtain⟨b,o,rfl,hlt,hcell⟩:=h (by intro e;rw[aaO]at e;subst e;simp at hk);exact⟨b,o,rfl,hlt,hcell k _ (by rw[abA,aak hk];rfl)⟩
def DL(s:ByteArray)(w:World)(hs:s.size<=16384):Calls Tryz.prog 81 #[.string s] w fun e w'=>e=.returned (.bool (dM s.data.toList))/\Below w w w':=by
 have c1:=L9 s w hs;have HP:=Pd (Ka s.data.toList);have hlen:(H6 s.data.toList).length<=16384:=by
  by_cases he:eQ s.data.toList=0
  ·rw[(Ed he).1]
   refine aaB (CZ s.data.toList) ?_;rw[<-aae];exact hs
  ·have:H6 s.data.toList=[]:=by
    unfold eQ iC at he;unfold H6 iC
    split
    ·rfl
    ·rename_i h1
     rw[aab h1]at he
     cases hs:iX (pieces s.data.toList) 0 with
     |some i=>rfl
     |none=>rw[hs]at he;exact absurd rfl he
   rw[this];exact aaS _
 generalize H6 s.data.toList=l at*;generalize kY s.data.toList=at' at*;generalize eQ s.data.toList=e' at*;unfold qL at c1;by_cases he:e'=0
 ·subst he
  by_cases h0:l.length=0
  ·have:l=[]:=acW.1 h0
   subst this;have HX:Hid (dM s.data.toList=false):=HP.out.trans (by simp);clear HP hs h0 hlen;go_enter Tryz.func81,Tryz.ntmps81;go_wp2_with fail;refine c1.mono ?_;rintro e w1 ⟨A,c,rfl,_,_,b1⟩;go_wp2_with fail;go_returns;exact⟨by rw[HX.out];(try rfl),b1⟩
  ·have hne:((l.length:Int)==0)=false:=by simpa using h0
   have HX:Hid (dM s.data.toList=!l.any kP):=HP.out.trans (by cases l with|nil=>exact absurd rfl h0|cons a b=>simp);clear HP hs;go_enter Tryz.func81,Tryz.ntmps81;go_wp2_with fail;refine c1.mono ?_;rintro e w1 ⟨A,c,rfl,_,hrow,b1⟩;have HR:=Pd hrow;clear hrow;go_wp2_with fail
   go_loopw [6] (fun i wr=>∃(k:Nat),i=.int .i64 k/\k<=l.length/\Below w w wr/\Below w1 w1 wr/\Hid (∀p∈l.take k,(!kP p)=true)) (fun i _=>l.length-(intOf i).toNat)
   case atStart=>exact⟨0,rfl,by omega,b1,aac _ _,by simp[Hid]⟩
   case round=>
    obtain⟨k,rfl,hk,hB,hB1,HN⟩:=hrel;by_cases hlt:k<l.length
    ·obtain⟨b,o,rfl,hbl,hc0⟩:=LK HR.out hlt
     have HF:Hid (kP l[k]=true->dM s.data.toList=false):=fun h=>by
      rw[HX.out,List.any_eq_true.2 ⟨l[k],aag _,h⟩];rfl
     have HT:Hid (kP l[k]=false->∀p∈l.take (k+1),(!kP p)=true):=fun h=>xQ hlt HN.out (by rw[h];rfl)
     generalize l[k]=p at*;obtain⟨P,hP⟩:∃P:ByteArray,(⟨p.toArray⟩:ByteArray)=P:=⟨_,rfl⟩;have Xm:P.toList=p:=by rw[<-hP,aan]
     have k1:wr.cell? ⟨b,o+k,none⟩=some (.string P):=(hB1.cell (p:=⟨b,o+k,none⟩) hbl).trans (by rw[hc0,S,hP]);have i0:(0:Int)<=(k:Int):=by omega
     have il:(k:Int)<(l.length:Int):=(by omega);clear hP hc0;by_cases h46:p=[46]
     ·have t1:(P.toList==[46])=true:=by rw[Xm,h46];rfl
      have HY:=Pd (HF.out (by unfold kP;exact aaA (aam h46)));clear Xm h46;go_wp2_with fail;go_returns;exact⟨by rw[HY.out];(try rfl),hB⟩
     ·have t1:(P.toList==[46])=false:=by rw[Xm];simpa using h46
      by_cases h64:p=[64]
      ·have t2:(P.toList==[64])=true:=by rw[Xm,h64];rfl
       have HY:=Pd (HF.out (by unfold kP;exact aaA (aad h64)));clear Xm h46 h64;go_wp2_with fail;go_returns;exact⟨by rw[HY.out];(try rfl),hB⟩
      ·have t2:(P.toList==[64])=false:=by rw[Xm];simpa using h64
       have HY:=Pd (HT.out (by unfold kP;exact aai (by rintro(h|h)<;>contradiction)));clear Xm h46 h64;go_wp2_with fail;go_roundw
       case rel=>exact⟨k+1,by go_num,by omega,hB,hB1,HY.out⟩
       case measure=>simp[intOf];omega
    ·obtain rfl:k=l.length:=by omega
     have HY:Hid (dM s.data.toList=true):=by
      have:=HN.out;rw[aaJ]at this;have ha:l.any kP=false:=by
       rw[List.any_eq_false];intro p hp;have:=this p hp
       simpa using this
      rw[Hid,HX.out,ha];rfl
     go_wp2_with fail;go_returns;exact⟨by rw[HY.out];(try rfl),hB⟩
 ·have HX:Hid (dM s.data.toList=false):=HP.out.trans (by rw[aai he];rfl)
  have hne:(((e':Nat):Int) != 0)=true:=by simpa using he
  clear HP hs;go_enter Tryz.func81,Tryz.ntmps81;go_wp2_with fail;refine c1.mono ?_;rintro e w1 ⟨A,c,rfl,_,_,b1⟩;go_wp2_with fail;go_returns;exact⟨by rw[HX.out];(try rfl),b1⟩
set_option linter.unusedSimpArgs false
def Hz{op:UInt8}{t v:ByteArray}(h:dM t.data.toList=false):aN (aD op t v)=false:=by unfold aN jE;simp[h]
def H7{op:UInt8}{t v:ByteArray}(hv:v.data.toList≠[])(h:dM v.data.toList=false):aN (aD op t v)=false:=by unfold aN jE;simp[h,hv]
def H8{op:UInt8}{t v:ByteArray}(h:¬ (bU (aD op t v)).length<=40):aN (aD op t v)=false:=by unfold aN;rw[aai h];simp
def oC(c d:UInt8):((c.toNat:Int)==(d.toNat:Int))=decide (c=d):=by
 by_cases h:c=d
 ·subst h;simp
 ·rw[aai h,aaN]
  intro e;exact h (abz.1 (by omega))
def yI(op:UInt8)(t v:ByteArray)(w:World)(hts:t.size<=16384)(hvs:v.size<=16384):Calls Tryz.prog 48 #[.agg #[.int .u8 op.toNat,.string t,.string v]] w fun e w'=>e=.returned (.bool (aN (aD op t v)))/\Below w w w':=by
 have p1:=fun W=>DL t W hts
 have p2:=fun W=>DL v W hvs
 have p3:=fun W=>wm op t v W hts hvs
 obtain⟨U,hU⟩:∃U:ByteArray,(⟨(bU (aD op t v)).toArray⟩:ByteArray)=U:=⟨_,rfl⟩;have Ud:(bU (aD op t v)).length=U.size:=by rw[<-hU,aae]
 rw[hU]at p3;have u80:=oC op 80;have u78:=oC op 78;have u85:=oC op 85;have u67:=oC op 67;have u82:=oC op 82;have u68:=oC op 68;have k0:(w.alloc (.cells #[.int .u8 op.toNat,.string t,.string v] 24)).cell? ⟨w.heap.size,0,none⟩=some (.int .u8 op.toNat):=aJ w _ _ 0 _ rfl;have k1:(w.alloc (.cells #[.int .u8 op.toNat,.string t,.string v] 24)).cell? ⟨w.heap.size,1,none⟩=some (.string t):=aJ w _ _ 1 _ rfl;have k2:(w.alloc (.cells #[.int .u8 op.toNat,.string t,.string v] 24)).cell? ⟨w.heap.size,2,none⟩=some (.string v):=aJ w _ _ 2 _ rfl;have hb0:Below w w (w.alloc (.cells #[.int .u8 op.toNat,.string t,.string v] 24)):=(aac _ _).alloc (Pe _) _;have hlt:w.heap.size<(w.alloc (.cells #[.int .u8 op.toNat,.string t,.string v] 24)).heap.size:=by simp
 clear hU hts hvs;have HV:Hid (aN (aD op t v)=(eD op&&dM t.data.toList&&(if v.data.toList=[] then !fA op else fw op&&dM v.data.toList)&&decide (U.size<=40))):=by unfold Hid aN jE;rw[Ud]
 have HL:Hid (¬ U.size<=40->aN (aD op t v)=false):=fun h=>H8 (by rw[Ud];exact h)
 have HB1:Hid (dM t.data.toList=false->aN (aD op t v)=false):=Hz;have HB2:Hid (v.data.toList≠[]->dM v.data.toList=false->aN (aD op t v)=false):=H7;clear Ud;go_enter Tryz.func48,Tryz.ntmps48;go_wp2_with fail;generalize w.alloc (.cells #[.int .u8 op.toNat,.string t,.string v] 24)=w0 at*;refine(p1 _).mono ?_;rintro e w1 ⟨rfl,b1⟩;have j0:=(b1.cell (p:=⟨w.heap.size,0,none⟩) hlt).trans k0;have j1:=(b1.cell (p:=⟨w.heap.size,1,none⟩) hlt).trans k1;have j2:=(b1.cell (p:=⟨w.heap.size,2,none⟩) hlt).trans k2;have hlt1:w.heap.size<w1.heap.size:=aah hlt b1.size;have bE:=ae hb0 b1;clear k0 k1 k2 b1 hb0 hlt p1
 cases hp1:dM t.data.toList with
 |false=>
  have HX:=Pd (HB1.out hp1);clear hp1;go_wp2_with fail;go_returns;exact⟨by rw[HX.out];(try rfl),bE⟩
 |true=>
  rw[hp1]at HV;by_cases hv0:v.size=0
  ·have hem:=jF hv0
   have hvd:=fF hv0;rw[hvd]at HV;go_wp2_with fail;refine(p3 _).mono ?_;rintro e w3 ⟨rfl,b3⟩;have r0:=(b3.cell (p:=⟨w.heap.size,0,none⟩) hlt1).trans j0;have r1:=(b3.cell (p:=⟨w.heap.size,1,none⟩) hlt1).trans j1;have r2:=(b3.cell (p:=⟨w.heap.size,2,none⟩) hlt1).trans j2;replace bE:=ae bE b3;clear j0 j1 j2 b3 hlt1 p3;by_cases hle:U.size<=40
   ·have d1:(U.size:Int)<=40:=by omega
    by_cases h80:op=80
    ·have e80:((op.toNat:Int)==80)=true:=by rw[h80];rfl
     have HX:Hid (aN (aD op t v)=false):=HV.out.trans (by rw[h80];simp[eD,fA,fw,hvd,hle]);clear h80;go_wp2_with fail;go_returns;exact⟨by rw[HX.out];(try rfl),bE⟩
    have e80:((op.toNat:Int)==80)=false:=u80.trans (aai h80);by_cases UK:op=78
    ·have e78:((op.toNat:Int)==78)=true:=by rw[UK];rfl
     have HX:Hid (aN (aD op t v)=false):=HV.out.trans (by rw[UK];simp[eD,fA,fw,hvd,hle]);clear UK h80;go_wp2_with fail;go_returns;exact⟨by rw[HX.out];(try rfl),bE⟩
    have e78:((op.toNat:Int)==78)=false:=u78.trans (aai UK);by_cases UW:op=85
    ·have e85:((op.toNat:Int)==85)=true:=by rw[UW];rfl
     have HX:Hid (aN (aD op t v)=false):=HV.out.trans (by rw[UW];simp[eD,fA,fw,hvd,hle]);clear UW h80 UK;go_wp2_with fail;go_returns;exact⟨by rw[HX.out];(try rfl),bE⟩
    have e85:((op.toNat:Int)==85)=false:=u85.trans (aai UW);by_cases U7:op=67
    ·have e67:((op.toNat:Int)==67)=true:=by rw[U7];rfl
     have HX:Hid (aN (aD op t v)=true):=HV.out.trans (by rw[U7];simp[eD,fA,fw,hvd,hle]);clear U7 h80 UK UW;go_wp2_with fail;go_returns;exact⟨by rw[HX.out];(try rfl),bE⟩
    have e67:((op.toNat:Int)==67)=false:=u67.trans (aai U7);by_cases Vw:op=82
    ·have e82:((op.toNat:Int)==82)=true:=by rw[Vw];rfl
     have HX:Hid (aN (aD op t v)=true):=HV.out.trans (by rw[Vw];simp[eD,fA,fw,hvd,hle]);clear Vw h80 UK UW U7;go_wp2_with fail;go_returns;exact⟨by rw[HX.out];(try rfl),bE⟩
    have e82:((op.toNat:Int)==82)=false:=u82.trans (aai Vw);by_cases h68:op=68
    ·have e68:((op.toNat:Int)==68)=true:=by rw[h68];rfl
     have HX:Hid (aN (aD op t v)=true):=HV.out.trans (by rw[h68];simp[eD,fA,fw,hvd,hle]);clear h68 h80 UK UW U7 Vw;go_wp2_with fail;go_returns;exact⟨by rw[HX.out];(try rfl),bE⟩
    have e68:((op.toNat:Int)==68)=false:=u68.trans (aai h68);have HX:Hid (aN (aD op t v)=false):=HV.out.trans (by simp[eD,h80,UK,UW,U7,Vw,h68,hle]);clear h80 UK UW U7 Vw h68;go_wp2_with fail;go_returns;exact⟨by rw[HX.out];(try rfl),bE⟩
   ·have d1:(40:Int)<(U.size:Int):=by omega
    have HX:=Pd (HL.out hle);clear hle;go_wp2_with fail;go_returns;exact⟨by rw[HX.out];(try rfl),bE⟩
  ·have hem:=jI hv0
   have hvd:=gB hv0;go_wp2_with fail;refine(p2 _).mono ?_;rintro e w2 ⟨rfl,b2⟩;have q0:=(b2.cell (p:=⟨w.heap.size,0,none⟩) hlt1).trans j0;have q1:=(b2.cell (p:=⟨w.heap.size,1,none⟩) hlt1).trans j1;have q2:=(b2.cell (p:=⟨w.heap.size,2,none⟩) hlt1).trans j2;have hlt2:w.heap.size<w2.heap.size:=aah hlt1 b2.size;replace bE:=ae bE b2;clear j0 j1 j2 b2 hlt1 p2
   cases hp2:dM v.data.toList with
   |false=>
    have HX:=Pd (HB2.out hvd hp2);clear hp2;go_wp2_with fail;go_returns;exact⟨by rw[HX.out];(try rfl),bE⟩
   |true=>
    rw[hp2]at HV;go_wp2_with fail;refine(p3 _).mono ?_;rintro e w3 ⟨rfl,b3⟩;have r0:=(b3.cell (p:=⟨w.heap.size,0,none⟩) hlt2).trans q0;have r1:=(b3.cell (p:=⟨w.heap.size,1,none⟩) hlt2).trans q1;have r2:=(b3.cell (p:=⟨w.heap.size,2,none⟩) hlt2).trans q2;replace bE:=ae bE b3;clear q0 q1 q2 b3 hlt2 p3;by_cases hle:U.size<=40
    ·have d1:(U.size:Int)<=40:=by omega
     by_cases h80:op=80
     ·have e80:((op.toNat:Int)==80)=true:=by rw[h80];rfl
      have HX:Hid (aN (aD op t v)=true):=HV.out.trans (by rw[h80];simp[eD,fA,fw,hvd,hle]);clear h80;go_wp2_with fail;go_returns;exact⟨by rw[HX.out];(try rfl),bE⟩
     have e80:((op.toNat:Int)==80)=false:=u80.trans (aai h80);by_cases UK:op=78
     ·have e78:((op.toNat:Int)==78)=true:=by rw[UK];rfl
      have HX:Hid (aN (aD op t v)=true):=HV.out.trans (by rw[UK];simp[eD,fA,fw,hvd,hle]);clear UK h80;go_wp2_with fail;go_returns;exact⟨by rw[HX.out];(try rfl),bE⟩
     have e78:((op.toNat:Int)==78)=false:=u78.trans (aai UK);by_cases UW:op=85
     ·have e85:((op.toNat:Int)==85)=true:=by rw[UW];rfl
      have HX:Hid (aN (aD op t v)=true):=HV.out.trans (by rw[UW];simp[eD,fA,fw,hvd,hle]);clear UW h80 UK;go_wp2_with fail;go_returns;exact⟨by rw[HX.out];(try rfl),bE⟩
     have e85:((op.toNat:Int)==85)=false:=u85.trans (aai UW);by_cases U7:op=67
     ·have e67:((op.toNat:Int)==67)=true:=by rw[U7];rfl
      have HX:Hid (aN (aD op t v)=false):=HV.out.trans (by rw[U7];simp[eD,fA,fw,hvd,hle]);clear U7 h80 UK UW;go_wp2_with fail;go_returns;exact⟨by rw[HX.out];(try rfl),bE⟩
     have e67:((op.toNat:Int)==67)=false:=u67.trans (aai U7);by_cases Vw:op=82
     ·have e82:((op.toNat:Int)==82)=true:=by rw[Vw];rfl
      have HX:Hid (aN (aD op t v)=true):=HV.out.trans (by rw[Vw];simp[eD,fA,fw,hvd,hle]);clear Vw h80 UK UW U7;go_wp2_with fail;go_returns;exact⟨by rw[HX.out];(try rfl),bE⟩
     have e82:((op.toNat:Int)==82)=false:=u82.trans (aai Vw);by_cases h68:op=68
     ·have e68:((op.toNat:Int)==68)=true:=by rw[h68];rfl
      have HX:Hid (aN (aD op t v)=true):=HV.out.trans (by rw[h68];simp[eD,fA,fw,hvd,hle]);clear h68 h80 UK UW U7 Vw;go_wp2_with fail;go_returns;exact⟨by rw[HX.out];(try rfl),bE⟩
     have e68:((op.toNat:Int)==68)=false:=u68.trans (aai h68);have HX:Hid (aN (aD op t v)=false):=HV.out.trans (by simp[eD,h80,UK,UW,U7,Vw,h68,hle]);clear h80 UK UW U7 Vw h68;go_wp2_with fail;go_returns;exact⟨by rw[HX.out];(try rfl),bE⟩
    ·have d1:(40:Int)<(U.size:Int):=by omega
     have HX:=Pd (HL.out hle);clear hle;go_wp2_with fail;go_returns;exact⟨by rw[HX.out];(try rfl),bE⟩
def aAu(w:World)(A:Option Addr)(l:List OH):Prop:=∀k,(h:k<l.length)->∃b o,A=some ⟨b,o,none⟩/\b<w.heap.size/\w.cell? ⟨b,o+k*3,none⟩=some (S l[k].feat)/\w.cell? ⟨b,o+k*3+1,none⟩=some (S l[k].val)/\w.cell? ⟨b,o+k*3+2,none⟩=some (.bool l[k].no)
def getD_at(s:ByteArray)(i:Nat)(h:i<s.size):s.data.toList.getD i 0=s[i]:=by
 have h':i<s.data.toList.length:=by rw[<-aae];exact h
 rw[aaf,aak h'];simp
 rfl
def J3{s:Bs}(h:s.length<5\/40<s.length\/s.getD 0 0≠64\/s.getD 2 0≠46\/s.getD (s.length-1) 0≠64):aCf s=none:=by unfold aCf;rw[aaa h]
def yV{c d:UInt8}(h:c≠d):((c.toNat:Int) != (d.toNat:Int))=true:=by rw[bne,oC,aai h];rfl
def uO{c d:UInt8}(h:c=d):((c.toNat:Int) != (d.toNat:Int))=false:=by rw[bne,oC,aaA h];rfl
def LU(s:ByteArray)(w:World)(h:s.size<5\/40<s.size\/s.data.toList.getD 0 0≠64\/s.data.toList.getD 2 0≠46\/s.data.toList.getD (s.size-1) 0≠64):Calls Tryz.prog 18 #[.string s] w (ma w (aCf s.data.toList)):=by
 have hb0:Below w w (w.alloc (.cells #[.int .u8 0,.string ⟨#[]⟩,.string ⟨#[]⟩] 24)):=(aac _ _).alloc (Pe _) _;have c0:=aJ w #[.int .u8 0,.string ⟨#[]⟩,.string ⟨#[]⟩] 24 0 _ rfl;have c1:=aJ w #[.int .u8 0,.string ⟨#[]⟩,.string ⟨#[]⟩] 24 1 _ rfl;have c2:=aJ w #[.int .u8 0,.string ⟨#[]⟩,.string ⟨#[]⟩] 24 2 _ rfl;have HX:Hid (aCf s.data.toList=none):=J3 (by rw[<-aae];exact h);by_cases h5:s.size<5
 ·have d1:(s.size:Int)<5:=by omega
  clear h h5;go_enter aex,ad8;go_wp2_with fail;refine aaD (by simp[results,acm,go_sem,c0,c1,c2];try rfl) rfl ?_;rw[HX.out];exact⟨rfl,hb0⟩
 ·by_cases V7:40<s.size
  ·have d1:(40:Int)<(s.size:Int):=by omega
   have d2:(5:Int)<=(s.size:Int):=(by omega);clear h h5 V7;go_enter aex,ad8;go_wp2_with fail;refine aaD (by simp[results,acm,go_sem,c0,c1,c2];try rfl) rfl ?_;rw[HX.out];exact⟨rfl,hb0⟩
  ·have d1:(s.size:Int)<=40:=by omega
   have d2:(5:Int)<=(s.size:Int):=(by omega);have g0:0<s.size:=(by omega);have g2:2<s.size:=(by omega);have gl:s.size-1<s.size:=(by omega);have q0:=getD_at s 0 g0;have q2:=getD_at s 2 g2;have ql:=getD_at s (s.size-1) gl;rw[q0,q2,ql]at h;by_cases n0:s[0]'g0=64
   ·have t0:(((s[0]'g0).toNat:Int) != 64)=false:=uO n0
    by_cases n2:s[2]'g2=46
    ·have t2:(((s[2]'g2).toNat:Int) != 46)=false:=uO n2
     have nl:s[s.size-1]'gl≠64:=by
      rcases h with h|h|h|h|h
      ·omega
      ·omega
      ·exact absurd n0 h
      ·exact absurd n2 h
      ·exact h
     have tl:(((s[s.size-1]'gl).toNat:Int) != 64)=true:=yV nl;have i1:(0:Int)<=(s.size:Int)-1:=by omega
     have i2:(s.size:Int)-1<(s.size:Int):=(by omega);have i3:((s.size:Int)-1).toNat=s.size-1:=(by omega);clear h h5 V7 n0 n2 nl q0 q2 ql;go_enter aex,ad8;go_wp2_with fail;refine aaD (by simp[results,acm,go_sem,c0,c1,c2];try rfl) rfl ?_;rw[HX.out];exact⟨rfl,hb0⟩
    ·have t2:(((s[2]'g2).toNat:Int) != 46)=true:=yV n2
     clear h h5 V7 n0 n2 q0 q2 ql;go_enter aex,ad8;go_wp2_with fail;refine aaD (by simp[results,acm,go_sem,c0,c1,c2];try rfl) rfl ?_;rw[HX.out];exact⟨rfl,hb0⟩
   ·have t0:(((s[0]'g0).toNat:Int) != 64)=true:=yV n0
    clear h h5 V7 n0 q0 q2 ql;go_enter aex,ad8;go_wp2_with fail;refine aaD (by simp[results,acm,go_sem,c0,c1,c2];try rfl) rfl ?_;rw[HX.out];exact⟨rfl,hb0⟩
theorem Ag:∀ {r:Bs},(∀c∈r,c≠46)->jS r=(r,[])
 |[],_=>rfl
 |c::r,h=>by
  unfold jS;rw[aab (h c aal),Ag fun x hx=>h x (aaj _ hx)]
theorem Ae:∀ {r:Bs} {k:Nat} (hk:k<r.length),(∀c∈r.take k,c≠46)->r[k]=46->jS r=(r.take k,r.drop (k+1))
 |c::r,0,hk,_,h=>by
  unfold jS;rw[aaa (show c=46 from h)];rfl
 |c::r,k+1,hk,hn,h=>by
  unfold jS;rw[aab (hn c (by rw[aa1];exact aal)),Ae (k:=k) (by simpa using hk) (fun x hx=>hn x (by rw[aa1];exact aaj _ hx)) (by simpa using h)]
  rfl
def J4{s:Bs}(h:¬ (s.length<5\/40<s.length\/s.getD 0 0≠64\/s.getD 2 0≠46\/s.getD (s.length-1) 0≠64)):aCf s=if aN (kS s)=true/\bU (kS s)=s then some (kS s) else none:=by unfold aCf;rw[aab h]
end Go.Proofs.YtppnecgeboonbaaGreatDoor
