/- A slice of strings that came in, as a list of lists of bytes. -/
import Derived.SliceStrings
import Derived.Carry
import Derived.Test.YtppnecgeboonbaaGreatDoorZ27
import Derived.ChangeArms
import Derived.ChangeSame
import Derived.DataReads
namespace Go.Proofs.YtppnecgeboonbaaGreatDoor
set_option maxRecDepth 100000
set_option linter.unusedVariables false
open Go.RowKit Go.ChangeShapes Go.WideShapes
def aAK (w:World) (A:Option Addr) (c:Nat) (l:List Bs):Prop :=
 l.length<=c/\c<=maxLen/\ay w A (l.map S)/\∀ p∈l,p.length<=maxLen
theorem open_row {H:Type} {enc:TypeId × Value->H} {P:Program} {w:World} {base:Nat} {spare:Nat->Bool} {held:Bool} {t e:TypeId} {fuel:Nat} {a:Option Addr} {len cap:Nat} {x:DataW H × List MemPlace}
  (ht:P.underlying t=some (.slice e)) (he:P.underlying e=some .string) (hc:P.cellsOf e=1)
  (h:DataW.trod enc P w base spare held fuel t (Value.slice a len cap).cells.toList=some x):∃ l:List Bs,len=l.length/\aAK w a cap l:=by
 rcases open_strings ht he hc h with⟨hcs,_⟩|⟨b,len',cap',ss,hcs,_,hl,hm,hz,_,hcell,hsz⟩
 ·simp [Value.cells] at hcs
  obtain⟨rfl,rfl,rfl⟩:=hcs;exact⟨[],rfl,Nat.le_refl _,by unfold maxLen;omega,ay.nil _ _,fun p hp=>by cases hp⟩
 ·simp [Value.cells] at hcs
  obtain⟨rfl,rfl,rfl⟩:=hcs;have hle:len<=ss.length:=by rw [hz];split <;> omega
  have hll:((ss.take len).map (·.data.toList)).length=len:=by rw [List.length_map,List.length_take];omega
  refine⟨(ss.take len).map (·.data.toList),hll.symm,by rw [hll];exact hl,hm,?_,?_⟩
  ·intro hne
   have hpos:0<len:=by
    rcases Nat.eq_zero_or_pos len with h0|h0
    ·subst h0;simp at hne
    ·exact h0
   obtain⟨bk,off,spot⟩:=b;have hc0:=hcell 0 (by omega);have hspot:spot=none:=by simpa [Addr.add] using World.cell?_spot hc0
   subst hspot;have hcell':∀ i,i<ss.length->w.cell? ⟨bk,off+i,none⟩=some (.string (ss.getD i ByteArray.empty)):=fun i hi=>by
    have:=hcell i hi;have e:(⟨bk,off,none⟩:Addr).add i=⟨bk,off+i,none⟩:=by
     unfold Addr.add
     split <;> simp_all
    rwa [e] at this
   refine⟨bk,off,rfl,ax (hcell' 0 (by omega)),fun j u hu=>?_⟩;rw [List.getElem?_map,List.getElem?_map] at hu;have hj:j<len:=by
    rcases Nat.lt_or_ge j len with hh|hh
    ·exact hh
    ·rw [List.getElem?_eq_none (by rw [List.length_take];omega)] at hu;cases hu
   have e1:(ss.take len)[j]? = some (ss.getD j ByteArray.empty):=by
    rw [List.getElem?_take_of_lt hj,List.getD_eq_getElem?_getD,List.getElem?_eq_getElem (show j<ss.length by omega)];rfl
   rw [e1] at hu;simp only [Option.map_some,Option.some.injEq] at hu;rw [hcell' j (by omega),<-hu];rfl
  ·intro p hp
   obtain⟨s,hs,rfl⟩:=List.mem_map.1 hp;have:=hsz s (List.mem_of_mem_take hs);rwa [Lib.size_eq] at this
open Go Go.RowKit Go.ChangeShapes Go.WideShapes
theorem aAB {b o:Nat} (j:Nat):(⟨b,o,none⟩:Addr).add j=⟨b,o+j,none⟩:=by unfold Addr.add;split <;> simp_all
theorem flat_get {n:Nat}:∀ (css:List (List Value)) (i j:Nat) (h:i<css.length),(∀ x∈css,x.length=n)->j<n->css.flatten[i * n+j]? = css[i][j]?
 | c::r,0,j,h,hl,hj=>by
  have:=hl c List.mem_cons_self;rw [List.flatten_cons,Nat.zero_mul,Nat.zero_add,List.getElem?_append_left (by omega)];rfl
 | c::r,i+1,j,h,hl,hj=>by
  have h1:=hl c List.mem_cons_self;have ih:=flat_get r i j (by simpa using h) (fun x hx=>hl x (List.mem_cons_of_mem _ hx)) hj;rw [List.flatten_cons,List.getElem?_append_right (by rw [h1,Nat.add_mul];omega),h1,Nat.add_mul,Nat.one_mul,show i * n+n+j-n=i * n+j by omega,ih]
  rfl
 | [],i,j,h,_,_=>absurd h (by simp)
theorem aAH {n:Nat}:∀ (css:List (List Value)),(∀ x∈css,x.length=n)->css.flatten.length=css.length * n
 | [],_=>by simp
 | c::r,h=>by
  have h1:=h c List.mem_cons_self;have ih:=aAH r (fun x hx=>h x (List.mem_cons_of_mem _ hx));rw [List.flatten_cons,List.length_append,ih,List.length_cons,h1,Nat.add_mul];omega
theorem aAR {H:Type} {enc:TypeId × Value->H} {P:Program} {w:World} {base:Nat} {spare:Nat->Bool} {held:Bool} {t e:TypeId} {n fuel:Nat} {a:Option Addr} {len cap:Nat} {x:DataW H × List MemPlace}
  (ht:P.underlying t=some (.slice e)) (hn:P.cellsOf e=n) (hn0:0<n)
  (h:DataW.trod enc P w base spare held fuel t (Value.slice a len cap).cells.toList=some x) :
  ∃ (css:List (List Value)) (ys:List (DataW H × List MemPlace)) (sp:List (DataW H)) (f:Nat),css.length=len/\ys.length=len/\len<=cap/\cap<=maxLen/\ay w a css.flatten/\(∀ cs∈css,cs.length=n) ∧
   (∀ (i:Nat) (h1:i<css.length) (h2:i<ys.length),DataW.trod enc P w base spare held f e css[i]=some ys[i])/\(x.1=.slice (ys.map (·.1)) sp\/(x.1=.nil/\len=0)):=by
 rcases DataW.trod_slice ht h with⟨hcs,hx⟩|⟨a',len',cap',elems,rest,f,_,hcs,hx,hb,hl,hm,hlen,hel,_,_⟩
 ·simp [Value.cells] at hcs
  obtain⟨rfl,rfl,rfl⟩:=hcs;exact⟨[],[],[],0,rfl,rfl,Nat.le_refl _,by unfold maxLen;omega,ay.nil _ _,(fun _ h=>by cases h),(fun i h1 _=>absurd h1 (by simp)),Or.inr ⟨by rw [hx],rfl⟩⟩
 ·simp [Value.cells] at hcs
  obtain⟨rfl,rfl,rfl⟩:=hcs;rw [hn] at hel;have hex:∀ i (hi:i<len),∃ cs,w.cells? base (a'.add (i * n)) n=some cs/\DataW.trod enc P w base spare held f e cs=some (elems[i]'(by omega)):=by
   intro i hi;have:=hel i hi;rw [List.getElem?_eq_getElem (by omega),Option.bind_eq_some_iff] at this;exact this
  refine⟨(List.range len).map fun i=>(w.cells? base (a'.add (i * n)) n).getD [],elems,rest.map (·.1),f,by simp,hlen,hl,hm,?_,?_,?_,Or.inl (by rw [hx])⟩
  ·intro hne
   have hlen2:∀ cs∈(List.range len).map (fun i=>(w.cells? base (a'.add (i * n)) n).getD []),cs.length=n:=by
    intro cs hc;obtain⟨i,hi,rfl⟩:=List.mem_map.1 hc;obtain⟨cs,h1,_⟩:=hex i (List.mem_range.1 hi);rw [h1];exact (World.cells?_some h1).2.1
   have hpos:0<len:=by
    rcases Nat.eq_zero_or_pos len with h0|h0
    ·subst h0;simp at hne
    ·exact h0
   obtain⟨bk,off,spot⟩:=a';obtain⟨c0,hc0,_⟩:=hex 0 hpos;obtain⟨_,hl0,hk0⟩:=World.cells?_some hc0;have hz:=hk0 0 hn0;rw [List.getElem?_eq_getElem (by omega)] at hz;have hspot:spot=none:=by simpa [Addr.add] using World.cell?_spot hz
   subst hspot;refine⟨bk,off,rfl,?_,fun j u hu=>?_⟩
   ·rw [Nat.zero_mul,aAB,aAB] at hz
    exact ax hz
   ·have hj:j<len * n:=by
     have:=aAH _ hlen2;rw [List.length_map,List.length_range] at this;have:=(List.getElem?_eq_some_iff.1 hu).1;omega
    have hi:j / n<len:=by rw [Nat.div_lt_iff_lt_mul hn0];exact hj
    have hr:j % n<n:=Nat.mod_lt _ hn0;have he:j / n * n+j % n=j:=by rw [Nat.mul_comm];exact Nat.div_add_mod j n
    obtain⟨cs,h1,_⟩:=hex (j / n) hi;have hg:=flat_get _ (j / n) (j % n) (by simpa using hi) hlen2 hr;rw [he,hu] at hg;simp only [List.getElem_map,List.getElem_range] at hg;rw [h1] at hg;have:=(World.cells?_some h1).2.2 (j % n) hr;rw [aAB,aAB,Nat.add_assoc,he] at this;rw [this];exact hg.symm
  ·intro cs hc
   obtain⟨i,hi,rfl⟩:=List.mem_map.1 hc;obtain⟨cs,h1,_⟩:=hex i (List.mem_range.1 hi);rw [h1];exact (World.cells?_some h1).2.1
  ·intro i h1 h2
   obtain⟨cs,h3,h4⟩:=hex i (by simpa using h1);simp only [List.getElem_map,List.getElem_range];rw [h3];exact h4
theorem aAJ {α β:Type} {R:α->β->Prop}:∀ {l:List α},(∀ a∈l,∃ b,R a b)->∃ m:List β,m.length=l.length/\∀ (i:Nat) (h1:i<l.length) (h2:i<m.length),R l[i] m[i]
 | [],_=>⟨[],rfl,fun i h1 _=>absurd h1 (by simp)⟩
 | a::r,h=>by
  obtain⟨b,hb⟩:=h a List.mem_cons_self;obtain⟨m,hm,hr⟩:=aAJ (l:=r) (fun x hx=>h x (List.mem_cons_of_mem _ hx));refine⟨b::m,by simp [hm],fun i h1 h2=>?_⟩
  cases i with
  | zero=>exact hb
  | succ i=>exact hr i (by simpa using h1) (by simpa using h2)
section
variable {H:Type} {enc:TypeId × Value->H} {P:Program} {w:World} {base:Nat} {spare:Nat->Bool} {held:Bool}
theorem trod_struct3 {t:TypeId} {f0 f1 f2:Field} {fuel:Nat} {cs:List Value} {x:DataW H × List MemPlace} (ht:P.underlying t=some (.struct #[f0,f1,f2])) (h:DataW.trod enc P w base spare held fuel t cs=some x) :
  ∃ y0 y1 y2 n,cs.length=P.cellsOf t/\DataW.trod enc P w base spare held n f0.type ((cs.drop f0.offset).take (P.cellsOf f0.type))=some y0 ∧
   DataW.trod enc P w base spare held n f1.type ((cs.drop f1.offset).take (P.cellsOf f1.type))=some y1/\DataW.trod enc P w base spare held n f2.type ((cs.drop f2.offset).take (P.cellsOf f2.type))=some y2:=by
 obtain⟨xs,n,_,rfl,hl,hlen,hf⟩:=DataW.trod_struct ht h
 match xs,hlen with
 | [y0,y1,y2],_=>exact⟨y0,y1,y2,n,hl,by simpa using hf 0 f0 rfl,by simpa using hf 1 f1 rfl,by simpa using hf 2 f2 rfl⟩
end
section
variable {H:Type} {enc:TypeId × Value->H} {w:World} {base:Nat} {spare:Nat->Bool} {held:Bool}
theorem aAI {fuel:Nat} {a:Option Addr} {len cap:Nat} {x:DataW H × List MemPlace} (h:DataW.trod enc Tryz.prog w base spare held fuel 43 (Value.slice a len cap).cells.toList=some x) :
  ∃ l:List aH,len=l.length/\l.length<=cap/\zu w a l:=by
 obtain⟨css,ys,sp,f,h1,h2,h3,h4,h5,h6,h7,-⟩:=aAR Tryz.underlying43 (show Tryz.prog.cellsOf 24=3 by kernel_rfl) (by omega) h;have hex:∀ cs∈css,∃ b:aH,cs=[.int .u8 b.op.toNat,S b.feat,S b.val]:=by
  intro cs hc;obtain⟨i,hi,rfl⟩:=List.getElem_of_mem hc;obtain⟨y0,y1,y2,n,hl,g0,g1,g2⟩:=trod_struct3 Tryz.underlying24 (h7 i hi (by omega));rw [show Tryz.prog.cellsOf 24=3 by kernel_rfl] at hl;generalize css[i]=cs at *;obtain⟨u0,u1,u2,rfl⟩:∃ u0 u1 u2,cs=[u0,u1,u2]:=by
   match cs,hl with
   | [u0,u1,u2],_=>exact⟨u0,u1,u2,rfl⟩
  rw [show Tryz.prog.cellsOf 5=1 by kernel_rfl] at g0;rw [show Tryz.prog.cellsOf 9=1 by kernel_rfl] at g1 g2;obtain⟨z,z1,-,wz⟩:=DataW.trod_int (k:=.u8) Tryz.underlying5 g0;obtain rfl:u0=.int .u8 z:=by simpa using z1
  obtain⟨s1,q1,-⟩:=DataW.trod_string Tryz.underlying9 g1;obtain rfl:u1=.string s1:=by simpa using q1
  obtain⟨s2,q2,-⟩:=DataW.trod_string Tryz.underlying9 g2;obtain rfl:u2=.string s2:=by simpa using q2
  obtain⟨c,rfl⟩:=N7 wz;exact⟨⟨c,s1.data.toList,s2.data.toList⟩,by rw [eX,eX]⟩
 obtain⟨m,hm,hR⟩:=aAJ hex;refine⟨m,by omega,by omega,fun k hk=>?_⟩;have hk':k<css.length:=by omega
 have hfl:=aAH css h6;obtain⟨b,o,rfl,hlt,hcell⟩:=h5 (fun e=>by rw [e] at hfl;simp at hfl;omega);have e0:=flat_get css k 0 hk' h6 (by omega);have e1:=flat_get css k 1 hk' h6 (by omega);have e2:=flat_get css k 2 hk' h6 (by omega);rw [hR k hk' hk] at e0 e1 e2;exact⟨b,o,rfl,hlt,hcell _ _ e0,hcell _ _ e1,hcell _ _ e2⟩
theorem aBn {fuel:Nat} {a:Option Addr} {len cap:Nat} {x:DataW H × List MemPlace} (h:DataW.trod enc Tryz.prog w base spare held fuel 38 (Value.slice a len cap).cells.toList=some x) :
  ∃ l:List Int,len=l.length/\ay w a (l.map IV)/\∀ s∈l,-9223372036854775808<=s/\s<=9223372036854775807:=by
 obtain⟨css,ys,sp,f,h1,h2,h3,h4,h5,h6,h7,-⟩:=aAR Tryz.underlying38 (show Tryz.prog.cellsOf 3=1 by kernel_rfl) (by omega) h;have hex:∀ cs∈css,∃ s:Int,cs=[IV s]/\-9223372036854775808<=s/\s<=9223372036854775807:=by
  intro cs hc;obtain⟨i,hi,rfl⟩:=List.getElem_of_mem hc;have hl:=h6 _ hc;obtain⟨z,z1,-,wz⟩:=DataW.trod_int (k:=.i64) Tryz.underlying3 (h7 i hi (by omega));refine⟨z,z1,?_⟩;have e1:IntKind.i64.min=-9223372036854775808:=by decide
  have e2:IntKind.i64.max=9223372036854775807:=by decide
  simp [Lit.wf] at wz;omega
 obtain⟨m,hm,hR⟩:=aAJ hex;have hfl:css.flatten=m.map IV:=by
  have:∀ {css:List (List Value)} {m:List Int},m.length=css.length->(∀ (i:Nat) (h1:i<css.length) (h2:i<m.length),css[i]=[IV m[i]])->css.flatten=m.map IV:=by
   intro css
   induction css with
   | nil=>intro m hl _;obtain rfl:=List.eq_nil_of_length_eq_zero hl;rfl
   | cons c r ih =>
    intro m hl h
    match m,hl with
    | y::m,hl =>
     have h0:=h 0 (by simp) (by simp);rw [List.flatten_cons,List.map_cons,ih (m:=m) (by simpa using hl) (fun i h1 h2=>h (i+1) (by simpa using h1) (by simpa using h2)),show c=[IV y] from h0]
     rfl
  exact this hm (fun i g1 g2=>(hR i g1 g2).1)
 refine⟨m,by omega,by rw [<-hfl];exact h5,fun s hs=>?_⟩;obtain⟨i,hi,rfl⟩:=List.getElem_of_mem hs;exact (hR i (by omega) hi).2
end
end Go.Proofs.YtppnecgeboonbaaGreatDoor
