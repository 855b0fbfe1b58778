/- Walks. -/
import Derived.Test.YtppnecgeboonbaaGreatDoorZ11
namespace Go.Proofs.YtppnecgeboonbaaGreatDoor
set_option maxRecDepth 100000
set_option linter.all false
open Go.RowKit Go.Maps
abbrev bz(a:Bs):Prop:=a.length<=40
def qJ:Enc Tryz.prog 9 S bz where
 inj:=fun {a b} h=>by
  simp only[S,Value.string.injEq,ByteArray.mk.injEq]at h;have:=aaw Array.toList h
  simpa using this
 key:=fun a ha=>⟨.string a,(keyOf_string aaV _).trans (by
  have hs:(⟨a.toArray⟩:ByteArray).size<=maxLen:=by
   rw[aae];exact aaB ha (by decide)
  simp[mapKey,aaV,S,hs])⟩
def jw(m:eU):Value:=.agg #[.int .i64 m.kind,.string ⟨m.of.toArray⟩]
abbrev jC(w:World)(b:Nat)(L:aBK):Prop:=bN Tryz.prog 9 S jw w b L
def BM(w:World):(zeroValue 141).run Tryz.prog w=.ok (jw iF) w:=(afT (n:=2) (by kernel_rfl)).1 w
def qK:Keyed Tryz.prog 9:=string_keyed aaV
theorem Bb:∀(L:aBK) (f:Bs),aP L f=(bO L f).getD iF
 |[],f=>rfl
 |(k,v)::r,f=>by
  unfold aP bO
  split
  ·rfl
  ·exact Bb r f
theorem uK:∀(L:aBK) (f:Bs) (x:eU),iW L f x=bQ L f x
 |[],f,x=>rfl
 |(k,v)::r,f,x=>by
  unfold iW bQ
  split
  ·rfl
  ·rw[uK r f x]
def BP(W:World)(b:Nat)(L:aBK)(h:jC W b L)(hl:∀p∈L,bz p.1)(f:Bs)(hf:bz f):(Instr.lookup 89 (.map (some b)) (S f) false).run Tryz.prog W=.ok (jw (aP L f)) W:=by
 have:=bN.look qK qJ Tryz.underlying89 (BM W) h hl f hf false;rw[this,Bb]
 cases bO L f<;>rfl
def BQ(W:World)(b:Nat)(L:aBK)(h:jC W b L)(hl:∀p∈L,bz p.1)(f:Bs)(hf:bz f)(x:eU):∃o,(Instr.mapUpdate 89 (.map (some b)) (S f) (jw x)).run Tryz.prog W=.ok () (aU W b o)/\jC (aU W b o) b (iW L f x):=by
 rw[uK];exact bN.put qK qJ Tryz.underlying89 h hl f hf x
abbrev pJ(op:UInt8)(g:Nat)(d:Bool):Prop:=∀(m:eU) (v:ByteArray) (W:World),Calls Tryz.prog g #[jw m,.string v] W fun e w'=>e=.returned (.tuple #[jw (eu m op v.data.toList).1,.bool (eu m op v.data.toList).2])/\w'=if d=true then (two W m.kind ⟨m.of.toArray⟩ (eu m op v.data.toList).1.kind ⟨(eu m op v.data.toList).1.of.toArray⟩).drew else two W m.kind ⟨m.of.toArray⟩ (eu m op v.data.toList).1.kind ⟨(eu m op v.data.toList).1.of.toArray⟩
def xm(v:ByteArray):(⟨v.data.toList.toArray⟩:ByteArray)=v:=by cases v;simp
def Cg(v:ByteArray):(v.data.toList=[])=(v.size=0):=by
 apply propext;rw[aae,acW]
def BN(m:eU)(v:Bs):(m=⟨1,v⟩)=(m.kind=1/\m.of=v):=by
 apply propext
 cases m
 simp
def GD:pJ 80 92 false:=fun m v W=>by
 have h:=Gy m.kind ⟨m.of.toArray⟩ v W;rw[show eu m 80 v.data.toList=(⟨1,v.data.toList⟩,true) by unfold eu;rw[aaa rfl]];simp only[jw,xm];exact h
def GG:pJ 78 93 false:=fun m v W=>by
 have h:=Gx m.kind ⟨m.of.toArray⟩ v W;rw[show eu m 78 v.data.toList=(⟨2,v.data.toList⟩,true) by unfold eu;rw[aab (by decide),aaa rfl]];simp only[jw,xm];exact h
def GH:pJ 67 94 false:=fun m v W=>by
 have h:=Gv m.kind ⟨m.of.toArray⟩ v W;rw[show eu m 67 v.data.toList=(iF,true) by unfold eu;rw[aab (by decide),aab (by decide),aaa rfl]];exact h
def GI:pJ 82 95 true:=fun m v W=>by
 have h:=Gz m.kind ⟨m.of.toArray⟩ v W;rw[show eu m 82 v.data.toList=(m,if v.data.toList=[] then decide (m.kind≠0) else decide (m=⟨1,v.data.toList⟩)) by unfold eu;rw[aab (by decide),aab (by decide),aab (by decide),aaa rfl]];simp only[Cg,BN];exact h
def GJ:pJ 68 96 true:=fun m v W=>by
 have h:=Gw m.kind ⟨m.of.toArray⟩ v W;rw[show eu m 68 v.data.toList=(m,if v.data.toList=[] then decide (m.kind=0) else decide (m≠⟨1,v.data.toList⟩)) by unfold eu;rw[aab (by decide),aab (by decide),aab (by decide),aab (by decide),aaa rfl]];simp only[Cg,BN,ne_eq];exact h
def GK:pJ 85 97 false:=fun m v W=>by
 have h:=GA m.kind ⟨m.of.toArray⟩ v W;rw[show eu m 85 v.data.toList=(⟨1,v.data.toList⟩,decide (m.kind=0\/(m.kind=1/\m.of=v.data.toList)\/(m.kind=2/\m.of≠v.data.toList))) by unfold eu;rw[aab (by decide),aab (by decide),aab (by decide),aab (by decide),aab (by decide)]];simp only[jw,xm];exact h
def kN{w0 wx:World}{b:Nat}(hb:b<w0.heap.size)(h:Below w0 w0 wx):wx.heap[b]? = w0.heap[b]?:=h.block b hb
structure iN (b:Nat) (w w':World):Prop where
 low:∀B,B<=b->B<=w.heap.size->Below B w w'
 same:∀j,j<w.heap.size->j≠b->w'.heap[j]? = w.heap[j]?
abbrev pY(w:World)(b:Nat)(bb:Bool)(R:World->Prop)(e:Ending)(w':World):Prop:=e=.returned (.bool bb)/\iN b w w'/\(bb=true->R w')
def iN.of_below{b:Nat}{w w':World}(hb:b<w.heap.size)(h:Below w w w'):iN b w w':=⟨fun B h1 h2=>h.mono h2,fun j hj _=>h.block j hj⟩
def iN.set{b:Nat}{w w':World}(hb:b<w.heap.size)(h:Below w w w')(o:Obj):iN b w (aU w' b o):=
 ⟨fun B h1 h2=>(h.mono h2).trans (yQ w' b o h1),fun j hj hne=>(wH w' b o j hne).trans (h.block j hj)⟩
def qZ(a b:Bool)(k:Nat)(W:World):(Instr.field 123 (.agg #[.bool a,.bool b,.func (.func k) #[] #[]]) 2).run Tryz.prog W=.ok (.func (.func k) #[] #[]) W:=by
 simp[Instr.field,go_sem,acv Tryz.underlying123,asAgg]
abbrev NP(w w0:World)(op:UInt8)(t v:ByteArray)(b k0:Nat)(T0:ByteArray)(wx:World):Prop:=wx.cell? ⟨w.heap.size,0,none⟩=some (.int .u8 op.toNat)/\wx.cell? ⟨w.heap.size,1,none⟩=some (.string t)/\wx.cell? ⟨w.heap.size,2,none⟩=some (.string v)/\(Instr.lookup 89 (.map (some b)) (.string t) false).run Tryz.prog wx=.ok (au k0 T0) wx/\Below w0 w0 wx
def TD{w w0:World}{op:UInt8}{t v:ByteArray}{b k0:Nat}{T0:ByteArray}(hlt:w.heap.size<w0.heap.size)(k0':w0.cell? ⟨w.heap.size,0,none⟩=some (.int .u8 op.toNat))(k1:w0.cell? ⟨w.heap.size,1,none⟩=some (.string t))(k2:w0.cell? ⟨w.heap.size,2,none⟩=some (.string v))
  (hlk:∀wx,Below w0 w0 wx->(Instr.lookup 89 (.map (some b)) (.string t) false).run Tryz.prog wx=.ok (au k0 T0) wx) (wx:World) (h:Below w0 w0 wx):NP w w0 op t v b k0 T0 wx:=
 ⟨(h.cell (p:=⟨w.heap.size,0,none⟩) hlt).trans k0',(h.cell (p:=⟨w.heap.size,1,none⟩) hlt).trans k1,(h.cell (p:=⟨w.heap.size,2,none⟩) hlt).trans k2,hlk wx h,h⟩
end Go.Proofs.YtppnecgeboonbaaGreatDoor
