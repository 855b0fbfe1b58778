/- Walks. -/
import Derived.Test.YtppnecgeboonbaaGreatDoorCards
import Derived.Test.YtppnecgeboonbaaGreatDoorZ09
import Derived.Lib.LaidTab
import Derived.Lib.LaidU8
import Derived.Deep.Strs
import Derived.LaidLaws
import Derived.LaidMore
import Derived.OpenShut
import Derived.Shelf.Vars
import Derived.Handed
import Derived.ShutString
namespace Go.Proofs.YtppnecgeboonbaaGreatDoor
set_option maxRecDepth 100000
set_option linter.all false
def afG:=@Go.MakeChecks.laidMetH_plain
open Go.RowKit Go.ChangeShapes Go.Lib
def N8:Pinned.utf8First=firstData:=by kernel_rfl
def Fa:(Rows.laid_unicode_utf8_acceptRanges:DataW Unit)=acceptData:=by kernel_rfl
def VarReads.lt{P:Program}{w:World}{n:String}{d:DataW Unit}{g:Nat}(h:VarReads P w n d)(hg:P.globalNamed n=some g):g<w.heap.size:=by
 obtain⟨g',t,cs,fuel,p,hg',hty,hvar,hd⟩:=h;obtain rfl:=acp (hg.symm.trans hg');rcases aaz g w.heap.size with h'|h'
 ·exact h'
 ·unfold World.var? at hvar
  rw[hg',Option.bind_some,abY h']at hvar
  cases hvar
def Kz:(Rows.laid_internal_strconv_uint64pow10:DataW Unit)=tabData .u64 pow10Tab:=by kernel_rfl
def NK{w:World}(h:laidMetH Tryz.prog Rows.flagsNamesRow.laid w)(hsh:w.ShapedOpen Tryz.prog):fD w:=by
 rw[afG _ _ _ (by kernel_rfl)]at h;have m:∀n (d:DataW Unit),(n,d)∈(Rows.flagsNamesRow.laid:List (String×DataW Unit))->VarReads Tryz.prog w n d:=fun n d hm=>laidMet.reads h hm
 have r1:=m "unicode/utf8.first" Pinned.utf8First (by simp[Rows.flagsNamesRow,Rows.laid_unicode_utf8_first]);have r2:=m "unicode/utf8.acceptRanges" Rows.laid_unicode_utf8_acceptRanges (by simp[Rows.flagsNamesRow]);rw[N8]at r1;rw[Fa]at r2;have hlt:6<=w.heap.size:=VarReads.lt (m "math/bits.deBruijn64tab" Rows.laid_math_bits_deBruijn64tab (by simp[Rows.flagsNamesRow])) (show Tryz.prog.globalNamed "math/bits.deBruijn64tab" = some 5 by kernel_rfl);refine⟨⟨?_,hlt⟩,?_,?_⟩
 ·exact utf8Tabs_of_reads (ρ:=Tryz.lays197_ren) { Tryz.lays197 with } ⟨by kernel_rfl,by kernel_rfl,by kernel_rfl,by kernel_rfl,by kernel_rfl,by kernel_rfl,by kernel_rfl⟩ r1 r2
 ·have r:=m "internal/strconv.uint64pow10" Rows.laid_internal_strconv_uint64pow10 (by simp[Rows.flagsNamesRow])
  rw[Kz]at r;obtain⟨g,t,cs,fuel,p,hg,hty,hvar,hd⟩:=r;obtain rfl:=acp ((show Tryz.prog.globalNamed "internal/strconv.uint64pow10" = some 3 by kernel_rfl).symm.trans hg);obtain rfl:=acp ((show(Tryz.prog.globals[3]?).map (·.type)=some 265 by kernel_rfl).symm.trans hty);unfold Lib.TabIs;rw[hvar,<-cells_of_tab Tryz.underlying265 aed (by kernel_rfl) (by kernel_rfl) hd]
 ·exact Go.Proofs.cell_of_shapedOpen_int (zero:=#[.int .i64 0]) (t:=3) hsh (abp (by kernel_rfl)) (by kernel_rfl) rfl (by kernel_rfl) (by kernel_rfl) aaX
section
variable {H:Type} {enc:TypeId×Value->H} {W:World} {base:Nat} {spare:Nat->Bool} {held:Bool}
end
end Go.Proofs.YtppnecgeboonbaaGreatDoor
