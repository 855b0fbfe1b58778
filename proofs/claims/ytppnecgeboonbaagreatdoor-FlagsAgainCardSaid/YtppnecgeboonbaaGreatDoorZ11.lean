/- Walks. -/
import Derived.Test.YtppnecgeboonbaaGreatDoorZ09
namespace Go.Proofs.YtppnecgeboonbaaGreatDoor
set_option maxRecDepth 100000
set_option linter.all false
set_option maxHeartbeats 1000000
open Go.RowKit Go.Maps
abbrev au(k:Nat)(T:ByteArray):Value:=.agg #[.int .i64 k,.string T]
def eu(m:eU)(op:UInt8)(v:Bs):eU×Bool:=
 if op=80 then (⟨1,v⟩,true)
 else if op=78 then (⟨2,v⟩,true)
 else if op=67 then (iF,true)
 else if op=82 then (m,if v=[] then decide (m.kind≠0) else decide (m=⟨1,v⟩))
 else if op=68 then (m,if v=[] then decide (m.kind=0) else decide (m≠⟨1,v⟩))
 else (⟨1,v⟩,decide (m.kind=0\/(m.kind=1/\m.of=v)\/(m.kind=2/\m.of≠v)))
def Nk(m:eU)(op:UInt8)(v:Bs):jZ m op v=if (eu m op v).2=true then some (eu m op v).1 else none:=by
 unfold jZ eu
 split
 ·simp
 split
 ·simp
 split
 ·simp
 split
 ·by_cases h:v=[]<;>simp[h]
 split
 ·by_cases h:v=[]<;>simp[h]
 ·simp
abbrev two(w:World)(k:Nat)(T:ByteArray)(j:Nat)(U:ByteArray):World:=(w.alloc (.cells #[.int .i64 k,.string T] 141)).alloc (.cells #[.int .i64 j,.string U] 141)
def rY(w:World)(k:Nat)(T:ByteArray)(j:Nat)(U:ByteArray):Below w w (two w k T j U):=((aac _ _).alloc (Pe _) _).alloc (by simp) _
abbrev qF(d:Bool)(w:World)(k0:Nat)(T0:ByteArray)(k:Nat)(T:ByteArray)(b:Bool)(e:Ending)(w':World):Prop:=e=.returned (.tuple #[au k T,.bool b])/\w'=if d=true then (two w k0 T0 k T).drew else two w k0 T0 k T
def Gy(k:Nat)(T v:ByteArray)(w:World):Calls Tryz.prog 92 #[au k T,.string v] w (qF false w k T 1 v true):=by
 go_enter Tryz.func92,Tryz.ntmps92;go_wp2_with fail;exact aaD (by simp[results,Tryz.results92,go_sem];try rfl) rfl ⟨rfl,rfl⟩
def Gx(k:Nat)(T v:ByteArray)(w:World):Calls Tryz.prog 93 #[au k T,.string v] w (qF false w k T 2 v true):=by
 go_enter Tryz.func93,Tryz.ntmps93;go_wp2_with fail;exact aaD (by simp[results,Tryz.results93,go_sem];try rfl) rfl ⟨rfl,rfl⟩
def Gv(k:Nat)(T v:ByteArray)(w:World):Calls Tryz.prog 94 #[au k T,.string v] w (qF false w k T 0 ⟨#[]⟩ true):=by
 go_enter Tryz.func94,Tryz.ntmps94;go_wp2_with fail;exact aaD (by simp[results,Tryz.results94,go_sem];try rfl) rfl ⟨rfl,rfl⟩
def Gz(k:Nat)(T v:ByteArray)(w:World):Calls Tryz.prog 95 #[au k T,.string v] w (qF true w k T k T (if v.size=0 then decide (k≠0) else decide (k=1/\T.data.toList=v.data.toList))):=by
 obtain⟨B,hB⟩:∃B,(if v.size=0 then decide (k≠0) else decide (k=1/\T.data.toList=v.data.toList))=B:=⟨_,rfl⟩;rw[hB];replace hB:=hB.symm;by_cases hv:v.size=0
 ·have hem:=jF hv
  rw[aaa hv]at hB;by_cases h0:k=0
  ·subst h0
   replace hB:B=false:=hB.trans (by simp);go_enter afi,ae1;go_wp2_with fail
   go_region
   go_wp2_with fail;exact aaD (by simp[results,aei,go_sem];try rfl) rfl ⟨by subst hB;rfl,rfl⟩
  ·have hk:((k:Int) != 0)=true:=by simpa using h0
   have hk':((k:Int)==0)=false:=by simpa using h0
   replace hB:B=true:=hB.trans (by simpa using h0);clear h0;go_enter afi,ae1;go_wp2_with fail
   go_region
   go_wp2_with fail;exact aaD (by simp[results,aei,go_sem];try rfl) rfl ⟨by subst hB;rfl,rfl⟩
 ·have hem:=jI hv
  rw[aab hv]at hB;by_cases h1:k=1
  ·subst h1
   by_cases hT:T.data.toList=v.data.toList
   ·have hT':T.toList=v.toList:=by rw[aan,aan,hT]
    replace hB:B=true:=hB.trans (by simp[hT]);go_enter afi,ae1;go_wp2_with fail
    go_region
    go_wp2_with fail;exact aaD (by simp[results,aei,go_sem];try rfl) rfl ⟨by subst hB;rfl,rfl⟩
   ·have hT':¬ T.toList=v.toList:=by rw[aan,aan];exact hT
    replace hB:B=false:=hB.trans (by simp[hT]);go_enter afi,ae1;go_wp2_with fail
    go_region
    go_wp2_with fail;exact aaD (by simp[results,aei,go_sem];try rfl) rfl ⟨by subst hB;rfl,rfl⟩
  ·have hk:¬ (k:Int)=1:=by omega
   replace hB:B=false:=hB.trans (by simp[h1]);clear h1;go_enter afi,ae1;go_wp2_with fail
   go_region
   go_wp2_with fail;exact aaD (by simp[results,aei,go_sem];try rfl) rfl ⟨by subst hB;rfl,rfl⟩
def Gw(k:Nat)(T v:ByteArray)(w:World):Calls Tryz.prog 96 #[au k T,.string v] w (qF true w k T k T (if v.size=0 then decide (k=0) else decide (¬ (k=1/\T.data.toList=v.data.toList)))):=by
 obtain⟨B,hB⟩:∃B,(if v.size=0 then decide (k=0) else decide (¬ (k=1/\T.data.toList=v.data.toList)))=B:=⟨_,rfl⟩;rw[hB];replace hB:=hB.symm;by_cases hv:v.size=0
 ·have hem:=jF hv
  rw[aaa hv]at hB;by_cases h0:k=0
  ·subst h0
   replace hB:B=true:=hB.trans (by simp);go_enter afj,ae2;go_wp2_with fail
   go_region
   go_wp2_with fail;exact aaD (by simp[results,aej,go_sem];try rfl) rfl ⟨by subst hB;rfl,rfl⟩
  ·have hk:((k:Int) != 0)=true:=by simpa using h0
   have hk':((k:Int)==0)=false:=by simpa using h0
   replace hB:B=false:=hB.trans (by simpa using h0);clear h0;go_enter afj,ae2;go_wp2_with fail
   go_region
   go_wp2_with fail;exact aaD (by simp[results,aej,go_sem];try rfl) rfl ⟨by subst hB;rfl,rfl⟩
 ·have hem:=jI hv
  rw[aab hv]at hB;by_cases h1:k=1
  ·subst h1
   by_cases hT:T.data.toList=v.data.toList
   ·have hT':T.toList=v.toList:=by rw[aan,aan,hT]
    replace hB:B=false:=hB.trans (by simp[hT]);go_enter afj,ae2;go_wp2_with fail
    go_region
    go_wp2_with fail;exact aaD (by simp[results,aej,go_sem];try rfl) rfl ⟨by subst hB;rfl,rfl⟩
   ·have hT':¬ T.toList=v.toList:=by rw[aan,aan];exact hT
    replace hB:B=true:=hB.trans (by simp[hT]);go_enter afj,ae2;go_wp2_with fail
    go_region
    go_wp2_with fail;exact aaD (by simp[results,aej,go_sem];try rfl) rfl ⟨by subst hB;rfl,rfl⟩
  ·have hk:¬ (k:Int)=1:=by omega
   replace hB:B=true:=hB.trans (by simp[h1]);clear h1;go_enter afj,ae2;go_wp2_with fail
   go_region
   go_wp2_with fail;exact aaD (by simp[results,aej,go_sem];try rfl) rfl ⟨by subst hB;rfl,rfl⟩
def GA(k:Nat)(T v:ByteArray)(w:World):Calls Tryz.prog 97 #[au k T,.string v] w (qF false w k T 1 v (decide (k=0\/(k=1/\T.data.toList=v.data.toList)\/(k=2/\T.data.toList≠v.data.toList)))):=by
 obtain⟨B,hB⟩:∃B,decide (k=0\/(k=1/\T.data.toList=v.data.toList)\/(k=2/\T.data.toList≠v.data.toList))=B:=⟨_,rfl⟩;rw[hB];replace hB:=hB.symm;by_cases h0:k=0
 ·subst h0
  replace hB:B=true:=hB.trans (by simp);go_enter aeA,aeb;go_wp2_with fail;exact aaD (by simp[results,adJ,go_sem];try rfl) rfl ⟨by subst hB;rfl,rfl⟩
 by_cases h1:k=1
 ·subst h1
  by_cases hT:T.data.toList=v.data.toList
  ·have hT':(T.toList==v.toList)=true:=by rw[aan,aan,hT,ack]
   have Zr:(T.toList != v.toList)=false:=by rw[bne,hT'];rfl
   replace hB:B=true:=hB.trans (by simp[hT]);go_enter aeA,aeb;go_wp2_with fail;exact aaD (by simp[results,adJ,go_sem];try rfl) rfl ⟨by subst hB;rfl,rfl⟩
  ·have hT':(T.toList==v.toList)=false:=by rw[aan,aan];simpa using hT
   have Zr:(T.toList != v.toList)=true:=by rw[bne,hT'];rfl
   replace hB:B=false:=hB.trans (by simp[hT]);go_enter aeA,aeb;go_wp2_with fail;exact aaD (by simp[results,adJ,go_sem];try rfl) rfl ⟨by subst hB;rfl,rfl⟩
 by_cases h2:k=2
 ·subst h2
  by_cases hT:T.data.toList=v.data.toList
  ·have hT':(T.toList==v.toList)=true:=by rw[aan,aan,hT,ack]
   have Zr:(T.toList != v.toList)=false:=by rw[bne,hT'];rfl
   replace hB:B=false:=hB.trans (by simp[hT]);go_enter aeA,aeb;go_wp2_with fail;exact aaD (by simp[results,adJ,go_sem];try rfl) rfl ⟨by subst hB;rfl,rfl⟩
  ·have hT':(T.toList==v.toList)=false:=by rw[aan,aan];simpa using hT
   have Zr:(T.toList != v.toList)=true:=by rw[bne,hT'];rfl
   replace hB:B=true:=hB.trans (by simp[hT]);go_enter aeA,aeb;go_wp2_with fail;exact aaD (by simp[results,adJ,go_sem];try rfl) rfl ⟨by subst hB;rfl,rfl⟩
 have k0:((k:Int)==0)=false:=by simpa using h0
 have k1:((k:Int)==1)=false:=by simp;omega
 have k2:((k:Int)==2)=false:=by simp;omega
 replace hB:B=false:=hB.trans (by simp[h0,h1,h2]);go_enter aeA,aeb;go_wp2_with fail;exact aaD (by simp[results,adJ,go_sem];try rfl) rfl ⟨by subst hB;rfl,rfl⟩
end Go.Proofs.YtppnecgeboonbaaGreatDoor
