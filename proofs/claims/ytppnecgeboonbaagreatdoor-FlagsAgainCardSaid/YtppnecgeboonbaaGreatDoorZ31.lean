/- Walks. -/
import Derived.Test.YtppnecgeboonbaaGreatDoorZ23
namespace Go.Proofs.YtppnecgeboonbaaGreatDoor
set_option maxRecDepth 100000
set_option linter.all false
set_option maxHeartbeats 4000000
open Go.RowKit
def L6(A B:Option Addr)(c d:Nat)(x y:List Int)(w:World)(hV:ay w A (x.map IV))(hW:ay w B (y.map IV))(hl:x.length<=140737488355328):Calls Tryz.prog 25 #[.slice A x.length c,.slice B y.length d] w fun e w'=>e=.returned (.bool (decide (x=y)))/\Below w w w':=by
 have HV:=Pd hV;have HW:=Pd hW;clear hV hW;by_cases hlen:x.length=y.length
 ·have t0:((x.length:Int) != (y.length:Int))=false:=by rw[hlen];simp
  have HL:=Pd hlen;obtain⟨n,hn⟩:∃n,n=y.length:=⟨_,rfl⟩;rw[<-hn]at t0 ⊢;have HN:=Pd hn;clear hlen hn;go_enter Tryz.func25,Tryz.ntmps25;go_wp2_with fail
  go_loopw [5] (fun i wr=>∃(k:Nat),i=.int .i64 k/\k<=x.length/\Hid (x.take k=y.take k)/\Below w w wr) (fun i _=>x.length-(intOf i).toNat)
  case atStart=>exact⟨0,rfl,by omega,by simp[Hid],aac _ _⟩
  case round=>
   obtain⟨k,rfl,hk,HT,hB⟩:=hrel;by_cases hlt:k<x.length
   ·have hlt2:k<y.length:=by rw[<-HL.out];exact hlt
    obtain⟨bx,ox,rfl,hbx,hx0⟩:=row_of HV.out hlt;obtain⟨by',oy,rfl,hby,hy0⟩:=row_of HW.out hlt2;have tx:=aau hlt;have ty:=aau hlt2;have HD:Hid (x[k]≠y[k]->decide (x=y)=false):=fun h=>aai (fun e=>by subst e;exact h rfl)
    have HS:Hid (x[k]=y[k]->x.take (k+1)=y.take (k+1)):=fun h=>by rw[tx,ty,HT.out,h]
    have il2:(k:Int)<(n:Int):=by rw[HN.out];omega
    clear tx ty;generalize x[k]=a at*;generalize y[k]=b at*;have k0:=(hB.cell (p:=⟨bx,ox+k,none⟩) hbx).trans hx0;have k1:=(hB.cell (p:=⟨by',oy+k,none⟩) hby).trans hy0;unfold IV at k0 k1;have i0:(0:Int)<=(k:Int):=by omega
    have il:(k:Int)<(x.length:Int):=(by omega);clear hx0 hy0;by_cases he:a=b
    ·have HX:=Pd (HS.out he)
     subst he;clear HD HS;go_wp2_with fail
     go_quiet (fail)
     go_wp2_with fail;go_roundw
     case rel=>exact⟨k+1,by go_num,by omega,HX,⟨hB.os,hB.tape,hB.output,hB.size,hB.block⟩⟩
     case measure=>simp[intOf];omega
    ·have HX:=Pd (HD.out he)
     have t1:(a != b)=true:=(by simpa using he);clear HD HS he;go_wp2_with fail
     go_quiet (fail)
     go_wp2_with fail;go_returns;exact⟨by rw[HX.out];(try rfl),⟨hB.os,hB.tape,hB.output,hB.size,hB.block⟩⟩
   ·obtain rfl:k=x.length:=by omega
    have HX:Hid (decide (x=y)=true):=by
     have:=HT.out;rw[aaJ,HL.out,aaJ]at this;exact aaA this
    go_wp2_with fail;go_returns;exact⟨by rw[HX.out];(try rfl),hB⟩
 ·have t0:((x.length:Int) != (y.length:Int))=true:=by simp only[bne_iff_ne,ne_eq];omega
  have HX:Hid (decide (x=y)=false):=aai (fun e=>hlen (by rw[e]));clear hlen;go_enter Tryz.func25,Tryz.ntmps25;go_wp2_with fail;go_returns;exact⟨by rw[HX.out];(try rfl),aac _ _⟩
end Go.Proofs.YtppnecgeboonbaaGreatDoor
