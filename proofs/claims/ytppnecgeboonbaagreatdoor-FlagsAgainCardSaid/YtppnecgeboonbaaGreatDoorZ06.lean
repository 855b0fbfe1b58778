/- Walks. -/
import Derived.Test.YtppnecgeboonbaaGreatDoorZ05
namespace Go.Proofs.YtppnecgeboonbaaGreatDoor
set_option maxRecDepth 100000
set_option linter.all false
set_option maxHeartbeats 4000000
open Go.RowKit Go.Maps
def zl(op:UInt8)(t v:ByteArray)(w:World)(hT:bK w):Calls Tryz.prog 37 #[.agg #[.int .u8 op.toNat,.string t,.string v]] w fun e w'=>e=.returned (.string ⟨(iP ⟨op,t.data.toList,v.data.toList⟩).toArray⟩)/\Below w w w':=by
 have cO:=fun W=>qj W
 have hl:∀(W:World) (b:Nat),W.heap[b]? = some (.map bH 6)->_:=fun W b h=>J2 W b (qm h) op
 obtain⟨nB,UO⟩:∃x,fA op=x:=⟨_,rfl⟩;obtain⟨mB,UN⟩:∃x,fw op=x:=⟨_,rfl⟩;obtain⟨kB,hkB⟩:∃x,eD op=x:=⟨_,rfl⟩;rw[UO,UN,hkB]at hl;have Xa:(jJ op).oneCell'=true:=by
  rcases JX op with e|⟨k,e⟩<;>rw[e]<;>rfl
 generalize jJ op=fv at hl Xa;have hst:=fun a W m=>run_store Tryz.prog W a fv m Xa
 go_enter Tryz.func37,Tryz.ntmps37;go_wp2_with fail;have k0:(w.alloc (.cells #[.int .u8 op.toNat,.string t,.string v] 24)).cell? ⟨w.heap.size,0,none⟩=some (.int .u8 op.toNat):=aJ w _ _ 0 _ rfl;have k1:(w.alloc (.cells #[.int .u8 op.toNat,.string t,.string v] 24)).cell? ⟨w.heap.size,1,none⟩=some (.string t):=aJ w _ _ 1 _ rfl;have k2:(w.alloc (.cells #[.int .u8 op.toNat,.string t,.string v] 24)).cell? ⟨w.heap.size,2,none⟩=some (.string v):=aJ w _ _ 2 _ rfl;have hb0:Below w w (w.alloc (.cells #[.int .u8 op.toNat,.string t,.string v] 24)):=(aac _ _).alloc (Pe _) _;have hlt:w.heap.size<(w.alloc (.cells #[.int .u8 op.toNat,.string t,.string v] 24)).heap.size:=by simp
 generalize w.alloc (.cells #[.int .u8 op.toNat,.string t,.string v] 24)=w0 at*;have k00:w0.cell? ⟨w.heap.size,0,none⟩=some (.int .u8 op.toNat)/\Below w0 w0 w0:=⟨k0,aac _ _⟩;have k0A:=fun o=>(Bh (o:=o) k00).1
 have k0D:=(keepD k00).1;have k0DA:=fun o=>(Bh (o:=o) (keepD k00)).1
 have g1:(Instr.lookup 125 (.map (some w0.heap.size)) (.int .u8 op.toNat) true).run Tryz.prog ((w0.alloc (.map bH 6)).drew)=.ok (.tuple #[.agg #[.bool nB,.bool mB,fv],.bool kB]) ((w0.alloc (.map bH 6)).drew):=hl _ _ (gQ w0 _);have g2:(Instr.lookup 125 (.map (some w0.heap.size)) (.int .u8 op.toNat) true).run Tryz.prog (((w0.alloc (.map bH 6)).alloc (.cells #[.bool false,.bool false,.nilFunc] 123)).drew)=.ok (.tuple #[.agg #[.bool nB,.bool mB,fv],.bool kB]) (((w0.alloc (.map bH 6)).alloc (.cells #[.bool false,.bool false,.nilFunc] 123)).drew):=hl _ _ (qh (((aac _ _).alloc (Pe _) _).drew) (gQ w0 _));have g3:(Instr.lookup 125 (.map (some (w0.heap.size+1))) (.int .u8 op.toNat) true).run Tryz.prog (((w0.alloc (.cells #[.bool false,.bool false,.nilFunc] 123)).alloc (.map bH 6)).drew)=.ok (.tuple #[.agg #[.bool nB,.bool mB,fv],.bool kB]) (((w0.alloc (.cells #[.bool false,.bool false,.nilFunc] 123)).alloc (.map bH 6)).drew):=hl _ _ (show((w0.alloc (.cells #[.bool false,.bool false,.nilFunc] 123)).alloc (.map bH 6)).heap[w0.heap.size+1]? = _ by have:=gQ (w0.alloc (.cells #[.bool false,.bool false,.nilFunc] 123)) (.map bH 6);simpa using this);go_cut [3,4] (fun p ok wx=>∃x,p=.pointer (some ⟨x,0,none⟩)/\ok=.bool kB/\wx.cell? ⟨x,0,none⟩=some (.bool nB)/\wx.cell? ⟨x,1,none⟩=some (.bool mB)/\Below w0 w0 wx)
 case first=>
  go_region_with (go_at_call 70;refine(cO _).mono ?_;rintro e w1 ⟨rfl,rfl⟩)
  all_goals
   go_wp2_with fail
   go_meet
   first
    |exact⟨_,rfl,rfl,zP w0 _ _ _ 0 _ rfl,zP w0 _ _ _ 1 _ rfl,zK w0 _ _⟩
    |exact⟨_,rfl,rfl,zQ w0 _ _ _ 0 _ rfl,zQ w0 _ _ _ 1 _ rfl,zK w0 _ _⟩
 case rest=>
  obtain⟨x,rfl,rfl,hx0,hx1,hB⟩:=hcut;have j0:=(hB.cell (p:=⟨w.heap.size,0,none⟩) hlt).trans k0;have j1:=(hB.cell (p:=⟨w.heap.size,1,none⟩) hlt).trans k1;have j2:=(hB.cell (p:=⟨w.heap.size,2,none⟩) hlt).trans k2;have U9:Below w w wc:=hb0.trans (hB.mono hb0.size);have hTc:=hT.below U9;have hxl:x<wc.heap.size:=ax hx0;have hwl:w.heap.size<wc.heap.size:=aah hlt hB.size;have p1:=fun W hW=>CP t W hW
  have p2:=fun W hW=>CP v W hW
  obtain⟨b1,hb1⟩:∃y,dM t.data.toList=y:=⟨_,rfl⟩;obtain⟨b2,hb2⟩:∃y,dM v.data.toList=y:=⟨_,rfl⟩;have HW:Hid (iP ⟨op,t.data.toList,v.data.toList⟩=if (kB&&b1&&(if v.size=0 then !nB else mB&&b2))=true then bU ⟨op,t.data.toList,v.data.toList⟩ else []):=by
   unfold Hid iP jE;simp only[];rw[hkB,hb1,UO,UN,hb2];by_cases hv0:v.size=0
   ·rw[aaa hv0,aaa (fF hv0)]
   ·rw[aab hv0,aab (gB hv0)]
  have ht1:b1=true->t.size<=16384:=fun h=>CQ (hb1.trans h)
  have hv1:b2=true->v.size<=16384:=fun h=>CQ (hb2.trans h)
  rw[hb1]at p1;rw[hb2]at p2;have HT1:=Pd ht1;have HV1:=Pd hv1;clear ht1 hv1 hb1 hb2 hkB UO UN hst Xa hl cO k0 k1 k2 k00 k0A k0D k0DA g1 g2 g3 hb0 hlt hB;obtain⟨Y,hY⟩:∃Y:ByteArray,(⟨#[op]⟩:ByteArray)=Y:=⟨_,rfl⟩;have hYs:Y.size=1:=by rw[<-hY];rfl
  have hYd:Y.data.toList=[op]:=by rw[<-hY]
  have hcv:=fun W=>Ab op W
  rw[hY]at hcv;clear hY
  cases kB with
  |false=>
   go_wp2_with fail;go_returns;exact⟨by rw[HW.out];rfl,U9⟩
  |true=>
   cases b1 with
   |false=>
    go_wp2_with fail;refine(p1 _ hTc).mono ?_;rintro e w2 ⟨rfl,bb2⟩;go_wp2_with fail;go_returns;exact⟨by rw[HW.out];rfl,ae U9 bb2⟩
   |true=>
    go_wp2_with fail;refine(p1 _ hTc).mono ?_;rintro e w2 ⟨rfl,bb2⟩;have hx0':=(bb2.cell (p:=⟨x,0,none⟩) hxl).trans hx0;have hx1':=(bb2.cell (p:=⟨x,1,none⟩) hxl).trans hx1;have j0':=(bb2.cell (p:=⟨w.heap.size,0,none⟩) hwl).trans j0;have j1':=(bb2.cell (p:=⟨w.heap.size,1,none⟩) hwl).trans j1;have j2':=(bb2.cell (p:=⟨w.heap.size,2,none⟩) hwl).trans j2;have hB2:=ae U9 bb2;by_cases hv0:v.size=0
    ·have hem:=jF hv0
     cases nB with
     |true=>
      go_wp2_with fail;go_returns;exact⟨by rw[HW.out,aaa hv0];rfl,hB2⟩
     |false=>
      have hsz:=HT1.out (by simp);have Xx:=hcv w2;have bA:=(aac w2.heap.size w2).alloc (Pe _) (.cells #[.int .u8 op.toNat] 5);have j1A:=(bA.cell (p:=⟨w.heap.size,1,none⟩) (ax j1')).trans j1';have j2A:=(bA.cell (p:=⟨w.heap.size,2,none⟩) (ax j2')).trans j2';go_wp2_with fail;go_returns;refine⟨?_,ae hB2 bA⟩;rw[HW.out,aaa hv0,aaa (by rfl)];refine uD ?_;show _=bU _;unfold bU gZ;rw[aaa (fF hv0)];simp[hYd]
    ·have hem:=jI hv0
     cases mB with
     |false=>
      go_wp2_with fail;go_returns;exact⟨by rw[HW.out,aab hv0];rfl,hB2⟩
     |true=>
      go_wp2_with fail;refine(p2 _ (hT.below hB2)).mono ?_;rintro e w3 ⟨rfl,bb3⟩;have hB3:=ae hB2 bb3
      cases b2 with
      |false=>
       go_wp2_with fail;go_returns;exact⟨by rw[HW.out,aab hv0];rfl,hB3⟩
      |true=>
       have hsz:=HT1.out (by simp);have hsv:=HV1.out (by simp);have Xx:=hcv w3;have bA:=(aac w3.heap.size w3).alloc (Pe _) (.cells #[.int .u8 op.toNat] 5);have j0'':=(bb3.cell (p:=⟨w.heap.size,0,none⟩) (ax j0')).trans j0';have j1'':=(bb3.cell (p:=⟨w.heap.size,1,none⟩) (ax j1')).trans j1';have j2'':=(bb3.cell (p:=⟨w.heap.size,2,none⟩) (ax j2')).trans j2';have j1A:=(bA.cell (p:=⟨w.heap.size,1,none⟩) (ax j1'')).trans j1'';have j2A:=(bA.cell (p:=⟨w.heap.size,2,none⟩) (ax j2'')).trans j2'';go_wp2_with fail;go_returns;refine⟨?_,ae hB3 bA⟩;rw[HW.out,aab hv0,aaa (by rfl)];refine uD ?_;show _=bU _;unfold bU gZ;rw[aab (gB hv0)];simp[hYd]
end Go.Proofs.YtppnecgeboonbaaGreatDoor
