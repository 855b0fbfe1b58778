/- Walks. -/
import Derived.Test.YtppnecgeboonbaaGreatDoorZ12
namespace Go.Proofs.YtppnecgeboonbaaGreatDoor
set_option maxRecDepth 100000
set_option linter.all false
set_option maxHeartbeats 4000000
open Go.RowKit Go.Maps
def stepG(G:Nat)(hent:∀(xs:Array Value) (W:World),(callFunc G xs).run Tryz.prog W=.ok (.enter G xs) W)(d:Bool)(op:UInt8)(hop:jJ op=.func (.func G) #[] #[])(t v:ByteArray)(b k0:Nat)(T0:ByteArray)(k':Nat)(T':ByteArray)(bb:Bool)(R:World->Prop)(w:World)(hb:b<w.heap.size)
  (TG:∀W,W.heap[b]? = w.heap[b]?->(Instr.lookup 89 (.map (some b)) (.string t) false).run Tryz.prog W=.ok (au k0 T0) W)
  (hdo:∀W,Calls Tryz.prog G #[au k0 T0,.string v] W fun e w'=>e=.returned (.tuple #[au k' T',.bool bb])/\w'=if d=true then (two W k0 T0 k' T').drew else two W k0 T0 k' T')
  (hput:∀W,W.heap[b]? = w.heap[b]?->∃o,(Instr.mapUpdate 89 (.map (some b)) (.string t) (au k' T')).run Tryz.prog W=.ok () (aU W b o)/\R (aU W b o)) :
  Calls Tryz.prog 50 #[.map (some b),.agg #[.int .u8 op.toNat,.string t,.string v]] w (pY w b bb R):=by
 cases d
 all_goals
  simp only[afl,ac0,acf]at hdo;have cO:=fun W=>qj W
  obtain⟨nB,UO⟩:∃x,fA op=x:=⟨_,rfl⟩;obtain⟨mB,UN⟩:∃x,fw op=x:=⟨_,rfl⟩;have hl:∀(W:World) (b:Nat),W.heap[b]? = some (.map bH 6)->(Instr.lookup 125 (.map (some b)) (.int .u8 op.toNat) false).run Tryz.prog W=.ok (.agg #[.bool nB,.bool mB,.func (.func G) #[] #[]]) W:=fun W b h=>by
   rw[<-UO,<-UN,<-hop];exact rA W b (qm h) op
  have YM:=fun W=>qZ nB mB G W
  clear UO UN hop;go_enter Tryz.func50,Tryz.ntmps50;go_wp2_with fail;have k0':(w.alloc (.cells #[.int .u8 op.toNat,.string t,.string v] 24)).cell? ⟨w.heap.size,0,none⟩=some (.int .u8 op.toNat):=aJ w _ _ 0 _ rfl;have k1:(w.alloc (.cells #[.int .u8 op.toNat,.string t,.string v] 24)).cell? ⟨w.heap.size,1,none⟩=some (.string t):=aJ w _ _ 1 _ rfl;have k2:(w.alloc (.cells #[.int .u8 op.toNat,.string t,.string v] 24)).cell? ⟨w.heap.size,2,none⟩=some (.string v):=aJ w _ _ 2 _ rfl;have hb0:Below w w (w.alloc (.cells #[.int .u8 op.toNat,.string t,.string v] 24)):=(aac _ _).alloc (Pe _) _;have hlt:w.heap.size<(w.alloc (.cells #[.int .u8 op.toNat,.string t,.string v] 24)).heap.size:=by simp
  generalize w.alloc (.cells #[.int .u8 op.toNat,.string t,.string v] 24)=w0 at*;have hbw:b<w0.heap.size:=by omega
  have hat:w0.heap[b]? = w.heap[b]?:=hb0.block b hb;have hlk:∀wx,Below w0 w0 wx->(Instr.lookup 89 (.map (some b)) (.string t) false).run Tryz.prog wx=.ok (au k0 T0) wx:=fun wx h=>TG wx ((kN hbw h).trans hat)
  have mk:=TD (op:=op) (t:=t) (v:=v) (b:=b) (k0:=k0) (T0:=T0) hlt k0' k1 k2 hlk;have kD:∀wx,NP w w0 op t v b k0 T0 wx->NP w w0 op t v b k0 T0 wx.drew:=fun wx h=>mk _ h.2.2.2.2.drew
  have kA:∀wx o,NP w w0 op t v b k0 T0 wx->NP w w0 op t v b k0 T0 (wx.alloc o):=fun wx o h=>mk _ (h.2.2.2.2.alloc h.2.2.2.2.size o)
  have kC:∀wx a u,w0.heap.size<=a.block->NP w w0 op t v b k0 T0 wx->NP w w0 op t v b k0 T0 (wx.setCell a u):=fun wx a u ha h=>mk _ (h.2.2.2.2.setCell ha u)
  have kT:∀wx,NP w w0 op t v b k0 T0 wx->NP w w0 op t v b k0 T0 (two wx k0 T0 k' T'):=fun wx h=>mk _ (h.2.2.2.2.trans ((rY wx k0 T0 k' T').mono h.2.2.2.2.size))
  have z0:=mk _ (aac w0.heap.size w0);have g1:=hl ((w0.alloc (.map bH 6)).drew) w0.heap.size (gQ w0 _);have g2:=hl (((w0.alloc (.map bH 6)).alloc (.cells #[.int .i64 0,.string ⟨#[]⟩] 141)).drew) w0.heap.size (qh (((aac _ _).alloc (Pe _) _).drew) (gQ w0 _));have g3:=hl (((w0.alloc (.cells #[.int .i64 0,.string ⟨#[]⟩] 141)).alloc (.map bH 6)).drew) (w0.heap.size+1) (show((w0.alloc (.cells #[.int .i64 0,.string ⟨#[]⟩] 141)).alloc (.map bH 6)).heap[w0.heap.size+1]? = _ by have:=gQ (w0.alloc (.cells #[.int .i64 0,.string ⟨#[]⟩] 141)) (.map bH 6);simpa using this);clear hl hlk mk;go_cut [5,6] (fun p ok wx=>∃x,p=.pointer (some ⟨x,0,none⟩)/\ok=.bool bb/\wx.cell? ⟨x,0,none⟩=some (.int .i64 k')/\wx.cell? ⟨x,1,none⟩=some (.string T')/\Below w0 w0 wx)
  case first=>
   clear hput
   go_region_held3 (fun w'=>NP w w0 op t v b k0 T0 w')
    (repeat' (first|assumption|exact z0|refine kD _ ?_|refine kA _ _ ?_|refine kT _ ?_|refine kC _ _ _ (by simp) ?_))
    (first|(go_at_call 70;refine(cO _).mono ?_;rintro e w1 ⟨rfl,rfl⟩)|(refine(hdo _).mono ?_;rintro e w1 ⟨rfl,rfl⟩))
   all_goals
    go_wp2_with fail
    go_meet
    refine⟨_,rfl,rfl,by simp[go_sem],by simp[go_sem],?_⟩
    repeat' (first|exact aac _ _|refine Below.drew ?_|refine aff ?_ (by simp<;>omega) _)
  case rest=>
   obtain⟨x,rfl,rfl,hx0,hx1,hB⟩:=hcut;have j1:=(hB.cell (p:=⟨w.heap.size,1,none⟩) hlt).trans k1;obtain⟨o,ho,hR⟩:=hput wc ((kN hbw hB).trans hat);have HR:=Pd hR;have hBw:Below w w wc:=hb0.trans (hB.mono hb0.size);clear hR hput hdo TG k0' k1 k2 kA kC kD kT z0 g1 g2 g3 cO
   cases bb with
   |true=>
    go_wp2_with fail;go_returns;exact⟨rfl,iN.set hb hBw o,fun _=>HR.out⟩
   |false=>
    go_wp2_with fail;go_returns;exact⟨rfl,iN.of_below hb hBw,fun h=>by cases h⟩
end Go.Proofs.YtppnecgeboonbaaGreatDoor
