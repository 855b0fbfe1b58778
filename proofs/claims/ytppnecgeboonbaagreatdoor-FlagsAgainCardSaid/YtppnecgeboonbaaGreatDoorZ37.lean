/- Walks. -/
import Derived.Deep.WholeRow
import Derived.Test.YtppnecgeboonbaaGreatDoorZ20
namespace Go.Proofs.YtppnecgeboonbaaGreatDoor
set_option maxRecDepth 100000
set_option linter.all false
set_option maxHeartbeats 4000000
open Go.RowKit
def vP(s:Int)(w:World):Calls Tryz.prog 73 #[.int .i64 s] w fun e w'=>e=.returned (.bool (aBU s))/\w=w':=by
 have HX:Hid (aBU s=(decide (0<=s)&&decide (s<=500))):=rfl;go_enter Tryz.func73,Tryz.ntmps73;by_cases h1:0<=s
 ·by_cases h3:s<=500
  ·have HY:Hid (aBU s=true):=by rw[Hid,HX.out];simp[h1,h3]
   go_wp2_with fail;go_returns;exact⟨by rw[HY.out];(try rfl),rfl⟩
  ·have HY:Hid (aBU s=false):=by rw[Hid,HX.out];simp[h3]
   have g3:500<s:=(by omega);go_wp2_with fail;go_returns;exact⟨by rw[HY.out];(try rfl),rfl⟩
 ·have HY:Hid (aBU s=false):=by rw[Hid,HX.out];simp[h1]
  have g1:s<0:=by omega
  go_wp2_with fail;go_returns;exact⟨by rw[HY.out];(try rfl),rfl⟩
abbrev aG(f:Nat):Value:=.func (.func f) #[] #[]
abbrev yJ:Value:=.agg #[.string ⟨#[]⟩,.string ⟨#[]⟩,.bool false,.nilFunc,.nilFunc,.nilFunc,.nilFunc,.nilFunc]
abbrev uE:Value:=.agg #[.string ⟨#[105,110,102]⟩,.string ⟨#[48]⟩,.bool true,aG 140,aG 141,aG 142,aG 143,aG 143]
abbrev uF:Value:=.agg #[.string ⟨#[48]⟩,.string ⟨#[49]⟩,.bool false,aG 144,aG 145,aG 146,aG 147,aG 148]
abbrev uG:Value:=.agg #[.string ⟨#[48]⟩,.string ⟨#[49]⟩,.bool false,aG 140,aG 145,aG 149,aG 147,aG 148]
abbrev nk:Array Value:=#[.string ⟨#[]⟩,.string ⟨#[]⟩,.bool false,.nilFunc,.nilFunc,.nilFunc,.nilFunc,.nilFunc,
 .string ⟨#[105,110,102]⟩,.string ⟨#[48]⟩,.bool true,aG 140,aG 141,aG 142,aG 143,aG 143,
 .string ⟨#[48]⟩,.string ⟨#[49]⟩,.bool false,aG 144,aG 145,aG 146,aG 147,aG 148,
 .string ⟨#[48]⟩,.string ⟨#[49]⟩,.bool false,aG 140,aG 145,aG 149,aG 147,aG 148]
abbrev Dx:Array Value:=#[.string ⟨#[]⟩,.string ⟨#[]⟩,.bool false,.nilFunc,.nilFunc,.nilFunc,.nilFunc,.nilFunc,
 .string ⟨#[]⟩,.string ⟨#[]⟩,.bool false,.nilFunc,.nilFunc,.nilFunc,.nilFunc,.nilFunc,
 .string ⟨#[]⟩,.string ⟨#[]⟩,.bool false,.nilFunc,.nilFunc,.nilFunc,.nilFunc,.nilFunc,
 .string ⟨#[]⟩,.string ⟨#[]⟩,.bool false,.nilFunc,.nilFunc,.nilFunc,.nilFunc,.nilFunc]
def Lr(W:World):(Instr.build 162 #[(0,.string ⟨#[105,110,102]⟩),(1,.string ⟨#[48]⟩),(2,.bool true),(3,aG 140),(4,aG 141),(5,aG 142),(6,aG 143),(7,aG 143)]).run Tryz.prog W=.ok uE W:=run_build W 162 _ _ (by kernel_rfl)
def Ls(W:World):(Instr.build 162 #[(0,.string ⟨#[48]⟩),(1,.string ⟨#[49]⟩),(2,.bool false),(3,aG 144),(4,aG 145),(5,aG 146),(6,aG 147),(7,aG 148)]).run Tryz.prog W=.ok uF W:=run_build W 162 _ _ (by kernel_rfl)
def Lt(W:World):(Instr.build 162 #[(0,.string ⟨#[48]⟩),(1,.string ⟨#[49]⟩),(2,.bool false),(3,aG 140),(4,aG 145),(5,aG 149),(6,aG 147),(7,aG 148)]).run Tryz.prog W=.ok uG W:=run_build W 162 _ _ (by kernel_rfl)
def Lu(W:World):(Instr.build 179 #[(1,uE),(2,uF),(3,uG)]).run Tryz.prog W=.ok (.agg nk) W:=run_build W 179 _ _ (by kernel_rfl)
def Lj{P:Program}{fn:Func}{tmps:Array Value}{w:World}{x:Nat}{t:TypeId}{p:Addr}{v:Value}(hr:fn.results=#[.cell x t])(ha:tmps.getD x undef=.pointer (some p))(hl:(loadVar t p).run P w=.ok v w):(results fn tmps).run P w=.ok v w:=by
 have e:results fn tmps=(do let p <-asAddr (tmps.getD x undef);let v <-loadVar t p;pure v):=by
  simp[results,hr]
 rw[e,ha];simp only[asAddr,Sem.run_bind,Sem.run_pure,Result.andThen,hl]
def M5{P:Program}{o:Oper}{a:Act}{w w':World}{next:Act->World->Prop}{Q:Exit->Act->World->Prop}(h:(execOp a.eval o).run P w=.ok .skip w')(hn:next (a.put o.dst undef) w'):Oper.wp P o a w next Q:=by
 unfold Oper.wp;rw[h];exact hn
def LC(w:World):Calls Tryz.prog 117 #[] w fun e w'=>e=.returned (.agg nk)/\Below w w w':=by
 have h1:=run_storeAt_new (P:=Tryz.prog) w 179 Dx nk (by kernel_rfl) rfl (by kernel_rfl);have hb0:Below w w (w.alloc (.cells nk 179)):=(aac _ _).alloc (Pe _) _;have h3:=run_loadVar_new (P:=Tryz.prog) w 179 nk 4 162 Tryz.underlying179 (by kernel_rfl);have g1:=Lr;have g2:=Ls;have g3:=Lt;have g4:=Lu;go_enter Tryz.func117,Tryz.ntmps117;iterate 24 (first|go_values|go_skip|go_guarded|go_step|go_upon|go_back|go_simp)
 refine M5 (w':=w.alloc (.cells nk 179)) ?_ ?_
 ·show((do Instr.storeAt 179 (.pointer (some ⟨w.heap.size,0,none⟩)) (.agg nk);pure Next.skip:Sem Next)).run Tryz.prog (w.alloc (.cells Dx 179))=_
  rw[Sem.run_bind,h1]
  rfl
 go_wp2_with fail;exact aaD (Lj (x:=0) (t:=179) (p:=⟨w.heap.size,0,none⟩) rfl rfl h3) rfl ⟨rfl,hb0⟩
abbrev iA:Array Value:=#[.string ⟨#[]⟩,.string ⟨#[]⟩,.bool false,.nilFunc,.nilFunc,.nilFunc,.nilFunc,.nilFunc]
def o8(k:Int):Value:=if k=1 then uE else if k=2 then uF else if k=3 then uG else yJ
def Lv(W:World):(Instr.index 179 (.agg nk) (.int .i64 1)).run Tryz.prog W=.ok uE W:=by kernel_rfl
def Lx(W:World):(Instr.index 179 (.agg nk) (.int .i64 2)).run Tryz.prog W=.ok uF W:=by kernel_rfl
def LA(W:World):(Instr.index 179 (.agg nk) (.int .i64 3)).run Tryz.prog W=.ok uG W:=by kernel_rfl
def JQ(k:Int)(w:World):Calls Tryz.prog 100 #[.int .i64 k] w fun e w'=>e=.returned (.tuple #[o8 k,.bool (kindOk k)])/\Below w w w':=by
 have hb0:Below w w (w.alloc (.cells iA 162)):=(aac _ _).alloc (Pe _) _;have hn0:w.heap.size<(w.alloc (.cells iA 162)).heap.size:=by simp
 have p1:=LC (w.alloc (.cells iA 162));have c0:=az w iA 162 0 _ rfl;have c1:=az w iA 162 1 _ rfl;have c2:=az w iA 162 2 _ rfl;have c3:=az w iA 162 3 _ rfl;have c4:=az w iA 162 4 _ rfl;have c5:=az w iA 162 5 _ rfl;have c6:=az w iA 162 6 _ rfl;have c7:=az w iA 162 7 _ rfl;have f0:=nO w iA 162 0;have f1:=nO w iA 162 1;have f2:=nO w iA 162 2;have f3:=nO w iA 162 3;have f4:=nO w iA 162 4;have f5:=nO w iA 162 5;have f6:=nO w iA 162 6;have f7:=nO w iA 162 7;by_cases h1:k=1
 ·subst h1
  go_enter aeW,aeE;go_wp2_with fail;refine p1.mono ?_;rintro e w1 ⟨rfl,b1⟩;have d0:=(b1.cell (p:=⟨w.heap.size,0,none⟩) hn0).trans c0;have d1:=(b1.cell (p:=⟨w.heap.size,1,none⟩) hn0).trans c1;have d2:=(b1.cell (p:=⟨w.heap.size,2,none⟩) hn0).trans c2;have d3:=(b1.cell (p:=⟨w.heap.size,3,none⟩) hn0).trans c3;have d4:=(b1.cell (p:=⟨w.heap.size,4,none⟩) hn0).trans c4;have d5:=(b1.cell (p:=⟨w.heap.size,5,none⟩) hn0).trans c5;have d6:=(b1.cell (p:=⟨w.heap.size,6,none⟩) hn0).trans c6;have d7:=(b1.cell (p:=⟨w.heap.size,7,none⟩) hn0).trans c7;have g0:=(b1.frozen (p:=⟨w.heap.size,0,none⟩) hn0).trans f0;have g1:=(b1.frozen (p:=⟨w.heap.size,1,none⟩) hn0).trans f1;have g2:=(b1.frozen (p:=⟨w.heap.size,2,none⟩) hn0).trans f2;have g3:=(b1.frozen (p:=⟨w.heap.size,3,none⟩) hn0).trans f3;have g4:=(b1.frozen (p:=⟨w.heap.size,4,none⟩) hn0).trans f4;have g5:=(b1.frozen (p:=⟨w.heap.size,5,none⟩) hn0).trans f5;have g6:=(b1.frozen (p:=⟨w.heap.size,6,none⟩) hn0).trans f6;have g7:=(b1.frozen (p:=⟨w.heap.size,7,none⟩) hn0).trans f7;have hB:=ae hb0 b1;clear b1 p1 c0 f0 c1 f1 c2 f2 c3 f3 c4 f4 c5 f5 c6 f6 c7 f7;have hi:=Lv w1;go_wp2_with fail;refine aaD (by simp[results,ad2,go_sem,d0,d1,d2,d3,d4,d5,d6,d7];try rfl) rfl ?_;exact⟨rfl,((((((((hB.setCell (p:=⟨w.heap.size,0,none⟩) (Pe _) _).setCell (p:=⟨w.heap.size,1,none⟩) (Pe _) _).setCell (p:=⟨w.heap.size,2,none⟩) (Pe _) _).setCell (p:=⟨w.heap.size,3,none⟩) (Pe _) _).setCell (p:=⟨w.heap.size,4,none⟩) (Pe _) _).setCell (p:=⟨w.heap.size,5,none⟩) (Pe _) _).setCell (p:=⟨w.heap.size,6,none⟩) (Pe _) _).setCell (p:=⟨w.heap.size,7,none⟩) (Pe _) _)⟩
 by_cases h2:k=2
 ·subst h2
  go_enter aeW,aeE;go_wp2_with fail;refine p1.mono ?_;rintro e w1 ⟨rfl,b1⟩;have d0:=(b1.cell (p:=⟨w.heap.size,0,none⟩) hn0).trans c0;have d1:=(b1.cell (p:=⟨w.heap.size,1,none⟩) hn0).trans c1;have d2:=(b1.cell (p:=⟨w.heap.size,2,none⟩) hn0).trans c2;have d3:=(b1.cell (p:=⟨w.heap.size,3,none⟩) hn0).trans c3;have d4:=(b1.cell (p:=⟨w.heap.size,4,none⟩) hn0).trans c4;have d5:=(b1.cell (p:=⟨w.heap.size,5,none⟩) hn0).trans c5;have d6:=(b1.cell (p:=⟨w.heap.size,6,none⟩) hn0).trans c6;have d7:=(b1.cell (p:=⟨w.heap.size,7,none⟩) hn0).trans c7;have g0:=(b1.frozen (p:=⟨w.heap.size,0,none⟩) hn0).trans f0;have g1:=(b1.frozen (p:=⟨w.heap.size,1,none⟩) hn0).trans f1;have g2:=(b1.frozen (p:=⟨w.heap.size,2,none⟩) hn0).trans f2;have g3:=(b1.frozen (p:=⟨w.heap.size,3,none⟩) hn0).trans f3;have g4:=(b1.frozen (p:=⟨w.heap.size,4,none⟩) hn0).trans f4;have g5:=(b1.frozen (p:=⟨w.heap.size,5,none⟩) hn0).trans f5;have g6:=(b1.frozen (p:=⟨w.heap.size,6,none⟩) hn0).trans f6;have g7:=(b1.frozen (p:=⟨w.heap.size,7,none⟩) hn0).trans f7;have hB:=ae hb0 b1;clear b1 p1 c0 f0 c1 f1 c2 f2 c3 f3 c4 f4 c5 f5 c6 f6 c7 f7;have hi:=Lx w1;go_wp2_with fail;refine aaD (by simp[results,ad2,go_sem,d0,d1,d2,d3,d4,d5,d6,d7];try rfl) rfl ?_;exact⟨rfl,((((((((hB.setCell (p:=⟨w.heap.size,0,none⟩) (Pe _) _).setCell (p:=⟨w.heap.size,1,none⟩) (Pe _) _).setCell (p:=⟨w.heap.size,2,none⟩) (Pe _) _).setCell (p:=⟨w.heap.size,3,none⟩) (Pe _) _).setCell (p:=⟨w.heap.size,4,none⟩) (Pe _) _).setCell (p:=⟨w.heap.size,5,none⟩) (Pe _) _).setCell (p:=⟨w.heap.size,6,none⟩) (Pe _) _).setCell (p:=⟨w.heap.size,7,none⟩) (Pe _) _)⟩
 by_cases h3:k=3
 ·subst h3
  go_enter aeW,aeE;go_wp2_with fail;refine p1.mono ?_;rintro e w1 ⟨rfl,b1⟩;have d0:=(b1.cell (p:=⟨w.heap.size,0,none⟩) hn0).trans c0;have d1:=(b1.cell (p:=⟨w.heap.size,1,none⟩) hn0).trans c1;have d2:=(b1.cell (p:=⟨w.heap.size,2,none⟩) hn0).trans c2;have d3:=(b1.cell (p:=⟨w.heap.size,3,none⟩) hn0).trans c3;have d4:=(b1.cell (p:=⟨w.heap.size,4,none⟩) hn0).trans c4;have d5:=(b1.cell (p:=⟨w.heap.size,5,none⟩) hn0).trans c5;have d6:=(b1.cell (p:=⟨w.heap.size,6,none⟩) hn0).trans c6;have d7:=(b1.cell (p:=⟨w.heap.size,7,none⟩) hn0).trans c7;have g0:=(b1.frozen (p:=⟨w.heap.size,0,none⟩) hn0).trans f0;have g1:=(b1.frozen (p:=⟨w.heap.size,1,none⟩) hn0).trans f1;have g2:=(b1.frozen (p:=⟨w.heap.size,2,none⟩) hn0).trans f2;have g3:=(b1.frozen (p:=⟨w.heap.size,3,none⟩) hn0).trans f3;have g4:=(b1.frozen (p:=⟨w.heap.size,4,none⟩) hn0).trans f4;have g5:=(b1.frozen (p:=⟨w.heap.size,5,none⟩) hn0).trans f5;have g6:=(b1.frozen (p:=⟨w.heap.size,6,none⟩) hn0).trans f6;have g7:=(b1.frozen (p:=⟨w.heap.size,7,none⟩) hn0).trans f7;have hB:=ae hb0 b1;clear b1 p1 c0 f0 c1 f1 c2 f2 c3 f3 c4 f4 c5 f5 c6 f6 c7 f7;have hi:=LA w1;go_wp2_with fail;refine aaD (by simp[results,ad2,go_sem,d0,d1,d2,d3,d4,d5,d6,d7];try rfl) rfl ?_;exact⟨rfl,((((((((hB.setCell (p:=⟨w.heap.size,0,none⟩) (Pe _) _).setCell (p:=⟨w.heap.size,1,none⟩) (Pe _) _).setCell (p:=⟨w.heap.size,2,none⟩) (Pe _) _).setCell (p:=⟨w.heap.size,3,none⟩) (Pe _) _).setCell (p:=⟨w.heap.size,4,none⟩) (Pe _) _).setCell (p:=⟨w.heap.size,5,none⟩) (Pe _) _).setCell (p:=⟨w.heap.size,6,none⟩) (Pe _) _).setCell (p:=⟨w.heap.size,7,none⟩) (Pe _) _)⟩
 have HX:Hid (o8 k=yJ/\kindOk k=false):=by
  refine⟨by unfold o8;rw[aab h1,aab h2,aab h3],?_⟩
  cases hk:kindOk k with
  |false=>rfl
  |true=>have:=PL hk;omega
 by_cases h4:k<1
 ·clear h1 h2 h3 p1
  go_enter aeW,aeE;go_wp2_with fail;refine aaD (by simp[results,ad2,go_sem,c0,c1,c2,c3,c4,c5,c6,c7];try rfl) rfl ?_;rw[HX.out.1,HX.out.2];exact⟨rfl,hb0⟩
 ·have h4':1<=k:=by omega
  have h5:3<k:=by omega
  clear h1 h2 h3 h4 p1;go_enter aeW,aeE;go_wp2_with fail;refine aaD (by simp[results,ad2,go_sem,c0,c1,c2,c3,c4,c5,c6,c7];try rfl) rfl ?_;rw[HX.out.1,HX.out.2];exact⟨rfl,hb0⟩
def MZ(a:ByteArray)(w:World)(hT:Rat3.bK w)(ha:a.size<=9223372036854775807):Calls Tryz.prog 148 #[.string a] w fun e w'=>e=.returned (.bool ((Rat3.aK a.data.toList).isSome&&decide (0<Rat3.fB a.data.toList [48])))/\Below w w w':=by
 have p1:=fun W hW=>Rat3.Dj a W hW (by omega)
 have p2:=fun W hW=>Rat3.KE a ⟨#[48]⟩ W hW (by omega) (by decide)
 rw[zm]at p2;generalize Rat3.fB a.data.toList [48]=z at*
 cases hv:(Rat3.aK a.data.toList).isSome with
 |false=>
  rw[hv]at p1;clear hv;go_enter Tryz.func148,Tryz.ntmps148;go_wp2_with fail;refine(p1 _ hT).mono ?_;rintro e w1 ⟨rfl,b1⟩;go_wp2_with fail;go_returns;exact⟨rfl,b1⟩
 |true=>
  rw[hv]at p1;clear hv;go_enter Tryz.func148,Tryz.ntmps148;go_wp2_with fail;refine(p1 _ hT).mono ?_;rintro e w1 ⟨rfl,b1⟩;go_wp2_with fail;refine(p2 _ (hT.below b1)).mono ?_;rintro e w2 ⟨rfl,b2⟩;go_wp2_with fail;go_returns;exact⟨by simp,ae b1 b2⟩
def Du:Rat3.aK bD=none:=by decide +kernel
def Dt:Rat3.aK dC=none:=by decide +kernel
def Mt(a:Bs):bg 1 a=(Rat3.aK a).isSome:=by
 unfold bg aT;by_cases hc:a=bD\/a=dC
 ·rw[aaa hc]
  rcases hc with e|e
  ·rw[e,Du];simp
  ·rw[e,Dt];simp
 ·rw[aab hc]
  rw[acw]at hc;simp[kindOk,hc.1,hc.2]
def FZ{a:Bs}{q:Rat}(h:Rat3.aK a=some q):Rat3.fB a [48]=if q=0 then 0 else if q<0 then -1 else 1:=Dk h nW
def DX{k:Int}(hk:k=2\/k=3)(a:Bs):bg k a=((Rat3.aK a).isSome&&decide (0<Rat3.fB a [48])):=by
 have h1:¬ k=1:=by omega
 have hko:kindOk k=true:=by rcases hk with rfl|rfl<;>rfl
 unfold bg aT;rw[hko];by_cases hc:a=bD\/a=dC
 ·rw[aaa hc]
  rcases hc with e|e
  ·rw[e,Du];simp
  ·rw[e,Dt];simp
 ·rw[aab hc]
  rw[acw]at hc
  cases hv:Rat3.aK a with
  |none=>simp
  |some q=>
   have hz:=Iw hv;rw[FZ hv];by_cases h0:q=0
   ·have:=hz.2 h0
    simp[this,h0,h1]
   ·have hne:¬ a=[48]:=fun e=>h0 (hz.1 e)
    by_cases hlt:q<0
    ·simp[h0,hlt,h1]
    ·simp[h0,hlt,h1,hne,hc.1,hc.2]
def wG(k:Int)(a:ByteArray)(w:World)(hT:Rat3.bK w)(ha:a.size<=9223372036854775807):Calls Tryz.prog 72 #[.int .i64 k,.string a] w fun e w'=>e=.returned (.bool (bg k a.data.toList))/\Below w w w':=by
 have p1:=JQ k w;have pv:=fun W hW=>Rat3.Dj a W hW (by omega)
 have pp:=fun W hW=>MZ a W hW ha
 by_cases h1:k=1
 ·subst h1
  have HX:=Pd (Mt a.data.toList);have hr:o8 1=uE:=rfl;have hk:kindOk 1=true:=rfl;generalize (Rat3.aK a.data.toList).isSome=vb at*;clear pp;rw[hr,hk]at p1;go_enter Tryz.func72,Tryz.ntmps72;go_wp2_with fail;refine p1.mono ?_;rintro e w1 ⟨rfl,b1⟩;have bB:Below w w (w1.alloc (.cells #[.string ⟨#[105,110,102]⟩,.string ⟨#[48]⟩,.bool true,aG 140,aG 141,aG 142,aG 143,aG 143] 162)):=b1.alloc b1.size _;have c7:=az w1 #[.string ⟨#[105,110,102]⟩,.string ⟨#[48]⟩,.bool true,aG 140,aG 141,aG 142,aG 143,aG 143] 162 7 _ rfl;go_wp2_with fail;refine(pv _ (hT.below bB)).mono ?_;rintro e w2 ⟨rfl,b2⟩;go_wp2_with fail;go_returns;exact⟨by rw[HX.out];(try rfl),ae bB b2⟩
 by_cases h2:k=2
 ·subst h2
  have HX:=Pd (DX (aam rfl) a.data.toList);have hr:o8 2=uF:=rfl;have hk:kindOk 2=true:=rfl;generalize ((Rat3.aK a.data.toList).isSome && decide (0<Rat3.fB a.data.toList [48]))=vb at*;clear pv;rw[hr,hk]at p1;go_enter Tryz.func72,Tryz.ntmps72;go_wp2_with fail;refine p1.mono ?_;rintro e w1 ⟨rfl,b1⟩;have bB:Below w w (w1.alloc (.cells #[.string ⟨#[48]⟩,.string ⟨#[49]⟩,.bool false,aG 144,aG 145,aG 146,aG 147,aG 148] 162)):=b1.alloc b1.size _;have c7:=az w1 #[.string ⟨#[48]⟩,.string ⟨#[49]⟩,.bool false,aG 144,aG 145,aG 146,aG 147,aG 148] 162 7 _ rfl;go_wp2_with fail;refine(pp _ (hT.below bB)).mono ?_;rintro e w2 ⟨rfl,b2⟩;go_wp2_with fail;go_returns;exact⟨by rw[HX.out];(try rfl),ae bB b2⟩
 by_cases h3:k=3
 ·subst h3
  have HX:=Pd (DX (aad rfl) a.data.toList);have hr:o8 3=uG:=rfl;have hk:kindOk 3=true:=rfl;generalize ((Rat3.aK a.data.toList).isSome && decide (0<Rat3.fB a.data.toList [48]))=vb at*;clear pv;rw[hr,hk]at p1;go_enter Tryz.func72,Tryz.ntmps72;go_wp2_with fail;refine p1.mono ?_;rintro e w1 ⟨rfl,b1⟩;have bB:Below w w (w1.alloc (.cells #[.string ⟨#[48]⟩,.string ⟨#[49]⟩,.bool false,aG 140,aG 145,aG 149,aG 147,aG 148] 162)):=b1.alloc b1.size _;have c7:=az w1 #[.string ⟨#[48]⟩,.string ⟨#[49]⟩,.bool false,aG 140,aG 145,aG 149,aG 147,aG 148] 162 7 _ rfl;go_wp2_with fail;refine(pp _ (hT.below bB)).mono ?_;rintro e w2 ⟨rfl,b2⟩;go_wp2_with fail;go_returns;exact⟨by rw[HX.out];(try rfl),ae bB b2⟩
 have hr:o8 k=yJ:=by unfold o8;rw[aab h1,aab h2,aab h3]
 have hk:kindOk k=false:=by
  cases hk:kindOk k with
  |false=>rfl
  |true=>have:=PL hk;omega
 have HX:Hid (bg k a.data.toList=false):=by unfold Hid bg aT;rw[hk];rfl
 rw[hr,hk]at p1;clear hk h1 h2 h3 hr pv pp;go_enter Tryz.func72,Tryz.ntmps72;go_wp2_with fail;refine p1.mono ?_;rintro e w1 ⟨rfl,b1⟩;have bB:Below w w (w1.alloc (.cells iA 162)):=b1.alloc b1.size _;go_wp2_with fail;go_returns;exact⟨by rw[HX.out];(try rfl),bB⟩
def IZ(m:aQ)(A:Option Addr)(c:Nat)(w:World)(hT:Rat3.bK w)(hV:dY w A m.states)(hl:m.states.length<=140737488355328)(Uu:m.lead.length<=9223372036854775807)(hsw:oH 9223372036854775807 m.states):Calls Tryz.prog 39 #[di m A c] w fun e w'=>e=.returned (.bool (bM m))/\Below w w w':=by
 have Uo:Hid (¬ l9 m->bM m=false):=BD;have TZ:Hid (l9 m->jB m m.states.length->bM m=true):=Bz;have HZ:Hid (jB m 0):=BH m;have TL:Hid (∀i,30000<dh (m.states.take i)->bM m=false):=fun i=>BC
 have Ug:Hid (∀i,(hi:i<m.states.length)->aBP m.kind m.states.length m.states[i]=false->bM m=false):=fun i hi=>BF hi
 have UV:Hid (∀i,(hi:i<m.states.length)->jB m i->aBP m.kind m.states.length m.states[i]=true->dh (m.states.take (i+1))<=30000->jB m (i+1)):=fun i hi=>BG hi
 have HV:=Pd hV;have HW:=Pd hsw;have HM:Hid (l9 m↔kindOk m.kind=true/\(1<=m.states.length/\m.states.length<=3000/\0<=m.start/\m.start<m.states.length)/\bg m.kind m.lead=true):=Iff.rfl;unfold di S;generalize bM m=R at*;generalize l9 m=MH at*;obtain⟨MT,hMT⟩:∃MT,jB m=MT:=⟨_,rfl⟩;rw[hMT]at TZ HZ UV;clear hV hsw hMT;obtain⟨kd,st,ld,ss⟩:=m;simp only at*;obtain⟨Ld,TJ⟩:∃Ld:ByteArray,(⟨ld.toArray⟩:ByteArray)=Ld:=⟨_,rfl⟩;have WA:ld=Ld.data.toList:=by rw[<-TJ]
 rw[TJ];subst WA;have hLs:Ld.size<=9223372036854775807:=by rw[aae];exact Uu
 clear TJ Uu;have z0:=az w #[.int .i64 kd,.int .i64 st,.string Ld,.slice A ss.length c] 30 0 _ rfl;have z1:=az w #[.int .i64 kd,.int .i64 st,.string Ld,.slice A ss.length c] 30 1 _ rfl;have z2:=az w #[.int .i64 kd,.int .i64 st,.string Ld,.slice A ss.length c] 30 2 _ rfl;have z3:=az w #[.int .i64 kd,.int .i64 st,.string Ld,.slice A ss.length c] 30 3 _ rfl;have hb0:Below w w (w.alloc (.cells #[.int .i64 kd,.int .i64 st,.string Ld,.slice A ss.length c] 30)):=(aac _ _).alloc (Pe _) _;have hn0:w.heap.size<(w.alloc (.cells #[.int .i64 kd,.int .i64 st,.string Ld,.slice A ss.length c] 30)).heap.size:=by simp
 by_cases hg:kindOk kd=true/\1<=ss.length/\ss.length<=3000/\0<=st/\st<(ss.length:Int)
 rotate_left
 ·have HX:=Pd (Uo.out (fun hh=>hg (by have hh:=HM.out.1 hh;exact⟨hh.1,hh.2.1⟩)))
  have hg:kd<1\/(1<=kd/\3<kd)\/((1<=kd/\kd<=3)/\(ss.length:Int)<1)\/((1<=kd/\kd<=3)/\(1:Int)<=(ss.length:Int)/\(3000:Int)<(ss.length:Int))\/((1<=kd/\kd<=3)/\(1:Int)<=(ss.length:Int)/\(ss.length:Int)<=3000/\st<0)\/((1<=kd/\kd<=3)/\(1:Int)<=(ss.length:Int)/\(ss.length:Int)<=3000/\0<=st/\(ss.length:Int)<=st):=by
   cases hk:kindOk kd with
   |false=>have:=IG hk;omega
   |true=>have:=PL hk;have h2:¬ (1<=ss.length/\ss.length<=3000/\0<=st/\st<(ss.length:Int)):=(fun h=>hg ⟨hk,h⟩);omega
  clear HV HW TL Ug UV TZ HZ HM Uo;rcases hg with h|⟨h,h2⟩|⟨⟨h,h2⟩,d1⟩|⟨⟨h,h2⟩,d1,d2⟩|⟨⟨h,h2⟩,d1,d2,d3⟩|⟨⟨h,h2⟩,d1,d2,d3,d4⟩
  all_goals
   go_enter Tryz.func39,Tryz.ntmps39;go_wp2_with fail;generalize w.alloc (.cells #[.int .i64 kd,.int .i64 st,.string Ld,.slice A ss.length c] 30)=w0 at*;go_returns;exact⟨by rw[HX.out];(try rfl),hb0⟩
 obtain⟨hk,c1,c2,d3,d4⟩:=hg;have hk1:=(PL hk).1;have hk3:=(PL hk).2;have d1:(1:Int)<=(ss.length:Int):=by omega
 have d2:(ss.length:Int)<=3000:=by omega
 clear c1 c2;have pw:=fun W hW=>wG kd Ld W hW hLs
 cases hw:bg kd Ld.data.toList with
 |false=>
  have HX:=Pd (Uo.out (fun hh=>by have hh:=HM.out.1 hh;rw[hw]at hh;exact absurd hh.2.2 (by simp)));rw[hw]at pw;clear hk hw HV HW TL Ug UV TZ HZ HM Uo;go_enter Tryz.func39,Tryz.ntmps39;go_wp2_with fail;generalize w.alloc (.cells #[.int .i64 kd,.int .i64 st,.string Ld,.slice A ss.length c] 30)=w0 at*;refine(pw _ (hT.below hb0)).mono ?_;rintro e w2 ⟨rfl,b2⟩;go_wp2_with fail;go_returns;exact⟨by rw[HX.out];(try rfl),ae hb0 b2⟩
 |true=>
  have HMH:=Pd (HM.out.2 ⟨hk,⟨by omega,by omega,d3,d4⟩,hw⟩);rw[hw]at pw;clear hw HM Uo;go_enter Tryz.func39,Tryz.ntmps39;go_wp2_with fail;generalize w.alloc (.cells #[.int .i64 kd,.int .i64 st,.string Ld,.slice A ss.length c] 30)=w0 at*;refine(pw _ (hT.below hb0)).mono ?_;rintro e w2 ⟨rfl,b2⟩;have TI:=ae hb0 b2;have q0:=(b2.cell (p:=⟨w.heap.size,0,none⟩) hn0).trans z0;have q3:=(b2.cell (p:=⟨w.heap.size,3,none⟩) hn0).trans z3;have hn2:w.heap.size<w2.heap.size:=aah hn0 b2.size;have hsz:=TI.size;clear z0 z1 z2 z3 b2 hb0 hn0 pw;go_wp2_with fail
  go_loopw [4,50] (fun n i wr=>∃(k:Nat),n=.int .i64 (dh (ss.take k))/\i=.int .i64 k/\k<=ss.length/\Below w2 w2 wr/\Hid (MT k/\dh (ss.take k)<=30000)) (fun _ i _=>ss.length-(intOf i).toNat)
  case atStart=>exact⟨0,rfl,rfl,by omega,aac _ _,HZ.out,by simp[dh]⟩
  case round=>
   obtain⟨k,rfl,rfl,hk',hB,HN⟩:=hrel;by_cases hlt:k<ss.length
   ·obtain⟨b,o,rfl,hbl,hc0,A',c',hc1,TK⟩:=HV.out k hlt
    have VH:=Pd TK;have hnt:=sW hlt;have HE:Hid (dh (ss.take (k+1))=dh (ss.take k)+ss[k].arcs.length):=hnt;have ZL:Hid (30000<dh (ss.take k)+ss[k].arcs.length->R=false):=by have:=TL.out (k+1);rw[hnt]at this;exact this
    have hwk:=HW.out _ (aag hlt);have Yg:=Pd (Ug.out k hlt);have ZP:Hid (aBP kd ss.length ss[k]=true->dh (ss.take k)+ss[k].arcs.length<=30000->MT (k+1)):=by have:=UV.out k hlt HN.out.1;rw[hnt]at this;exact this
    clear hnt;have hN0:=HN.out.2;generalize dh (ss.take k)=N0 at*;generalize ss[k]=s at*;obtain⟨fin,arcs⟩:=s;simp only at*;obtain⟨Fn,hFn⟩:∃Fn:ByteArray,(⟨fin.toArray⟩:ByteArray)=Fn:=⟨_,rfl⟩;have Wy:fin=Fn.data.toList:=by rw[<-hFn]
    unfold S at hc0;rw[hFn]at hc0;subst Wy;have Uy:Fn.size<=9223372036854775807:=by rw[aae];exact hwk.1
    have hWa:=Pd hwk.2.1;have haL:=hwk.2.2;have k0:=(hB.cell (p:=⟨b,o+k*2,none⟩) (aah hbl hsz)).trans ((TI.cell (p:=⟨b,o+k*2,none⟩) hbl).trans hc0);have k1:=(hB.cell (p:=⟨b,o+k*2+1,none⟩) (aah hbl hsz)).trans ((TI.cell (p:=⟨b,o+k*2+1,none⟩) hbl).trans hc1);have m0:=(hB.cell (p:=⟨w.heap.size,0,none⟩) hn2).trans q0;have m3:=(hB.cell (p:=⟨w.heap.size,3,none⟩) hn2).trans q3;have i0:(0:Int)<=(k:Int):=by omega
    have il:(k:Int)<(ss.length:Int):=(by omega);have e0:=az wr #[.string Fn,.slice A' arcs.length c'] 75 0 _ rfl;have e1:=az wr #[.string Fn,.slice A' arcs.length c'] 75 1 _ rfl;have bC:=hB.alloc hB.size (.cells #[.string Fn,.slice A' arcs.length c'] 75);have hnr:wr.heap.size<(wr.alloc (.cells #[.string Fn,.slice A' arcs.length c'] 75)).heap.size:=by simp
    have j0:=(bC.cell (p:=⟨w.heap.size,0,none⟩) hn2).trans q0;have j3:=(bC.cell (p:=⟨w.heap.size,3,none⟩) hn2).trans q3;have s1:(N0:Int)+(arcs.length:Int)<=140737488400000:=by omega
    have s0:(0:Int)<=(N0:Int)+(arcs.length:Int):=(by omega);have hrs:=hB.size;clear hFn hwk hc0 hc1 hN0 TL Ug UV HZ HV HW TK;by_cases hlong:30000<N0+arcs.length
    ·have g1:(30000:Int)<(N0:Int)+(arcs.length:Int):=by omega
     have HX:=Pd (ZL.out hlong);clear hlong;go_wp2_with fail;go_returns;exact⟨by rw[HX.out];(try rfl),dA TI bC⟩
    have g1:(N0:Int)+(arcs.length:Int)<=30000:=(by omega);have Wn:=Pd (fun h=>ZP.out h (by omega:N0+arcs.length<=30000));clear hlong ZL ZP;by_cases hfn:Fn.size=0
    case' pos=>
     have t1:(Fn.toList != [])=false:=rf (fF hfn);have t1':(Fn.toList==[])=true:=iR (fF hfn);have HFin:Hid (Fn.data.toList=[]\/bg kd Fn.data.toList=true):=aam (fF hfn);have hem:=jF hfn;clear hfn;go_wp2_with fail;generalize wr.alloc (.cells #[.string Fn,.slice A' arcs.length c'] 75)=w3 at*;have w3b:=bC
    case' neg=>
     have t1:(Fn.toList != [])=true:=rq (gB hfn);have t1':(Fn.toList==[])=false:=iT (gB hfn);have hem:=jI hfn;have pf:=fun W hW=>wG kd Fn W hW Uy
     cases hwf:bg kd Fn.data.toList
     case' false=>
      have HX:=Pd (Yg.out (Eg (gB hfn) hwf));rw[hwf]at pf;clear hfn hwf;go_wp2_with fail;refine(pf _ (hT.below (dA TI bC))).mono ?_;rintro e w4 ⟨rfl,b4⟩;go_wp2_with fail;go_returns;exact⟨by rw[HX.out];(try rfl),ae (dA TI bC) b4⟩
     case' true=>
      have HFin:Hid (Fn.data.toList=[]\/bg kd Fn.data.toList=true):=aad hwf;rw[hwf]at pf;clear hfn hwf;go_wp2_with fail;generalize wr.alloc (.cells #[.string Fn,.slice A' arcs.length c'] 75)=wx at*;refine(pf _ (hT.below (dA TI bC))).mono ?_;rintro e w3 ⟨rfl,b4⟩;have w3b:=bC.trans (b4.mono bC.size);have e0':=(b4.cell (p:=⟨wr.heap.size,0,none⟩) hnr).trans e0;have e1':=(b4.cell (p:=⟨wr.heap.size,1,none⟩) hnr).trans e1;have j0':=(b4.cell (p:=⟨w.heap.size,0,none⟩) (aah hn2 bC.size)).trans j0;have j3':=(b4.cell (p:=⟨w.heap.size,3,none⟩) (aah hn2 bC.size)).trans j3;have WT:wr.heap.size<w3.heap.size:=aah hnr b4.size;clear e0 e1 j0 j3 hnr bC b4 pf;have e0:=e0';have e1:=e1';have j0:=j0';have j3:=j3';have hnr:=WT;clear e0' e1' j0' j3' WT;go_wp2_with fail
    all_goals
     obtain⟨wo,hwo⟩:∃W,W=wr:=⟨_,rfl⟩;subst hwo
     go_loopw [77] (fun i wt=>∃(j:Nat),i=.int .i64 j/\j<=arcs.length/\Below w2 w2 wt/\Below w3 w3 wt/\Hid (∀a∈arcs.take j,dZ kd ss.length a=true)) (fun i _=>arcs.length-(intOf i).toNat)
     case atStart=>exact⟨0,rfl,by omega,w3b,aac _ _,by simp[Hid]⟩
     case round=>
      obtain⟨j,rfl,hj,hB2,hB3,HJ⟩:=hrel;by_cases hjl:j<arcs.length
      ·obtain⟨b',o',rfl,TH,ha0,ha1,ha2,UJ⟩:=VH.out j hjl
       have WX:=hWa.out _ (aag hjl);have Wl:Hid (dZ kd ss.length arcs[j]=false->R=false):=fun h=>Yg.out (wO hjl h)
       have Ws:Hid (dZ kd ss.length arcs[j]=true->∀a∈arcs.take (j+1),dZ kd ss.length a=true):=allT hjl HJ.out;generalize arcs[j]=a at*;have HF:Hid (¬ ((0<=a.inn/\a.inn<=500)/\(0<=a.out/\a.out<=500)/\(0<=a.to/\a.to<ss.length)/\bg kd a.w=true)->R=false):=fun h=>Wl.out (uZ h)
       have HT2:Hid ((0<=a.inn/\a.inn<=500)/\(0<=a.out/\a.out<=500)/\(0<=a.to/\a.to<ss.length)/\bg kd a.w=true->∀a∈arcs.take (j+1),dZ kd ss.length a=true):=fun h=>Ws.out (OJ h)
       obtain⟨x,y,wt',tg⟩:=a;simp only at*;obtain⟨Wt,Ue⟩:∃Wt:ByteArray,(⟨wt'.toArray⟩:ByteArray)=Wt:=⟨_,rfl⟩;have UA:wt'=Wt.data.toList:=by rw[<-Ue]
       unfold S at ha2;rw[Ue]at ha2;subst UA;have hWs:Wt.size<=9223372036854775807:=by rw[aae];exact WX
       have hb2':b'<w2.heap.size:=aah TH hsz;have u0:=(hB2.cell (p:=⟨b',o'+j*4,none⟩) hb2').trans ((TI.cell (p:=⟨b',o'+j*4,none⟩) TH).trans ha0);have u1:=(hB2.cell (p:=⟨b',o'+j*4+1,none⟩) hb2').trans ((TI.cell (p:=⟨b',o'+j*4+1,none⟩) TH).trans ha1);have u2:=(hB2.cell (p:=⟨b',o'+j*4+2,none⟩) hb2').trans ((TI.cell (p:=⟨b',o'+j*4+2,none⟩) TH).trans ha2);have u3:=(hB2.cell (p:=⟨b',o'+j*4+3,none⟩) hb2').trans ((TI.cell (p:=⟨b',o'+j*4+3,none⟩) TH).trans UJ);have v1:=(hB3.cell (p:=⟨wo.heap.size,1,none⟩) hnr).trans e1;have ij0:(0:Int)<=(j:Int):=by omega
       have ijl:(j:Int)<(arcs.length:Int):=(by omega);have bE:=hB2.alloc hB2.size (.cells #[.int .i64 x,.int .i64 y,.string Wt,.int .i64 tg] 77);have f0:=az wr #[.int .i64 x,.int .i64 y,.string Wt,.int .i64 tg] 77 0 _ rfl;have f1:=az wr #[.int .i64 x,.int .i64 y,.string Wt,.int .i64 tg] 77 1 _ rfl;have f2:=az wr #[.int .i64 x,.int .i64 y,.string Wt,.int .i64 tg] 77 2 _ rfl;have f3:=az wr #[.int .i64 x,.int .i64 y,.string Wt,.int .i64 tg] 77 3 _ rfl;have p0:=(bE.cell (p:=⟨w.heap.size,0,none⟩) hn2).trans q0;have p3:=(bE.cell (p:=⟨w.heap.size,3,none⟩) hn2).trans q3;have b3E:=hB3.alloc hB3.size (.cells #[.int .i64 x,.int .i64 y,.string Wt,.int .i64 tg] 77);clear ha0 ha1 ha2 UJ Ue WX Wl Ws;have psx:=fun W=>vP x W
       have psy:=fun W=>vP y W
       cases hsx:aBU x with
       |false=>
        have HX:=Pd (HF.out (fun hh=>by rw[<-OI,<-OI,hsx]at hh;simp at hh));rw[hsx]at psx;clear HF HT2 hsx;go_wp2_with (first|(go_at_call_of 73 (Value.int .i64 x);refine(psx _).mono ?_;rintro e wz ⟨rfl,rfl⟩)|(go_at_call_of 73 (Value.int .i64 y);refine(psy _).mono ?_;rintro e wz ⟨rfl,rfl⟩));go_returns;exact⟨by rw[HX.out];(try rfl),dA TI bE⟩
       |true=>
       have hsx1:=(OI.1 hsx).1;have hsx2:=(OI.1 hsx).2;rw[hsx]at psx;clear hsx
       cases hsy:aBU y with
       |false=>
        have HX:=Pd (HF.out (fun hh=>by rw[<-OI,<-OI,hsy]at hh;simp at hh));rw[hsy]at psy;clear HF HT2 hsy;go_wp2_with (first|(go_at_call_of 73 (Value.int .i64 x);refine(psx _).mono ?_;rintro e wz ⟨rfl,rfl⟩)|(go_at_call_of 73 (Value.int .i64 y);refine(psy _).mono ?_;rintro e wz ⟨rfl,rfl⟩));go_returns;exact⟨by rw[HX.out];(try rfl),dA TI bE⟩
       |true=>
       have hsy1:=(OI.1 hsy).1;have hsy2:=(OI.1 hsy).2;rw[hsy]at psy;clear hsy;by_cases g2:tg<0
       ·have HX:=Pd (HF.out (fun hh=>by omega))
        clear HF HT2;go_wp2_with (first|(go_at_call_of 73 (Value.int .i64 x);refine(psx _).mono ?_;rintro e wz ⟨rfl,rfl⟩)|(go_at_call_of 73 (Value.int .i64 y);refine(psy _).mono ?_;rintro e wz ⟨rfl,rfl⟩));go_returns;exact⟨by rw[HX.out];(try rfl),dA TI bE⟩
       have d5:0<=tg:=(by omega);clear g2;by_cases g3:(ss.length:Int)<=tg
       ·have HX:=Pd (HF.out (fun hh=>by omega))
        clear HF HT2;go_wp2_with (first|(go_at_call_of 73 (Value.int .i64 x);refine(psx _).mono ?_;rintro e wz ⟨rfl,rfl⟩)|(go_at_call_of 73 (Value.int .i64 y);refine(psy _).mono ?_;rintro e wz ⟨rfl,rfl⟩));go_returns;exact⟨by rw[HX.out];(try rfl),dA TI bE⟩
       have d6:tg<(ss.length:Int):=(by omega);clear g3;have pa:=fun W hW=>wG kd Wt W hW hWs
       cases Ur:bg kd Wt.data.toList with
       |false=>
        have HX:=Pd (HF.out (fun hh=>by rw[Ur]at hh;exact absurd hh.2.2.2 (by simp)));rw[Ur]at pa;clear HF HT2 Ur;go_wp2_with (first|(go_at_call_of 73 (Value.int .i64 x);refine(psx _).mono ?_;rintro e wz ⟨rfl,rfl⟩)|(go_at_call_of 73 (Value.int .i64 y);refine(psy _).mono ?_;rintro e wz ⟨rfl,rfl⟩));refine(pa _ (hT.below (dA TI bE))).mono ?_;rintro e w5 ⟨rfl,b5⟩;go_wp2_with fail;go_returns;exact⟨by rw[HX.out];(try rfl),ae (dA TI bE) b5⟩
       |true=>
        have HX:=Pd (HT2.out ⟨⟨by omega,by omega⟩,⟨by omega,by omega⟩,⟨by omega,by omega⟩,Ur⟩);rw[Ur]at pa;clear HF HT2 Ur;go_wp2_with (first|(go_at_call_of 73 (Value.int .i64 x);refine(psx _).mono ?_;rintro e wz ⟨rfl,rfl⟩)|(go_at_call_of 73 (Value.int .i64 y);refine(psy _).mono ?_;rintro e wz ⟨rfl,rfl⟩));refine(pa _ (hT.below (dA TI bE))).mono ?_;rintro e w5 ⟨rfl,b5⟩;have bF:=bE.trans (b5.mono bE.size);have bG:=b3E.trans (b5.mono b3E.size);go_wp2_with fail;go_roundw
        case rel=>exact⟨j+1,by go_num,by omega,bF,bG,HX.out⟩
        case measure=>simp[intOf];omega
      ·obtain rfl:j=arcs.length:=by omega
       have HX:=Pd (Wn.out (wM HFin.out HJ.out));have v1:=(hB3.cell (p:=⟨wo.heap.size,1,none⟩) hnr).trans e1;go_wp2_with fail;go_roundw
       case rel=>exact⟨k+1,by rw[HE.out];go_num,by go_num,by omega,hB2,HX.out,by rw[HE.out];omega⟩
       case measure=>simp[intOf];omega
   ·obtain rfl:k=ss.length:=by omega
    have HX:=Pd (TZ.out HMH.out HN.out.1);have k3:=(hB.cell (p:=⟨w.heap.size,3,none⟩) hn2).trans q3;go_wp2_with fail;go_returns;exact⟨by rw[HX.out];(try rfl),dA TI hB⟩
end Go.Proofs.YtppnecgeboonbaaGreatDoor
