/- Walks. -/
import Derived.Test.YtppnecgeboonbaaGreatDoorZ30
import Derived.Test.YtppnecgeboonbaaGreatDoorZ31
import Derived.Test.YtppnecgeboonbaaGreatDoorZ38
import Derived.Test.YtppnecgeboonbaaGreatDoorZ42
import Derived.Test.YtppnecgeboonbaaGreatDoorZ29
namespace Go.Proofs.YtppnecgeboonbaaGreatDoor
set_option maxRecDepth 100000
set_option linter.all false
set_option maxHeartbeats 8000000
open Go Go.RowKit Go.Maps
def FR(W:World)(b:Nat)(v0 v1 v2 v3:Value):aB (fun c=>c=b) W ((((W.setCell ⟨b,0,none⟩ v0).setCell ⟨b,1,none⟩ v1).setCell ⟨b,2,none⟩ v2).setCell ⟨b,3,none⟩ v3):=(((dP W b 0 _).trans (dP _ b 1 _) fun b _ e=>e).trans (dP _ b 2 _) fun b _ e=>e).trans (dP _ b 3 _) fun b _ e=>e
def xe{Z:World}{b:Nat}{x y:Int}{c:UInt8}(h:Z.heap[b]? = some (.cells #[.int .i64 x,.int .i64 x,.string ⟨#[c]⟩,.int .i64 y] 77 (0,0))):oG Z (some ⟨b,0,none⟩) [⟨x,x,[c],y⟩]:=by
 intro j hj;obtain rfl:j=0:=by simpa using hj
 refine⟨b,0,rfl,aga h,?_,?_,?_,?_⟩
 ·rw[aap Z b _ _ _ _ h];rfl
 ·rw[aap Z b _ _ _ _ h];rfl
 ·rw[aap Z b _ _ _ _ h];rfl
 ·rw[aap Z b _ _ _ _ h];rfl
def Hm(w:World):Calls Tryz.prog 14 #[] w fun e w'=>∃A,e=.returned (di mG A 4)/\dY w' A mG.states/\Below w w w':=by
 have hb0:Below w w (w.alloc (.cells #[.int .i64 0,.int .i64 0,.string ⟨#[]⟩,.slice none 0 0] 30)):=(aac _ _).alloc (Pe _) _;have h0:=aaq w (.cells #[.int .i64 0,.int .i64 0,.string ⟨#[]⟩,.slice none 0 0] 30);go_enter Tryz.func14,Tryz.ntmps14;go_upto_region 1 with(fail)
 obtain⟨w0,hw0⟩:∃w0,w0=w.alloc (.cells #[.int .i64 0,.int .i64 0,.string ⟨#[]⟩,.slice none 0 0] 30):=⟨_,rfl⟩;rw[<-hw0]at hb0 h0 ⊢;have hs0:w.heap.size<w0.heap.size:=by rw[hw0];simp
 clear hw0;have HH:Hid (∀w2,Below w0 w0 w2->w2.heap[w.heap.size]? = some (.cells #[.int .i64 0,.int .i64 0,.string ⟨#[]⟩,.slice none 0 0] 30 (0,0))):=fun w2 hb=>(hb.block _ hs0).trans h0
 have H0:=Pd h0;clear h0;have HZ:Hid (∀w2,Below w0 w0 w2->(w2.cell? ⟨w.heap.size,0,none⟩=some (.int .i64 0)/\w2.cell? ⟨w.heap.size,1,none⟩=some (.int .i64 0)/\w2.cell? ⟨w.heap.size,2,none⟩=some (.string ⟨#[]⟩)/\w2.cell? ⟨w.heap.size,3,none⟩=some (.slice none 0 0))/\w2.frozen? ⟨w.heap.size,0,none⟩=false/\w2.frozen? ⟨w.heap.size,1,none⟩=false/\w2.frozen? ⟨w.heap.size,2,none⟩=false/\w2.frozen? ⟨w.heap.size,3,none⟩=false):=by
  intro w2 hb;have h:=HH.out w2 hb;have hf:∀o,w2.frozen? ⟨w.heap.size,o,none⟩=false:=fun o=>by unfold World.frozen?;rw[h];simp
  refine⟨⟨?_,?_,?_,?_⟩,hf 0,hf 1,hf 2,hf 3⟩
  ·rw[aap w2 _ 0 _ _ _ h];rfl
  ·rw[aap w2 _ 1 _ _ _ h];rfl
  ·rw[aap w2 _ 2 _ _ _ h];rfl
  ·rw[aap w2 _ 3 _ _ _ h];rfl
 go_wp2_with (first
  |(have aAg:=hBb.alloc hBb.size (.cells #[.int .i64 2,.int .i64 2,.string ⟨#[51]⟩,.int .i64 2] 77);go_at_call 47;refine(xY 3 3 ⟨#[48]⟩ _).mono ?_;rintro e wc ⟨rfl,hbc⟩;have U9:=ae aAg hbc;have A2:=(hbc.block wb.heap.size (by simp)).trans (aaq wb _);have A1c:=((((aac wb.heap.size wb).alloc (Pe _) (.cells #[.int .i64 2,.int .i64 2,.string ⟨#[51]⟩,.int .i64 2] 77)).block _ (aga A1)).trans A1);have A1d:=(hbc.block wa.heap.size (by have:=aga A1;simp;omega)).trans A1c;have V8:=(U9.alloc U9.size (.cells #[.int .i64 3,.int .i64 3,.string ⟨#[48]⟩,.int .i64 3] 77)).alloc (by have:=U9.size;simp;omega) (.cells #[.string ⟨#[]⟩,.slice (some ⟨wa.heap.size,0,none⟩) 1 1,.string ⟨#[]⟩,.slice (some ⟨wb.heap.size,0,none⟩) 1 1,.string ⟨#[52]⟩,.slice (some ⟨wc.heap.size,0,none⟩) 1 1,.string ⟨#[49]⟩,.slice none 0 0] 75);obtain⟨⟨z0,z1,z2,z3⟩,f0,f1,f2,f3⟩:=HZ.out _ V8;have HA2:=Pd A2;have HA1:=Pd A1d;clear A2 A1c A1d A1 hBb)
  |(have aAf:=hBa.alloc hBa.size (.cells #[.int .i64 1,.int .i64 1,.string ⟨#[48]⟩,.int .i64 1] 77);go_at_call 47;refine(xY 2 2 ⟨#[51]⟩ _).mono ?_;rintro e wb ⟨rfl,hbb⟩;have hBb:=ae aAf hbb;have A1:=(hbb.block wa.heap.size (by simp)).trans (aaq wa _);clear hBa)
  |(go_at_call 47;refine(xY 1 1 ⟨#[48]⟩ _).mono ?_;rintro e wa ⟨rfl,VK⟩;have hBa:=VK))
 have hC:=FR ((wc.alloc (.cells #[.int .i64 3,.int .i64 3,.string ⟨#[48]⟩,.int .i64 3] 77)).alloc (.cells #[.string ⟨#[]⟩,.slice (some ⟨wa.heap.size,0,none⟩) 1 1,.string ⟨#[]⟩,.slice (some ⟨wb.heap.size,0,none⟩) 1 1,.string ⟨#[52]⟩,.slice (some ⟨wc.heap.size,0,none⟩) 1 1,.string ⟨#[49]⟩,.slice none 0 0] 75)) w.heap.size (.int .i64 1) (.int .i64 0) (.string ⟨#[48]⟩) (.slice (some ⟨wc.heap.size+1,0,none⟩) 4 4);have h4:=dO (dO (dO (dO (HH.out _ V8) 0 (.int .i64 1) rfl) 1 (.int .i64 0) rfl) 2 (.string ⟨#[48]⟩) rfl) 3 (.slice (some ⟨wc.heap.size+1,0,none⟩) 4 4) rfl;have hS8:=aaq (wc.alloc (.cells #[.int .i64 3,.int .i64 3,.string ⟨#[48]⟩,.int .i64 3] 77)) (.cells #[.string ⟨#[]⟩,.slice (some ⟨wa.heap.size,0,none⟩) 1 1,.string ⟨#[]⟩,.slice (some ⟨wb.heap.size,0,none⟩) 1 1,.string ⟨#[52]⟩,.slice (some ⟨wc.heap.size,0,none⟩) 1 1,.string ⟨#[49]⟩,.slice none 0 0] 75);rw[adt]at hS8;have hA3:=(heap_alloc_old (wc.alloc (.cells #[.int .i64 3,.int .i64 3,.string ⟨#[48]⟩,.int .i64 3] 77)) (.cells #[.string ⟨#[]⟩,.slice (some ⟨wa.heap.size,0,none⟩) 1 1,.string ⟨#[]⟩,.slice (some ⟨wb.heap.size,0,none⟩) 1 1,.string ⟨#[52]⟩,.slice (some ⟨wc.heap.size,0,none⟩) 1 1,.string ⟨#[49]⟩,.slice none 0 0] 75) (r:=wc.heap.size) (by simp)).trans (aaq wc (.cells #[.int .i64 3,.int .i64 3,.string ⟨#[48]⟩,.int .i64 3] 77));have bcc:Below wc wc ((wc.alloc (.cells #[.int .i64 3,.int .i64 3,.string ⟨#[48]⟩,.int .i64 3] 77)).alloc (.cells #[.string ⟨#[]⟩,.slice (some ⟨wa.heap.size,0,none⟩) 1 1,.string ⟨#[]⟩,.slice (some ⟨wb.heap.size,0,none⟩) 1 1,.string ⟨#[52]⟩,.slice (some ⟨wc.heap.size,0,none⟩) 1 1,.string ⟨#[49]⟩,.slice none 0 0] 75)):=((aac _ _).alloc (Pe _) _).alloc (by simp) _;have hA2:=(bcc.block wb.heap.size (aga HA2.out)).trans HA2.out;have hA1:=(bcc.block wa.heap.size (aga HA1.out)).trans HA1.out;have hlo:w.heap.size<wa.heap.size/\w.heap.size<wb.heap.size/\w.heap.size<wc.heap.size:=by
  have h1:=aAf.size;have h2:=aAg.size;have h3:=U9.size;have h5:=VK.size;have h6:=hbb.size;simp at h1 h2 h6;omega
 have hlow:=hb0.trans (V8.mono (aa0 hs0));have hBZ:=lq hlow hC (Pe _) (fun b hb e=>by omega);generalize (wc.alloc (.cells #[.int .i64 3,.int .i64 3,.string ⟨#[48]⟩,.int .i64 3] 77)).alloc (.cells #[.string ⟨#[]⟩,.slice (some ⟨wa.heap.size,0,none⟩) 1 1,.string ⟨#[]⟩,.slice (some ⟨wb.heap.size,0,none⟩) 1 1,.string ⟨#[52]⟩,.slice (some ⟨wc.heap.size,0,none⟩) 1 1,.string ⟨#[49]⟩,.slice none 0 0] 75)=W9 at*;generalize (((W9.setCell ⟨w.heap.size,0,none⟩ (.int .i64 1)).setCell ⟨w.heap.size,1,none⟩ (.int .i64 0)).setCell ⟨w.heap.size,2,none⟩ (.string ⟨#[48]⟩)).setCell ⟨w.heap.size,3,none⟩ (.slice (some ⟨wc.heap.size+1,0,none⟩) 4 4)=Z at*;have e0:Z.cell? ⟨w.heap.size,0,none⟩=some (.int .i64 1):=by rw[aap Z _ 0 _ _ _ h4];rfl
 have e1:Z.cell? ⟨w.heap.size,1,none⟩=some (.int .i64 0):=by rw[aap Z _ 1 _ _ _ h4];rfl
 have e2:Z.cell? ⟨w.heap.size,2,none⟩=some (.string ⟨#[48]⟩):=by rw[aap Z _ 2 _ _ _ h4];rfl
 have e3:Z.cell? ⟨w.heap.size,3,none⟩=some (.slice (some ⟨wc.heap.size+1,0,none⟩) 4 4):=by rw[aap Z _ 3 _ _ _ h4];rfl
 have g8:=(hC.block _ (aga hS8) (by omega)).trans hS8;have g3:=(hC.block _ (aga hA3) (by omega)).trans hA3;have g2:=(hC.block _ (aga hA2) (by omega)).trans hA2;have g1:=(hC.block _ (aga hA1) (by omega)).trans hA1;refine aaD (v:=di mG (some ⟨wc.heap.size+1,0,none⟩) 4) (by simp[results,Tryz.results14,go_sem,e0,e1,e2,e3];try rfl) rfl ?_;refine⟨_,rfl,fun k hk=>?_,hBZ⟩;have hk4:k=0\/k=1\/k=2\/k=3:=by have:mG.states.length=4:=rfl;omega
 have cc:∀j v,(#[Value.string ⟨#[]⟩,.slice (some ⟨wa.heap.size,0,none⟩) 1 1,.string ⟨#[]⟩,.slice (some ⟨wb.heap.size,0,none⟩) 1 1,.string ⟨#[52]⟩,.slice (some ⟨wc.heap.size,0,none⟩) 1 1,.string ⟨#[49]⟩,.slice none 0 0])[j]? = some v->Z.cell? ⟨wc.heap.size+1,j,none⟩=some v:=fun j v hv=>by rw[aap Z _ j _ _ _ g8];exact hv
 rcases hk4 with rfl|rfl|rfl|rfl
 ·exact⟨_,0,rfl,aga g8,cc 0 _ rfl,some ⟨wa.heap.size,0,none⟩,1,cc 1 _ rfl,xe g1⟩
 ·exact⟨_,0,rfl,aga g8,cc 2 _ rfl,some ⟨wb.heap.size,0,none⟩,1,cc 3 _ rfl,xe g2⟩
 ·exact⟨_,0,rfl,aga g8,cc 4 _ rfl,some ⟨wc.heap.size,0,none⟩,1,cc 5 _ rfl,xe g3⟩
 ·exact⟨_,0,rfl,aga g8,cc 6 _ rfl,none,0,cc 7 _ rfl,fun j hj=>absurd hj (abW _)⟩
open Go
def Fs:bR [64,85,46,67,97,115,101,46,71,101,110,64]=some ⟨85,[67,97,115,101],[71,101,110]⟩:=by decide +kernel
def Fu:bR [64,82,46,67,97,115,101,64]=some ⟨82,[67,97,115,101],[]⟩:=by decide +kernel
def Fv:fH ⟨82,[67,97,115,101],[]⟩=([64,82,46,67,97,115,101,64],true):=by decide +kernel
def Fw:jH (je [[85,46,97,46,120],[85,46,97,46,120]])=true:=by decide +kernel
def Fx:jH (je [[85,46,97,46,120],[85,46,97,46,121]])=false:=by decide +kernel
def Fy:jH (je [[85,46,97,46,120],[67,46,97],[85,46,97,46,121]])=true:=by decide +kernel
def Fz:stripL [1,2,3] lG=([2],false):=by decide +kernel
def cells3{W:World}{b:Nat}{x y z:Value}{T:TypeId}(h:W.heap[b]? = some (.cells #[x,y,z] T (0,0))):W.cell? ⟨b,0,none⟩=some x/\W.cell? ⟨b,1,none⟩=some y/\W.cell? ⟨b,2,none⟩=some z:=by
 refine⟨?_,?_,?_⟩
 ·rw[aap W b _ _ _ _ h];rfl
 ·rw[aap W b _ _ _ _ h];rfl
 ·rw[aap W b _ _ _ _ h];rfl
def rP(W:World)(cs:Array Value)(T:TypeId):ay (W.alloc (.cells cs T)) (some ⟨W.heap.size,0,none⟩) cs.toList:=fun _=>⟨W.heap.size,0,rfl,by simp,fun j u hj=>by
 rw[aap _ W.heap.size _ _ _ _ (aaq W _),aaP]
 simpa using hj⟩
def He:oH 9223372036854775807 kr.states:=by
 intro s hs;simp only[kr,aay,aaK,acI]at hs;rcases hs with rfl|rfl|rfl
 ·exact⟨by decide,fun a ha=>by simp at ha;subst ha;decide,by decide⟩
 ·exact⟨by decide,fun a ha=>by simp at ha;subst ha;decide,by decide⟩
 ·exact⟨by decide,fun a ha=>by simp at ha,by decide⟩
def Hd:oH 9223372036854775807 mG.states:=by
 intro s hs;simp only[mG,aay,aaK,acI]at hs;rcases hs with rfl|rfl|rfl|rfl
 ·exact⟨by decide,fun a ha=>by simp at ha;subst ha;decide,by decide⟩
 ·exact⟨by decide,fun a ha=>by simp at ha;subst ha;decide,by decide⟩
 ·exact⟨by decide,fun a ha=>by simp at ha;subst ha;decide,by decide⟩
 ·exact⟨by decide,fun a ha=>by simp at ha,by decide⟩
def EW(W:World)(h:fD W):Calls Tryz.prog 11 #[.string ⟨#[64,85,46,67,97,115,101,46,71,101,110,64]⟩] W fun e w'=>e=.returned (.tuple #[.agg #[.int .u8 85,.string ⟨#[67,97,115,101]⟩,.string ⟨#[71,101,110]⟩],.bool true])/\Below W W w':=by
 have:=lM ⟨#[64,85,46,67,97,115,101,46,71,101,110,64]⟩ W h;unfold ma at this;rw[show bR (⟨#[64,85,46,67,97,115,101,46,71,101,110,64]⟩:ByteArray).data.toList=_ from Fs]at this;exact this
def EX(W:World)(h:fD W):Calls Tryz.prog 11 #[.string ⟨#[64,82,46,67,97,115,101,64]⟩] W fun e w'=>e=.returned (.tuple #[.agg #[.int .u8 82,.string ⟨#[67,97,115,101]⟩,.string ⟨#[]⟩],.bool true])/\Below W W w':=by
 have:=lM ⟨#[64,82,46,67,97,115,101,64]⟩ W h;unfold ma at this;rw[show bR (⟨#[64,82,46,67,97,115,101,64]⟩:ByteArray).data.toList=_ from Fu]at this;exact this
def EY(W:World)(h:fD W):Calls Tryz.prog 19 #[.agg #[.int .u8 82,.string ⟨#[67,97,115,101]⟩,.string ⟨#[]⟩]] W fun e w'=>e=.returned (.tuple #[.string ⟨#[64,82,46,67,97,115,101,64]⟩,.bool true])/\Below W W w':=by
 have:=vQ 82 ⟨#[67,97,115,101]⟩ ⟨#[]⟩ W h.t;rw[show fH (aD 82 ⟨#[67,97,115,101]⟩ ⟨#[]⟩)=_ from Fv]at this;exact this
def EZ(Ax At:Option Addr)(cx ct:Nat)(W:World)(h:fD W)(hX:ay W Ax [.int .i64 1,.int .i64 2,.int .i64 3])(hV:ay W At (lG.map S)):Calls Tryz.prog 23 #[.slice Ax 3 cx,.slice At lG.length ct] W fun e w'=>∃A c,e=.returned (.tuple #[.slice A 1 c,.bool false])/\ay w' A [.int .i64 2]/\Below W W w':=by
 have:=ND Ax At cx ct [1,2,3] lG W h hX hV (by decide) (by decide);rw[Fz]at this;exact this
def E5(A At:Option Addr)(c ct:Nat)(W:World)(h:fD W)(hS:dY W A mG.states)(hV:ay W At (lG.map S)):Calls Tryz.prog 13 #[di mG A c,.slice At lG.length ct] W fun e w'=>∃A c,e=.returned (.tuple #[.agg #[.int .i64 1,.int .i64 0,.string ⟨#[48]⟩,.slice A 3 c],.int .i64 0])/\dY w' A kr.states/\Below W W w':=by
 have:=G6 mG A At c ct lG W h hS hV (by decide) (by decide) Hd;rw[Hg]at this;exact this
def E8(A AX:Option Addr)(c cx:Nat)(W:World)(hS:dY W A kr.states)(hX:ay W AX [.int .i64 2]):Calls Tryz.prog 16 #[.agg #[.int .i64 1,.int .i64 0,.string ⟨#[48]⟩,.slice A 3 c],.slice AX 1 cx] W fun e w'=>e=.returned (.tuple #[.string ⟨#[55]⟩,.int .i64 0])/\Below W W w':=by
 have:=KL Rv kr A AX c cx [2] W hS (by decide) (by decide) He hX fun _ _=>trivial
 rw[Hf]at this;refine Calls.mono this ?_;rintro e w' ⟨hb,he,-⟩;exact⟨he,hb⟩
def wY(A:Option Addr)(c:Nat)(l:List Bs)(r:Bool)(hr:jH (je l)=r)(W:World)(h:fD W)(hV:ay W A (l.map S))(hl:l.length<=1000)(hs:∀s∈l,s.length<=100):Calls Tryz.prog 12 #[.slice A l.length c] W fun e w'=>e=.returned (.bool r)/\Below W W w':=by
 have:=IQ A c l W h hV hl hs;rwa[hr]at this
def tq(w:World)(hT:fD w):Calls Tryz.prog 17 #[] w fun e w'=>e=.returned (.bool true)/\Below w w w':=by
 go_enter Tryz.func17,Tryz.ntmps17;go_upto_region 2 with(first|(go_at_call 11;refine(EW w hT).mono ?_;rintro e w1 ⟨rfl,hb1⟩))
 have hB2:=hb1.alloc hb1.size (.cells #[.int .u8 85,.string ⟨#[67,97,115,101]⟩,.string ⟨#[71,101,110]⟩] 24);have g1:=aaq w1 (.cells #[.int .u8 85,.string ⟨#[67,97,115,101]⟩,.string ⟨#[71,101,110]⟩] 24);obtain⟨b1,Yz⟩:∃b1,b1=w1.heap.size:=⟨_,rfl⟩;obtain⟨W2,hW2⟩:∃W2,W2=w1.alloc (.cells #[.int .u8 85,.string ⟨#[67,97,115,101]⟩,.string ⟨#[71,101,110]⟩] 24):=⟨_,rfl⟩;rw[<-hW2,<-Yz];rw[<-hW2]at hB2 g1;rw[<-Yz]at g1;clear hW2 Yz hb1;go_upto_region 3 with(first|(go_at_call 11;refine(EX W2 (hT.below hB2)).mono ?_;rintro e w3 ⟨rfl,hb3⟩))
 have hB3:=(ae hB2 hb3).alloc (ae hB2 hb3).size (.cells #[.int .u8 82,.string ⟨#[67,97,115,101]⟩,.string ⟨#[]⟩] 24);have g3:=aaq w3 (.cells #[.int .u8 82,.string ⟨#[67,97,115,101]⟩,.string ⟨#[]⟩] 24);have g1:=(((hb3.alloc hb3.size (.cells #[.int .u8 82,.string ⟨#[67,97,115,101]⟩,.string ⟨#[]⟩] 24)).block _ (aga g1))).trans g1;obtain⟨b3,YA⟩:∃b3,b3=w3.heap.size:=⟨_,rfl⟩;obtain⟨W3,hW3⟩:∃W3,W3=w3.alloc (.cells #[.int .u8 82,.string ⟨#[67,97,115,101]⟩,.string ⟨#[]⟩] 24):=⟨_,rfl⟩;rw[<-hW3,<-YA];rw[<-hW3]at hB3 g3 g1;rw[<-YA]at g3;clear hW3 YA hb3;go_upto_region 4 with(first|(go_at_call 19;refine(EY W3 (hT.below hB3)).mono ?_;rintro e W4 ⟨rfl,hb4⟩))
 have hB4:=ae hB3 hb4;have g1:=(hb4.block _ (aga g1)).trans g1;have g3:=(hb4.block _ (aga g3)).trans g3;clear hb4 hB3;have bA:=(aac W4.heap.size W4).alloc (Pe _) (.cells #[.int .i64 1,.int .i64 2,.int .i64 3] 3);have hX:=rP W4 #[.int .i64 1,.int .i64 2,.int .i64 3] 3
 go_upto_region 5 with(first
  |(go_at_call 15;refine(Bw _).mono ?_;rintro e w5 ⟨At,rfl,hV5,hb5⟩;have pS:=EZ _ At 3 3 w5 (hT.below (ae hB4 (ae bA hb5))) (hX.below hb5) hV5)
  |(go_at_call 23;refine pS.mono ?_;rintro e W6 ⟨Ay,cy,rfl,hY,hb6⟩))
 have Xt:=ae (ae bA hb5) hb6;have TV:=ae hB4 Xt;have g1:=(Xt.block _ (aga g1)).trans g1;have g3:=(Xt.block _ (aga g3)).trans g3;clear Xt hb5 hb6 bA hX hV5 pS hB4
 go_upto_region 6 with(first
  |(go_at_call 14;refine(Hm _).mono ?_;rintro e w7 ⟨Am,rfl,hS7,Vn⟩)
  |(go_at_call 15;refine(Bw _).mono ?_;rintro e w8 ⟨At,rfl,hV8,Zv⟩;have pE:=E5 Am At 4 3 w8 (hT.below (ae TV (ae Vn Zv))) (hS7.below Zv) hV8)
  |(go_at_call 13;refine pE.mono ?_;rintro e w9 ⟨An,cn,rfl,hS9,Xv⟩))
 have YC:=ae (ae Vn Zv) Xv;have WJ:=YC.alloc YC.size (.cells #[.int .i64 1,.int .i64 0,.string ⟨#[48]⟩,.slice An 3 cn] 30);have V8:=ae TV WJ;have g1:=(WJ.block _ (aga g1)).trans g1;have g3:=(WJ.block _ (aga g3)).trans g3;have hY:=hY.below WJ;have hS9:=hS9.below ((aac w9.heap.size w9).alloc (Pe _) (.cells #[.int .i64 1,.int .i64 0,.string ⟨#[48]⟩,.slice An 3 cn] 30));have m0:=aJ w9 #[.int .i64 1,.int .i64 0,.string ⟨#[48]⟩,.slice An 3 cn] 30 0 (.int .i64 1) rfl;have m1:=aJ w9 #[.int .i64 1,.int .i64 0,.string ⟨#[48]⟩,.slice An 3 cn] 30 1 (.int .i64 0) rfl;have m2:=aJ w9 #[.int .i64 1,.int .i64 0,.string ⟨#[48]⟩,.slice An 3 cn] 30 2 (.string ⟨#[48]⟩) rfl;have m3:=aJ w9 #[.int .i64 1,.int .i64 0,.string ⟨#[48]⟩,.slice An 3 cn] 30 3 (.slice An 3 cn) rfl;obtain⟨b9,YE⟩:∃b9,b9=w9.heap.size:=⟨_,rfl⟩;obtain⟨W9,hW9⟩:∃W9,W9=w9.alloc (.cells #[.int .i64 1,.int .i64 0,.string ⟨#[48]⟩,.slice An 3 cn] 30):=⟨_,rfl⟩;rw[<-hW9,<-YE];rw[<-hW9]at V8 g1 g3 hY hS9 m0 m1 m2 m3;rw[<-YE]at m0 m1 m2 m3;clear hW9 YE YC WJ Vn Zv Xv hS7 hV8 pE TV;have bA:=(aac W9.heap.size W9).alloc (Pe _) (.cells #[.int .i64 2] 3);have hX:=rP W9 #[.int .i64 2] 3;have pA:=E8 An _ cn 1 _ (hS9.below bA) hX;go_upto_region 7 with(first|(go_at_call 16;refine pA.mono ?_;rintro e W10 ⟨rfl,WG⟩))
 have Va:=ae bA WG;have U8:=ae V8 Va;have g1:=(Va.block _ (aga g1)).trans g1;have g3:=(Va.block _ (aga g3)).trans g3;have hY:=hY.below Va;clear Va bA hX pA WG hS9 m0 m1 m2 m3 V8;obtain⟨k0,k1,k2⟩:=cells3 g1;obtain⟨j0,j1,j2⟩:=cells3 g3;clear g1 g3;have bA1:=(aac W10.heap.size W10).alloc (Pe _) (.cells #[.string ⟨#[85,46,97,46,120]⟩,.string ⟨#[85,46,97,46,120]⟩] 9);have pL1:=wY _ 2 [[85,46,97,46,120],[85,46,97,46,120]] true Fw _ (hT.below (ae U8 bA1)) (rP W10 #[.string ⟨#[85,46,97,46,120]⟩,.string ⟨#[85,46,97,46,120]⟩] 9) (by decide) (by decide)
 go_wp2_with (first
  |(have bA4:=(aac W13.heap.size W13).alloc (Pe _) (.cells #[.int .i64 2] 3);have pI:=L6 Ay _ cy 1 [2] [2] _ ((hY.below hL3).below bA4) (rP W13 #[.int .i64 2] 3) (by decide);go_at_call 25;refine pI.mono ?_;rintro e W14 ⟨rfl,TR⟩;have hL4:=ae (ae hL3 bA4) TR)
  |(have bA3:=(aac W12.heap.size W12).alloc (Pe _) (.cells #[.string ⟨#[85,46,97,46,120]⟩,.string ⟨#[67,46,97]⟩,.string ⟨#[85,46,97,46,121]⟩] 9);have pL3:=wY _ 3 [[85,46,97,46,120],[67,46,97],[85,46,97,46,121]] true Fy _ (hT.below (ae U8 (ae hL2 bA3))) (rP W12 #[.string ⟨#[85,46,97,46,120]⟩,.string ⟨#[67,46,97]⟩,.string ⟨#[85,46,97,46,121]⟩] 9) (by decide) (by decide);go_at_call 12;refine pL3.mono ?_;rintro e W13 ⟨rfl,VB⟩;have hL3:=ae (ae hL2 bA3) VB)
  |(have bA2:=(aac W11.heap.size W11).alloc (Pe _) (.cells #[.string ⟨#[85,46,97,46,120]⟩,.string ⟨#[85,46,97,46,121]⟩] 9);have pL2:=wY _ 2 [[85,46,97,46,120],[85,46,97,46,121]] false Fx _ (hT.below (ae U8 (ae hL1 bA2))) (rP W11 #[.string ⟨#[85,46,97,46,120]⟩,.string ⟨#[85,46,97,46,121]⟩] 9) (by decide) (by decide);go_at_call 12;refine pL2.mono ?_;rintro e W12 ⟨rfl,UC⟩;have hL2:=ae (ae hL1 bA2) UC)
  |(go_at_call 12;refine pL1.mono ?_;rintro e W11 ⟨rfl,VA⟩;have hL1:=ae bA1 VA))
 go_returns;exact⟨by(try rfl),ae U8 hL4⟩
def Sa{m:aQ}{t:List Bs}(hm:bM m=true) :
  (l7 t=true/\∃xs,lC m t (fG t m.states []) 3001 0 [(m.start,dE (fG t m.states []) [])] [] 0=some xs/\jd m t=(⟨m.kind,0,m.lead,xs⟩,0)/\bM ⟨m.kind,0,m.lead,xs⟩=true) ∨
   ∃z:Nat,jd m t=(rz,z)/\z≠0/\PG m t (z:Int)=true:=by
 unfold jd;by_cases ht:l7 t=true
 ·rw[aaa ⟨hm,ht⟩]
  cases h:lC m t (fG t m.states []) 3001 0 [(m.start,dE (fG t m.states []) [])] [] 0 with
  |some xs=>exact aam ⟨ht,xs,rfl,rfl,Sc hm h⟩
  |none=>
   refine aad ⟨2,rfl,by omega,?_⟩;have:=Sb hm h;unfold PG;rw[aaa ⟨hm,ht⟩]
   simpa using this
 ·rw[aab (fun h=>ht h.2)]
  refine aad ⟨1,rfl,by omega,?_⟩;unfold PG;rw[aab (fun h=>ht h.2)];simp
def Sy{m:aQ}(hm:bM m=true):oH 9223372036854775807 m.states:=by
 intro s hs;obtain⟨-,-,-,h4,h5⟩:=kV.1 hm;obtain⟨h6,h7⟩:=pg.1 (h4 s hs);have ha:=xg hs;refine⟨?_,fun a h=>?_,by omega⟩
 ·rcases h6 with h|h
  ·rw[h];simp
  ·have:=Mr (Pv h).1;omega
 ·have:=Mr (Pv (mh.1 (h7 a h)).2.2.2).1;omega
def Rc{m:aQ}{t:List Bs}(h:O3 m t=false):m.states.length<=5/\dh m.states<=20/\t.length<=30:=by
 unfold O3 at h;simp only[Bool.or_eq_false_iff,aeo]at h;omega
def Q6{m:aQ}(h:PQ m.states)(ha:dh m.states<=20):oH 9223372036854775807 m.states/\∀s∈m.states,s.arcs.length<=20:=by
 refine⟨fun s hs=>?_,fun s hs=>?_⟩
 ·obtain⟨h1,h2,h3⟩:=h s hs
  have:=xg hs;exact⟨by omega,fun a hx=>by have:=h3 a hx;omega,by omega⟩
 ·have:=xg hs;omega
def Qz{a b:Bs}(h:a=b):(a==b)=true:=by subst h;simp
def aE5{k:Int}{a b:Vec}{q:Nat}(hq:q<a.length):aCs k (a.drop q) (b.drop q)=if (fI k a[q] (b.getD q [])).2≠0 then .error (fI k a[q] (b.getD q [])).2 else bi (aCs k (a.drop (q+1)) (b.drop (q+1))) fun l=>.ok ((fI k a[q] (b.getD q [])).1::l):=by
 rw[aat hq];have e1:(b.drop q).headD []=b.getD q []:=by
  have h0:∀v:Vec,v.headD []=v.getD 0 []:=fun v=>by cases v<;>rfl
  rw[h0,aaf,adx,abw,aaf]
 have e2:(b.drop q).tail=b.drop (q+1):=by rw[List.tail_drop]
 show(if (fI k a[q] ((b.drop q).headD [])).2≠0 then .error (fI k a[q] ((b.drop q).headD [])).2 else bi (aCs k (a.drop (q+1)) (b.drop q).tail) fun l=>.ok ((fI k a[q] ((b.drop q).headD [])).1::l))=_;rw[e1,e2]
def aFb{pre:Vec}{n:Nat}{s:Bs}(h:pre.length<n):(pre++List.replicate (n-pre.length) ([]:Bs)).set pre.length s=(pre++[s])++List.replicate (n-(pre.length+1)) []:=by
 rw[aeM _ _ (Pe _),abx,show n-pre.length=(n-(pre.length+1))+1 by omega,adX,afm,aaZ];rfl
def aE0(k:Int)(A B ca cb n:Nat)(a b:Vec)(w:World)(hA:aZ w A a)(hB:aZ w B b)(ha:dK n a)(hb:dK n b)(hn:n<=3000) :
  Calls Tryz.prog 66 #[.int .i64 k,.slice (some ⟨A,0,none⟩) n ca,.slice (some ⟨B,0,none⟩) n cb] w (sP w n (aCs k a b)):=by
 obtain⟨R,hR⟩:∃R,aCs k a b=R:=⟨_,rfl⟩;obtain⟨SV,hSV⟩:∃SV:Nat->Except Nat Vec,SV=fun q=>aCs k (a.drop q) (b.drop q):=⟨_,rfl⟩
 have H0:Hid (R=bi (SV 0) fun l=>.ok (([]:Vec)++l)):=by
  rw[Hid,hSV,<-hR];simp only[abj,abH]
  cases aCs k a b<;>rfl
 have HSd:Hid (∀q,(h:q<a.length)->SV q=if (fI k a[q] (b.getD q [])).2≠0 then .error (fI k a[q] (b.getD q [])).2 else bi (SV (q+1)) fun l=>.ok ((fI k a[q] (b.getD q [])).1::l)):=fun q h=>by
  rw[hSV];exact aE5 h
 have HSe:Hid (SV n=.ok []):=by
  rw[Hid,hSV];show aCs k (a.drop n) (b.drop n)=_;rw[abo (by rw[ha.1];exact Pe _)];rfl
 rw[hR];clear hR hSV;have HA:=Pd hA;have HB:=Pd hB;have HNA:=Pd ha;have HNB:=Pd hb;have lA:=hA.lt;have lB:=hB.lt;clear hA hB ha hb;have d1:(0:Int)<=(n:Int):=by omega
 have d2:(n:Int)<=3000:=by omega
 go_enter Tryz.func66,Tryz.ntmps66;have hmk:=Jp n (by omega);go_wp2_with fail;have hv0:=Oj w n;have hb0:Below w w (w.alloc (.cells (Array.replicate n (.string ⟨#[]⟩)) 9)):=(aac _ _).alloc (Pe _) _;obtain⟨bl,hbl⟩:∃bl,bl=w.heap.size:=⟨_,rfl⟩;rw[<-hbl]at hv0 ⊢;have hlb:w.heap.size<=bl:=by omega
 generalize w.alloc (.cells (Array.replicate n (.string ⟨#[]⟩)) 9)=w1 at*;clear hmk hbl
 go_loopw [9] (fun i wr=>∃(q:Nat) (pre:Vec),i=.int .i64 q/\q<=n/\Hid (pre.length=q)/\dK q pre/\Below w w wr/\aZ wr bl (pre++List.replicate (n-q) [])/\Hid (R=bi (SV q) fun l=>.ok (pre++l))) (fun i _=>n-(intOf i).toNat)
 case atStart=>exact⟨0,[],rfl,by omega,rfl,⟨rfl,fun x hx=>by cases hx⟩,hb0,by simpa using hv0,H0.out⟩
 case round=>
  clear hb0 hv0 H0;obtain⟨q,pre,rfl,hq,HPL,hpn,hBr,Vp,HJ⟩:=hrel;by_cases hlt:q<n
  ·have VM:q<a.length:=by rw[HNA.out.1];exact hlt
   have hqb:q<b.length:=by rw[HNB.out.1];exact hlt
   have hbg:b.getD q []=b[q]:=by rw[aaf,aak hqb];rfl
   have HJ2:=Pd (HSd.out q VM);rw[hbg]at HJ2;have c1:=(hBr.cell (p:=⟨A,q,none⟩) lA).trans (HA.out.cell VM);have c2:=(hBr.cell (p:=⟨B,q,none⟩) lB).trans (HB.out.cell hqb);have s1:=HNA.out.2 _ (aag VM);have s2:=HNB.out.2 _ (aag hqb);obtain⟨X,hX⟩:∃X:ByteArray,X.data.toList=a[q]:=⟨⟨a[q].toArray⟩,by simp⟩;obtain⟨Y,hY⟩:∃Y:ByteArray,Y.data.toList=b[q]:=⟨⟨b[q].toArray⟩,by simp⟩;rw[<-hX]at c1 s1;rw[<-hY]at c2 s2;rw[<-hX,<-hY]at HJ2;rw[eX]at c1 c2;rw[<-aae]at s1 s2;have p1:=fun W=>yO k X Y W (by omega) (by omega)
   have hsl:=yP (k:=k) (a:=X.data.toList) (b:=Y.data.toList) (by rw[<-aae];exact s1) (by rw[<-aae];exact s2);obtain⟨x,hc⟩:∃x,wr.cell? ⟨bl,q,none⟩=some x:=⟨_,Vp.cell (j:=q) (by rw[aas,ac7,HPL.out];omega)⟩;have hf:=Vp.free q;have HVR:=Pd Vp;clear Vp hX hY hbg VM hqb;generalize fI k X.data.toList Y.data.toList=sm at*;obtain⟨u,e⟩:=sm;unfold Rat3.aA at p1;simp only at p1 HJ2 hsl;obtain⟨U,hU⟩:∃U:ByteArray,(⟨u.toArray⟩:ByteArray)=U:=⟨_,rfl⟩;have UU:u=U.data.toList:=by rw[<-hU]
   rw[hU]at p1;subst UU;clear hU;have i0:(0:Int)<=(q:Int):=by omega
   have il:(q:Int)<(n:Int):=(by omega);have lbl:bl<wr.heap.size:=HVR.out.lt;have lA2:A<wr.heap.size:=aah lA hBr.size;have lB2:B<wr.heap.size:=aah lB hBr.size;have mk:∀wx,Below wr wr wx->(wx.cell? ⟨A,q,none⟩=some (.string X)/\wx.cell? ⟨B,q,none⟩=some (.string Y)/\Below wr wr wx):=fun wx h=>⟨(h.cell (p:=⟨A,q,none⟩) lA2).trans c1,(h.cell (p:=⟨B,q,none⟩) lB2).trans c2,h⟩
   have z9:=mk _ ((aac _ wr).drew);have kC:∀wx wy,(wx.cell? ⟨A,q,none⟩=some (.string X)/\wx.cell? ⟨B,q,none⟩=some (.string Y)/\Below wr wr wx)->Below wx wx wy->(wy.cell? ⟨A,q,none⟩=some (.string X)/\wy.cell? ⟨B,q,none⟩=some (.string Y)/\Below wr wr wy):=fun wx wy h hb=>mk _ (ae h.2.2 hb)
   have kD:∀wx,(wx.cell? ⟨A,q,none⟩=some (.string X)/\wx.cell? ⟨B,q,none⟩=some (.string Y)/\Below wr wr wx)->(wx.drew.cell? ⟨A,q,none⟩=some (.string X)/\wx.drew.cell? ⟨B,q,none⟩=some (.string Y)/\Below wr wr wx.drew):=fun wx h=>mk _ h.2.2.drew
   clear mk;by_cases he:e=0
   ·subst he
    have HY:Hid (R=bi (SV (q+1)) fun l=>.ok ((pre++[U.data.toList])++l)):=by
     rw[Hid,HJ.out,HJ2.out,aab (by simp),aC5];congr 1;funext l;show Except.ok (pre++U.data.toList::l)=_;rw[aaZ];rfl
    clear HJ HJ2;go_wp2_with fail
    go_region_held3 (fun wx=>(wx.cell? ⟨A,q,none⟩=some (.string X)/\wx.cell? ⟨B,q,none⟩=some (.string Y)/\Below wr wr wx))
     (first|assumption|exact z9|exact kC _ _ (by assumption) (by assumption)|exact kD _ (by assumption))
     (first|(go_at_call 86;refine(p1 _).mono ?_;rintro e wy ⟨rfl,hby⟩))
    have hz:Below wr wr wy:=by
     have h:(wy.cell? ⟨A,q,none⟩=some (.string X)/\wy.cell? ⟨B,q,none⟩=some (.string Y)/\Below wr wr wy):=(by assumption);exact h.2.2
    have hc2:=(hz.cell (p:=⟨bl,q,none⟩) lbl).trans hc;have hf2:=(hz.frozen (p:=⟨bl,q,none⟩) lbl).trans hf;have hv2:=(HVR.out.below hz).set q U.data.toList;have hse:(pre++List.replicate (n-q) ([]:Bs)).set q U.data.toList=(pre++[U.data.toList])++List.replicate (n-(q+1)) []:=by
     have h:=HPL.out;subst h;exact aFb hlt
    rw[hse,eX]at hv2;have hB2:=(ae hBr hz).setCell (p:=⟨bl,q,none⟩) hlb (.string U);have ZU:Hid ((pre++[U.data.toList]).length=q+1):=by rw[Hid,aas,HPL.out];rfl
    have hn2:dK (q+1) (pre++[U.data.toList]):=⟨ZU.out,fun z hz=>by
     rcases aaG.1 hz with h|h
     ·exact hpn.2 z h
     ·rw[aar.1 h];exact hsl⟩
    clear hse kC kD z9 HVR hpn;go_wp2_with fail;go_roundw
    case rel=>exact⟨q+1,_,by go_num,by omega,ZU.out,hn2,hB2,hv2,HY.out⟩
    case measure=>simp[intOf];omega
   ·have HY:Hid (R=.error e):=by rw[Hid,HJ.out,HJ2.out,aaa he];rfl
    have t1:((e:Int) != 0)=true:=(by simpa using he);have t2:((e:Int)==0)=false:=(by simpa using he);have HE:=Pd he;clear HJ HJ2 he;go_wp2_with fail
    go_region_held3 (fun wx=>(wx.cell? ⟨A,q,none⟩=some (.string X)/\wx.cell? ⟨B,q,none⟩=some (.string Y)/\Below wr wr wx))
     (first|assumption|exact z9|exact kC _ _ (by assumption) (by assumption)|exact kD _ (by assumption))
     (first|(go_at_call 86;refine(p1 _).mono ?_;rintro e wy ⟨rfl,hby⟩))
    have hz:Below wr wr wy:=by
     have h:(wy.cell? ⟨A,q,none⟩=some (.string X)/\wy.cell? ⟨B,q,none⟩=some (.string Y)/\Below wr wr wy):=(by assumption);exact h.2.2
    clear kC kD z9;go_wp2_with fail;go_returns;refine⟨ae hBr hz,?_⟩;rw[HY.out];exact⟨rfl,HE.out⟩
  ·obtain rfl:q=n:=by omega
   have HY:Hid (R=.ok pre):=by rw[Hid,HJ.out,HSe.out];show Except.ok (pre++[])=_;rw[acb]
   have HN:=Pd hpn;rw[abx,List.replicate_zero,acb]at Vp;clear HJ hpn;go_wp2_with fail;go_returns;refine⟨hBr,?_⟩;rw[HY.out];exact⟨bl,rfl,Vp,hlb,HN.out⟩
open Rat3
abbrev aAk:=List (List Vec)
def gAt(g:aAk)(i j:Nat):Vec:=(g.getD i []).getD j []
def aBS(g:aAk)(i j:Nat)(v:Vec):aAk:=g.set i ((g.getD i []).set j v)
def aC8(m:aQ)(x y:List Int):aAk:=aBS (List.replicate (x.length+1) (List.replicate (y.length+1) (eT m))) 0 0 ((eT m).set m.start.toNat m.lead)
def aCZ(m:aQ)(x y:List Int)(i j:Nat)(v:Vec)(k:Nat)(g:aAk):Except Nat aAk:=
 if x.length<i+k%2\/y.length<j+k/2 then .ok g
 else bi (rU m v (if k%2=1 then x.getD i 0 else 0) (if k/2=1 then y.getD j 0 else 0) false) fun s=>bi (aCs m.kind (gAt g (i+k%2) (j+k/2)) s) fun u=>.ok (aBS g (i+k%2) (j+k/2) u)
def aDe(m:aQ)(x y:List Int)(i j:Nat)(v:Vec):Nat->Nat->aAk->Except Nat aAk
 |0,_,g=>.ok g
 |n+1,k,g=>bi (aCZ m x y i j v k g) (aDe m x y i j v n (k+1))
def aDx(m:aQ)(star:Option ak)(x y:List Int)(i j:Nat)(g:aAk):Except Nat aAk:=bi (uB m (gAt g i j) star) fun v=>aDe m x y i j v 3 1 (aBS g i j v)
def aC6(m:aQ)(star:Option ak)(x y:List Int)(i:Nat):Nat->Nat->aAk->Except Nat aAk
 |0,_,g=>.ok g
 |n+1,j,g=>bi (aDx m star x y i j g) (aC6 m star x y i n (j+1))
def aCY(m:aQ)(star:Option ak)(x y:List Int):Nat->Nat->aAk->Except Nat aAk
 |0,_,g=>.ok g
 |n+1,i,g=>bi (aC6 m star x y i (y.length+1) 0 g) (aCY m star x y n (i+1))
def aC9(m:aQ)(x y:List Int):Except Nat Bs:=
 if bM m=true/\iY x=true/\iY y=true then bi (qy m false) fun star=>bi (aCY m star x y (x.length+1) 0 (aC8 m x y)) fun g=>lH m.kind m.states (gAt g x.length y.length) (aF m.kind) else .error 1
def aBR(w:World)(b:Nat)(T:TypeId)(vs:List Value):Prop:=w.heap[b]? = some (.cells vs.toArray T (0,0))
def aBR.lt{w:World}{b:Nat}{T:TypeId}{vs:List Value}(h:aBR w b T vs):b<w.heap.size:=oM h
def aBR.cell{w:World}{b:Nat}{T:TypeId}{vs:List Value}(h:aBR w b T vs){j:Nat}{v:Value}(hj:vs[j]? = some v):w.cell? ⟨b,j,none⟩=some v:=by
 rw[aap w b j _ _ (0,0) h]
 simpa using hj
def aBR.free{w:World}{b:Nat}{T:TypeId}{vs:List Value}(h:aBR w b T vs)(j:Nat):w.frozen? ⟨b,j,none⟩=false:=by
 unfold World.frozen?;rw[show w.heap[b]? = some (.cells vs.toArray T (0,0)) from h];simp
def aBR.set{w:World}{b:Nat}{T:TypeId}{vs:List Value}(h:aBR w b T vs)(j:Nat)(x:Value):aBR (w.setCell ⟨b,j,none⟩ x) b T (vs.set j x):=by
 unfold aBR World.setCell;simp only[ab4];rw[show w.heap[b]? = some (.cells vs.toArray T (0,0)) from h];simp
def aBR.below{w w':World}{b:Nat}{T:TypeId}{vs:List Value}(h:aBR w b T vs)(hb:Below w w w'):aBR w' b T vs:=(hb.block b h.lt).trans h
def aZ.upW{w w':World}{b c:Nat}{l:List Bs}(h:aZ w b l)(hu:df c w w')(hne:b≠c):aZ w' b l:=(hu.same b h.lt hne).trans h
def aBR.upd{w w':World}{b c:Nat}{T:TypeId}{vs:List Value}(h:aBR w b T vs)(hu:df c w w')(hne:b≠c):aBR w' b T vs:=(hu.same b h.lt hne).trans h
def aZ.not_blk{w:World}{b:Nat}{l:Vec}{T:TypeId}{vs:List Value}(h:aZ w b l)(h':aBR w b T vs):T=9:=by
 have e:=h.symm.trans h';simp only[aao,Obj.cells.injEq]at e;exact e.2.1.symm
def RV(n b:Nat):Value:=.slice (some ⟨b,0,none⟩) n n
def aCL(n c:Nat)(f:Nat->Value):List Value:=(List.range n).map fun j=>if j<c then f j else .slice none 0 0
def aC4{n c:Nat}{f:Nat->Value}{j:Nat}(hj:j<n):(aCL n c f)[j]? = some (if j<c then f j else .slice none 0 0):=by
 unfold aCL;rw[abA,List.getElem?_range hj];rfl
def aEO(n:Nat)(f:Nat->Value):aCL n 0 f=List.replicate n (.slice none 0 0):=by
 apply adC;intro j;by_cases hj:j<n
 ·rw[aC4 hj,abv,aaa hj];rfl
 ·unfold aCL
  rw[aa4 (by simp;omega),aa4 (by simp;omega)]
def aD7(n c:Nat)(f:Nat->Value):(aCL n c f).length=n:=by unfold aCL;simp
def aD8{n c:Nat}{f g:Nat->Value}(hc:c<n)(h:∀j,j<c->g j=f j):(aCL n c f).set c (g c)=aCL n (c+1) g:=by
 apply adC;intro j;rw[ab2,aD7];by_cases hj:j<n
 ·rw[aC4 hj,aC4 hj]
  rcases acT j c with h1|h1|h1
  ·rw[aab (by omega),aaa h1,aaa (by omega),h j h1]
  ·subst h1;rw[aaa rfl,aaa hj,aaa (by omega)]
  ·rw[aab (by omega),aab (by omega),aab (by omega)]
 ·rw[aab (by omega)]
  unfold aCL;rw[aa4 (by simp;omega),aa4 (by simp;omega)]
def aEN{n:Nat}{f g:Nat->Value}{c:Nat}(hc:c<n)(h:∀j,j≠c->g j=f j):(aCL n n f).set c (g c)=aCL n n g:=by
 apply adC;intro j;rw[ab2,aD7];by_cases hj:j<n
 ·rw[aC4 hj,aC4 hj,aaa hj,aaa hj]
  by_cases e:c=j
  ·subst e;rw[aaa rfl,aaa hc]
  ·rw[aab e,h j (fun h=>e h.symm)]
 ·rw[aab (by omega)]
  unfold aCL;rw[aa4 (by simp;omega),aa4 (by simp;omega)]
def aET:(Tryz.prog.info? 108).map (fun i=>(i.zero,i.size,i.bytes))=some (some (.slice none 0 0),1,24):=by kernel_rfl
def aEV(n:Nat)(hn:n<=1000000)(W:World):(Instr.makeSlice 111 (.int .i64 (n:Int)) (.int .i64 (n:Int))).run Tryz.prog W=.ok (.slice (some ⟨W.heap.size,0,none⟩) n n) (W.alloc (.cells (Array.replicate n (.slice none 0 0)) 108)):=by
 obtain⟨i0,hi,hz0,hz1,hz2⟩:=abm aET;have h:=run_make (P:=Tryz.prog) W 111 108 i0 (.slice none 0 0) Tryz.underlying111 hi hz0 .i64 .i64 (n:Int) (n:Int) (by omega) (Int.le_refl _) (by rw[hz2];omega) (by omega);rw[h,hz1];simp only[abT];rw[show(Value.slice none 0 0).cells=#[.slice none 0 0] from rfl,BI]
def aD0(w:World)(n:Nat)(T:TypeId)(f:Nat->Value):aBR (w.alloc (.cells (Array.replicate n (.slice none 0 0)) T)) w.heap.size T (aCL n 0 f):=by
 unfold aBR;rw[aaq,aEO];simp
structure aCO (m:aQ) (lo a b ba I J:Nat) (rb:Nat->Nat) (vb:Nat->Nat->Nat) (w:World):Prop where
 lb:lo<=ba
 lr:∀i,i<I->lo<=rb i/\rb i≠ba
 inj:∀i i',i<I->i'<I->rb i=rb i'->i=i'
 base:aBR w ba 108 (aCL (a+1) I fun i=>RV (b+1) (rb i))
 row:∀i,i<I->aBR w (rb i) 22 (aCL (b+1) (if i+1=I then J else b+1) fun j=>RV m.states.length (vb i j))
 vec:∀i j,i<I->(i+1=I->j<J)->j<=b->aZ w (vb i j) (eT m)/\lo<=vb i j/\((i≠0\/j≠0)->vb i j≠vb 0 0)
def aCO.below{m:aQ}{lo a b ba I J:Nat}{rb:Nat->Nat}{vb:Nat->Nat->Nat}{w w':World}(h:aCO m lo a b ba I J rb vb w)(hb:Below w w w'):aCO m lo a b ba I J rb vb w':=
 ⟨h.lb,h.lr,h.inj,h.base.below hb,fun i hi=>(h.row i hi).below hb,fun i j h1 h2 h3=>⟨(h.vec i j h1 h2 h3).1.below hb,(h.vec i j h1 h2 h3).2⟩⟩
def aCO.start{m:aQ}{a b:Nat}(w:World)(rb:Nat->Nat)(vb:Nat->Nat->Nat)(lo:Nat)(hlo:lo<=w.heap.size):aCO m lo a b w.heap.size 0 (b+1) rb vb (w.alloc (.cells (Array.replicate (a+1) (.slice none 0 0)) 108)):=
 ⟨hlo,fun i hi=>by omega,fun i _ hi=>by omega,aD0 w (a+1) _ _,fun i hi=>by omega,fun i j hi=>by omega⟩
def aCO.newrow{m:aQ}{lo a b ba I:Nat}{rb:Nat->Nat}{vb:Nat->Nat->Nat}{w:World}(h:aCO m lo a b ba I (b+1) rb vb w)(hI:I<=a)(hw:lo<=w.heap.size) :
  aCO m lo a b ba (I+1) 0 (fun i=>if i=I then w.heap.size else rb i) vb ((w.alloc (.cells (Array.replicate (b+1) (.slice none 0 0)) 22)).setCell ⟨ba,I,none⟩ (RV (b+1) w.heap.size)):=by
 have hbl:=h.base.lt;have hB:Below w w (w.alloc (.cells (Array.replicate (b+1) (.slice none 0 0)) 22)):=(aac _ _).alloc (Pe _) _;have hU:df ba (w.alloc (.cells (Array.replicate (b+1) (.slice none 0 0)) 22)) ((w.alloc (.cells (Array.replicate (b+1) (.slice none 0 0)) 22)).setCell ⟨ba,I,none⟩ (RV (b+1) w.heap.size)):=(df.of_below (aac _ _)).set I _;have hold:∀ {c:Nat} {T:TypeId} {vs:List Value},aBR w c T vs->c≠ba->aBR ((w.alloc (.cells (Array.replicate (b+1) (.slice none 0 0)) 22)).setCell ⟨ba,I,none⟩ (RV (b+1) w.heap.size)) c T vs:=fun hc hne=>(hc.below hB).upd hU hne
 have hrl:∀i,i<I->rb i<w.heap.size:=fun i hi=>(h.row i hi).lt
 refine⟨h.lb,fun i hi=>?_,fun i i' hi hi' e=>?_,?_,fun i hi=>?_,fun i j h1 h2 h3=>?_⟩
 ·by_cases e:i=I
  ·simp only[aaa e];omega
  ·simp only[aab e];exact h.lr i (by omega)
 ·by_cases e1:i=I<;>by_cases e2:i'=I
  ·omega
  ·simp only[aaa e1,aab e2]at e;have:=hrl i' (by omega);omega
  ·simp only[aab e1,aaa e2]at e;have:=hrl i (by omega);omega
  ·simp only[aab e1,aab e2]at e;exact h.inj i i' (by omega) (by omega) e
 ·have:=(h.base.below hB).set I (RV (b+1) w.heap.size)
  have e:=aD8 (n:=a+1) (c:=I) (f:=fun i=>RV (b+1) (rb i)) (g:=fun i=>RV (b+1) (if i=I then w.heap.size else rb i)) (by omega) (fun j hj=>by simp only[aab (show j≠I by omega)]);simp only[acf]at e;rw[e]at this;exact this
 ·by_cases e:i=I
  ·simp only[aaa e,e,acf]
   exact(aD0 w (b+1) 22 fun j=>RV m.states.length (vb I j)).upd hU (by omega)
  ·simp only[aab e]
   rw[aab (by omega)];have:=h.row i (by omega);have e2:(if i+1=I then b+1 else b+1)=b+1:=by split<;>rfl
   rw[e2]at this;exact hold this (h.lr i (by omega)).2
 ·have hi:i<I:=by
   rcases aaz i I with h'|h'
   ·exact h'
   ·have:=h2 (by omega);omega
  obtain⟨v1,v2,v3⟩:=h.vec i j hi (fun _=>by omega) h3;exact⟨(v1.below hB).upW hU (fun e=>by
   have:=v1.not_blk (e ▸ h.base);exact absurd this (by decide)),v2,v3⟩
def aCO.put{m:aQ}{lo a b ba I J v:Nat}{rb:Nat->Nat}{vb:Nat->Nat->Nat}{w w':World}(h:aCO m lo a b ba (I+1) J rb vb w)(hJ:J<=b)(hB:Below w w w')(hv:aZ w' v (eT m))(hvl:w.heap.size<=v)(hlo:lo<=w.heap.size) :
  aCO m lo a b ba (I+1) (J+1) rb (fun i j=>if i=I/\j=J then v else vb i j) (w'.setCell ⟨rb I,J,none⟩ (RV m.states.length v)):=by
 have h':=h.below hB;have hU:df (rb I) w' (w'.setCell ⟨rb I,J,none⟩ (RV m.states.length v)):=(df.of_below (aac _ _)).set J _;have hrow:=h'.row I (by omega);simp only[acf]at hrow;have aFw:∀ {c:Nat} {l:Vec},aZ w' c l->c≠rb I:=fun hc e=>absurd ((e ▸ hc).not_blk hrow) (by decide)
 refine⟨h.lb,h.lr,h.inj,h'.base.upd hU (fun e=>(h.lr I (by omega)).2 e.symm),fun i hi=>?_,fun i j h1 h2 h3=>?_⟩
 ·by_cases e:i=I
  ·subst e
   simp only[acf,aeg];have:=hrow.set J (RV m.states.length v);have e2:=aD8 (n:=b+1) (c:=J) (f:=fun j=>RV m.states.length (vb i j)) (g:=fun j=>RV m.states.length (if j=J then v else vb i j)) (by omega) (fun j hj=>by simp only[aab (show j≠J by omega)]);simp only[acf]at e2;rw[e2]at this;exact this
  ·have:=h'.row i hi
   rw[aab (by omega)]at this ⊢;have e2:(fun j=>RV m.states.length (if i=I/\j=J then v else vb i j))=fun j=>RV m.states.length (vb i j):=by funext j;rw[aab (fun h=>e h.1)]
   rw[e2];exact this.upd hU (fun e3=>e (h.inj i I hi (by omega) e3))
 ·have hnew:∀i j,i<I+1->(i+1=I+1->j<J)->j<=b->vb i j<w.heap.size:=fun i j a1 a2 a3=>(h.vec i j a1 a2 a3).1.lt
  by_cases e:i=I/\j=J
  ·simp only[aaa e]
   refine⟨hv.upW hU (aFw hv),by omega,fun h0=>?_⟩;by_cases e0:(0:Nat)=I/\(0:Nat)=J
   ·omega
   ·rw[aab e0]
    have:=hnew 0 0 (by omega) (fun _=>by omega) (aaS _);omega
  ·simp only[aab e]
   have hj:i+1=I+1->j<J:=fun e1=>by have:=h2 e1;omega
   obtain⟨v1,v2,v3⟩:=h'.vec i j h1 hj h3;refine⟨v1.upW hU (aFw v1),v2,fun h0=>?_⟩;by_cases e0:(0:Nat)=I/\(0:Nat)=J
   ·rw[aaa e0]
    have:=hnew i j h1 hj h3;omega
   ·rw[aab e0]
    exact v3 h0
structure aB0 (n lo a b ba:Nat) (rb:Nat->Nat) (vb:Nat->Nat->Nat) (g:aAk) (w:World):Prop where
 lb:lo<=ba
 lr:∀i,i<=a->lo<=rb i/\rb i≠ba
 inj:∀i i',i<=a->i'<=a->rb i=rb i'->i=i'
 base:aBR w ba 108 (aCL (a+1) (a+1) fun i=>RV (b+1) (rb i))
 row:∀i,i<=a->aBR w (rb i) 22 (aCL (b+1) (b+1) fun j=>RV n (vb i j))
 vec:∀i j,i<=a->j<=b->aZ w (vb i j) (gAt g i j)/\dK n (gAt g i j)
 gl:g.length=a+1
 gr:∀i,i<=a->(g.getD i []).length=b+1
def aB0.below{n lo a b ba:Nat}{rb:Nat->Nat}{vb:Nat->Nat->Nat}{g:aAk}{w w':World}(h:aB0 n lo a b ba rb vb g w)(hb:Below w w w'):aB0 n lo a b ba rb vb g w':=
 ⟨h.lb,h.lr,h.inj,h.base.below hb,fun i hi=>(h.row i hi).below hb,fun i j h1 h2=>⟨(h.vec i j h1 h2).1.below hb,(h.vec i j h1 h2).2⟩,h.gl,h.gr⟩
def aB0.c1{n lo a b ba:Nat}{rb:Nat->Nat}{vb:Nat->Nat->Nat}{g:aAk}{w:World}(h:aB0 n lo a b ba rb vb g w){i:Nat}(hi:i<=a):w.cell? ⟨ba,i,none⟩=some (.slice (some ⟨rb i,0,none⟩) (b+1) (b+1)):=by
 have:=h.base.cell (aC4 (show i<a+1 by omega));rw[aaa (by omega)]at this;exact this
def aB0.c2{n lo a b ba:Nat}{rb:Nat->Nat}{vb:Nat->Nat->Nat}{g:aAk}{w:World}(h:aB0 n lo a b ba rb vb g w){i j:Nat}(hi:i<=a)(hj:j<=b):w.cell? ⟨rb i,j,none⟩=some (.slice (some ⟨vb i j,0,none⟩) n n):=by
 have:=(h.row i hi).cell (aC4 (show j<b+1 by omega));rw[aaa (by omega)]at this;exact this
def aEc{g:aAk}{a b:Nat}(hl:g.length=a+1)(hr:∀i,i<=a->(g.getD i []).length=b+1){i j:Nat}(hi:i<=a)(hj:j<=b)(v:Vec)(r c:Nat):gAt (aBS g i j v) r c=if r=i/\c=j then v else gAt g r c:=by
 unfold gAt aBS;rw[aaf (l:=g.set i _),ab2];by_cases e:i=r
 ·subst e
  rw[aaa rfl,aaa (by omega)];show((g.getD i []).set j v).getD c []=_;rw[aaf,ab2];by_cases e2:j=c
  ·subst e2
   rw[aaa rfl,aaa (by rw[hr i hi];omega),aaa ⟨rfl,rfl⟩];rfl
  ·rw[aab e2,aab (fun h=>e2 h.2.symm),<-aaf]
 ·rw[aab e,aab (fun h=>e h.1.symm),<-aaf]
def aEd{g:aAk}{a b:Nat}(hl:g.length=a+1)(hr:∀i,i<=a->(g.getD i []).length=b+1)(i j:Nat)(v:Vec):(aBS g i j v).length=a+1/\∀r,r<=a->((aBS g i j v).getD r []).length=b+1:=by
 unfold aBS;refine⟨by rw[abh];exact hl,fun r hr'=>?_⟩;rw[aaf,ab2];by_cases e:i=r
 ·subst e
  rw[aaa rfl,aaa (by omega)];show((g.getD i []).set j v).length=_;rw[abh];exact hr i hr'
 ·rw[aab e,<-aaf];exact hr r hr'
def aB0.put{n lo a b ba i j v:Nat}{rb:Nat->Nat}{vb:Nat->Nat->Nat}{g:aAk}{u:Vec}{w:World}(h:aB0 n lo a b ba rb vb g w)(hi:i<=a)(hj:j<=b)(hv:aZ w v u)(hn:dK n u) :
  aB0 n lo a b ba rb (fun r c=>if r=i/\c=j then v else vb r c) (aBS g i j u) (w.setCell ⟨rb i,j,none⟩ (.slice (some ⟨v,0,none⟩) n n)):=by
 have hU:df (rb i) w (w.setCell ⟨rb i,j,none⟩ (.slice (some ⟨v,0,none⟩) n n)):=(df.of_below (aac _ _)).set j _;have hrow:=h.row i hi;have aFw:∀ {c:Nat} {l:Vec},aZ w c l->c≠rb i:=fun hc e=>absurd ((e ▸ hc).not_blk hrow) (by decide)
 obtain⟨s1,s2⟩:=aEd h.gl h.gr i j u;refine⟨h.lb,h.lr,h.inj,h.base.upd hU (fun e=>(h.lr i hi).2 e.symm),fun r hr=>?_,fun r c hr hc=>?_,s1,s2⟩
 ·by_cases e:r=i
  ·subst e
   simp only[aeg];have:=hrow.set j (.slice (some ⟨v,0,none⟩) n n);have e2:=aEN (n:=b+1) (c:=j) (f:=fun c=>RV n (vb r c)) (g:=fun c=>RV n (if c=j then v else vb r c)) (by omega) (fun c hc=>by simp only[aab hc]);simp only[acf]at e2;rw[show(Value.slice (some ⟨v,0,none⟩) n n)=RV n v from rfl,e2]at this;exact this
  ·have e2:(fun c=>RV n (if r=i/\c=j then v else vb r c))=fun c=>RV n (vb r c):=by funext c;rw[aab (fun h=>e h.1)]
   rw[e2];exact(h.row r hr).upd hU (fun e3=>e (h.inj r i hr hi e3))
 ·rw[aEc h.gl h.gr hi hj]
  by_cases e:r=i/\c=j
  ·simp only[aaa e];exact⟨hv.upW hU (aFw hv),hn⟩
  ·simp only[aab e]
   obtain⟨v1,v2⟩:=h.vec r c hr hc;exact⟨v1.upW hU (aFw v1),v2⟩
def aCO.lead{m:aQ}{lo a b ba:Nat}{rb:Nat->Nat}{vb:Nat->Nat->Nat}{w:World}{x y:List Int}(hx:x.length=a)(hy:y.length=b)(h:aCO m lo a b ba (a+1) (b+1) rb vb w)(hld:m.lead.length<=802) :
  aB0 m.states.length lo a b ba rb vb (aC8 m x y) (w.setCell ⟨vb 0 0,m.start.toNat,none⟩ (S m.lead)):=by
 subst hx hy;have hU:df (vb 0 0) w (w.setCell ⟨vb 0 0,m.start.toNat,none⟩ (S m.lead)):=(df.of_below (aac _ _)).set m.start.toNat _;have hv0:=(h.vec 0 0 (by omega) (fun _=>by omega) (aaS _)).1;have hl0:(List.replicate (x.length+1) (List.replicate (y.length+1) (eT m))).length=x.length+1:=by simp
 have hr0:∀i,i<=x.length->((List.replicate (x.length+1) (List.replicate (y.length+1) (eT m))).getD i []).length=y.length+1:=fun i hi=>by
  rw[aaf,abv,aaa (by omega)];simp
 have ha0:∀i j,i<=x.length->j<=y.length->gAt (List.replicate (x.length+1) (List.replicate (y.length+1) (eT m))) i j=eT m:=fun i j hi hj=>by
  unfold gAt;rw[aaf (l:=List.replicate (x.length+1) _),abv,aaa (by omega)];show(List.replicate (y.length+1) (eT m)).getD j []=_;rw[aaf,abv,aaa (by omega)];rfl
 obtain⟨s1,s2⟩:=aEd hl0 hr0 0 0 ((eT m).set m.start.toNat m.lead);have hne:∀ {c:Nat} {T:TypeId} {vs:List Value},aBR w c T vs->T≠9->c≠vb 0 0:=fun hc hT e=>hT (hv0.not_blk (e ▸ hc))
 refine⟨h.lb,fun i hi=>h.lr i (by omega),fun i i' hi hi'=>h.inj i i' (by omega) (by omega),h.base.upd hU (hne h.base (by decide)),fun i hi=>?_,fun i j hi hj=>?_,s1,s2⟩
 ·have:=h.row i (by omega)
  have e:(if i+1=x.length+1 then y.length+1 else y.length+1)=y.length+1:=by split<;>rfl
  rw[e]at this;exact this.upd hU (hne this (by decide))
 ·unfold aC8
  rw[aEc hl0 hr0 (aaS _) (aaS _)];obtain⟨v1,-,v3⟩:=h.vec i j (by omega) (fun _=>by omega) hj;by_cases e:i=0/\j=0
  ·obtain⟨rfl,rfl⟩:=e
   rw[aaa ⟨rfl,rfl⟩];exact⟨hv0.set _ _,(wR m).set _ hld⟩
  ·rw[aab e,ha0 i j hi hj]
   exact⟨v1.upW hU (v3 (by omega)),wR m⟩
end Go.Proofs.YtppnecgeboonbaaGreatDoor
