/- Walks. -/
import Derived.Test.YtppnecgeboonbaaGreatDoorZ07
namespace Go.Proofs.YtppnecgeboonbaaGreatDoor.Rat3
set_option maxRecDepth 100000
set_option linter.all false
set_option maxHeartbeats 1000000
open Go.RowKit
def NJ{n:String}{g:Nat}{k:IntKind}{zs:List Int}{w w':World}(hg:Tryz.prog.globalNamed n=some g)(h:Lib.TabIs Tryz.prog w n k zs)(hb:Below w w w'):Lib.TabIs Tryz.prog w' n k zs:=by
 unfold Lib.TabIs World.var? at h ⊢;rw[hg]at h ⊢;simp only[Option.bind_some]at h ⊢;have hlt:g<w.heap.size:=by
  rcases aaz g w.heap.size with hh|hh
  ·exact hh
  ·rw[abY hh]at h;cases h
 rw[hb.block g hlt];exact h
structure bK (w:World):Prop where
 p10:Lib.TabIs Tryz.prog w "internal/strconv.uint64pow10" .u64 Lib.pow10Tab
 mx:∃m,w.cell? ⟨0,0,none⟩=some (.int .i64 m)
def bK.below{w w':World}(h:bK w)(hb:Below w w w'):bK w':=
 ⟨NJ (g:=3) (by kernel_rfl) h.p10 hb,by obtain⟨m,hm⟩:=h.mx;exact⟨m,(hb.cell (ax hm)).trans hm⟩⟩
def uU(B b:Nat)(l:Bs)(s:ByteArray)(w:World)(h:fC B b l w)(hlen:l.length+s.size<=140737488355328)(hBw:B<=w.heap.size) :
  Calls Tryz.prog 77 #[.pointer (some ⟨b,0,none⟩),.string s] w fun e w'=>e=.returned (.tuple #[.int .i64 s.size,.nilIface])/\fC B b (l++s.data.toList) w'/\Below B w w':=by
 refine(Any.Builder_WriteString_k { Tryz.lays105 with } Tryz.Builder_Extra_105 B b (Lib.byteCells l) s w h (by rw[abe];exact hlen) hBw).mono ?_;rintro e w' ⟨he,h1,h2,_⟩;refine⟨he,?_,h2⟩;unfold fC;rw[aeP,<-Lib.strCells_eq];exact aad h1
def zq(B b:Nat)(l:Bs)(w:World)(h:fC B b l w)(hBw:B<=w.heap.size) :
  Calls Tryz.prog 78 #[.pointer (some ⟨b,0,none⟩)] w fun e w'=>e=.returned (.string ⟨l.toArray⟩)/\Below B w w':=by
 refine(Tryz.Builder_String_any_f B b l w h hBw).mono ?_;rintro e w' ⟨he,_,hb⟩;exact⟨he,hb⟩
def j4(L:List Nat)(k:Nat):Bs:=if k=0 then [] else af (aa BB (L.drop (L.length-k)))
def NT{L:List Nat}(h:0<L.length):j4 L 1=af (L[L.length-1]'(by omega)):=by
 unfold j4;rw[aab (by omega),aat (show L.length-1<L.length by omega),abo (by omega)];simp[aa]
def NS{L:List Nat}(hl:∀d∈L,d<BB)(hc:Canon L){k:Nat}(hk:1<=k)(hk2:k<L.length) :
  j4 L (k+1)=j4 L k++(List.replicate (9-(af (L[L.length-1-k]'(by omega))).length) 48++af (L[L.length-1-k]'(by omega))):=by
 unfold j4;rw[aab (by omega),aab (by omega)];have e1:L.length-(k+1)=L.length-1-k:=by omega
 have e2:L.length-k=L.length-1-k+1:=by omega
 rw[e1,e2];exact NR hl hc (by omega)
def Lf(c:Nat):Lib.repeatL [48] c=List.replicate c 48:=by
 induction c with
 |zero=>rfl
 |succ c ih=>rw[adX,<-ih];simp[Lib.repeatL]
def yT(A:Option Addr)(c n:Nat)(w:World)(hT:bK w)(hA:ay w A ((blk n).map U))(hm:(blk n).length<=10000) :
  Calls Tryz.prog 207 #[.slice A (blk n).length c] w fun e w'=>e=.returned (.string ⟨(af n).toArray⟩)/\Below w w w':=by
 by_cases h0:n=0
 ·subst h0
  rw[show blk 0=[] from rfl];go_enter Tryz.func207,Tryz.ntmps207;go_wp2_with fail;go_returns;exact⟨rfl,aac _ _⟩
 ·have hlt:=aCp n
  have hcn:=xw n;have HV:=Pd (gM n);have hpos:0<(blk n).length:=aaM.2 (nK h0);generalize blk n=L at*;have hz0:(((L.length:Nat):Int)==0)=false:=aaN.2 (by omega);go_enter Tryz.func207,Tryz.ntmps207;go_wp2_with fail
  go_loopw [11] (fun i wr=>∃(k:Nat),i=.int .i64 k/\k<=L.length/\Below w w wr/\fC w.heap.size w.heap.size (j4 L k) wr/\(j4 L k).length<=9*k) (fun i _=>L.length-(intOf i).toNat)
  case atStart=>exact⟨0,rfl,by omega,(aac _ w).alloc (Pe _) _,fC.new w,by simp[j4]⟩
  case round=>
   obtain⟨k,rfl,hk,hb,hB,hTl⟩:=hrel;have hTr:=hT.below hb;by_cases hlt2:k<L.length
   ·obtain⟨j,hj⟩:∃j,L.length-1-k=j:=⟨_,rfl⟩
    have hjl:j<L.length:=(by omega);obtain⟨b1,o1,rfl,Xw,hcell1⟩:=(hA.below hb) (by intro e;rw[aaO]at e;rw[e]at hjl;simp at hjl);have hc1:wr.cell? ⟨b1,o1+j,none⟩=some (.int .u64 L[j]):=hcell1 j _ (gP hjl);have hx:=hlt _ (aag hjl);have hfm:=fun W h=>Ih L[j] hx W h
    have hdl:(af L[j]).length<=9:=(kg L[j] 9 (by omega)).2 hx;have hd1:=aaM.2 (lw L[j]);obtain⟨F,hF⟩:∃F:ByteArray,(⟨(af L[j]).toArray⟩:ByteArray)=F:=⟨_,rfl⟩;have Uy:F.size=(af L[j]).length:=by rw[<-hF,aae]
    have TN:F.data.toList=af L[j]:=(by rw[<-hF]);rw[hF]at hfm;rw[<-Uy]at hdl hd1;have jb0:(0:Int)<=(j:Int):=by omega
    have jb1:(j:Int)<(L.length:Int):=by omega
    by_cases hk0:k=0
    ·subst hk0
     have HN:Hid (j4 L (0+1)=F.data.toList):=by
      rw[Hid,TN,NT hpos];congr 1;congr 1
     have HJ:=Pd hj;have HB0:fC w.heap.size w.heap.size [] wr:=hB;clear hcell1 hF Uy TN hB hTl;have w1:(L.length:Int)-1=(j:Int):=by omega
     go_wp2_with (first
      |(go_at_call 217;refine(hfm _ hTr.p10).mono ?_;rintro e w2 ⟨rfl,hb2⟩;have hB2:=HB0.below hb2;have TI:=ae hb hb2)
      |(go_at_call 77;refine(uU _ _ _ _ _ hB2 (by simp;omega) (by have:=TI.size;omega)).mono ?_;rintro e w3 ⟨rfl,hB3,hb3⟩;have VV:=TI.trans hb3))
     go_roundw
     case rel=>exact⟨1,by go_num,by omega,VV,by rw[HN.out];exact hB3,by rw[HN.out,<-aae];omega⟩
     case measure=>simp[intOf];omega
    ·have hkp:1<=k:=by omega
     have hmore:=NS hlt hcn hkp hlt2;have hR:=fun W=>Tryz.strings_Repeat ⟨#[48]⟩ (9-F.size) W (by omega) (by show 1*(9-F.size)<=_;omega)
     have VT:(⟨#[48]⟩:ByteArray).data.toList=[48]:=rfl;rw[VT,Lf]at hR;obtain⟨Z,hZ⟩:∃Z:ByteArray,(⟨(List.replicate (9-F.size) (48:UInt8)).toArray⟩:ByteArray)=Z:=⟨_,rfl⟩;have Un:Z.data.toList=List.replicate (9-F.size) 48:=by rw[<-hZ]
     have hZs:Z.size=9-F.size:=by rw[aae,Un,ac7]
     rw[hZ]at hR;have HN:Hid (j4 L (k+1)=j4 L k++Z.data.toList++F.data.toList):=by
      rw[Hid,hmore,Un,TN,Uy,<-aaZ];subst hj;rfl
     have HJ:=Pd hj;obtain⟨TT,hTT⟩:∃TT,j4 L k=TT:=⟨_,rfl⟩;rw[hTT]at hB hTl HN;have w1:IntKind.i64.wrap ((9:Int)-(F.size:Int))=((9-F.size:Nat):Int):=by rw[oF,acn _ ⟨by omega,by omega⟩];omega
     have w2:(9:Int)-(F.size:Int)=((9-F.size:Nat):Int):=(by omega);have w3:(L.length:Int)-1-(k:Int)=(j:Int):=(by omega);have w4:(((k:Nat):Int)>0):=(by omega);clear hcell1 hF Uy TN hmore VT hZ Un hTT hj;have hzf:9-F.size+F.size=9:=by omega
     generalize 9-F.size=zc at hR hZs w1 w2 hzf
     go_wp2_with (first
      |(go_at_call 217;refine(hfm _ hTr.p10).mono ?_;rintro e w2 ⟨rfl,hb2⟩;have hB2:=hB.below hb2;have TI:=ae hb hb2)
      |(go_at_call 218;refine(hR _).mono ?_;rintro e w3 ⟨rfl,hb3⟩;have hB3:=hB2.below hb3;have VV:=ae TI hb3)
      |(go_at_call_of 77 (Value.string Z);refine(uU _ _ _ _ _ hB3 (by omega) (by have:=VV.size;omega)).mono ?_;rintro e w4 ⟨rfl,hB4,hb4⟩;have aCa:=VV.trans hb4)
      |(go_at_call_of 77 (Value.string F);refine(uU _ _ _ _ _ hB4 (by rw[aas,<-aae];omega) (by have:=aCa.size;omega)).mono ?_;rintro e w5 ⟨rfl,TS,hb5⟩;have hbA5:=aCa.trans hb5))
     go_roundw
     case rel=>exact⟨k+1,by go_num,by omega,hbA5,by rw[HN.out];exact TS,by rw[HN.out,aas,aas,<-aae,<-aae];omega⟩
     case measure=>simp[intOf];omega
   ·obtain rfl:k=L.length:=by omega
    have hstr:=zq _ _ _ _ hB (by have:=hb.size;omega);have HK:Hid (j4 L L.length=af n):=by
     unfold Hid j4;rw[aab (by omega),abx,abj,HV.out]
    rw[HK.out]at hstr;clear hB hTl hA;go_wp2_with (first|(go_at_call 78;refine hstr.mono ?_;rintro e w3 ⟨rfl,hb3⟩;have VV:=hb.trans hb3));go_returns;exact⟨rfl,VV⟩
end Go.Proofs.YtppnecgeboonbaaGreatDoor.Rat3
