/- Walks. -/
import Derived.Test.YtppnecgeboonbaaGreatDoorZ27
namespace Go.Proofs.YtppnecgeboonbaaGreatDoor
set_option maxRecDepth 100000
set_option linter.all false
set_option maxHeartbeats 4000000
open Go Go.RowKit Go.Maps
def mJ(s:Bs):aH:=(bR (64::(s++[64]))).getD dX
def IX(s:ByteArray)(w:World)(hT:fD w)(hs:s.size<=100):Calls Tryz.prog 38 #[.string s] w fun e w'=>e=.returned (kR (mJ s.data.toList))/\Below w w w':=by
 have hc1:=fun W=>aef (P:=Tryz.prog) W ⟨#[64]⟩ s (by show 1+s.size<=_;omega)
 have hc2:=fun W=>aef (P:=Tryz.prog) W (⟨#[64]⟩++s) ⟨#[64]⟩ (by rw[adF];show 1+s.size+1<=_;omega)
 have hb0:Below w w (w.alloc (.cells #[.int .u8 0,.string ⟨#[]⟩,.string ⟨#[]⟩] 24)):=(aac _ _).alloc (Pe _) _;have e0:((⟨#[64]⟩++s)++(⟨#[64]⟩:ByteArray)).data.toList=64::(s.data.toList++[64]):=by rw[ByteArray.data_append,ByteArray.data_append];simp
 have p1:=fun W h=>lM ((⟨#[64]⟩++s)++(⟨#[64]⟩:ByteArray)) W h
 unfold ma at p1;rw[e0]at p1;obtain⟨F,V,hf,-,-⟩:=lI (mJ s.data.toList);have hl:kR ((bR (64::(s.data.toList++[64]))).getD dX)=.agg #[.int .u8 (mJ s.data.toList).op.toNat,.string F,.string V]:=hf;rw[hl]at p1;rw[hf];generalize (mJ s.data.toList).op=oo at*;generalize (bR (64::(s.data.toList++[64]))).isSome=q at*;clear hl hf e0;have c0:=aJ w #[.int .u8 0,.string ⟨#[]⟩,.string ⟨#[]⟩] 24 0 (.int .u8 0) rfl;have c1:=aJ w #[.int .u8 0,.string ⟨#[]⟩,.string ⟨#[]⟩] 24 1 (.string ⟨#[]⟩) rfl;have c2:=aJ w #[.int .u8 0,.string ⟨#[]⟩,.string ⟨#[]⟩] 24 2 (.string ⟨#[]⟩) rfl;have f0:=kU w #[.int .u8 0,.string ⟨#[]⟩,.string ⟨#[]⟩] 24 0;have f1:=kU w #[.int .u8 0,.string ⟨#[]⟩,.string ⟨#[]⟩] 24 1;have f2:=kU w #[.int .u8 0,.string ⟨#[]⟩,.string ⟨#[]⟩] 24 2;obtain⟨w0,hw0⟩:∃w0,w0=w.alloc (.cells #[.int .u8 0,.string ⟨#[]⟩,.string ⟨#[]⟩] 24):=⟨_,rfl⟩;rw[<-hw0]at c0 c1 c2 f0 f1 f2 hb0;have hs0:w.heap.size<w0.heap.size:=by rw[hw0];simp
 go_enter Tryz.func38,Tryz.ntmps38;go_upto_region 1 with(fail)
 rw[<-hw0];clear hw0;have HH:Hid (∀w2,Below w0 w0 w2->(w2.cell? ⟨w.heap.size,0,none⟩=some (.int .u8 0)/\w2.cell? ⟨w.heap.size,1,none⟩=some (.string ⟨#[]⟩)/\w2.cell? ⟨w.heap.size,2,none⟩=some (.string ⟨#[]⟩))/\w2.frozen? ⟨w.heap.size,0,none⟩=false/\w2.frozen? ⟨w.heap.size,1,none⟩=false/\w2.frozen? ⟨w.heap.size,2,none⟩=false):=fun w2 hb=>
  ⟨⟨(hb.cell (p:=⟨w.heap.size,0,none⟩) hs0).trans c0,(hb.cell (p:=⟨w.heap.size,1,none⟩) hs0).trans c1,(hb.cell (p:=⟨w.heap.size,2,none⟩) hs0).trans c2⟩,(aeB (a:=⟨w.heap.size,0,none⟩) (hb.block _ hs0)).trans f0,(aeB (a:=⟨w.heap.size,1,none⟩) (hb.block _ hs0)).trans f1,(aeB (a:=⟨w.heap.size,2,none⟩) (hb.block _ hs0)).trans f2⟩
 clear c0 c1 c2 f0 f1 f2;have pP:=p1 w0 (hT.below hb0);clear p1;go_upto_region 2 with(first|(go_at_call 11;refine pP.mono ?_;rintro e w2 ⟨rfl,hb2⟩))
 have bA:=(aac w2.heap.size w2).alloc (Pe _) (.cells #[.int .u8 oo.toNat,.string F,.string V] 24);have n0:=aJ w2 #[.int .u8 oo.toNat,.string F,.string V] 24 0 (.int .u8 oo.toNat) rfl;have n1:=aJ w2 #[.int .u8 oo.toNat,.string F,.string V] 24 1 (.string F) rfl;have n2:=aJ w2 #[.int .u8 oo.toNat,.string F,.string V] 24 2 (.string V) rfl;obtain⟨w3,hw3⟩:∃w3,w3=w2.alloc (.cells #[.int .u8 oo.toNat,.string F,.string V] 24):=⟨_,rfl⟩;rw[<-hw3]at bA n0 n1 n2 ⊢;have WF:=ae hb2 bA;obtain⟨⟨k0,k1,k2⟩,g0,g1,g2⟩:=HH.out w3 WF;clear hw3;go_wp2_with fail;refine aaD (by simp[results,Tryz.results38,go_sem,k0,k1,k2];try rfl) rfl ?_;exact⟨rfl,jm (ae hb0 WF) _ (Pe _) _ _ _⟩
def je(l:List Bs):List aH:=l.map mJ
def IQ(A:Option Addr)(c:Nat)(l:List Bs)(w:World)(hT:fD w)(hV:ay w A (l.map S))(hl:l.length<=1000)(hs:∀s∈l,s.length<=100):Calls Tryz.prog 12 #[.slice A l.length c] w fun e w'=>e=.returned (.bool (jH (je l)))/\Below w w w':=by
 have HV:=Pd hV;have HS:=Pd hs;clear hV hs;obtain⟨jf,cf,cf0,cf1,cf2⟩:=abm A9;go_enter Tryz.func12,Tryz.ntmps12;go_wp2_with fail
 go_loopw [3,4] (fun v i wr=>∃(k:Nat),i=.int .i64 k/\k<=l.length/\wr.ownsRow w.heap.size 24 3 v (je (l.take k)).length (iE (je (l.take k)))/\Below w w wr) (fun _ i _=>l.length-(intOf i).toNat)
 case atStart=>exact⟨0,rfl,by omega,by simpa[je,iE]using abN w w.heap.size 24 3,aac _ _⟩
 case round=>
  obtain⟨k,rfl,hk,hO,hB⟩:=hrel;by_cases hlt:k<l.length
  ·obtain⟨bx,ox,rfl,hbx,hx0⟩:=row_of HV.out hlt
   have hln:=HS.out _ (aag hlt);have htk:je (l.take (k+1))=je (l.take k)++[mJ l[k]]:=by unfold je;rw[aau hlt,aa3];rfl
   have hlk:(je (l.take k)).length=k:=by unfold je;rw[aaC,aaI];omega
   generalize je (l.take k)=y at*;generalize l[k]=s at*;obtain⟨Z,hZ⟩:∃Z:ByteArray,(⟨s.toArray⟩:ByteArray)=Z:=⟨_,rfl⟩;have Un:s=Z.data.toList:=by rw[<-hZ]
   subst Un;rw[eX]at hx0;clear hZ;have k0:=(hB.cell (p:=⟨bx,ox+k,none⟩) hbx).trans hx0;have i0:(0:Int)<=(k:Int):=by omega
   have il:(k:Int)<(l.length:Int):=(by omega);have pP:=IX Z wr (hT.below hB) (by rw[aae];exact hln);obtain⟨F,V,hf,TN,Ub⟩:=lI (mJ Z.data.toList);rw[hf]at pP;have hfc:iE (y++[mJ Z.data.toList])=iE y++[.int .u8 (mJ Z.data.toList).op.toNat,.string F,.string V]:=by rw[A8,TN,Ub,eX,eX]
   generalize (mJ Z.data.toList).op=oo at*;have Um:=Pd htk;have HFC:=Pd hfc;have HO:=Pd hO;have hyl:y.length<=1000:=by omega
   have HLK:=Pd hlk;have h63:y.length+1<=maxLen:=by unfold maxLen;omega
   have hby:(y.length+1)*40<=140737488355328:=(by omega);clear htk hfc hO hx0 hf TN Ub hlk
   go_wp2_with (first
    |(go_at_call 38;refine pP.mono ?_;rintro e w2 ⟨rfl,hb2⟩;have hB2:=ae hB hb2;have hO2:=eP (eP HO.out (aB.of_new (X:=fun _=>False) hb2) (fun _ _ e=>e)) (p9 (fun _=>False) w2 (.cells #[.int .u8 oo.toNat,.string F,.string V] 24)) (fun _ _ e=>e);have hnews:∀j u,(#[Value.int .u8 oo.toNat,.string F,.string V]).toList[j]? = some u->(w2.alloc (.cells #[.int .u8 oo.toNat,.string F,.string V] 24)).cell? ((⟨w2.heap.size,0,none⟩:Addr).add j)=some u:=abK (aaq w2 _);have hbase:w.heap.size<=(w2.alloc (.cells #[.int .u8 oo.toNat,.string F,.string V] 24)).heap.size:=(by have:=hB2.size;simp;omega))
    |(at_builtin;refine ac6 _ rfl (.tmp 11) (.tmp 17) 43 rfl w.heap.size 24 jf _ 3 40 Tryz.underlying43 cf cf0 cf1 cf2 rfl (by decide) _ y.length (iE y) rfl hO2 ⟨w2.heap.size,0,none⟩ 1 1 [.int .u8 oo.toNat,.string F,.string V] rfl rfl hnews (by simp[Value.oneCell']) (by decide) h63 hby hbase (w2.heap.size+1) (by simp) ?_;intro g5 cap5 w5 YW hgr5 TW Ul))
   have TS:=xS hB2 (Pe _) (fun g hg=>(hO2.lt g hg).1) hgr5;go_roundw
   case rel=>exact⟨k+1,by go_num,by omega,by rw[Um.out,aas,HFC.out];exact YW,TS⟩
   case measure=>simp[intOf];omega
  ·obtain rfl:k=l.length:=by omega
   rw[aaJ]at hO;obtain⟨Al,cl,rfl,hfl⟩:=Ba hO;have hlf:(je l).length<=1000:=by unfold je;rw[aaC];exact hl
   have pL:=Bp Al cl (je l) wr (hT.t.below hB) hfl (by omega);clear hO hfl;go_wp2_with (first|(go_at_call 21;refine pL.mono ?_;rintro e w5 ⟨rfl,hb5⟩));go_returns;exact⟨by(try rfl),ae hB hb5⟩
def xY(x y:Int)(W:ByteArray)(w:World):Calls Tryz.prog 47 #[.int .i64 x,.string W,.int .i64 y] w fun e w'=>e=.returned (.agg #[.int .i64 x,.int .i64 x,.string W,.int .i64 y])/\Below w w w':=by
 go_enter Tryz.func47,Tryz.ntmps47;go_wp2_with fail;refine aaD (by simp[results,Tryz.results47,go_sem];try rfl) rfl ?_;exact⟨rfl,(aac _ _).alloc (Pe _) _⟩
def Bw(w:World):Calls Tryz.prog 15 #[] w fun e w'=>∃A,e=.returned (.slice A lG.length 3)/\ay w' A (lG.map S)/\Below w w w':=by
 go_enter Tryz.func15,Tryz.ntmps15;go_wp2_with fail;go_returns;refine⟨some ⟨w.heap.size,0,none⟩,rfl,fun _=>⟨w.heap.size,0,rfl,by simp,fun j u hj=>?_⟩,(aac _ _).alloc (Pe _) _⟩;rw[aap _ w.heap.size _ _ _ _ (aaq w _),aaP]
 simpa[lG,S]using hj
end Go.Proofs.YtppnecgeboonbaaGreatDoor
