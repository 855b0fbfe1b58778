/- Walks. -/
import Derived.Test.YtppnecgeboonbaaGreatDoorZ21
namespace Go.Proofs.YtppnecgeboonbaaGreatDoor
set_option maxRecDepth 100000
set_option linter.all false
set_option maxHeartbeats 4000000
open Go.RowKit Go.Maps
def LV(s:ByteArray)(w:World)(h5:¬ s.size<5)(V7:¬ 40<s.size)(h0:s.data.toList.getD 0 0=64)(h2:s.data.toList.getD 2 0=46)(hl:s.data.toList.getD (s.size-1) 0=64):Calls Tryz.prog 18 #[.string s] w (ma w (aCf s.data.toList)):=by
 have HY:=Pd (J4 (s:=s.data.toList) (by rw[<-aae,h0,h2,hl];simp;omega));have d1:(s.size:Int)<=40:=by omega
 have d2:(5:Int)<=(s.size:Int):=by omega
 have d3:(3:Int)<=(s.size:Int)-1:=by omega
 have g0:0<s.size:=by omega
 have g1:1<s.size:=by omega
 have g2:2<s.size:=by omega
 have gl:s.size-1<s.size:=by omega
 rw[getD_at s 0 g0]at h0;rw[getD_at s 2 g2]at h2;rw[getD_at s _ gl]at hl;have q1:=getD_at s 1 g1;have t0:(((s[0]'g0).toNat:Int) != 64)=false:=uO h0;have t2:(((s[2]'g2).toNat:Int) != 46)=false:=uO h2;have tl:(((s[s.size-1]'gl).toNat:Int) != 64)=false:=uO hl;have i1:(0:Int)<=(s.size:Int)-1:=by omega
 have i2:(s.size:Int)-1<(s.size:Int):=by omega
 have i3:((s.size:Int)-1).toNat=s.size-1:=by omega
 have i4:(1:Int)<(s.size:Int):=by omega
 clear h0 h2 hl h5 V7;have VT:(s.extract 3 (s.size-1)).data.toList=rH s.data.toList:=by
  rw[eH,rH,<-aae,show s.size-1-3=s.size-4 by omega]
 have hR40:((s.extract 3 (s.size-1)).size:Int)<=40:=by
  have:(s.extract 3 (s.size-1)).size<=40:=by
   rw[aae,eH,aaI];omega
  omega
 go_enter aex,ad8;go_wp2_with fail;generalize s.extract 3 (s.size-1)=R at*;generalize s[1]'g1=op at*;have z0:=aJ w #[.int .u8 0,.string ⟨#[]⟩,.string ⟨#[]⟩] 24 0 _ rfl;have hbZ:Below w w (w.alloc (.cells #[.int .u8 0,.string ⟨#[]⟩,.string ⟨#[]⟩] 24)):=(aac _ _).alloc (Pe _) _;have hsZ:(w.alloc (.cells #[.int .u8 0,.string ⟨#[]⟩,.string ⟨#[]⟩] 24)).heap.size=w.heap.size+1:=by simp
 have bZC:Below (w.alloc (.cells #[.int .u8 0,.string ⟨#[]⟩,.string ⟨#[]⟩] 24)).heap.size (w.alloc (.cells #[.int .u8 0,.string ⟨#[]⟩,.string ⟨#[]⟩] 24)) ((w.alloc (.cells #[.int .u8 0,.string ⟨#[]⟩,.string ⟨#[]⟩] 24)).alloc (.cells #[.int .u8 op.toNat,.string R,.string ⟨#[]⟩] 24)):=(aac _ _).alloc (Pe _) _;have c0:=(bZC.cell (p:=⟨w.heap.size,0,none⟩) (by simp)).trans (aJ w _ _ 0 _ rfl);have c1:=(bZC.cell (p:=⟨w.heap.size,1,none⟩) (by simp)).trans (aJ w _ _ 1 _ rfl);have c2:=(bZC.cell (p:=⟨w.heap.size,2,none⟩) (by simp)).trans (aJ w _ _ 2 _ rfl);have f0:=(bZC.frozen (p:=⟨w.heap.size,0,none⟩) (by simp)).trans (kU w _ _ 0);have f1:=(bZC.frozen (p:=⟨w.heap.size,1,none⟩) (by simp)).trans (kU w _ _ 1);have f2:=(bZC.frozen (p:=⟨w.heap.size,2,none⟩) (by simp)).trans (kU w _ _ 2);have e0:=aJ (w.alloc (.cells #[.int .u8 0,.string ⟨#[]⟩,.string ⟨#[]⟩] 24)) #[.int .u8 op.toNat,.string R,.string ⟨#[]⟩] 24 0 _ rfl;have e1:=aJ (w.alloc (.cells #[.int .u8 0,.string ⟨#[]⟩,.string ⟨#[]⟩] 24)) #[.int .u8 op.toNat,.string R,.string ⟨#[]⟩] 24 1 _ rfl;have e2:=aJ (w.alloc (.cells #[.int .u8 0,.string ⟨#[]⟩,.string ⟨#[]⟩] 24)) #[.int .u8 op.toNat,.string R,.string ⟨#[]⟩] 24 2 _ rfl;have ff0:=kU (w.alloc (.cells #[.int .u8 0,.string ⟨#[]⟩,.string ⟨#[]⟩] 24)) #[.int .u8 op.toNat,.string R,.string ⟨#[]⟩] 24 0;have ff1:=kU (w.alloc (.cells #[.int .u8 0,.string ⟨#[]⟩,.string ⟨#[]⟩] 24)) #[.int .u8 op.toNat,.string R,.string ⟨#[]⟩] 24 1;have ff2:=kU (w.alloc (.cells #[.int .u8 0,.string ⟨#[]⟩,.string ⟨#[]⟩] 24)) #[.int .u8 op.toNat,.string R,.string ⟨#[]⟩] 24 2;rw[hsZ]at e0 e1 e2 ff0 ff1 ff2;have hB:=hbZ.trans (bZC.mono hbZ.size);have XA:w.heap.size+1<((w.alloc (.cells #[.int .u8 0,.string ⟨#[]⟩,.string ⟨#[]⟩] 24)).alloc (.cells #[.int .u8 op.toNat,.string R,.string ⟨#[]⟩] 24)).heap.size:=by simp
 clear z0 hbZ hsZ bZC;generalize (w.alloc (.cells #[.int .u8 0,.string ⟨#[]⟩,.string ⟨#[]⟩] 24)).alloc (.cells #[.int .u8 op.toNat,.string R,.string ⟨#[]⟩] 24)=w2 at*
 go_loopw [6] (fun i wr=>∃(k:Nat),i=.int .i64 k/\k<=R.size/\wr=w2/\Hid (∀c∈R.data.toList.take k,c≠46)) (fun i _=>R.size-(intOf i).toNat)
 case atStart=>exact⟨0,rfl,by omega,rfl,by simp[Hid]⟩
 case round=>
  obtain⟨k,rfl,hk,rfl,HN⟩:=hrel;by_cases hlt:k<R.size
  ·by_cases h46:R[k]'hlt=46
   ·have t46:(((R[k]'hlt).toNat:Int)==46)=true:=by rw[h46];rfl
    have i0:(0:Int)<=(k:Int):=(by omega);have il:(k:Int)<(R.size:Int):=(by omega);have il1:(k:Int)+1<=(R.size:Int):=(by omega);have il2:(0:Int)<=(k:Int)+1:=(by omega);have il3:((k:Int)+1).toNat=k+1:=(by omega);go_wp2_with fail;have hk':k<R.data.toList.length:=by rw[<-aae];exact hlt
    have hg:R.data.toList[k]=46:=by
     have hg:=getD_at R k hlt;rw[aaf,aak hk',abL]at hg;rw[hg];exact h46
    have hfl:kS s.data.toList=aD op (R.extract 0 k) (R.extract (k+1) R.size):=by
     unfold kS aD;rw[q1,<-VT,Ae hk' HN.out hg];congr 1
     ·rw[eH];simp
     ·rw[eH]
      exact(aav (by rw[aaH,<-aae];omega)).symm
    have Uy:(R.extract 0 k).size<=16384:=by rw[aae,eH,aaI];omega
    have Yu:(R.extract (k+1) R.size).size<=16384:=by rw[aae,eH,aaI];omega
    clear hg hk' HN hlt hk h46 i0 il il1 il2 il3 t46;generalize R.extract 0 k=F at*;generalize R.extract (k+1) R.size=V at*;have x0:((wr.setCell ⟨w.heap.size+1,1,none⟩ (.string F)).setCell ⟨w.heap.size+1,2,none⟩ (.string V)).cell? ⟨w.heap.size,0,none⟩=some (.int .u8 0):=by simp[c0,go_sem]
    have x1:((wr.setCell ⟨w.heap.size+1,1,none⟩ (.string F)).setCell ⟨w.heap.size+1,2,none⟩ (.string V)).cell? ⟨w.heap.size,1,none⟩=some (.string ⟨#[]⟩):=(by simp[c1,go_sem]);have x2:((wr.setCell ⟨w.heap.size+1,1,none⟩ (.string F)).setCell ⟨w.heap.size+1,2,none⟩ (.string V)).cell? ⟨w.heap.size,2,none⟩=some (.string ⟨#[]⟩):=(by simp[c2,go_sem]);have y0:((wr.setCell ⟨w.heap.size+1,1,none⟩ (.string F)).setCell ⟨w.heap.size+1,2,none⟩ (.string V)).cell? ⟨w.heap.size+1,0,none⟩=some (.int .u8 op.toNat):=(by simp[e0,go_sem]);have y1:((wr.setCell ⟨w.heap.size+1,1,none⟩ (.string F)).setCell ⟨w.heap.size+1,2,none⟩ (.string V)).cell? ⟨w.heap.size+1,1,none⟩=some (.string F):=(by simp[e1,go_sem]);have y2:((wr.setCell ⟨w.heap.size+1,1,none⟩ (.string F)).setCell ⟨w.heap.size+1,2,none⟩ (.string V)).cell? ⟨w.heap.size+1,2,none⟩=some (.string V):=(by simp[e2,go_sem]);have v0:((wr.setCell ⟨w.heap.size+1,1,none⟩ (.string F)).setCell ⟨w.heap.size+1,2,none⟩ (.string V)).frozen? ⟨w.heap.size,0,none⟩=false:=(by simp[f0,go_sem]);have v1:((wr.setCell ⟨w.heap.size+1,1,none⟩ (.string F)).setCell ⟨w.heap.size+1,2,none⟩ (.string V)).frozen? ⟨w.heap.size,1,none⟩=false:=(by simp[f1,go_sem]);have v2:((wr.setCell ⟨w.heap.size+1,1,none⟩ (.string F)).setCell ⟨w.heap.size+1,2,none⟩ (.string V)).frozen? ⟨w.heap.size,2,none⟩=false:=(by simp[f2,go_sem]);have VW:w.heap.size+1<((wr.setCell ⟨w.heap.size+1,1,none⟩ (.string F)).setCell ⟨w.heap.size+1,2,none⟩ (.string V)).heap.size:=(by simpa using XA);have hB4:Below w w ((wr.setCell ⟨w.heap.size+1,1,none⟩ (.string F)).setCell ⟨w.heap.size+1,2,none⟩ (.string V)):=(hB.setCell (p:=⟨w.heap.size+1,1,none⟩) (adU _) _).setCell (p:=⟨w.heap.size+1,2,none⟩) (adU _) _;clear c0 c1 c2 e0 e1 e2 f0 f1 f2 ff0 ff1 ff2 XA hB;generalize (wr.setCell ⟨w.heap.size+1,1,none⟩ (.string F)).setCell ⟨w.heap.size+1,2,none⟩ (.string V)=w4 at*;have p1:=fun W=>yI op F V W Uy Yu
    have p3:=fun W=>wm op F V W Uy Yu
    obtain⟨U,hU⟩:∃U:ByteArray,(⟨(bU (aD op F V)).toArray⟩:ByteArray)=U:=⟨_,rfl⟩;have UU:U.data.toList=bU (aD op F V):=by rw[<-hU]
    rw[hU]at p3;have HQ:Hid (aCf s.data.toList=if aN (aD op F V)=true/\U.data.toList=s.data.toList then some (aD op F V) else none):=by
     have:=HY.out;rw[hfl,<-UU]at this;exact this
    have TP:w.heap.size<w4.heap.size:=aep VW;clear hU UU hfl HY Uy Yu
    cases hv:aN (aD op F V) with
    |false=>
     have HX:Hid (aCf s.data.toList=none):=HQ.out.trans (aab (by rw[hv];rintro⟨h,_⟩;cases h));rw[hv]at p1;clear HQ hv p3;refine(p1 _).mono ?_;rintro e w3 ⟨rfl,b3⟩;have r0:=(b3.cell (p:=⟨w.heap.size,0,none⟩) TP).trans x0;have r1:=(b3.cell (p:=⟨w.heap.size,1,none⟩) TP).trans x1;have r2:=(b3.cell (p:=⟨w.heap.size,2,none⟩) TP).trans x2;have g0:=(b3.frozen (p:=⟨w.heap.size,0,none⟩) TP).trans v0;have g1:=(b3.frozen (p:=⟨w.heap.size,1,none⟩) TP).trans v1;have g2:=(b3.frozen (p:=⟨w.heap.size,2,none⟩) TP).trans v2;have TS:=ae hB4 b3;clear x0 x1 x2 v0 v1 v2 y0 y1 y2 b3 p1;go_wp2_with fail;refine aaD (by simp[results,acm,go_sem,r0,r1,r2];try rfl) rfl ?_;rw[HX.out];exact⟨rfl,jm TS _ (Pe _) _ _ _⟩
    |true=>
     rw[hv]at p1;refine(p1 _).mono ?_;rintro e w3 ⟨rfl,b3⟩;have r0:=(b3.cell (p:=⟨w.heap.size,0,none⟩) TP).trans x0;have r1:=(b3.cell (p:=⟨w.heap.size,1,none⟩) TP).trans x1;have r2:=(b3.cell (p:=⟨w.heap.size,2,none⟩) TP).trans x2;have g0:=(b3.frozen (p:=⟨w.heap.size,0,none⟩) TP).trans v0;have g1:=(b3.frozen (p:=⟨w.heap.size,1,none⟩) TP).trans v1;have g2:=(b3.frozen (p:=⟨w.heap.size,2,none⟩) TP).trans v2;have m0:=(b3.cell (p:=⟨w.heap.size+1,0,none⟩) VW).trans y0;have m1:=(b3.cell (p:=⟨w.heap.size+1,1,none⟩) VW).trans y1;have m2:=(b3.cell (p:=⟨w.heap.size+1,2,none⟩) VW).trans y2;have TS:=ae hB4 b3;have WS:w.heap.size+1<w3.heap.size:=aah VW b3.size;have hl5:w.heap.size<w3.heap.size:=aep WS;clear x0 x1 x2 v0 v1 v2 y0 y1 y2 b3 p1 hB4 TP VW;go_wp2_with fail;refine(p3 _).mono ?_;rintro e w6 ⟨rfl,b6⟩;have x0:=(b6.cell (p:=⟨w.heap.size,0,none⟩) hl5).trans r0;have x1:=(b6.cell (p:=⟨w.heap.size,1,none⟩) hl5).trans r1;have x2:=(b6.cell (p:=⟨w.heap.size,2,none⟩) hl5).trans r2;have v0:=(b6.frozen (p:=⟨w.heap.size,0,none⟩) hl5).trans g0;have v1:=(b6.frozen (p:=⟨w.heap.size,1,none⟩) hl5).trans g1;have v2:=(b6.frozen (p:=⟨w.heap.size,2,none⟩) hl5).trans g2;have y0:=(b6.cell (p:=⟨w.heap.size+1,0,none⟩) WS).trans m0;have y1:=(b6.cell (p:=⟨w.heap.size+1,1,none⟩) WS).trans m1;have y2:=(b6.cell (p:=⟨w.heap.size+1,2,none⟩) WS).trans m2;have TV:=ae TS b6;clear r0 r1 r2 g0 g1 g2 m0 m1 m2 b6 p3 TS WS hl5;by_cases Ud:U.data.toList=s.data.toList
     ·have HX:Hid (aCf s.data.toList=some (aD op F V)):=HQ.out.trans (aaa ⟨hv,Ud⟩)
      have t1:(U.toList != s.toList)=false:=by rw[aan,aan,Ud];simp
      have t1':(U.toList==s.toList)=true:=(by rw[aan,aan,Ud,ack]);clear HQ hv Ud;go_wp2_with fail;refine aaD (by simp[results,acm,go_sem,x0,x1,x2];try rfl) rfl ?_;rw[HX.out];exact⟨rfl,jm TV _ (Pe _) _ _ _⟩
     ·have HX:Hid (aCf s.data.toList=none):=HQ.out.trans (aab (by rintro⟨_,h⟩;exact Ud h))
      have t1:(U.toList != s.toList)=true:=by rw[aan,aan];simpa using Ud
      have t1':(U.toList==s.toList)=false:=by rw[aan,aan];simpa using Ud
      clear HQ hv Ud;go_wp2_with fail;refine aaD (by simp[results,acm,go_sem,x0,x1,x2];try rfl) rfl ?_;rw[HX.out];exact⟨rfl,jm TV _ (Pe _) _ _ _⟩
   ·have t46:(((R[k]'hlt).toNat:Int)==46)=false:=by
     have:=oC (R[k]'hlt) 46;rw[aai h46]at this;exact this
    have i0:(0:Int)<=(k:Int):=(by omega);have il:(k:Int)<(R.size:Int):=(by omega);have il1:(k:Int)+1<=(R.size:Int):=(by omega);have il2:(0:Int)<=(k:Int)+1:=(by omega);have il3:((k:Int)+1).toNat=k+1:=by omega
    have HX:Hid (∀c∈R.data.toList.take (k+1),c≠46):=by
     have hk':k<R.data.toList.length:=by rw[<-aae];exact hlt
     have hg:=getD_at R k hlt;rw[aaf,aak hk',abL]at hg;have:=xQ (p:=fun c:UInt8=>decide (c≠46)) hk' (fun x hx=>aaA (HN.out x hx)) (by rw[hg];exact aaA h46);exact fun c hc=>abp (this c hc)
    go_wp2_with fail;go_roundw
    case rel=>exact⟨k+1,by go_num,by omega,by trivial,HX.out⟩
    case measure=>simp[intOf];omega
  ·obtain rfl:k=R.size:=by omega
   go_wp2_with fail;have hfl:kS s.data.toList=aD op R ⟨#[]⟩:=by
    have hn:=HN.out;rw[aae,aaJ]at hn;unfold kS aD;rw[q1,<-VT,Ag hn]
   have Uy:R.size<=16384:=(by omega);have Yu:(⟨#[]⟩:ByteArray).size<=16384:=(by decide);have VW:=XA;have hB4:=hB;have x0:=c0;have x1:=c1;have x2:=c2;have y0:=e0;have y1:=e1;have y2:=e2;have v0:=f0;have v1:=f1;have v2:=f2;clear c0 c1 c2 e0 e1 e2 f0 f1 f2 ff0 ff1 ff2 XA hB HN
   rename World=>w4
   have p1:=fun W=>yI op R ⟨#[]⟩ W Uy Yu
   have p3:=fun W=>wm op R ⟨#[]⟩ W Uy Yu
   obtain⟨U,hU⟩:∃U:ByteArray,(⟨(bU (aD op R ⟨#[]⟩)).toArray⟩:ByteArray)=U:=⟨_,rfl⟩;have UU:U.data.toList=bU (aD op R ⟨#[]⟩):=by rw[<-hU]
   rw[hU]at p3;have HQ:Hid (aCf s.data.toList=if aN (aD op R ⟨#[]⟩)=true/\U.data.toList=s.data.toList then some (aD op R ⟨#[]⟩) else none):=by
    have:=HY.out;rw[hfl,<-UU]at this;exact this
   have TP:w.heap.size<w4.heap.size:=aep VW;clear hU UU hfl HY Uy Yu
   cases hv:aN (aD op R ⟨#[]⟩) with
   |false=>
    have HX:Hid (aCf s.data.toList=none):=HQ.out.trans (aab (by rw[hv];rintro⟨h,_⟩;cases h));rw[hv]at p1;clear HQ hv p3;refine(p1 _).mono ?_;rintro e w3 ⟨rfl,b3⟩;have r0:=(b3.cell (p:=⟨w.heap.size,0,none⟩) TP).trans x0;have r1:=(b3.cell (p:=⟨w.heap.size,1,none⟩) TP).trans x1;have r2:=(b3.cell (p:=⟨w.heap.size,2,none⟩) TP).trans x2;have g0:=(b3.frozen (p:=⟨w.heap.size,0,none⟩) TP).trans v0;have g1:=(b3.frozen (p:=⟨w.heap.size,1,none⟩) TP).trans v1;have g2:=(b3.frozen (p:=⟨w.heap.size,2,none⟩) TP).trans v2;have TS:=ae hB4 b3;clear x0 x1 x2 v0 v1 v2 y0 y1 y2 b3 p1;go_wp2_with fail;refine aaD (by simp[results,acm,go_sem,r0,r1,r2];try rfl) rfl ?_;rw[HX.out];exact⟨rfl,jm TS _ (Pe _) _ _ _⟩
   |true=>
    rw[hv]at p1;refine(p1 _).mono ?_;rintro e w3 ⟨rfl,b3⟩;have r0:=(b3.cell (p:=⟨w.heap.size,0,none⟩) TP).trans x0;have r1:=(b3.cell (p:=⟨w.heap.size,1,none⟩) TP).trans x1;have r2:=(b3.cell (p:=⟨w.heap.size,2,none⟩) TP).trans x2;have g0:=(b3.frozen (p:=⟨w.heap.size,0,none⟩) TP).trans v0;have g1:=(b3.frozen (p:=⟨w.heap.size,1,none⟩) TP).trans v1;have g2:=(b3.frozen (p:=⟨w.heap.size,2,none⟩) TP).trans v2;have m0:=(b3.cell (p:=⟨w.heap.size+1,0,none⟩) VW).trans y0;have m1:=(b3.cell (p:=⟨w.heap.size+1,1,none⟩) VW).trans y1;have m2:=(b3.cell (p:=⟨w.heap.size+1,2,none⟩) VW).trans y2;have TS:=ae hB4 b3;have WS:w.heap.size+1<w3.heap.size:=aah VW b3.size;have hl5:w.heap.size<w3.heap.size:=aep WS;clear x0 x1 x2 v0 v1 v2 y0 y1 y2 b3 p1 hB4 TP VW;go_wp2_with fail;refine(p3 _).mono ?_;rintro e w6 ⟨rfl,b6⟩;have x0:=(b6.cell (p:=⟨w.heap.size,0,none⟩) hl5).trans r0;have x1:=(b6.cell (p:=⟨w.heap.size,1,none⟩) hl5).trans r1;have x2:=(b6.cell (p:=⟨w.heap.size,2,none⟩) hl5).trans r2;have v0:=(b6.frozen (p:=⟨w.heap.size,0,none⟩) hl5).trans g0;have v1:=(b6.frozen (p:=⟨w.heap.size,1,none⟩) hl5).trans g1;have v2:=(b6.frozen (p:=⟨w.heap.size,2,none⟩) hl5).trans g2;have y0:=(b6.cell (p:=⟨w.heap.size+1,0,none⟩) WS).trans m0;have y1:=(b6.cell (p:=⟨w.heap.size+1,1,none⟩) WS).trans m1;have y2:=(b6.cell (p:=⟨w.heap.size+1,2,none⟩) WS).trans m2;have TV:=ae TS b6;clear r0 r1 r2 g0 g1 g2 m0 m1 m2 b6 p3 TS WS hl5;by_cases Ud:U.data.toList=s.data.toList
    ·have HX:Hid (aCf s.data.toList=some (aD op R ⟨#[]⟩)):=HQ.out.trans (aaa ⟨hv,Ud⟩)
     have t1:(U.toList != s.toList)=false:=by rw[aan,aan,Ud];simp
     have t1':(U.toList==s.toList)=true:=(by rw[aan,aan,Ud,ack]);clear HQ hv Ud;go_wp2_with fail;refine aaD (by simp[results,acm,go_sem,x0,x1,x2];try rfl) rfl ?_;rw[HX.out];exact⟨rfl,jm TV _ (Pe _) _ _ _⟩
    ·have HX:Hid (aCf s.data.toList=none):=HQ.out.trans (aab (by rintro⟨_,h⟩;exact Ud h))
     have t1:(U.toList != s.toList)=true:=by rw[aan,aan];simpa using Ud
     have t1':(U.toList==s.toList)=false:=by rw[aan,aan];simpa using Ud
     clear HQ hv Ud;go_wp2_with fail;refine aaD (by simp[results,acm,go_sem,x0,x1,x2];try rfl) rfl ?_;rw[HX.out];exact⟨rfl,jm TV _ (Pe _) _ _ _⟩
def LQ(s:ByteArray)(w:World):Calls Tryz.prog 18 #[.string s] w (ma w (aCf s.data.toList)):=by
 by_cases h:s.size<5\/40<s.size\/s.data.toList.getD 0 0≠64\/s.data.toList.getD 2 0≠46\/s.data.toList.getD (s.size-1) 0≠64
 ·exact LU s w h
 ·have h':¬ s.size<5/\¬ 40<s.size/\s.data.toList.getD 0 0=64/\s.data.toList.getD 2 0=46/\s.data.toList.getD (s.size-1) 0=64:=by
   simp only[acw,ne_eq,Decidable.not_not]at h;exact h
  exact LV s w h'.1 h'.2.1 h'.2.2.1 h'.2.2.2.1 h'.2.2.2.2
end Go.Proofs.YtppnecgeboonbaaGreatDoor
