/- Walks. -/
import Derived.Test.YtppnecgeboonbaaGreatDoorZ08
namespace Go.Proofs.YtppnecgeboonbaaGreatDoor
set_option maxRecDepth 100000
set_option linter.all false
set_option maxHeartbeats 4000000
open Go.RowKit Go.Maps
structure fD (w:World):Prop where
 t:bK w
 r:Rat3.bK w
def fD.below{w w':World}(h:fD w)(hb:Below w w w'):fD w':=⟨h.t.below hb,h.r.below hb⟩
def kR(f:aH):Value:=.agg #[.int .u8 f.op.toNat,S f.feat,S f.val]
def ma(w:World)(r:Option aH)(e:Ending)(w':World):Prop:=e=.returned (.tuple #[kR (r.getD dX),.bool r.isSome])/\Below w w w'
def GN(s:ByteArray)(w:World)(hT:fD w)(hs:s.size<=100):Calls Tryz.prog 36 #[.string s,.string ⟨#[46]⟩] w fun e w'=>∃b,e=.returned (.slice (some ⟨b,0,none⟩) (dots s.data.toList).length (dots s.data.toList).length)/\(∀j,(hj:j<(dots s.data.toList).length)->w'.cell? ⟨b,j,none⟩=some (S (dots s.data.toList)[j]))/\w.heap.size<=b/\Below w w w':=by
 obtain⟨m,hm⟩:=hT.r.mx;refine(Tryz.strings_Split s ⟨#[46]⟩ m w (by omega) hm (by decide)).mono ?_;have hd:=Eb s;have hl:(dots s.data.toList).length=Lib.countB s ⟨#[46]⟩+1:=by
  rw[<-hd,aaC];exact Lib.splitB_all _ (by decide) 0 _ s rfl
 rintro e w' ⟨rfl,rfl⟩;refine⟨w.heap.size,by rw[hl],fun j hj=>?_,Pe _,(aac _ _).alloc (Pe _) _⟩;refine aJ w _ _ j _ ?_;rw[aeK,abA];have hj':j<(Lib.splitB ⟨#[46]⟩ 0 (Lib.countB s ⟨#[46]⟩) s).length:=by
  have:=aaw List.length hd;rw[aaC]at this;omega
 rw[aak hj',aba];congr 1;have:(dots s.data.toList)[j]=(Lib.splitB ⟨#[46]⟩ 0 (Lib.countB s ⟨#[46]⟩) s)[j].data.toList:=by
  simp only[<-hd,acr]
 rw[this,eX]
def J6{s:Bs}(h:s.length<2\/40<s.length):bR s=none:=by unfold bR;rw[aaa (by omega)]
def J5{s:Bs}(h:¬ s.length<2/\¬ 40<s.length):bR s=if (dots (inner s)).length<2\/3<(dots (inner s)).length\/((dots (inner s)).getD 0 []).length≠1 then none else if iP (uj (dots (inner s)))≠s then none else some (uj (dots (inner s))):=by
 unfold bR;rw[aab (by omega)]
def Ip{s:ByteArray}(h:2<=s.size):(s.extract 1 (s.size-1)).data.toList=inner s.data.toList:=by
 rw[eH,inner,<-aae,show s.size-1-1=s.size-2 by omega]
def kU(w:World)(A:Array Value)(t:TypeId)(o:Nat):(w.alloc (.cells A t)).frozen? ⟨w.heap.size,o,none⟩=false:=by
 unfold World.frozen?;rw[aaq];simp
abbrev iB(w:World)(b:Nat)(x y z:Value):World:=((w.setCell ⟨b,0,none⟩ x).setCell ⟨b,1,none⟩ y).setCell ⟨b,2,none⟩ z
def jm{n:Nat}{w w1:World}(h:Below n w w1)(b:Nat)(hb:n<=b)(x y z:Value):Below n w (iB w1 b x y z):=((h.setCell (p:=⟨b,0,none⟩) hb _).setCell (p:=⟨b,1,none⟩) hb _).setCell (p:=⟨b,2,none⟩) hb _
def lM(s:ByteArray)(w:World)(hT:fD w):Calls Tryz.prog 11 #[.string s] w (ma w (bR s.data.toList)):=by
 have hb0:Below w w (w.alloc (.cells #[.int .u8 0,.string ⟨#[]⟩,.string ⟨#[]⟩] 24)):=(aac _ _).alloc (Pe _) _;by_cases hsz:s.size<2\/40<s.size
 ·have HX:Hid (bR s.data.toList=none):=J6 (by rw[<-aae];exact hsz)
  by_cases V7:40<s.size
  ·have d1:(40:Int)<(s.size:Int):=by omega
   clear hsz V7;go_enter Tryz.func11,Tryz.ntmps11;go_wp2_with fail;have c0:=aJ w #[.int .u8 0,.string ⟨#[]⟩,.string ⟨#[]⟩] 24 0 _ rfl;have c1:=aJ w #[.int .u8 0,.string ⟨#[]⟩,.string ⟨#[]⟩] 24 1 _ rfl;have c2:=aJ w #[.int .u8 0,.string ⟨#[]⟩,.string ⟨#[]⟩] 24 2 _ rfl;refine aaD (by simp[results,acM,go_sem,c0,c1,c2];try rfl) rfl ?_;rw[HX.out];exact⟨rfl,hb0⟩
  ·have d1:(s.size:Int)<=40:=by omega
   have d2:(s.size:Int)<2:=(by omega);clear hsz V7;go_enter Tryz.func11,Tryz.ntmps11;go_wp2_with fail;have c0:=aJ w #[.int .u8 0,.string ⟨#[]⟩,.string ⟨#[]⟩] 24 0 _ rfl;have c1:=aJ w #[.int .u8 0,.string ⟨#[]⟩,.string ⟨#[]⟩] 24 1 _ rfl;have c2:=aJ w #[.int .u8 0,.string ⟨#[]⟩,.string ⟨#[]⟩] 24 2 _ rfl;refine aaD (by simp[results,acM,go_sem,c0,c1,c2];try rfl) rfl ?_;rw[HX.out];exact⟨rfl,hb0⟩
 ·have d1:(s.size:Int)<=40:=by omega
  have d2:(2:Int)<=(s.size:Int):=by omega
  have d3:(1:Int)<=(s.size:Int)-1:=by omega
  have d4:(s.size:Int)-1<=(s.size:Int):=by omega
  have cS:=fun W hW=>GN (s.extract 1 (s.size-1)) W hW (by rw[aae,eH,aaI];omega)
  have hnat:((s.size:Int)-1).toNat=s.size-1:=by omega
  rw[Ip (by omega)]at cS;clear hsz;go_enter Tryz.func11,Tryz.ntmps11;go_wp2_with fail;refine(cS _ (hT.below hb0)).mono ?_;rintro e w1 ⟨b,rfl,hcell,hbb,b1⟩;have hB1:=ae hb0 b1;have c0:=(b1.cell (p:=⟨w.heap.size,0,none⟩) (by simp)).trans (aJ w #[.int .u8 0,.string ⟨#[]⟩,.string ⟨#[]⟩] 24 0 _ rfl);have c1:=(b1.cell (p:=⟨w.heap.size,1,none⟩) (by simp)).trans (aJ w #[.int .u8 0,.string ⟨#[]⟩,.string ⟨#[]⟩] 24 1 _ rfl);have c2:=(b1.cell (p:=⟨w.heap.size,2,none⟩) (by simp)).trans (aJ w #[.int .u8 0,.string ⟨#[]⟩,.string ⟨#[]⟩] 24 2 _ rfl);have HP:=Pd (J5 (s:=s.data.toList) (by rw[<-aae];omega));generalize dots (inner s.data.toList)=l at*;replace c0:w1.cell? ⟨w.heap.size,0,none⟩=some (.int .u8 0):=c0;replace c1:w1.cell? ⟨w.heap.size,1,none⟩=some (.string ⟨#[]⟩):=c1;replace c2:w1.cell? ⟨w.heap.size,2,none⟩=some (.string ⟨#[]⟩):=c2;have f0:w1.frozen? ⟨w.heap.size,0,none⟩=false:=(b1.frozen (p:=⟨w.heap.size,0,none⟩) (by simp)).trans (kU w _ _ 0);have f1:w1.frozen? ⟨w.heap.size,1,none⟩=false:=(b1.frozen (p:=⟨w.heap.size,1,none⟩) (by simp)).trans (kU w _ _ 1);have f2:w1.frozen? ⟨w.heap.size,2,none⟩=false:=(b1.frozen (p:=⟨w.heap.size,2,none⟩) (by simp)).trans (kU w _ _ 2);clear b1 hb0 cS;by_cases hl2:l.length<2
  ·have e1:(l.length:Int)<2:=by omega
   have HX:Hid (bR s.data.toList=none):=HP.out.trans (aaa (by omega));clear HP hl2;go_wp2_with fail;refine aaD (by simp[results,acM,go_sem,c0,c1,c2];try rfl) rfl ?_;rw[HX.out];exact⟨rfl,jm hB1 _ (Pe _) _ _ _⟩
  by_cases hl3:3<l.length
  ·have e1:(2:Int)<=(l.length:Int):=by omega
   have e2:(3:Int)<(l.length:Int):=(by omega);have HX:Hid (bR s.data.toList=none):=HP.out.trans (aaa (by omega));clear HP hl2 hl3;go_wp2_with fail;refine aaD (by simp[results,acM,go_sem,c0,c1,c2];try rfl) rfl ?_;rw[HX.out];exact⟨rfl,jm hB1 _ (Pe _) _ _ _⟩
  have e1:(2:Int)<=(l.length:Int):=by omega
  have e2:(l.length:Int)<=3:=by omega
  have z0:=hcell 0 (by omega);clear z0;by_cases hl1:(l.getD 0 []).length=1
  ·have hform:(∃(o:UInt8) (T:ByteArray),l=[[o],T.data.toList])\/(∃(o:UInt8) (T V:ByteArray),l=[[o],T.data.toList,V.data.toList]):=by
    clear hcell HP e1 e2
    match l,hl2,hl3,hl1 with
    |[[o],t],_,_,_=>exact aam ⟨o,⟨t.toArray⟩,rfl⟩
    |[[o],t,v],_,_,_=>exact aad ⟨o,⟨t.toArray⟩,⟨v.toArray⟩,rfl⟩
    |[],h,_,_=>simp at h
    |[]::_,_,_,h=>simp at h
    |(_::_::_)::_,_,_,h=>simp at h
    |[_],h,_,_=>simp at h
    |_::_::_::_::_,_,h,_=>simp at h
   rcases hform with⟨o,T,rfl⟩|⟨o,T,V,rfl⟩
   ·have z0:w1.cell? ⟨b,0,none⟩=some (.string ⟨#[o]⟩):=hcell 0 (by simp)
    have z1:w1.cell? ⟨b,1,none⟩=some (.string T):=(hcell 1 (by simp)).trans (by simp[eX]);have ZU:=Pd (HP.out.trans (aab (by simp)));clear hcell HP hl2 hl3 hl1 e1 e2;obtain⟨X,hX⟩:∃X:ByteArray,(⟨#[o]⟩:ByteArray)=X:=⟨_,rfl⟩;have Vm:X.size=1:=by rw[<-hX];rfl
    have hX0:∀h:0<X.size,X[0]'h=o:=by intro h;subst hX;rfl
    rw[hX]at z0;have cW:=fun W hW=>zl o T ⟨#[]⟩ W hW
    obtain⟨U,hU⟩:∃U:ByteArray,(⟨(iP (aD o T ⟨#[]⟩)).toArray⟩:ByteArray)=U:=⟨_,rfl⟩;have UU:U.data.toList=iP (aD o T ⟨#[]⟩):=by rw[<-hU]
    have HU:Hid (bR s.data.toList=if U.data.toList≠s.data.toList then none else some (aD o T ⟨#[]⟩)):=ZU.out.trans (by rw[UU];rfl);change ∀W,bK W->Calls _ _ _ W _ at cW;rw[show(⟨(iP ⟨o,T.data.toList,(⟨#[]⟩:ByteArray).data.toList⟩).toArray⟩:ByteArray)=U from hU]at cW;clear UU hU ZU hX;go_wp2_with fail
    go_region
    have q0:(iB w1 w.heap.size (.int .u8 o.toNat) (.string T) (.string ⟨#[]⟩)).drew.cell? ⟨w.heap.size,0,none⟩=some (.int .u8 o.toNat):=(by simp[c0,go_sem]);have q1:(iB w1 w.heap.size (.int .u8 o.toNat) (.string T) (.string ⟨#[]⟩)).drew.cell? ⟨w.heap.size,1,none⟩=some (.string T):=(by simp[c1,go_sem]);have q2:(iB w1 w.heap.size (.int .u8 o.toNat) (.string T) (.string ⟨#[]⟩)).drew.cell? ⟨w.heap.size,2,none⟩=some (.string ⟨#[]⟩):=(by simp[c2,go_sem]);have g0:(iB w1 w.heap.size (.int .u8 o.toNat) (.string T) (.string ⟨#[]⟩)).drew.frozen? ⟨w.heap.size,0,none⟩=false:=(by simp[f0,go_sem]);have g1:(iB w1 w.heap.size (.int .u8 o.toNat) (.string T) (.string ⟨#[]⟩)).drew.frozen? ⟨w.heap.size,1,none⟩=false:=(by simp[f1,go_sem]);have g2:(iB w1 w.heap.size (.int .u8 o.toNat) (.string T) (.string ⟨#[]⟩)).drew.frozen? ⟨w.heap.size,2,none⟩=false:=(by simp[f2,go_sem]);have hBq:Below w w (iB w1 w.heap.size (.int .u8 o.toNat) (.string T) (.string ⟨#[]⟩)).drew:=(jm hB1 _ (Pe _) _ _ _).drew;clear c0 c1 c2 f0 f1 f2 z0 z1 hX0 Vm;change Exit.then _ _ _ _ (iB w1 w.heap.size (.int .u8 o.toNat) (.string T) (.string ⟨#[]⟩)).drew;generalize (iB w1 w.heap.size (.int .u8 o.toNat) (.string T) (.string ⟨#[]⟩)).drew=w2 at*;have hTq:=hT.below hBq;have hlt:w.heap.size<w2.heap.size:=ax q0;go_wp2_with fail;refine(cW _ hTq.t).mono ?_;rintro e w3 ⟨rfl,b3⟩;have r0:=(b3.cell (p:=⟨w.heap.size,0,none⟩) hlt).trans q0;have r1:=(b3.cell (p:=⟨w.heap.size,1,none⟩) hlt).trans q1;have r2:=(b3.cell (p:=⟨w.heap.size,2,none⟩) hlt).trans q2;have k0:=(b3.frozen (p:=⟨w.heap.size,0,none⟩) hlt).trans g0;have k1:=(b3.frozen (p:=⟨w.heap.size,1,none⟩) hlt).trans g1;have k2:=(b3.frozen (p:=⟨w.heap.size,2,none⟩) hlt).trans g2;have hB3:=ae hBq b3;clear q0 q1 q2 g0 g1 g2 cW;by_cases Ud:U.data.toList=s.data.toList
    ·have tst:(U.toList==s.toList)=true:=by rw[aan,aan,Ud,ack]
     have HX:Hid (bR s.data.toList=some (aD o T ⟨#[]⟩)):=HU.out.trans (aab (by simpa using Ud));clear HU;go_wp2_with fail;refine aaD (by simp[results,acM,go_sem,r0,r1,r2];try rfl) rfl ?_;rw[HX.out];exact⟨rfl,jm hB3 _ (Pe _) _ _ _⟩
    ·have tst:(U.toList==s.toList)=false:=by rw[aan,aan];simpa using Ud
     have HX:Hid (bR s.data.toList=none):=HU.out.trans (aaa Ud);clear HU;go_wp2_with fail;refine aaD (by simp[results,acM,go_sem,r0,r1,r2];try rfl) rfl ?_;rw[HX.out];exact⟨rfl,jm hB3 _ (Pe _) _ _ _⟩
   ·have z0:w1.cell? ⟨b,0,none⟩=some (.string ⟨#[o]⟩):=hcell 0 (by simp)
    have z1:w1.cell? ⟨b,1,none⟩=some (.string T):=(hcell 1 (by simp)).trans (by simp[eX]);have z2:w1.cell? ⟨b,2,none⟩=some (.string V):=(hcell 2 (by simp)).trans (by simp[eX]);have ZU:=Pd (HP.out.trans (aab (by simp)));clear hcell HP hl2 hl3 hl1 e1 e2;obtain⟨X,hX⟩:∃X:ByteArray,(⟨#[o]⟩:ByteArray)=X:=⟨_,rfl⟩;have Vm:X.size=1:=by rw[<-hX];rfl
    have hX0:∀h:0<X.size,X[0]'h=o:=by intro h;subst hX;rfl
    rw[hX]at z0;have cW:=fun W hW=>zl o T V W hW
    obtain⟨U,hU⟩:∃U:ByteArray,(⟨(iP (aD o T V)).toArray⟩:ByteArray)=U:=⟨_,rfl⟩;have UU:U.data.toList=iP (aD o T V):=by rw[<-hU]
    have HU:Hid (bR s.data.toList=if U.data.toList≠s.data.toList then none else some (aD o T V)):=ZU.out.trans (by rw[UU];rfl);change ∀W,bK W->Calls _ _ _ W _ at cW;rw[show(⟨(iP ⟨o,T.data.toList,V.data.toList⟩).toArray⟩:ByteArray)=U from hU]at cW;clear UU hU ZU hX;go_wp2_with fail
    go_region
    have q0:(iB w1 w.heap.size (.int .u8 o.toNat) (.string T) (.string ⟨#[]⟩)).drew.cell? ⟨w.heap.size,0,none⟩=some (.int .u8 o.toNat):=(by simp[c0,go_sem]);have q1:(iB w1 w.heap.size (.int .u8 o.toNat) (.string T) (.string ⟨#[]⟩)).drew.cell? ⟨w.heap.size,1,none⟩=some (.string T):=(by simp[c1,go_sem]);have q2:(iB w1 w.heap.size (.int .u8 o.toNat) (.string T) (.string ⟨#[]⟩)).drew.cell? ⟨w.heap.size,2,none⟩=some (.string ⟨#[]⟩):=(by simp[c2,go_sem]);have g0:(iB w1 w.heap.size (.int .u8 o.toNat) (.string T) (.string ⟨#[]⟩)).drew.frozen? ⟨w.heap.size,0,none⟩=false:=(by simp[f0,go_sem]);have g1:(iB w1 w.heap.size (.int .u8 o.toNat) (.string T) (.string ⟨#[]⟩)).drew.frozen? ⟨w.heap.size,1,none⟩=false:=(by simp[f1,go_sem]);have g2:(iB w1 w.heap.size (.int .u8 o.toNat) (.string T) (.string ⟨#[]⟩)).drew.frozen? ⟨w.heap.size,2,none⟩=false:=by simp[f2,go_sem]
    have hBq:Below w w (iB w1 w.heap.size (.int .u8 o.toNat) (.string T) (.string ⟨#[]⟩)).drew:=(jm hB1 _ (Pe _) _ _ _).drew;have TP:b≠w.heap.size:=by
     have:w.heap.size+1<=b:=by simpa using hbb
     omega
    have hz2:(iB w1 w.heap.size (.int .u8 o.toNat) (.string T) (.string ⟨#[]⟩)).drew.cell? ⟨b,2,none⟩=some (.string V):=(by simp[z2,go_sem]);clear c0 c1 c2 f0 f1 f2 z0 z1 z2 hX0 Vm;change Exit.then _ _ _ _ (iB w1 w.heap.size (.int .u8 o.toNat) (.string T) (.string ⟨#[]⟩)).drew;generalize (iB w1 w.heap.size (.int .u8 o.toNat) (.string T) (.string ⟨#[]⟩)).drew=wq at*;obtain⟨w2,hw2⟩:∃w2,wq.setCell ⟨w.heap.size,2,none⟩ (.string V)=w2:=⟨_,rfl⟩;have p0:w2.cell? ⟨w.heap.size,0,none⟩=some (.int .u8 o.toNat):=by rw[<-hw2];simp[q0,go_sem]
    have p1:w2.cell? ⟨w.heap.size,1,none⟩=some (.string T):=by rw[<-hw2];simp[q1,go_sem]
    have p2:w2.cell? ⟨w.heap.size,2,none⟩=some (.string V):=by rw[<-hw2];simp[q2,go_sem]
    have n0:w2.frozen? ⟨w.heap.size,0,none⟩=false:=by rw[<-hw2];simp[g0,go_sem]
    have n1:w2.frozen? ⟨w.heap.size,1,none⟩=false:=by rw[<-hw2];simp[g1,go_sem]
    have n2:w2.frozen? ⟨w.heap.size,2,none⟩=false:=by rw[<-hw2];simp[g2,go_sem]
    have hBw:Below w w w2:=by rw[<-hw2];exact hBq.setCell (p:=⟨w.heap.size,2,none⟩) (Pe _) _
    have hTq:=hT.below hBw;have hlt:w.heap.size<w2.heap.size:=ax p0;go_wp2_with fail;refine(cW _ hTq.t).mono ?_;clear hw2 q0 q1 q2 g0 g1 g2 hz2 hBq;rintro e w3 ⟨rfl,b3⟩;have r0:=(b3.cell (p:=⟨w.heap.size,0,none⟩) hlt).trans p0;have r1:=(b3.cell (p:=⟨w.heap.size,1,none⟩) hlt).trans p1;have r2:=(b3.cell (p:=⟨w.heap.size,2,none⟩) hlt).trans p2;have k0:=(b3.frozen (p:=⟨w.heap.size,0,none⟩) hlt).trans n0;have k1:=(b3.frozen (p:=⟨w.heap.size,1,none⟩) hlt).trans n1;have k2:=(b3.frozen (p:=⟨w.heap.size,2,none⟩) hlt).trans n2;have hB3:=ae hBw b3;clear p0 p1 p2 n0 n1 n2 cW;by_cases Ud:U.data.toList=s.data.toList
    ·have tst:(U.toList==s.toList)=true:=by rw[aan,aan,Ud,ack]
     have HX:Hid (bR s.data.toList=some (aD o T V)):=HU.out.trans (aab (by simpa using Ud));clear HU;go_wp2_with fail;refine aaD (by simp[results,acM,go_sem,r0,r1,r2];try rfl) rfl ?_;rw[HX.out];exact⟨rfl,jm hB3 _ (Pe _) _ _ _⟩
    ·have tst:(U.toList==s.toList)=false:=by rw[aan,aan];simpa using Ud
     have HX:Hid (bR s.data.toList=none):=HU.out.trans (aaa Ud);clear HU;go_wp2_with fail;refine aaD (by simp[results,acM,go_sem,r0,r1,r2];try rfl) rfl ?_;rw[HX.out];exact⟨rfl,jm hB3 _ (Pe _) _ _ _⟩
  ·have e3:((l.getD 0 []).length:Int)≠1:=by omega
   have HX:Hid (bR s.data.toList=none):=HP.out.trans (aaa (by omega));obtain⟨X,z0,zs⟩:∃X:ByteArray,w1.cell? ⟨b,0,none⟩=some (.string X)/\X.size=(l.getD 0 []).length:=by
    refine⟨⟨(l.getD 0 []).toArray⟩,?_,by rw[aae]⟩;rw[hcell 0 (by omega),S];congr 3;simp[List.getD];rw[aak (by omega)]
    try rfl
   have e4:((X.size:Int) != 1)=true:=by rw[zs];simpa using e3
   have e5:(0:Int)<(l.length:Int):=(by omega);clear HP hl2 hl3 hl1 hcell zs e3;go_wp2_with fail;refine aaD (by simp[results,acM,go_sem,c0,c1,c2];try rfl) rfl ?_;rw[HX.out];exact⟨rfl,jm hB1 _ (Pe _) _ _ _⟩
end Go.Proofs.YtppnecgeboonbaaGreatDoor
