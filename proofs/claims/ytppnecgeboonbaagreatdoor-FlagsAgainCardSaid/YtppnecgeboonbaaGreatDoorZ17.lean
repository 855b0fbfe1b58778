/- Walks. -/
import Derived.Test.YtppnecgeboonbaaGreatDoorZ16
import Derived.Deep.RegionHeld2
import Derived.Defers
import Derived.Recover
namespace Go.Proofs.YtppnecgeboonbaaGreatDoor.Rat3
set_option maxRecDepth 100000
set_option linter.all false
set_option maxHeartbeats 4000000
open Go.RowKit
def yR:Value->Nat | .string s=>ag s.data.toList|_=>0
def Cx{s:ByteArray}{n:Nat}(h:s.data.toList=af n):iH s.data.toList:=by rw[h];exact oW n
def qW{s:ByteArray}{n:Nat}(h:s.data.toList=af n):ag s.data.toList=n:=by rw[h,fq]
def qA{s:ByteArray}{n:Nat}(h:s.data.toList=af n):(s.toList==[48])=decide (n=0):=by
 rw[aan,h];by_cases h0:n=0
 ·subst h0;rfl
 ·have:af n≠[48]:=fun e=>h0 (by rw[<-fq n,e];rfl)
  rw[aaN.2 this];simp[h0]
def xZ{s:ByteArray}{n k:Nat}(h:s.data.toList=af n)(hn:n<10 ^ k)(hk:1<=k):s.size<=k:=by rw[aae,h];exact F8 hn hk
def qa{s:ByteArray}{l:Bs}(h:s.data.toList=l):(⟨l.toArray⟩:ByteArray)=s:=by
 cases s with
 |mk d=>cases d with
  |mk m=>simp at h;rw[h]
def Dv(a b:ByteArray)(w:World)(ha:a.size<=9223372036854775807)(hb:b.size<=9223372036854775807) :
  Calls Tryz.prog 160 #[.string a,.string b] w (oI w (oV a.data.toList b.data.toList)):=by
 by_cases hok:aj a.data.toList=true/\aj b.data.toList=true
 ·obtain⟨hoa,TF⟩:=hok
  obtain⟨i0,hi,hz0,hz1,hz2⟩:=abm aD1;have HK:Hid (oV a.data.toList b.data.toList=if ag b.data.toList=0 then ([],[],4) else (af (ag a.data.toList/ag b.data.toList),af (ag a.data.toList%ag b.data.toList),0)):=by unfold Hid oV;rw[aaa ⟨hoa,TF⟩]
  have va:=fun W=>eG a W ha
  have vb:=fun W=>eG b W hb
  rw[hoa]at va;rw[TF]at vb;have sa:=kz hoa;have sb:=kz TF;have ta:=((iG _).1 hoa).1;have tb:=((iG _).1 TF).1;have hz:=Nz TF;have hA:Below w w w:=aac _ _;by_cases hn:ag b.data.toList=0
  ·have hbe:=hz.1 hn
   subst hbe;have Vk:Hid (oV a.data.toList (⟨#[48]⟩:ByteArray).data.toList=([],[],4)):=by rw[Hid,HK.out,aaa hn]
   clear hz hn HK ta tb;go_enter Tryz.func160,afv;go_wp2_with (first|(go_at_call_of 159 (Value.string a);refine(va _).mono ?_;rintro e w2 ⟨rfl,rfl⟩)|(go_at_call_of 159 (Value.string ⟨#[48]⟩);refine(vb _).mono ?_;rintro e w2 ⟨rfl,rfl⟩));go_returns;unfold oI;rw[Vk.out];exact⟨rfl,hA⟩
  ·have hbne:¬ b=⟨#[48]⟩:=fun e=>hn (hz.2 e)
   have hbeq:(b.toList==[48])=false:=aaN.2 (fun e=>hbne (El (by rw[<-aan];exact e)));have hnb:=tQ tb.2.1;obtain⟨LB,hLB⟩:∃z,b.data.toList.length=z:=⟨_,rfl⟩;have hLB1:LB<=1000:=by rw[<-hLB,<-aae];omega
   rw[hLB]at hnb;have aCU:=lV tb.2.1;have ybd:∀W,Calls Tryz.prog 179 #[.string b] W (wS W (aAi b.data.toList)):=fun W=>nY b W (kW TF) (by omega)
   have HNB:=Pd hnb;have HTB:=Pd tb;have HTA:=Pd ta;have HYL:=Pd aCU;have ZN:=Pd (ac4 hn);have hcm:=fun(S:ByteArray) W h1 h2=>yG S b W h1 tb h2 (by omega)
   have Vk:Hid (oV a.data.toList b.data.toList=(af (ag a.data.toList/ag b.data.toList),af (ag a.data.toList%ag b.data.toList),0)):=(by rw[Hid,HK.out,aab hn]);have HLS:=Pd (fun(S:Bs) (h:iH S) hle=>Br h tb hle);clear hz hn HK hnb hLB aCU ta tb hoa TF;generalize ag b.data.toList=n at*;go_enter Tryz.func160,afv;go_wp2_with (first|(go_at_call_of 159 (Value.string a);refine(va _).mono ?_;rintro e w2 ⟨rfl,rfl⟩)|(go_at_call_of 159 (Value.string b);refine(vb _).mono ?_;rintro e w2 ⟨rfl,rfl⟩));clear va vb
   go_loopw [7,8,9] (fun qv rv i wr=>∃(k0:Nat) (Q:Bs) (R:ByteArray),i=.int .i64 k0/\k0<=a.size/\rv=.string R/\Hid (R.data.toList=af (ag (a.data.toList.take k0)%n))/\Own w.heap.size 5 qv (Lib.byteCells Q) wr/\Q.length=k0/\Hid (∀c∈Q,cz c=true)/\Hid (ag Q=ag (a.data.toList.take k0)/n)/\Below w w wr) (fun _ _ i _=>a.size-(intOf i).toNat)
   case atStart=>exact⟨0,[],⟨#[48]⟩,rfl,by omega,rfl,by rw[Hid,ab7,tT,Nat.zero_mod];rfl,Own.nil _ _ _,rfl,by simp[Hid],by rw[Hid,ab7,tT,Nat.zero_div],hA⟩
   case round=>
    obtain⟨k0,Q,R,rfl,hk0,rfl,HR,hown,hQ,HQ,HQV,hbr⟩:=hrel;by_cases hlt:k0<a.size
    ·have hdg:=tY HTA.out.2.1 hlt
     have HP:=Pd (NL (l:=a.data.toList) (k:=k0) (by rw[<-aae];exact hlt));have hget:a.data.toList[k0]'(by rw[<-aae];exact hlt)=a[k0]:=rfl;rw[hget]at HP;have hsub:(a.extract k0 (k0+1)).data.toList=[a[k0]]:=by
      rw[eH,drop_byte a k0 hlt,aem];rfl
     have HM:=Pd (Le (V:=ag (a.data.toList.take k0)%n) hdg);have HDG:=Pd hdg;have h48:=qA HR.out;have Z4:=Pd hsub;generalize a[k0]=c at*;generalize ag (a.data.toList.take k0)=P0 at*;clear hget hsub hdg;have hT:10*(P0%n)+dv c<10*n:=by have:=abR P0 ZN.out;have:=qc HDG.out;omega
     have HTT:Hid (∀x,x<=10*(P0%n)+dv c->x<10 ^ (LB+1)):=fun x hx=>by
      have h1:=HNB.out;have h2:(10:Nat) ^ (LB+1)=10*10 ^ LB:=by rw[abl,aaR]
      rw[h2];omega
     have HQD:=Pd (fun k R h1 h2=>KF (P:=P0) (k:=k) (R:=R) ZN.out (qc HDG.out) h1 h2);have HQM:=Pd (fun k R h1 h2=>KG (P:=P0) (x:=dv c) (k:=k) (R:=R) ZN.out h1 h2);have ki1:(k0:Int)<(a.size:Int):=by omega
     have ki0:(0:Int)<=(k0:Int):=(by omega);have ki2:(k0:Int)+1<=(a.size:Int):=(by omega);have ki3:(k0:Int)<=(k0:Int)+1:=(by omega);clear hT;by_cases hz:P0%n=0
     ·rw[hz,aaA rfl]at h48
      have Vs:Hid ((a.extract k0 (k0+1)).data.toList=af (10*(P0%n)+dv c)):=(by rw[Hid,Z4.out,<-HM.out,aaa hz]);clear hz;go_wp2_with fail;generalize (a.extract k0 (k0+1))=R1 at Vs ⊢;obtain⟨W,hW⟩:∃W,W=wr:=⟨_,rfl⟩;subst hW
      go_loopw [8,10] (fun rv d wr'=>∃(k Rw:Nat) (S:ByteArray),rv=.string S/\d=.int .u8 (48+(k:Int))/\k<=9/\Hid (S.data.toList=af Rw)/\Hid (k*n+Rw=10*(P0%n)+dv c)/\Below W W wr') (fun rv _ _=>yR rv)
      case atStart=>exact⟨0,_,R1,rfl,rfl,by omega,Vs,by simp[Hid],aac _ _⟩
      case round=>
       obtain⟨k,Rw,S,rfl,rfl,hk,HS,HE,hb⟩:=hrel;have hSt:=Cx HS.out;have VU:=qW HS.out;have hSs:S.size<=1001:=aaB (xZ HS.out (HTT.out Rw (by have:=HE.out;omega)) (by omega)) (by omega);have hc:=fun W=>hcm S W hSt (by omega)
       rw[VU]at hc;by_cases hge:n<=Rw
       ·obtain⟨cc,hcc⟩:∃z,bZ Rw n=z:=⟨_,rfl⟩
        have hc0:0<=cc:=by
         rw[<-hcc];apply afD.1;intro h;have:=(nL Rw n).1 h;omega
        rw[hcc]at hc;have dS:=fun W=>nY S W hSt.2.1 (by omega)
        have hxl:=lV hSt.2.1;have Y5:(aAi S.data.toList).length<=1001:=by rw[mZ,<-aae];omega
        obtain⟨l1,l2,l3⟩:=HLS.out S.data.toList hSt (by rw[VU];exact hge);rw[VU]at l1;have hls:=jb bJ (aAi S.data.toList) (aAi b.data.toList) (aAi S.data.toList).length;have le:=fun A B c d W h1 h2=>yK A B c d (aAi S.data.toList) (aAi b.data.toList) W hxl HYL.out h1 h2 (by omega)
        have HSV:=Pd VU;clear VU hSt hcc;generalize aAi S.data.toList=x at*;obtain⟨y,hy⟩:∃y,aAi b.data.toList=y:=⟨_,rfl⟩;have yb':=ybd;rw[hy]at yb' l1 l2 l3 hls le;clear hy;obtain⟨z,hz⟩:∃z,(ah bJ x y x.length).1=z:=⟨_,rfl⟩;rw[hz]at l1 l2 l3 hls le;have hzn:z.length<=1001:=by omega
        have tx:=fun A c W h=>uI A c z W l2 h (by omega) l3
        rw[l1]at tx;obtain⟨F,hF⟩:∃F:ByteArray,(⟨(af (Rw-n)).toArray⟩:ByteArray)=F:=⟨_,rfl⟩;rw[hF]at tx;have HF:Hid (F.data.toList=af (Rw-n)):=by rw[Hid,<-hF]
        have HE2:Hid ((k+1)*n+(Rw-n)=10*(P0%n)+dv c):=by
         have:=HE.out;rw[Hid,abJ,acA];omega
        have hk9:=HQD.out k Rw HE.out hge;have V6:Hid (Rw-n<Rw):=by have:=ZN.out;unfold Hid;omega
        have w8:IntKind.u8.wrap (48+(k:Int)+1)=48+(k:Int)+1:=by rw[aeO];omega
        clear hz hF l1 l2 l3 hls hxl Y5 HE hge;go_wp2_with (go_at_call 183;refine(hc _).mono ?_;rintro e w1 ⟨rfl,b1⟩;have hb1:=hb.trans (b1.mono hb.size));refine(dS _).mono ?_;rintro e w2 ⟨A1,c1,rfl,h1,r1,b2⟩;have hb2:=ae hb1 b2;go_wp2_with fail;refine(yb' _).mono ?_;rintro e w3 ⟨A2,c2,rfl,h2,r2,b3⟩;have hb3:=ae hb2 b3;go_wp2_with fail;refine(le _ _ _ _ _ (r1.below b3) r2).mono ?_;rintro e w4 ⟨A3,c3,rfl,h3,r3,b4⟩;have hb4:=ae hb3 b4;go_wp2_with fail;refine(tx _ _ _ r3).mono ?_;rintro e w5 ⟨rfl,b5⟩;have hb5:=ae hb4 b5;go_wp2_with fail;go_roundw
        case rel=>exact⟨k+1,Rw-n,F,rfl,by go_num,by omega,HF,HE2,hb5⟩
        case measure=>
         show ag F.data.toList<ag S.data.toList;rw[qW HF.out,HSV.out];exact V6.out
       ·have hc0:bZ Rw n<0:=(nL Rw n).2 (by omega)
        obtain⟨cc,hcc⟩:∃z,bZ Rw n=z:=⟨_,rfl⟩;rw[hcc]at hc hc0;obtain⟨q1,q2⟩:=HQM.out k Rw HE.out (by omega);have ZW:=Pd q1;have HQ2:=Pd q2;have hown2:=hown.below hb;have WL:Below w w wr:=ae hbr hb;have TY:(Lib.byteCells Q).length+1<=maxLen:=by rw[abe];unfold maxLen;omega
        have hmb:((Lib.byteCells Q).length+1)*1<=140737488355328:=by rw[abe];omega
        have HDK:=Pd (oJ (d:=k) (by omega));have Yd:=Pd (xV (d:=k) (by omega));have Ye:=Pd (xK (d:=k) (by omega));clear q1 q2 hcc VU hSt hown;go_wp2_with (first|(go_at_call 183;refine(hc _).mono ?_;rintro e w1 ⟨rfl,b1⟩;have hb1:=WL.trans (b1.mono WL.size);have hown3:=hown2.below b1)|(at_builtin;refine fJ rfl (.tmp 54) (.tmp 56) 127 rfl w.heap.size i0 _ 1 abF hi hz0 hz1 hz2 rfl _ (Lib.byteCells Q) rfl hown3 1 rfl rfl TY hmb hb1.size ?_;intro v' w3 TE _ hb4));go_roundw
        case rel=>
         refine⟨k0+1,Q++[dc k],S,by go_num,by omega,rfl,?_,?_,by rw[aas,hQ];rfl,?_,?_,hb1.trans hb4⟩
         ·rw[Hid,HP.out,HQ2.out];exact HS.out
         ·rw[<-tF,HDK.out]
          have e:((48+k:Nat):Int)=48+(k:Int):=(by omega);rw[e];exact TE
         ·intro x hx
          rcases aaG.1 hx with hx|hx
          ·exact HQ.out x hx
          ·rw[aar.1 hx];exact Yd.out
         ·rw[Hid,tV,HP.out,ZW.out,HQV.out,Ye.out]
        case measure=>simp[intOf];omega
     ·rw[aai hz]at h48
      have hRs:R.size<=1001:=aaB (xZ HR.out (HTT.out (P0%n) (by omega)) (by omega)) (by omega);have hcat:¬ 9223372036854775807<R.size+(min (k0+1) a.size-k0):=by omega
      have Vs:Hid ((R++a.extract k0 (k0+1)).data.toList=af (10*(P0%n)+dv c)):=(by rw[Hid,Joins.data_append,Z4.out,<-HM.out,aab hz,HR.out]);clear hz;go_wp2_with fail;generalize (R++a.extract k0 (k0+1))=R1 at Vs ⊢;obtain⟨W,hW⟩:∃W,W=wr:=⟨_,rfl⟩;subst hW
      go_loopw [8,10] (fun rv d wr'=>∃(k Rw:Nat) (S:ByteArray),rv=.string S/\d=.int .u8 (48+(k:Int))/\k<=9/\Hid (S.data.toList=af Rw)/\Hid (k*n+Rw=10*(P0%n)+dv c)/\Below W W wr') (fun rv _ _=>yR rv)
      case atStart=>exact⟨0,_,R1,rfl,rfl,by omega,Vs,by simp[Hid],aac _ _⟩
      case round=>
       obtain⟨k,Rw,S,rfl,rfl,hk,HS,HE,hb⟩:=hrel;have hSt:=Cx HS.out;have VU:=qW HS.out;have hSs:S.size<=1001:=aaB (xZ HS.out (HTT.out Rw (by have:=HE.out;omega)) (by omega)) (by omega);have hc:=fun W=>hcm S W hSt (by omega)
       rw[VU]at hc;by_cases hge:n<=Rw
       ·obtain⟨cc,hcc⟩:∃z,bZ Rw n=z:=⟨_,rfl⟩
        have hc0:0<=cc:=by
         rw[<-hcc];apply afD.1;intro h;have:=(nL Rw n).1 h;omega
        rw[hcc]at hc;have dS:=fun W=>nY S W hSt.2.1 (by omega)
        have hxl:=lV hSt.2.1;have Y5:(aAi S.data.toList).length<=1001:=by rw[mZ,<-aae];omega
        obtain⟨l1,l2,l3⟩:=HLS.out S.data.toList hSt (by rw[VU];exact hge);rw[VU]at l1;have hls:=jb bJ (aAi S.data.toList) (aAi b.data.toList) (aAi S.data.toList).length;have le:=fun A B c d W h1 h2=>yK A B c d (aAi S.data.toList) (aAi b.data.toList) W hxl HYL.out h1 h2 (by omega)
        have HSV:=Pd VU;clear VU hSt hcc;generalize aAi S.data.toList=x at*;obtain⟨y,hy⟩:∃y,aAi b.data.toList=y:=⟨_,rfl⟩;have yb':=ybd;rw[hy]at yb' l1 l2 l3 hls le;clear hy;obtain⟨z,hz⟩:∃z,(ah bJ x y x.length).1=z:=⟨_,rfl⟩;rw[hz]at l1 l2 l3 hls le;have hzn:z.length<=1001:=by omega
        have tx:=fun A c W h=>uI A c z W l2 h (by omega) l3
        rw[l1]at tx;obtain⟨F,hF⟩:∃F:ByteArray,(⟨(af (Rw-n)).toArray⟩:ByteArray)=F:=⟨_,rfl⟩;rw[hF]at tx;have HF:Hid (F.data.toList=af (Rw-n)):=by rw[Hid,<-hF]
        have HE2:Hid ((k+1)*n+(Rw-n)=10*(P0%n)+dv c):=by
         have:=HE.out;rw[Hid,abJ,acA];omega
        have hk9:=HQD.out k Rw HE.out hge;have V6:Hid (Rw-n<Rw):=by have:=ZN.out;unfold Hid;omega
        have w8:IntKind.u8.wrap (48+(k:Int)+1)=48+(k:Int)+1:=by rw[aeO];omega
        clear hz hF l1 l2 l3 hls hxl Y5 HE hge;go_wp2_with (go_at_call 183;refine(hc _).mono ?_;rintro e w1 ⟨rfl,b1⟩;have hb1:=hb.trans (b1.mono hb.size));refine(dS _).mono ?_;rintro e w2 ⟨A1,c1,rfl,h1,r1,b2⟩;have hb2:=ae hb1 b2;go_wp2_with fail;refine(yb' _).mono ?_;rintro e w3 ⟨A2,c2,rfl,h2,r2,b3⟩;have hb3:=ae hb2 b3;go_wp2_with fail;refine(le _ _ _ _ _ (r1.below b3) r2).mono ?_;rintro e w4 ⟨A3,c3,rfl,h3,r3,b4⟩;have hb4:=ae hb3 b4;go_wp2_with fail;refine(tx _ _ _ r3).mono ?_;rintro e w5 ⟨rfl,b5⟩;have hb5:=ae hb4 b5;go_wp2_with fail;go_roundw
        case rel=>exact⟨k+1,Rw-n,F,rfl,by go_num,by omega,HF,HE2,hb5⟩
        case measure=>
         show ag F.data.toList<ag S.data.toList;rw[qW HF.out,HSV.out];exact V6.out
       ·have hc0:bZ Rw n<0:=(nL Rw n).2 (by omega)
        obtain⟨cc,hcc⟩:∃z,bZ Rw n=z:=⟨_,rfl⟩;rw[hcc]at hc hc0;obtain⟨q1,q2⟩:=HQM.out k Rw HE.out (by omega);have ZW:=Pd q1;have HQ2:=Pd q2;have hown2:=hown.below hb;have WL:Below w w wr:=ae hbr hb;have TY:(Lib.byteCells Q).length+1<=maxLen:=by rw[abe];unfold maxLen;omega
        have hmb:((Lib.byteCells Q).length+1)*1<=140737488355328:=by rw[abe];omega
        have HDK:=Pd (oJ (d:=k) (by omega));have Yd:=Pd (xV (d:=k) (by omega));have Ye:=Pd (xK (d:=k) (by omega));clear q1 q2 hcc VU hSt hown;go_wp2_with (first|(go_at_call 183;refine(hc _).mono ?_;rintro e w1 ⟨rfl,b1⟩;have hb1:=WL.trans (b1.mono WL.size);have hown3:=hown2.below b1)|(at_builtin;refine fJ rfl (.tmp 54) (.tmp 56) 127 rfl w.heap.size i0 _ 1 abF hi hz0 hz1 hz2 rfl _ (Lib.byteCells Q) rfl hown3 1 rfl rfl TY hmb hb1.size ?_;intro v' w3 TE _ hb4));go_roundw
        case rel=>
         refine⟨k0+1,Q++[dc k],S,by go_num,by omega,rfl,?_,?_,by rw[aas,hQ];rfl,?_,?_,hb1.trans hb4⟩
         ·rw[Hid,HP.out,HQ2.out];exact HS.out
         ·rw[<-tF,HDK.out]
          have e:((48+k:Nat):Int)=48+(k:Int):=(by omega);rw[e];exact TE
         ·intro x hx
          rcases aaG.1 hx with hx|hx
          ·exact HQ.out x hx
          ·rw[aar.1 hx];exact Yd.out
         ·rw[Hid,tV,HP.out,ZW.out,HQV.out,Ye.out]
        case measure=>simp[intOf];omega
    ·obtain rfl:k0=a.size:=by omega
     have hfull:a.data.toList.take a.size=a.data.toList:=aav (by rw[<-aae];omega);have Zq:=HR.out;rw[hfull]at Zq;have hQ1:=HQV.out;rw[hfull]at hQ1;have HR1:=Pd Zq;have ZW:=Pd hQ1;have aB3:0<a.size:=by rw[aae];exact aaM.2 HTA.out.1
     obtain⟨A',c',rfl,hc',hrow⟩:=hown.row.to (n:=a.size) (by rw[abe,hQ]);obtain⟨g,o,rfl,hg,hcell⟩:=hrow (by intro e;have:=aaw List.length e;rw[abe,hQ,abG]at this;omega);have hcl:∀j (h:j<Q.length),wr.cell? ⟨g,o+j,none⟩=some (.int .u8 (Q[j].toNat:Int)):=fun j h=>hcell j _ (by simp[Lib.byteCells,h])
     have HCL:=Pd hcl;obtain⟨W,hW⟩:∃W,W=wr:=⟨_,rfl⟩;subst hW;clear hcl hcell hrow hown Zq hQ1 hfull HR HQV hcm ybd HLS;go_wp2_with fail
     go_loopw [11] (fun i wr'=>∃(k:Nat),i=.int .i64 k/\k<a.size/\W=wr'/\Hid (ag (Q.drop k)=ag Q)) (fun i _=>a.size-(intOf i).toNat)
     case atStart=>exact⟨0,rfl,aB3,rfl,by rw[Hid,abj]⟩
     case round=>
      obtain⟨k,rfl,hk,rfl,HD⟩:=hrel;have hkQ:k<Q.length:=by omega
      have hck:=HCL.out k hkQ;have HST:=Pd (NF hkQ);have HEN:=Pd (NE HQ.out hkQ);have k0i:(0:Int)<=(k:Int):=by omega
      have k1i:(k:Int)<(a.size:Int):=(by omega);have k2i:(k:Int)<=(a.size:Int):=by omega
      have XZ:=ac1 (P:=Tryz.prog) W 127 9 5 ⟨g,o+k,none⟩ (c'-k) (Q.drop k) abF abd aaV (fun j hj=>by
       rw[ade];have e:(⟨g,o+k,none⟩:Addr).add j=⟨g,o+(k+j),none⟩:=by unfold Addr.add;split<;>simp_all[acV]
       rw[e];exact HCL.out (k+j) (by rw[aaH]at hj;omega))
      have hdl:(Q.drop k).length=a.size-k:=(by rw[aaH,hQ]);rw[hdl]at XZ;by_cases hgo:k+1<a.size/\Q[k]=48
      ·obtain⟨g1,g2⟩:=hgo
       have HD2:Hid (ag (Q.drop (k+1))=ag Q):=(by rw[Hid,HST.out g2,HD.out]);have hc48:W.cell? ⟨g,o+k,none⟩=some (.int .u8 48):=by rw[hck,g2];rfl
       have k3i:(k:Int)<(a.size:Int)-1:=(by omega);clear hck g2 XZ;go_wp2_with fail;go_roundw
       case rel=>exact⟨k+1,by go_num,by omega,trivial,HD2⟩
       case measure=>simp[intOf];omega
      ·have HSE:Hid (Q.drop k=af (ag a.data.toList/n)):=by
        rw[Hid,HEN.out ?_,HD.out,ZW.out];by_cases h1:k+1<a.size
        ·right;intro e;exact hgo ⟨h1,e⟩
        ·left;omega
       rcases aaz (k+1) a.size with h1|h1
       ·have aCN:¬ Q[k]=48:=fun e=>hgo ⟨h1,e⟩
        have hx:¬ Q[k].toNat=48:=fun e=>aCN (abz.1 e)
        obtain⟨x,Y6⟩:∃x,Q[k].toNat=x:=⟨_,rfl⟩;rw[Y6]at hck hx;have hxi:((x:Int)==48)=false:=aaN.2 (by omega);have k3i:(k:Int)<(a.size:Int)-1:=by omega
        clear aCN Y6 hgo;go_wp2_with fail;go_returns;unfold oI;rw[Vk.out];refine⟨?_,hbr⟩;show _=Ending.returned (.tuple #[.string ⟨(af (ag a.data.toList/n)).toArray⟩,.string ⟨(af (ag a.data.toList%n)).toArray⟩,_]);rw[<-HSE.out,qa HR1.out]
        rfl
       ·have k3i:decide ((k:Int)<(a.size:Int)-1)=false:=aai (by omega)
        have k4i:(a.size:Int)-1<=(k:Int):=(by omega);clear hgo;go_wp2_with fail;go_returns;unfold oI;rw[Vk.out];refine⟨?_,hbr⟩;show _=Ending.returned (.tuple #[.string ⟨(af (ag a.data.toList/n)).toArray⟩,.string ⟨(af (ag a.data.toList%n)).toArray⟩,_]);rw[<-HSE.out,qa HR1.out]
        rfl
 ·refine(K7 a b w ha hb hok).mono ?_
  rintro e w' ⟨rfl,rfl⟩;unfold oI oV;rw[aab hok];exact⟨rfl,aac _ _⟩
def jV{n:Nat}(h:(af n).length<=1000):aj (af n)=true:=(iG _).2 ⟨oW n,h⟩
def Ce{l k:Bs}{m n:Nat}(hl:l=af m)(hk:k=af n)(h1:l.length<=1000)(h2:k.length<=1000)(hn:n≠0):oV l k=(af (m/n),af (m%n),0):=by
 subst hl hk;unfold oV;rw[aaa ⟨jV h1,jV h2⟩,fq,fq,aab hn]
def rO(a b:ByteArray)(w:World)(ha:a.size<=9223372036854775807)(hb:b.size<=9223372036854775807) :
  Calls Tryz.prog 152 #[.string a,.string b] w (aA w (z8 a.data.toList b.data.toList)):=by
 by_cases hok:aj a.data.toList=true/\aj b.data.toList=true
 ·obtain⟨hoa,TF⟩:=hok
  have HK:Hid (z8 a.data.toList b.data.toList=(af (Nat.gcd (ag a.data.toList) (ag b.data.toList)),0)):=by unfold Hid z8;rw[aaa ⟨hoa,TF⟩]
  have va:=fun W=>eG a W ha
  have vb:=fun W=>eG b W hb
  rw[hoa]at va;rw[TF]at vb;have sa:=kz hoa;have sb:=kz TF;have HTA:=Pd (jo ((iG _).1 hoa).1);have HTB:=Pd (jo ((iG _).1 TF).1);generalize ag a.data.toList=m at*;generalize ag b.data.toList=n at*;clear hoa TF;have hA:Below w w w:=aac _ _;go_enter Tryz.func152,Tryz.ntmps152;go_wp2_with (first|(go_at_call_of 159 (Value.string a);refine(va _).mono ?_;rintro e w2 ⟨rfl,rfl⟩)|(go_at_call_of 159 (Value.string b);refine(vb _).mono ?_;rintro e w2 ⟨rfl,rfl⟩));clear va vb
  go_loopw [0,1] (fun x y wr=>∃(X Y:ByteArray) (m1 n1:Nat),x=.string X/\y=.string Y/\Hid (X.data.toList=af m1)/\Hid (Y.data.toList=af n1)/\X.size<=1000/\Y.size<=1000/\Below w w wr/\Hid (Nat.gcd m1 n1=Nat.gcd m n)) (fun _ y _=>yR y)
  case atStart=>exact⟨a,b,m,n,rfl,rfl,HTA.out.symm,HTB.out.symm,sa,sb,hA,rfl⟩
  case round=>
   obtain⟨X,Y,m1,n1,rfl,rfl,HX,HY,sX,sY,hbr,HG⟩:=hrel;have h48:=qA HY.out;by_cases hn:n1=0
   ·rw[aaA hn]at h48
    have hg:=HG.out;rw[hn,Nat.gcd_zero_right]at hg;have HR:Hid ((⟨(af (Nat.gcd m n)).toArray⟩:ByteArray)=X):=qa (by rw[HX.out,hg]);clear hg hn;go_wp2_with fail;go_returns;unfold aA;rw[HK.out];show _=Ending.returned (.tuple #[.string ⟨(af (Nat.gcd m n)).toArray⟩,_])/\_;rw[HR.out];exact⟨rfl,hbr⟩
   ·rw[aai hn]at h48
    have hd:=Dv X Y wr (by omega) (by omega);rw[Ce HX.out HY.out (by rw[<-aae];exact sX) (by rw[<-aae];exact sY) hn]at hd;have HG2:Hid (Nat.gcd n1 (m1%n1)=Nat.gcd m n):=by rw[Hid,<-HG.out,afN n1,<-Nat.gcd_rec,afN]
    have hlt:=abR m1 (ac4 hn);obtain⟨Z,hZ⟩:∃Z:ByteArray,(⟨(af (m1%n1)).toArray⟩:ByteArray)=Z:=⟨_,rfl⟩;have Un:Z.data.toList=af (m1%n1):=by rw[<-hZ]
    have sZ:Z.size<=1000:=by
     rw[aae,Un];refine aaB (tN (aa0 hlt)) ?_;rw[<-HY.out,<-aae];exact sY
    have HZ:=Pd Un;have V6:=Pd hlt;unfold oI at hd;simp only[]at hd;rw[hZ]at hd;clear hZ Un hlt hn;go_wp2_with (go_at_call 160;refine hd.mono ?_;rintro e w3 ⟨rfl,b3⟩;have hb3:=ae hbr b3);go_roundw
    case rel=>exact⟨Y,Z,n1,m1%n1,rfl,rfl,HY,HZ,sY,sZ,hb3,HG2⟩
    case measure=>
     show ag Z.data.toList<ag Y.data.toList;rw[qW HZ.out,qW HY.out];exact V6.out
 ·refine(Lp a b w ha hb hok).mono ?_
  rintro e w' ⟨rfl,rfl⟩;unfold aA z8;rw[aab hok];exact⟨rfl,aac _ _⟩
def Tk(s:ByteArray)(w:World):Calls Tryz.prog 114 #[.string s,.string ⟨#[47]⟩] w fun e w'=>e=.returned (.int .i64 (Lib.index s.data.toList [47]))/\w'=w:=by
 have p1:=Tryz.stringslite_IndexByte s 47 w;have e1:Lib.indexByte s.data.toList (47:Int).toNat.toUInt8=Lib.index s.data.toList [47]:=(aes _ _).symm;rw[e1]at p1;by_cases hs:s.data.toList=[47]
 ·have HX:Hid (Lib.index s.data.toList [47]=0):=by rw[Hid,hs];rfl
  have t1:([47]==s.toList)=true:=by rw[aan,hs];rfl
  have t2:((⟨#[47]⟩:ByteArray).toList==s.toList)=true:=by rw[aan,aan,hs];rfl
  clear e1 hs p1;go_enter Tryz.func114,Tryz.ntmps114;go_wp2_with fail;go_returns;exact⟨by rw[HX.out];rfl,rfl⟩
 ·have t1:([47]==s.toList)=false:=by rw[aan];exact aaN.2 (fun e=>hs e.symm)
  have t2:((⟨#[47]⟩:ByteArray).toList==s.toList)=false:=by rw[aan,aan];exact aaN.2 (fun e=>hs e.symm)
  clear e1 hs;generalize Lib.index s.data.toList [47]=q at*;go_enter Tryz.func114,Tryz.ntmps114;go_wp2_with (first|(go_at_call 132;refine p1.mono ?_;rintro e w' ⟨rfl,rfl⟩));go_returns;exact⟨rfl,rfl⟩
def Pw(s:ByteArray)(w:World)(e:Ending)(w':World):Prop:=e=.returned (.tuple #[.string ⟨(Lib.cut s.data.toList [47]).1.toArray⟩,.string ⟨(Lib.cut s.data.toList [47]).2.1.toArray⟩,.bool (Lib.cut s.data.toList [47]).2.2])/\∃n,w'=w.drewN n
def Tn(s:ByteArray)(w:World)(hs:s.size<=9223372036854775807):Calls Tryz.prog 212 #[.string s,.string ⟨#[47]⟩] w (Pw s w):=by
 have p1:=Tk s w;have hge:-1<=Lib.index s.data.toList [47]:=by rw[aes];exact Lib.indexByte_ge _ _
 by_cases h0:Lib.index s.data.toList [47]=-1
 ·have HX:Hid (Lib.cut s.data.toList [47]=(s.data.toList,[],false)):=by unfold Hid Lib.cut;rw[h0];rfl
  rw[h0]at p1;clear hge h0;go_enter Tryz.func212,Tryz.ntmps212;go_wp2_with (first|(go_at_call 114;refine p1.mono ?_;rintro e w' ⟨rfl,rfl⟩));go_returns;unfold Pw;rw[HX.out];exact⟨rfl,0,rfl⟩
 ·obtain⟨k,hk⟩:∃k:Nat,Lib.index s.data.toList [47]=(k:Int):=⟨(Lib.index s.data.toList [47]).toNat,by omega⟩
  have hkl:k<s.size:=by
   have h1:=Lib.indexByte_some (l:=s.data.toList) (c:=47) (o:=k) (by rw[<-aes];exact hk);have:=(aby.1 h1.1).1;rwa[<-aae]at this
  have HX:Hid (Lib.cut s.data.toList [47]=(s.data.toList.take k,s.data.toList.drop (k+1),true)):=by unfold Hid Lib.cut;rw[hk,aaa (by omega)];rfl
  rw[hk]at p1;have i0:(0:Int)<=(k:Int):=by omega
  have i1:(k:Int)<=(s.size:Int):=by omega
  have i2:(0:Int)<=(k:Int)+1:=by omega
  have i3:(k:Int)+1<=(s.size:Int):=by omega
  have i4:IntKind.i64.wrap ((k:Int)+1)=(k:Int)+1:=IntWalk.i64_in _ (by omega);have i5:((k:Int)+1).toNat=k+1:=by omega
  clear hge h0 hk;go_enter Tryz.func212,Tryz.ntmps212;go_wp2_with (first|(go_at_call 114;refine p1.mono ?_;rintro e w' ⟨rfl,rfl⟩))
  go_quiet (fail)
  go_wp2_with fail;go_returns;unfold Pw;rw[HX.out];refine⟨?_,_,rfl⟩;have x1:(⟨(s.data.toList.take k).toArray⟩:ByteArray)=s.extract 0 k:=qa (by rw[adN];simp);have x2:(⟨(s.data.toList.drop (k+1)).toArray⟩:ByteArray)=s.extract (k+1) s.size:=qa (by rw[adN,aav (by rw[aaH,<-aae];omega)]);simp only[x1,x2]
  rfl
def Tj(s:ByteArray)(w:World)(hs:s.size<=9223372036854775807):Calls Tryz.prog 199 #[.string s,.string ⟨#[47]⟩] w (Pw s w):=by
 have p1:=Tn s w hs;unfold Pw at p1 ⊢;generalize Lib.cut s.data.toList [47]=r at*;clear hs;go_enter Tryz.func199,Tryz.ntmps199;go_wp2_with (first|(go_at_call 212;refine p1.mono ?_;rintro e w' ⟨rfl,n,rfl⟩));go_returns;exact⟨rfl,n,rfl⟩
def ut(x:Bool×Bs×Bs):Value:=.agg #[.bool x.1,.string ⟨x.2.1.toArray⟩,.string ⟨x.2.2.toArray⟩]
def KC(l:Bs)(c:UInt8):Lib.hasPrefix l [c]=decide (l.head? = some c):=by
 cases l with
 |nil=>simp[Lib.hasPrefix]
 |cons x r=>
  simp only[Lib.hasPrefix,List.isPrefixOf,adZ,aao,Bool.and_true];by_cases h:c=x
  ·subst h;simp
  ·simp[h,acx h]
def Dq(l:Bs):bY l=(Lib.hasPrefix l [45],Lib.trimPrefix l [45]):=by
 unfold bY Lib.trimPrefix;rw[KC];by_cases h:l.head? = some 45
 ·simp[h]
 ·simp[h]
theorem Bf(c:UInt8):∀l:Bs,(fM c l=none/\Lib.index l [c]=-1)\/∃p,fM c l=some p/\Lib.index l [c]=(p.1.length:Int)
 |[]=>aam ⟨rfl,rfl⟩
 |x::r=>by
  have hp:[c].isPrefixOf (x::r)=(c==x):=by simp[List.isPrefixOf]
  by_cases h:x=c
  ·subst h
   exact aad ⟨([],r),by simp[fM],by unfold Lib.index;rw[hp];simp⟩
  ·have hb:(c==x)=false:=aaN.2 (fun e=>h e.symm)
   rcases Bf c r with⟨h1,h2⟩|⟨p,h1,h2⟩
   ·exact aam ⟨by simp[fM,h,h1],by unfold Lib.index;rw[hp,hb,h2];rfl⟩
   ·refine aad ⟨(x::p.1,p.2),by simp[fM,h,h1],?_⟩
    unfold Lib.index;have hn:((p.1.length:Int) == -1)=false:=aaN.2 (by omega);rw[hp,hb,h2,hn];simp
def F5(c:UInt8)(l:Bs):Lib.cut l [c]=match fM c l with
  |some p=>(p.1,p.2,true)
  |none=>(l,[],false):=by
 unfold Lib.cut;rcases Bf c l with⟨h1,h2⟩|⟨p,h1,h2⟩
 ·rw[h1,h2];rfl
 ·rw[h1,h2]
  obtain⟨e1,_⟩:=nM.1 (show fM c l=some (p.1,p.2) by rw[h1]);rw[aaa (by omega)]
  conv=>lhs;rw[e1]
  simp
def KQ(r:Bs):Lib.cut r [47]=((cB r).2.1,if (cB r).1=true then (cB r).2.2 else [],(cB r).1):=by
 rw[F5];unfold cB
 cases h:fM 47 r with
 |none=>simp
 |some p=>simp
def KR{r:Bs}(h:(cB r).1=false):(cB r).2.2=[49]:=(yE r).2 h
def uo(c:ByteArray)(w:World):Calls Tryz.prog 171 #[.string c,.int .i64 0] w fun e w'=>e=.returned (.string c)/\w=w':=by
 go_enter Tryz.func171,Tryz.ntmps171;go_wp2_with fail;go_returns;exact⟨rfl,rfl⟩
def qg{s:ByteArray}{n:Nat}(h:s.data.toList=af n):(s.toList==[49])=decide (n=1):=by
 rw[aan,h];by_cases h0:n=1
 ·subst h0;rfl
 ·have:af n≠[49]:=fun e=>h0 (by rw[<-fq n,e];rfl)
  rw[aaN.2 this];simp[h0]
def dU{w w':World}{b:Nat}(h:w'.heap[b]? = w.heap[b]?)(o:Nat)(hf:w.frozen? ⟨b,o,none⟩=false):w'.frozen? ⟨b,o,none⟩=false:=by
 unfold World.frozen? at hf ⊢;rw[h];exact hf
def fO(w:World)(k:Nat)(o:Nat)(v:Value)(h:(#[Value.bool false,.string ⟨#[]⟩,.string ⟨#[]⟩]:Array Value)[o]? = some v):((w.alloc (.cells #[.bool false,.string ⟨#[]⟩,.string ⟨#[]⟩] 215)).drewN k).cell? ⟨w.heap.size,o,none⟩=some v:=by
 show(w.alloc _).cell? _=_;rw[aap (w.alloc _) w.heap.size o _ _ (0,0) (aaq w _)];exact h
def fP(w:World)(k:Nat)(o:Nat):((w.alloc (.cells #[.bool false,.string ⟨#[]⟩,.string ⟨#[]⟩] 215)).drewN k).frozen? ⟨w.heap.size,o,none⟩=false:=by
 show(w.alloc _).frozen? _=_;unfold World.frozen?;rw[aaq];simp
def lM(s:ByteArray)(w:World)(hT:bK w)(hs:s.size<=9223372036854775807) :
  Calls Tryz.prog 174 #[.string s] w fun e w'=>e=.returned (.tuple #[ut ((aI s.data.toList).getD (false,[],[])),.bool (aI s.data.toList).isSome])/\Below w w w':=by
 have hcp:=fun W=>Tryz.strings_CutPrefix s ⟨#[45]⟩ W
 have e0:((⟨#[45]⟩:ByteArray).data.toList)=[45]:=rfl;have e1:Lib.hasPrefix s.data.toList [45]=(bY s.data.toList).1:=by rw[Dq]
 have e2:Lib.trimPrefix s.data.toList [45]=(bY s.data.toList).2:=by rw[Dq]
 rw[e0,e1,e2]at hcp;have HP:Hid (aI s.data.toList=if mW (bY s.data.toList).1 (cB (bY s.data.toList).2).1 (cB (bY s.data.toList).2).2.1 (cB (bY s.data.toList).2).2.2=true then some ((bY s.data.toList).1,(cB (bY s.data.toList).2).2.1,(cB (bY s.data.toList).2).2.2) else none):=rfl;have hlen:(bY s.data.toList).2.length<=s.size:=by
  have:=aaw List.length (Dp s.data.toList);rw[aas,<-aae]at this;omega
 obtain⟨R,hR⟩:∃R:ByteArray,(⟨(bY s.data.toList).2.toArray⟩:ByteArray)=R:=⟨_,rfl⟩;have VT:R.data.toList=(bY s.data.toList).2:=by rw[<-hR]
 have hRs:R.size<=9223372036854775807:=by rw[aae,VT];omega
 rw[hR]at hcp;rw[<-VT]at HP;have hct:=fun W=>Tj R W hRs
 unfold Pw at hct;have e3:((⟨#[47]⟩:ByteArray).data.toList)=[47]:=rfl;rw[KQ]at hct;have hrd:=fun h=>KR (r:=R.data.toList) h
 have hre:=(yE R.data.toList).1;obtain⟨A,hA⟩:∃A:ByteArray,(⟨(cB R.data.toList).2.1.toArray⟩:ByteArray)=A:=⟨_,rfl⟩;have hAd:(cB R.data.toList).2.1=A.data.toList:=by rw[<-hA]
 have hAs:A.size<=9223372036854775807:=by
  have:=aaw List.length hre;rw[aas,<-aae,hAd,<-aae]at this;omega
 have hDs:(cB R.data.toList).2.2.length<=9223372036854775807:=by
  by_cases hf:(cB R.data.toList).1=true
  ·have:=aaw List.length hre
   rw[aas,<-aae,aaa hf,aaF]at this;omega
  ·rw[hrd (by simpa using hf)];simp
 obtain⟨D,hD⟩:∃D:ByteArray,(⟨(cB R.data.toList).2.2.toArray⟩:ByteArray)=D:=⟨_,rfl⟩;have Vy:(cB R.data.toList).2.2=D.data.toList:=by rw[<-hD]
 rw[Vy,<-aae]at hDs;rw[hAd,Vy]at HP;simp only[hAd,Vy]at hct hrd;clear hre hA hD hAd Vy hR VT hlen e0 e1 e2 e3;generalize (bY s.data.toList).1=neg at*;generalize (cB R.data.toList).1=fr at*;obtain⟨M,hM⟩:=hT.mx;have vA:=fun W=>gI A W (by omega)
 have vD:=fun W=>gI D W (by omega)
 have XO:=Pd hrd;have hA':(⟨A.data.toList.toArray⟩:ByteArray)=A:=qa rfl;have hD':(⟨D.data.toList.toArray⟩:ByteArray)=D:=qa rfl;simp only[hA']at hct;have hb0:Below w w (w.alloc (.cells #[.bool false,.string ⟨#[]⟩,.string ⟨#[]⟩] 215)):=(aac _ w).alloc (Pe _) _;have hM0:=(hb0.cell (ax hM)).trans hM;have hgd:aj A.data.toList=true->aj D.data.toList=true->z8 A.data.toList D.data.toList=(af (Nat.gcd (ag A.data.toList) (ag D.data.toList)),0):=fun h1 h2=>by unfold z8;rw[aaa ⟨h1,h2⟩]
 have ng:=fun(h1:aj A.data.toList=true) (h2:aj D.data.toList=true) W h=>(show Calls Tryz.prog 196 #[.string A,.string D] W (aA W (af (Nat.gcd (ag A.data.toList) (ag D.data.toList)),0)) by rw[<-hgd h1 h2];exact JF A D W h (by omega) (by omega))
 have hG:(ByteArray.toList ⟨(af (Nat.gcd (ag A.data.toList) (ag D.data.toList))).toArray⟩==[49])=decide (Nat.gcd (ag A.data.toList) (ag D.data.toList)=1):=qg rfl;obtain⟨F,hF⟩:∃F:ByteArray,(⟨(af (Nat.gcd (ag A.data.toList) (ag D.data.toList))).toArray⟩:ByteArray)=F:=⟨_,rfl⟩;unfold aA at ng;simp only[hF]at ng;rw[hF]at hG;unfold mW at HP;have q5:(A.toList==[48])=(A.data.toList==[48]):=by rw[aan]
 have q6:(D.toList==[48])=(D.data.toList==[48]):=by rw[aan]
 have q7:(D.toList==[49])=(D.data.toList==[49]):=by rw[aan]
 rw[<-hG,<-q5,<-q6,<-q7]at HP;rw[<-aae,<-aae]at HP;clear hM hrd hF hG hgd q5 q6 q7;obtain⟨b1,h1⟩:∃b,aj A.data.toList=b:=⟨_,rfl⟩;obtain⟨b2,h2⟩:∃b,aj D.data.toList=b:=⟨_,rfl⟩;obtain⟨b3,h3⟩:∃b,decide (A.size<=400)=b:=⟨_,rfl⟩;obtain⟨b4,h4⟩:∃b,decide (D.size<=400)=b:=⟨_,rfl⟩;obtain⟨b5,h5⟩:∃b,(A.toList==[48])=b:=⟨_,rfl⟩;obtain⟨b6,h6⟩:∃b,(D.toList==[48])=b:=⟨_,rfl⟩;obtain⟨b7,h7⟩:∃b,(D.toList==[49])=b:=⟨_,rfl⟩;obtain⟨b8,h8⟩:∃b,(F.toList==[49])=b:=⟨_,rfl⟩;have e3:decide ((400:Int)<(A.size:Int))=!b3:=by rw[<-h3];by_cases h:A.size<=400<;>simp[h]<;>omega
 have e4:decide ((400:Int)<(D.size:Int))=!b4:=by rw[<-h4];by_cases h:D.size<=400<;>simp[h]<;>omega
 rw[h1,h2,h3,h4,h5,h6,h7,h8]at HP;rw[h1]at vA;rw[h2]at vD
 cases fr
 case' true=>
  simp only[acf,hD']at hct;clear hA' hD' XO;have HK:(b1=false/\Hid (aI s.data.toList=none))\/(b1=true/\b2=false/\Hid (aI s.data.toList=none))\/(b1=true/\b2=true/\b3=false/\Hid (aI s.data.toList=none))\/(b1=true/\b2=true/\b3=true/\b4=false/\Hid (aI s.data.toList=none))\/(b1=true/\b2=true/\b3=true/\b4=true/\neg=true/\b5=true/\Hid (aI s.data.toList=none))\/(b1=true/\b2=true/\b3=true/\b4=true/\neg=true/\b5=false/\b6=true/\Hid (aI s.data.toList=none))\/(b1=true/\b2=true/\b3=true/\b4=true/\neg=true/\b5=false/\b6=false/\b7=true/\Hid (aI s.data.toList=none))\/(b1=true/\b2=true/\b3=true/\b4=true/\neg=true/\b5=false/\b6=false/\b7=false/\b8=false/\Hid (aI s.data.toList=none))\/(b1=true/\b2=true/\b3=true/\b4=true/\neg=true/\b5=false/\b6=false/\b7=false/\b8=true/\Hid (aI s.data.toList=some (true,A.data.toList,D.data.toList)))\/(b1=true/\b2=true/\b3=true/\b4=true/\neg=false/\b6=true/\Hid (aI s.data.toList=none))\/(b1=true/\b2=true/\b3=true/\b4=true/\neg=false/\b6=false/\b7=true/\Hid (aI s.data.toList=none))\/(b1=true/\b2=true/\b3=true/\b4=true/\neg=false/\b6=false/\b7=false/\b8=false/\Hid (aI s.data.toList=none))\/(b1=true/\b2=true/\b3=true/\b4=true/\neg=false/\b6=false/\b7=false/\b8=true/\Hid (aI s.data.toList=some (false,A.data.toList,D.data.toList))):=by
   cases b1
   case false=>
    exact aam ⟨rfl,by rw[Hid,HP.out];rfl⟩
   case true=>
    cases b2
    case false=>
     exact aad (aam ⟨rfl,rfl,by rw[Hid,HP.out];rfl⟩)
    case true=>
     cases b3
     case false=>
      exact aad (aad (aam ⟨rfl,rfl,rfl,by rw[Hid,HP.out];rfl⟩))
     case true=>
      cases b4
      case false=>
       exact aad (aad (aad (aam ⟨rfl,rfl,rfl,rfl,by rw[Hid,HP.out];rfl⟩)))
      case true=>
       cases neg
       case false=>
        cases b6
        case false=>
         cases b7
         case false=>
          cases b8
          case false=>
           exact aad (aad (aad (aad (aad (aad (aad (aad (aad (aad (aad (aam ⟨rfl,rfl,rfl,rfl,rfl,rfl,rfl,rfl,by rw[Hid,HP.out];rfl⟩)))))))))))
          case true=>
           exact aad (aad (aad (aad (aad (aad (aad (aad (aad (aad (aad (aad (⟨rfl,rfl,rfl,rfl,rfl,rfl,rfl,rfl,by rw[Hid,HP.out];rfl⟩))))))))))))
         case true=>
          exact aad (aad (aad (aad (aad (aad (aad (aad (aad (aad (aam ⟨rfl,rfl,rfl,rfl,rfl,rfl,rfl,by rw[Hid,HP.out];rfl⟩))))))))))
        case true=>
         exact aad (aad (aad (aad (aad (aad (aad (aad (aad (aam ⟨rfl,rfl,rfl,rfl,rfl,rfl,by rw[Hid,HP.out];rfl⟩)))))))))
       case true=>
        cases b5
        case false=>
         cases b6
         case false=>
          cases b7
          case false=>
           cases b8
           case false=>
            exact aad (aad (aad (aad (aad (aad (aad (aam ⟨rfl,rfl,rfl,rfl,rfl,rfl,rfl,rfl,rfl,by rw[Hid,HP.out];rfl⟩)))))))
           case true=>
            exact aad (aad (aad (aad (aad (aad (aad (aad (aam ⟨rfl,rfl,rfl,rfl,rfl,rfl,rfl,rfl,rfl,by rw[Hid,HP.out];rfl⟩))))))))
          case true=>
           exact aad (aad (aad (aad (aad (aad (aam ⟨rfl,rfl,rfl,rfl,rfl,rfl,rfl,rfl,by rw[Hid,HP.out];rfl⟩))))))
         case true=>
          exact aad (aad (aad (aad (aad (aam ⟨rfl,rfl,rfl,rfl,rfl,rfl,rfl,by rw[Hid,HP.out];rfl⟩)))))
        case true=>
         exact aad (aad (aad (aad (aam ⟨rfl,rfl,rfl,rfl,rfl,rfl,by rw[Hid,HP.out];rfl⟩))))
  rcases HK with⟨rfl,UI⟩|⟨rfl,rfl,UI⟩|⟨rfl,rfl,rfl,UI⟩|⟨rfl,rfl,rfl,rfl,UI⟩|⟨rfl,rfl,rfl,rfl,rfl,rfl,UI⟩|⟨rfl,rfl,rfl,rfl,rfl,rfl,rfl,UI⟩|⟨rfl,rfl,rfl,rfl,rfl,rfl,rfl,rfl,UI⟩|⟨rfl,rfl,rfl,rfl,rfl,rfl,rfl,rfl,rfl,UI⟩|⟨rfl,rfl,rfl,rfl,rfl,rfl,rfl,rfl,rfl,UI⟩|⟨rfl,rfl,rfl,rfl,rfl,rfl,UI⟩|⟨rfl,rfl,rfl,rfl,rfl,rfl,rfl,UI⟩|⟨rfl,rfl,rfl,rfl,rfl,rfl,rfl,rfl,UI⟩|⟨rfl,rfl,rfl,rfl,rfl,rfl,rfl,rfl,UI⟩
 case' false=>
  have hDe:D=⟨#[49]⟩:=by
   have h:=XO.out rfl;rw[<-hD',h]
  subst hDe;clear hA' hD' XO;simp only[afl,ac0]at hct;obtain rfl:b4=true:=by rw[<-h4];rfl
  have HK:(b1=false/\Hid (aI s.data.toList=none))\/(b1=true/\b2=false/\Hid (aI s.data.toList=none))\/(b1=true/\b2=true/\b3=false/\Hid (aI s.data.toList=none))\/(b1=true/\b2=true/\b3=true/\neg=true/\b5=true/\Hid (aI s.data.toList=none))\/(b1=true/\b2=true/\b3=true/\neg=true/\b5=false/\b8=false/\Hid (aI s.data.toList=none))\/(b1=true/\b2=true/\b3=true/\neg=true/\b5=false/\b8=true/\Hid (aI s.data.toList=some (true,A.data.toList,(⟨#[49]⟩:ByteArray).data.toList)))\/(b1=true/\b2=true/\b3=true/\neg=false/\b8=false/\Hid (aI s.data.toList=none))\/(b1=true/\b2=true/\b3=true/\neg=false/\b8=true/\Hid (aI s.data.toList=some (false,A.data.toList,(⟨#[49]⟩:ByteArray).data.toList))):=by
   cases b1
   case false=>
    exact aam ⟨rfl,by rw[Hid,HP.out];rfl⟩
   case true=>
    cases b2
    case false=>
     exact aad (aam ⟨rfl,rfl,by rw[Hid,HP.out];rfl⟩)
    case true=>
     cases b3
     case false=>
      exact aad (aad (aam ⟨rfl,rfl,rfl,by rw[Hid,HP.out];rfl⟩))
     case true=>
      cases neg
      case false=>
       cases b8
       case false=>
        exact aad (aad (aad (aad (aad (aad (aam ⟨rfl,rfl,rfl,rfl,rfl,by rw[Hid,HP.out];rfl⟩))))))
       case true=>
        exact aad (aad (aad (aad (aad (aad (aad (⟨rfl,rfl,rfl,rfl,rfl,by rw[Hid,HP.out];rfl⟩)))))))
      case true=>
       cases b5
       case false=>
        cases b8
        case false=>
         exact aad (aad (aad (aad (aam ⟨rfl,rfl,rfl,rfl,rfl,rfl,by rw[Hid,HP.out];rfl⟩))))
        case true=>
         exact aad (aad (aad (aad (aad (aam ⟨rfl,rfl,rfl,rfl,rfl,rfl,by rw[Hid,HP.out];rfl⟩)))))
       case true=>
        exact aad (aad (aad (aam ⟨rfl,rfl,rfl,rfl,rfl,by rw[Hid,HP.out];rfl⟩)))
  rcases HK with⟨rfl,UI⟩|⟨rfl,rfl,UI⟩|⟨rfl,rfl,rfl,UI⟩|⟨rfl,rfl,rfl,rfl,rfl,UI⟩|⟨rfl,rfl,rfl,rfl,rfl,rfl,UI⟩|⟨rfl,rfl,rfl,rfl,rfl,rfl,UI⟩|⟨rfl,rfl,rfl,rfl,rfl,UI⟩|⟨rfl,rfl,rfl,rfl,rfl,UI⟩
 all_goals
  clear HP
  try simp only[Bool.not_true,Bool.not_false]at e3 e4
  try have ngk:=ng h1 h2
  go_enter Tryz.func174,Tryz.ntmps174
  go_wp2_with (first
   |(go_at_call 198;refine(hcp _).mono ?_;rintro e w1 ⟨rfl,rfl⟩))
  refine(hct _).mono ?_;rintro e w2 ⟨rfl,k,rfl⟩;have hsz:w.heap.size<((w.alloc (.cells #[.bool false,.string ⟨#[]⟩,.string ⟨#[]⟩] 215)).drewN k).heap.size:=by simp
  have hbk:Below w w ((w.alloc (.cells #[.bool false,.string ⟨#[]⟩,.string ⟨#[]⟩] 215)).drewN k):=⟨hb0.os,hb0.tape,hb0.output,hb0.size,hb0.block⟩
  go_wp2_with (first
   |(go_at_call_of 192 (Value.string A);refine(vA _).mono ?_;rintro e w2 ⟨rfl,rfl⟩)
   |(go_at_call 192;refine(vD _).mono ?_;rintro e w2 ⟨rfl,rfl⟩)
   |(go_at_call 196;refine(ngk _ (hT.below hbk)).mono ?_;rintro e w3 ⟨rfl,b3⟩;have hb3:=ae hbk b3;have c0:=(b3.cell (p:=⟨w.heap.size,0,none⟩) hsz).trans (fO w k 0 _ rfl);have c1:=(b3.cell (p:=⟨w.heap.size,1,none⟩) hsz).trans (fO w k 1 _ rfl);have c2:=(b3.cell (p:=⟨w.heap.size,2,none⟩) hsz).trans (fO w k 2 _ rfl);have f0:=dU (b3.block w.heap.size hsz) 0 (fP w k 0);have f1:=dU (b3.block w.heap.size hsz) 1 (fP w k 1);have f2:=dU (b3.block w.heap.size hsz) 2 (fP w k 2)))
  first
   |(refine aaD (by simp[results,Tryz.results174,c0,c1,c2,go_sem];try rfl) rfl ?_
     exact⟨by rw[UI.out];rfl,((hb3.setCell (p:=⟨w.heap.size,0,none⟩) (Pe _) _).setCell (p:=⟨w.heap.size,1,none⟩) (Pe _) _).setCell (p:=⟨w.heap.size,2,none⟩) (Pe _) _⟩)
   |(go_returns
     exact⟨by rw[UI.out];rfl,((hbk.setCell (p:=⟨w.heap.size,0,none⟩) (Pe _) _).setCell (p:=⟨w.heap.size,1,none⟩) (Pe _) _).setCell (p:=⟨w.heap.size,2,none⟩) (Pe _) _⟩)
def uq(neg:Bool)(n d:Bs):Bs:=(if neg=true then [45] else [])++(n++(if d=[49] then [] else 47::d))
def Ca{l k:Bs}{m n:Nat}(hl:l=af m)(hk:k=af n)(h1:l.length<=1000)(h2:k.length<=1000)(h3:(af (m+n)).length<=1000):mK l k=(af (m+n),0):=by
 subst hl hk;unfold mK jv;rw[aaa ⟨jV h1,jV h2⟩,fq,fq,aab (by omega)]
def Cf{l k:Bs}{m n:Nat}(hl:l=af m)(hk:k=af n)(h1:l.length<=1000)(h2:k.length<=1000)(h3:(af (m*n)).length<=1000):mO l k=(af (m*n),0):=by
 subst hl hk;unfold mO jv;rw[aaa ⟨jV h1,jV h2⟩,fq,fq,aab (by omega)]
def vR{l k:Bs}{m n:Nat}(hl:l=af m)(hk:k=af n)(h1:l.length<=1000)(h2:k.length<=1000)(h3:n<=m):jT l k=(af (m-n),0):=by
 subst hl hk;unfold jT;rw[aaa ⟨jV h1,jV h2⟩,fq,fq,aab (by omega)]
def Cc{l k:Bs}{m n:Nat}(hl:l=af m)(hk:k=af n)(h1:l.length<=1000)(h2:k.length<=1000):mM l k=bZ m n:=by
 subst hl hk;unfold mM;rw[aaa ⟨jV h1,jV h2⟩,fq,fq]
def JA{l k:Bs}{m n:Nat}(hl:l=af m)(hk:k=af n)(h1:l.length<=1000)(h2:k.length<=1000):z8 l k=(af (Nat.gcd m n),0):=by
 subst hl hk;unfold z8;rw[aaa ⟨jV h1,jV h2⟩,fq,fq]
def LW(s t:Bool)(a b:ByteArray)(m n:Nat)(w:World)(hT:bK w)(ha:a.data.toList=af m)(hb:b.data.toList=af n)(sa:a.size<=1000)(sb:b.size<=1000)(hs:(af (m+n)).length<=1000) :
  Calls Tryz.prog 170 #[.bool s,.string a,.bool t,.string b] w fun e w'=>e=.returned (.tuple #[.bool (dQ s m t n).1,.string ⟨(af (dQ s m t n).2).toArray⟩])/\Below w w w':=by
 have la:a.data.toList.length<=1000:=by rw[<-aae];exact sa
 have lb:b.data.toList.length<=1000:=by rw[<-aae];exact sb
 by_cases hst:s=t
 ·have hq:=Js a b w hT (by omega) (by omega)
  rw[Ca ha hb la lb hs]at hq;unfold aA at hq;have HA:Hid (dQ s m t n=(s,m+n)):=by unfold Hid dQ;rw[aaa hst]
  obtain⟨F,hF⟩:∃F:ByteArray,(⟨(af (m+n)).toArray⟩:ByteArray)=F:=⟨_,rfl⟩;simp only[hF]at hq;have HF:=Pd hF;have hm:=fun W=>uo F W
  subst hst;clear hF la lb ha hb hs;go_enter Tryz.func170,Tryz.ntmps170;go_wp2_with (first|(go_at_call 189;refine hq.mono ?_;rintro e w1 ⟨rfl,b1⟩)|(go_at_call 171;refine(hm _).mono ?_;rintro e w2 ⟨rfl,rfl⟩));go_returns;exact⟨by rw[HA.out,HF.out];rfl,b1⟩
 ·have hst2:(s==t)=false:=aaN.2 hst
  have hc:=JC a b w (by omega) (by omega);rw[Cc ha hb la lb]at hc;rcases aaz m n with hlt|hge
  ·rw[lu hlt]at hc
   have HA:Hid (dQ s m t n=(t,n-m)):=by unfold Hid dQ;rw[aab hst,aaa hlt]
   have hq:=fun W hT=>Ci b a W hT (by omega) (by omega)
   rw[vR hb ha lb la (by omega)]at hq;unfold aA at hq;obtain⟨F,hF⟩:∃F:ByteArray,(⟨(af (n-m)).toArray⟩:ByteArray)=F:=⟨_,rfl⟩;simp only[hF]at hq;have HF:=Pd hF;have hm:=fun W=>uo F W
   clear hF la lb ha hb hs hst;go_enter Tryz.func170,Tryz.ntmps170;go_wp2_with (first|(go_at_call 190;refine hc.mono ?_;rintro e w1 ⟨rfl,b1⟩;have hq1:=hq _ (hT.below b1))|(go_at_call 191;refine hq1.mono ?_;rintro e w2 ⟨rfl,b2⟩;have hA2:=ae b1 b2)|(go_at_call 171;refine(hm _).mono ?_;rintro e w2 ⟨rfl,rfl⟩));go_returns;exact⟨by rw[HA.out,HF.out];rfl,hA2⟩
  ·have VD:¬ bZ m n<0:=by rw[nL];omega
   obtain⟨cc,hcc⟩:∃cc,bZ m n=cc:=⟨_,rfl⟩;rw[hcc]at hc VD;have HA:Hid (dQ s m t n=(s,m-n)):=by unfold Hid dQ;rw[aab hst,aab (by omega)]
   have hq:=fun W hT=>Ci a b W hT (by omega) (by omega)
   rw[vR ha hb la lb (by omega)]at hq;unfold aA at hq;obtain⟨F,hF⟩:∃F:ByteArray,(⟨(af (m-n)).toArray⟩:ByteArray)=F:=⟨_,rfl⟩;simp only[hF]at hq;have HF:=Pd hF;have hm:=fun W=>uo F W
   have hc0:0<=cc:=(by omega);clear hF la lb ha hb hs hst hcc VD;go_enter Tryz.func170,Tryz.ntmps170;go_wp2_with (first|(go_at_call 190;refine hc.mono ?_;rintro e w1 ⟨rfl,b1⟩;have hq1:=hq _ (hT.below b1))|(go_at_call 191;refine hq1.mono ?_;rintro e w2 ⟨rfl,b2⟩;have hA2:=ae b1 b2)|(go_at_call 171;refine(hm _).mono ?_;rintro e w2 ⟨rfl,rfl⟩));go_returns;exact⟨by rw[HA.out,HF.out];rfl,hA2⟩
def o6(m n:Nat):Bool:=decide (400<(af (m/Nat.gcd m n)).length)||decide (400<(af (n/Nat.gcd m n)).length)
def at3(w:World)(A:Array Value)(t:TypeId)(o:Nat)(v:Value)(h:A[o]? = some v):(w.alloc (.cells A t)).cell? ⟨w.heap.size,o,none⟩=some v:=by
 rw[aap (w.alloc _) w.heap.size o A t (0,0) (aaq w _)];exact h
def vJ(w:World)(A:Array Value)(t:TypeId)(o:Nat):(w.alloc (.cells A t)).frozen? ⟨w.heap.size,o,none⟩=false:=by
 unfold World.frozen?;rw[aaq];simp
structure Pm (w:World) (b:Nat) (x y z:Value):Prop where
 lt:b<w.heap.size
 c0:w.cell? ⟨b,0,none⟩=some x
 c1:w.cell? ⟨b,1,none⟩=some y
 c2:w.cell? ⟨b,2,none⟩=some z
 f0:w.frozen? ⟨b,0,none⟩=false
 f1:w.frozen? ⟨b,1,none⟩=false
 f2:w.frozen? ⟨b,2,none⟩=false
def Pm.new(w:World)(x y z:Value)(t:TypeId):Pm (w.alloc (.cells #[x,y,z] t)) w.heap.size x y z:=
 ⟨by simp,at3 w _ t 0 x rfl,at3 w _ t 1 y rfl,at3 w _ t 2 z rfl,vJ w _ t 0,vJ w _ t 1,vJ w _ t 2⟩
def Pm.below{w w':World}{b:Nat}{x y z:Value}(h:Pm w b x y z)(hb:Below w w w'):Pm w' b x y z:=
 ⟨aah h.lt hb.size,(hb.cell (p:=⟨b,0,none⟩) h.lt).trans h.c0,(hb.cell (p:=⟨b,1,none⟩) h.lt).trans h.c1,(hb.cell (p:=⟨b,2,none⟩) h.lt).trans h.c2,dU (hb.block b h.lt) 0 h.f0,dU (hb.block b h.lt) 1 h.f1,dU (hb.block b h.lt) 2 h.f2⟩
def BV(a b:ByteArray)(m n:Nat)(F:ByteArray)(hF:(⟨(af (m*n)).toArray⟩:ByteArray)=F)(ha:a.data.toList=af m)(hb:b.data.toList=af n)(sa:a.size<=400)(sb:b.size<=400)(W:World)(hT:bK W) :
  Calls Tryz.prog 172 #[.string a,.string b] W fun e w'=>e=.returned (.tuple #[.string F,.int .i64 0])/\Below W W w':=by
 have h:=JH a b W hT (by omega) (by omega);have l1:=aae a;have l2:=aae b;have h3:(af (m*n)).length<=1000:=by
  have:=xC m n;rw[<-ha,<-hb]at this;omega
 rw[Cf ha hb (by omega) (by omega) h3]at h;unfold aA at h;simp only[hF]at h;exact h
def lK(a b:ByteArray)(m n:Nat)(F:ByteArray)(hF:(⟨(af (m*n)).toArray⟩:ByteArray)=F)(ha:a.data.toList=af m)(hb:b.data.toList=af n)(sa:a.size<=400)(sb:b.size<=400):F.data.toList=af (m*n)/\F.size<=800:=by
 have e:F.data.toList=af (m*n):=by rw[<-hF]
 refine⟨e,?_⟩;rw[aae,e];have:=xC m n;have l1:=aae a;have l2:=aae b;rw[<-ha,<-hb]at this;omega
structure Num (A D:ByteArray) (m k:Nat):Prop where
 a:A.data.toList=af m
 d:D.data.toList=af k
 sa:A.size<=400
 sd:D.size<=400
 nz:k≠0
def Fe(s:Bool)(m:Nat)(t:Bool)(n:Nat):(dQ s m t n).2<=m+n:=by
 unfold dQ
 split
 ·exact Pe _
 ·split<;>simp<;>omega
def wZ{F G:ByteArray}{M N:Nat}(hF:F.data.toList=af M)(hG:G.data.toList=af N)(sF:F.size<=800)(sG:G.size<=800):(af (M+N)).length<=801:=by
 have:=F7 M N 800 (by omega) (by rw[<-hF,<-aae];exact sF) (by rw[<-hG,<-aae];exact sG);omega
def Jl{neg:Bool}{m n:Nat}(hn:n≠0)(h:o6 m n=true):iq neg m n=([],2):=by
 rw[BS neg m hn,aaa];unfold o6 at h
 simpa using h
def Jo{neg:Bool}{m n:Nat}(hn:n≠0)(h:¬ o6 m n=true):iq neg m n=(uq (neg&&decide (m≠0)) (af (m/Nat.gcd m n)) (af (n/Nat.gcd m n)),0):=by
 rw[BS neg m hn,aab]
 ·unfold uq
  congr 1;congr 1
  ·by_cases h1:neg=true<;>by_cases h2:m=0<;>simp[h1,h2]
  ·congr 1
   by_cases h1:n/Nat.gcd m n=1
   ·rw[aaa h1,h1,aaa Ao]
   ·rw[aab h1,aab]
    intro e;exact h1 (by rw[<-fq (n/Nat.gcd m n),e];rfl)
 ·unfold o6 at h
  simpa using h
structure sJ (w:World) (b:Nat) (x:Value):Prop where
 lt:b<w.heap.size
 c0:w.cell? ⟨b,0,none⟩=some x
 f0:w.frozen? ⟨b,0,none⟩=false
def sJ.new(w:World)(x:Value)(t:TypeId):sJ (w.alloc (.cells #[x] t)) w.heap.size x:=⟨by simp,at3 w _ t 0 x rfl,vJ w _ t 0⟩
def sJ.below{w w':World}{b:Nat}{x:Value}(h:sJ w b x)(hb:Below w w w'):sJ w' b x:=
 ⟨aah h.lt hb.size,(hb.cell (p:=⟨b,0,none⟩) h.lt).trans h.c0,dU (hb.block b h.lt) 0 h.f0⟩
def lL{a:ByteArray}{x:Rat}(h:aK a.data.toList=some x):∃A D:ByteArray,aI a.data.toList=some (decide (x.num<0),A.data.toList,D.data.toList)/\Num A D x.num.natAbs x.den:=by
 obtain⟨h1,h2,h3,h4⟩:=uz h;refine⟨⟨(af x.num.natAbs).toArray⟩,⟨(af x.den).toArray⟩,h4,⟨rfl,rfl,?_,?_,x.den_nz⟩⟩
 ·rw[aae];exact h2
 ·rw[aae];exact h3
def qw(x:Rat):mkRat (bn (decide (x.num<0)) x.num.natAbs) x.den=x:=by rw[wJ,adl]
def Jj(x y:Rat):iq (dQ (decide (x.num<0)) (x.num.natAbs*y.den) (decide (y.num<0)) (y.num.natAbs*x.den)).1 (dQ (decide (x.num<0)) (x.num.natAbs*y.den) (decide (y.num<0)) (y.num.natAbs*x.den)).2 (x.den*y.den)=ik (x+y):=by
 unfold iq;rw[<-KY _ _ _ _ _ _ x.den_nz y.den_nz,qw,qw]
def D8(q:Bool)(n:Nat):bn (!q) n=-bn q n:=by unfold bn;cases q<;>simp
def Jm(x y:Rat):iq (decide (x.num<0) != decide (y.num<0)) (x.num.natAbs*y.num.natAbs) (x.den*y.den)=ik (x*y):=by
 unfold iq;rw[<-yF,qw,qw]
def Cj{y:Rat}(h:y≠0):y.num.natAbs≠0:=by
 intro e;apply h;have:y.num=0:=by omega
 rw[<-adl y,this,Rat.zero_mkRat]
def Jk(x y:Rat)(h:y≠0):iq (decide (x.num<0) != decide (y.num<0)) (x.num.natAbs*y.den) (x.den*y.num.natAbs)=ik (x/y):=by
 unfold iq;rw[<-yF,qw,<-K3 _ _ _ y.den_nz (Cj h),qw,Rat.div_def]
def Dm{l:Bs}(h:aK l=none):aI l=none:=KX.1 h
def CL(s:ByteArray)(w:World)(hT:bK w)(hs:s.size<=9223372036854775807)(h:aK s.data.toList=none) :
  Calls Tryz.prog 174 #[.string s] w fun e w'=>e=.returned (.tuple #[.agg #[.bool false,.string ⟨#[]⟩,.string ⟨#[]⟩],.bool false])/\Below w w w':=by
 have hp:=lM s w hT hs;rw[Dm h]at hp;exact hp
def CO(s A D:ByteArray)(p:Bool)(w:World)(hT:bK w)(hs:s.size<=9223372036854775807)(h:aI s.data.toList=some (p,A.data.toList,D.data.toList)) :
  Calls Tryz.prog 174 #[.string s] w fun e w'=>e=.returned (.tuple #[.agg #[.bool p,.string A,.string D],.bool true])/\Below w w w':=by
 have hp:=lM s w hT hs;rw[h]at hp;have e1:ut (p,A.data.toList,D.data.toList)=.agg #[.bool p,.string A,.string D]:=by
  unfold ut;rw[qa (s:=A) rfl,qa (s:=D) rfl]
 simp only[abL,acL,e1]at hp;exact hp
def mX(l:Bs):(aI l).isSome=(aK l).isSome:=by unfold aK;rw[Option.isSome_map]
def Dj(a:ByteArray)(w:World)(hT:bK w)(ha:a.size<=9223372036854775807) :
  Calls Tryz.prog 143 #[.string a] w fun e w'=>e=.returned (.bool (aK a.data.toList).isSome)/\Below w w w':=by
 have hc:=lM a w hT ha;rw[mX]at hc;generalize ut ((aI a.data.toList).getD (false,[],[]))=nv at*;generalize (aK a.data.toList).isSome=ok at*;go_enter Tryz.func143,Tryz.ntmps143;go_wp2_with (go_at_call 174;refine hc.mono ?_;rintro e w1 ⟨rfl,b1⟩);go_returns;exact⟨rfl,b1⟩
def nW:aK [48]=some 0:=Dr (q:=0) (by decide) (by decide)
def dJ(l:Bs):Value:=.tuple #[.bool ((aI l).getD (false,[],[])).1,.string ⟨((aI l).getD (false,[],[])).2.1.toArray⟩,.string ⟨((aI l).getD (false,[],[])).2.2.toArray⟩,.bool (aI l).isSome]
end Go.Proofs.YtppnecgeboonbaaGreatDoor.Rat3
