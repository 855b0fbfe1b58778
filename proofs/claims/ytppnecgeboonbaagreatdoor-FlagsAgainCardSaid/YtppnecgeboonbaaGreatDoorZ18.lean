/- Walks. -/
import Derived.Test.YtppnecgeboonbaaGreatDoorZ17
namespace Go.Proofs.YtppnecgeboonbaaGreatDoor.Rat3
set_option maxRecDepth 100000
set_option linter.all false
set_option maxHeartbeats 4000000
open Go.RowKit
def KZ(x y:Rat):x=y↔x.num*y.den=y.num*x.den:=by
 rw[<-Rat.mkRat_eq_iff x.den_nz y.den_nz,adl,adl]
def zY(x y:Rat)(sg:Bool)(N:Nat)(h:bn sg N=bn (decide (x.num<0)) (x.num.natAbs*y.den)+bn (!decide (y.num<0)) (y.num.natAbs*x.den)) :
  (if x=y then (0:Int) else if x<y then -1 else 1)=if N=0 then 0 else if sg=true then -1 else 1:=by
 have e1:bn (decide (x.num<0)) (x.num.natAbs*y.den)=x.num*y.den:=by
  have:=wJ x.num
  conv=>rhs;rw[<-this]
  unfold bn;split<;>simp[af4]
 have e2:bn (!decide (y.num<0)) (y.num.natAbs*x.den)=-(y.num*x.den):=by
  rw[D8];have:=wJ y.num
  conv=>rhs;rw[<-this]
  unfold bn;split<;>simp[af4]
 rw[e1,e2]at h;have h1:=KZ x y;have h2:=Rat.lt_iff x y;generalize x.num * (y.den:Int)=u at*;generalize y.num * (x.den:Int)=v at*;have hN:N=0↔u=v:=by
  unfold bn at h
  split at h<;>omega
 by_cases hxy:x=y
 ·rw[aaa hxy,aaa (hN.2 (h1.1 hxy))]
 ·have hne:u≠v:=fun e=>hxy (h1.2 e)
  rw[aab hxy,aab (fun e=>hne (hN.1 e))];by_cases hlt:x<y
  ·rw[aaa hlt,aaa]
   have:=h2.1 hlt;unfold bn at h
   cases sg with
   |true=>rfl
   |false=>simp at h;omega
  ·rw[aab hlt,aab]
   intro e;rw[e]at h;unfold bn at h;simp at h;apply hlt;apply h2.2;omega
def Bj{w w0 w1:World}{bx by':Nat}{p q:Bool}{A D B E:ByteArray}(hb:Below w0 w0 w1)(h:w0.cell? ⟨bx,0,none⟩=some (.bool p)/\w0.cell? ⟨bx,1,none⟩=some (.string A)/\w0.cell? ⟨bx,2,none⟩=some (.string D)/\w0.cell? ⟨by',0,none⟩=some (.bool q)/\w0.cell? ⟨by',1,none⟩=some (.string B)/\w0.cell? ⟨by',2,none⟩=some (.string E)/\bK w0/\Below w w w0):w1.cell? ⟨bx,0,none⟩=some (.bool p)/\w1.cell? ⟨bx,1,none⟩=some (.string A)/\w1.cell? ⟨bx,2,none⟩=some (.string D)/\w1.cell? ⟨by',0,none⟩=some (.bool q)/\w1.cell? ⟨by',1,none⟩=some (.string B)/\w1.cell? ⟨by',2,none⟩=some (.string E)/\bK w1/\Below w w w1:=by
 obtain⟨h1,h2,h3,h4,h5,h6,hT,hB⟩:=h;exact⟨(hb.cell (ax h1)).trans h1,(hb.cell (ax h2)).trans h2,(hb.cell (ax h3)).trans h3,(hb.cell (ax h4)).trans h4,(hb.cell (ax h5)).trans h5,(hb.cell (ax h6)).trans h6,hT.below hb,ae hB hb⟩
def IB{w w0:World}{bx by':Nat}{p q:Bool}{A D B E:ByteArray}(h:w0.cell? ⟨bx,0,none⟩=some (.bool p)/\w0.cell? ⟨bx,1,none⟩=some (.string A)/\w0.cell? ⟨bx,2,none⟩=some (.string D)/\w0.cell? ⟨by',0,none⟩=some (.bool q)/\w0.cell? ⟨by',1,none⟩=some (.string B)/\w0.cell? ⟨by',2,none⟩=some (.string E)/\bK w0/\Below w w w0):w0.drew.cell? ⟨bx,0,none⟩=some (.bool p)/\w0.drew.cell? ⟨bx,1,none⟩=some (.string A)/\w0.drew.cell? ⟨bx,2,none⟩=some (.string D)/\w0.drew.cell? ⟨by',0,none⟩=some (.bool q)/\w0.drew.cell? ⟨by',1,none⟩=some (.string B)/\w0.drew.cell? ⟨by',2,none⟩=some (.string E)/\bK w0.drew/\Below w w w0.drew:=Bj ((aac _ _).drew) h
def xW{w w0:World}{bx by':Nat}{p q:Bool}{A D B E:ByteArray}(h:w0.cell? ⟨bx,0,none⟩=some (.bool p)/\w0.cell? ⟨bx,1,none⟩=some (.string A)/\w0.cell? ⟨bx,2,none⟩=some (.string D)/\w0.cell? ⟨by',0,none⟩=some (.bool q)/\w0.cell? ⟨by',1,none⟩=some (.string B)/\w0.cell? ⟨by',2,none⟩=some (.string E)/\bK w0/\Below w w w0):bK w0:=h.2.2.2.2.2.2.1
def IA{w w0:World}{bx by':Nat}{p q:Bool}{A D B E:ByteArray}(h:w0.cell? ⟨bx,0,none⟩=some (.bool p)/\w0.cell? ⟨bx,1,none⟩=some (.string A)/\w0.cell? ⟨bx,2,none⟩=some (.string D)/\w0.cell? ⟨by',0,none⟩=some (.bool q)/\w0.cell? ⟨by',1,none⟩=some (.string B)/\w0.cell? ⟨by',2,none⟩=some (.string E)/\bK w0/\Below w w w0):Below w w w0:=h.2.2.2.2.2.2.2
def KE(a b:ByteArray)(w:World)(hT:bK w)(ha:a.size<=9223372036854775807)(hb:b.size<=9223372036854775807) :
  Calls Tryz.prog 178 #[.string a,.string b] w fun e w'=>e=.returned (.int .i64 (fB a.data.toList b.data.toList))/\Below w w w':=by
 cases hu:aK a.data.toList with
 |none=>
  have HK:Hid (fB a.data.toList b.data.toList=0):=by unfold Hid fB;rw[hu]
  have pa:=fun W h=>CL a W h ha hu
  have pb:=fun W h=>lM b W h hb
  obtain⟨A,D,p,hpb⟩:∃A D p,ut ((aI b.data.toList).getD (false,[],[]))=.agg #[.bool p,.string A,.string D]:=⟨_,_,_,rfl⟩;rw[hpb]at pb;generalize (aI b.data.toList).isSome=ok at*;clear hu hpb;go_enter Tryz.func178,Tryz.ntmps178;go_wp2_with fail;refine(pa _ hT).mono ?_;rintro e w1 ⟨rfl,b1⟩;go_wp2_with fail;refine(pb _ (hT.below (b1.alloc b1.size _))).mono ?_;rintro e w2 ⟨rfl,b2⟩;have hA2:=ae (b1.alloc b1.size _) b2;go_wp2_with fail;go_returns;exact⟨by rw[HK.out];rfl,hA2.alloc hA2.size _⟩
 |some x=>
  obtain⟨A,D,U2,TM⟩:=lL hu;have pa:=fun W h=>CO a A D _ W h ha U2
  cases hv:aK b.data.toList with
  |none=>
   have HK:Hid (fB a.data.toList b.data.toList=0):=by unfold Hid fB;rw[hu,hv]
   have pb:=fun W h=>CL b W h hb hv
   generalize decide (x.num<0)=p at*;clear hu hv U2 TM;go_enter Tryz.func178,Tryz.ntmps178;go_wp2_with fail;refine(pa _ hT).mono ?_;rintro e w1 ⟨rfl,b1⟩;go_wp2_with fail;refine(pb _ (hT.below (b1.alloc b1.size _))).mono ?_;rintro e w2 ⟨rfl,b2⟩;have hA2:=ae (b1.alloc b1.size _) b2;go_wp2_with fail;go_returns;exact⟨by rw[HK.out];rfl,hA2.alloc hA2.size _⟩
  |some y=>
   obtain⟨B,E,VG,TQ⟩:=lL hv;have pb:=fun W h=>CO b B E _ W h hb VG
   obtain⟨F,hF⟩:∃F:ByteArray,(⟨(af (x.num.natAbs*y.den)).toArray⟩:ByteArray)=F:=⟨_,rfl⟩;obtain⟨G,hG⟩:∃G:ByteArray,(⟨(af (y.num.natAbs*x.den)).toArray⟩:ByteArray)=G:=⟨_,rfl⟩;have m1:=BV A E _ _ F hF TM.a TQ.d TM.sa TQ.sd;have m2:=BV B D _ _ G hG TQ.a TM.d TQ.sa TM.sd;obtain⟨TN,sF⟩:=lK A E _ _ F hF TM.a TQ.d TM.sa TQ.sd;obtain⟨TU,sG⟩:=lK B D _ _ G hG TQ.a TM.d TQ.sa TM.sd;have hal:=wZ TN TU sF sG;have hpl:=fun W hT=>LW (decide (x.num<0)) (!decide (y.num<0)) F G _ _ W hT TN TU (by omega) (by omega) (by omega)
   have hcr:=zY x y _ _ (xc (decide (x.num<0)) (!decide (y.num<0)) (x.num.natAbs*y.den) (y.num.natAbs*x.den));have HK:Hid (fB a.data.toList b.data.toList=if x=y then (0:Int) else if x<y then -1 else 1):=by unfold Hid fB;rw[hu,hv]
   rw[hcr]at HK;generalize (dQ (decide (x.num<0)) (x.num.natAbs * y.den) (!decide (y.num<0)) (y.num.natAbs * x.den)).1=sg at*;generalize (dQ (decide (x.num<0)) (x.num.natAbs * y.den) (!decide (y.num<0)) (y.num.natAbs * x.den)).2=N at*;obtain⟨S,hS0⟩:∃S:ByteArray,(⟨(af N).toArray⟩:ByteArray)=S:=⟨_,rfl⟩;have WB:(S.toList==[48])=decide (N=0):=qA (by rw[<-hS0]);simp only[hS0]at hpl;have hmF:=fun W=>uo F W
   have hmG:=fun W=>uo G W
   generalize decide (x.num<0)=p at*;generalize decide (y.num<0)=q at*;clear hu hv U2 TM VG TQ hF hG TN TU hal hcr hS0;go_enter Tryz.func178,Tryz.ntmps178;go_wp2_with fail;refine(pa _ hT).mono ?_;rintro e w1 ⟨rfl,b1⟩;go_wp2_with fail;refine(pb _ (hT.below (b1.alloc b1.size _))).mono ?_;rintro e w2 ⟨rfl,b2⟩;have hA2:=ae (b1.alloc b1.size _) b2;have g2:Below w2 w2 (w2.alloc (.cells #[.bool q,.string B,.string E] 215)):=(aac _ _).alloc (Pe _) _;have x3:=((Pm.new w1 (.bool p) (.string A) (.string D) 215).below b2).below g2;have y3:=Pm.new w2 (.bool q) (.string B) (.string E) 215;have hA3:=ae hA2 g2;have hS':(w2.alloc (.cells #[.bool q,.string B,.string E] 215)).cell? ⟨w1.heap.size,0,none⟩=some (.bool p)/\(w2.alloc (.cells #[.bool q,.string B,.string E] 215)).cell? ⟨w1.heap.size,1,none⟩=some (.string A)/\(w2.alloc (.cells #[.bool q,.string B,.string E] 215)).cell? ⟨w1.heap.size,2,none⟩=some (.string D)/\(w2.alloc (.cells #[.bool q,.string B,.string E] 215)).cell? ⟨w2.heap.size,0,none⟩=some (.bool q)/\(w2.alloc (.cells #[.bool q,.string B,.string E] 215)).cell? ⟨w2.heap.size,1,none⟩=some (.string B)/\(w2.alloc (.cells #[.bool q,.string B,.string E] 215)).cell? ⟨w2.heap.size,2,none⟩=some (.string E)/\bK (w2.alloc (.cells #[.bool q,.string B,.string E] 215))/\Below w w (w2.alloc (.cells #[.bool q,.string B,.string E] 215)):=⟨x3.c0,x3.c1,x3.c2,y3.c0,y3.c1,y3.c2,hT.below hA3,hA3⟩;clear x3 y3 hA3 g2;go_wp2_with fail;generalize w2.alloc (.cells #[.bool q,.string B,.string E] 215)=W0 at hS' ⊢
   go_region_held3 (fun w'=>w'.cell? ⟨w1.heap.size,0,none⟩=some (.bool p)/\w'.cell? ⟨w1.heap.size,1,none⟩=some (.string A)/\w'.cell? ⟨w1.heap.size,2,none⟩=some (.string D)/\w'.cell? ⟨w2.heap.size,0,none⟩=some (.bool q)/\w'.cell? ⟨w2.heap.size,1,none⟩=some (.string B)/\w'.cell? ⟨w2.heap.size,2,none⟩=some (.string E)/\bK w'/\Below w w w')
    (first|assumption|exact IB hS'|exact Bj hbx (by assumption))
    (first
     |(go_at_call_of 172 (Value.string A);refine(m1 _ (xW (by assumption))).mono ?_;rintro e wx ⟨rfl,hbx⟩)
     |(go_at_call_of 172 (Value.string B);refine(m2 _ (xW (by assumption))).mono ?_;rintro e wx ⟨rfl,hbx⟩)
     |(go_at_call_of 171 (Value.string F);refine(hmF _).mono ?_;rintro e wx ⟨rfl,rfl⟩)
     |(go_at_call_of 171 (Value.string G);refine(hmG _).mono ?_;rintro e wx ⟨rfl,rfl⟩)
     |(go_at_call 170;refine(hpl _ (xW (by assumption))).mono ?_;rintro e wx ⟨rfl,hbx⟩;have HBF:=Pd (ae (IA (by assumption)) hbx)))
   have hBF:=HBF.out;by_cases hN:N=0
   ·rw[aaA hN]at WB
    rw[aaa hN]at HK;clear hN;go_wp2_with fail;go_returns;exact⟨by rw[HK.out];rfl,hBF⟩
   ·rw[aai hN]at WB
    rw[aab hN]at HK;clear hN
    cases sg with
    |true=>
     go_wp2_with fail;go_returns;exact⟨by rw[HK.out];rfl,hBF⟩
    |false=>
     go_wp2_with fail;go_returns;exact⟨by rw[HK.out];rfl,hBF⟩
def Ah{c:UInt8}{l a b:Bs}(h:fM c l=some (a,b)):a.length+b.length+1=l.length:=by
 obtain⟨h1,_⟩:=nM.1 h;rw[h1];simp;omega
def oO(c:UInt8)(l:Bs):Int:=match fM c l with
 |some p=>(p.1.length:Int)
 |none=>-1
def sh(l:Bs):Bool:=decide (l.length<=400)&&aj l
def wh(neg frac:Bool)(n d:Bs):mW neg frac n d=(sh n&&sh d && !(neg&&n==[48]) && !(frac&&(d==[48]||d==[49]))&&decide (Nat.gcd (ag n) (ag d)=1)):=by
 unfold mW sh;generalize aj n=a;generalize aj d=b;generalize decide (n.length<=400)=c;generalize decide (d.length<=400)=e
 cases a<;>cases b<;>cases c<;>cases e<;>rfl
def yD(s:ByteArray)(c:UInt8)(w:World)(hs:s.size<=9223372036854775807) :
  Calls Tryz.prog 150 #[.string s,.int .u8 c.toNat] w fun e w'=>e=.returned (.int .i64 (oO c s.data.toList))/\w=w':=by
 have la:=aae s;go_enter Tryz.func150,Tryz.ntmps150;go_wp2_with fail
 go_loopw [4,5] (fun r i wr=>∃(k:Nat),r=.int .i64 0/\i=.int .i64 k/\k<=s.size/\w=wr/\Hid (c∉s.data.toList.take k)) (fun _ i _=>s.size-(intOf i).toNat)
 case atStart=>exact⟨0,rfl,rfl,by omega,rfl,by simp[Hid]⟩
 case round=>
  obtain⟨k,rfl,rfl,hk,rfl,HN⟩:=hrel;by_cases hlt:k<s.size
  ·have hd:=drop_byte s k hlt
   have hta:s.data.toList=s.data.toList.take k++s[k]::s.data.toList.drop (k+1):=by rw[<-hd,aaY]
   by_cases hc:s[k]=c
   ·have HI:Hid (oO c s.data.toList=(k:Int)):=by
     unfold Hid oO;rw[nM.2 ⟨by rw[hc]at hta;exact hta,HN.out⟩];simp[aaI,<-la];omega
    obtain⟨x,hx⟩:∃x,s[k].toNat=x:=⟨_,rfl⟩;have hcx:c.toNat=x:=by rw[<-hc,hx]
    rw[hcx];clear hta hd hc la;go_wp2_with fail;go_returns;exact⟨by rw[HI.out];rfl,rfl⟩
   ·have HN2:Hid (c∉s.data.toList.take (k+1)):=by
     rw[Hid,aau (by rw[<-la];exact hlt)];intro hm;rcases aaG.1 hm with hm|hm
     ·exact HN.out hm
     ·exact hc (aar.1 hm).symm
    have hne:¬ s[k].toNat=c.toNat:=fun e=>hc (abz.1 e)
    obtain⟨x,hx⟩:∃x,s[k].toNat=x:=⟨_,rfl⟩;obtain⟨y,hy⟩:∃x,c.toNat=x:=⟨_,rfl⟩;rw[hx,hy]at hne;have hnb:((x:Int)==(y:Int))=false:=aaN.2 (by omega);rw[hy];clear hta hd hc la hy;go_wp2_with fail;go_roundw
    case rel=>exact⟨k+1,rfl,by go_num,by omega,trivial,HN2⟩
    case measure=>simp[intOf];omega
  ·obtain rfl:k=s.size:=by omega
   have HI:Hid (oO c s.data.toList=-1):=by
    unfold Hid oO;rw[xz.2 ?_];have:=HN.out;rwa[aav (by omega)]at this
   clear la;go_wp2_with fail;go_returns;exact⟨by rw[HI.out];rfl,rfl⟩
def nT(s:ByteArray)(w:World)(hs:s.size<=9223372036854775807) :
  Calls Tryz.prog 151 #[.string s] w fun e w'=>e=.returned (.bool (sh s.data.toList))/\w=w':=by
 have hv:=fun W=>eG s W (by omega)
 have la:=aae s;by_cases h:s.size<=400
 ·have HK:Hid (sh s.data.toList=aj s.data.toList):=by unfold Hid sh;rw[aaA (by omega)];rfl
  have hi:(s.size:Int)<=400:=by omega
  generalize aj s.data.toList=ok at*;clear la;go_enter Tryz.func151,Tryz.ntmps151;go_wp2_with (go_at_call 159;refine(hv _).mono ?_;rintro e w1 ⟨rfl,rfl⟩);go_returns;exact⟨by rw[HK.out];rfl,rfl⟩
 ·have HK:Hid (sh s.data.toList=false):=by unfold Hid sh;rw[aai (by omega)];rfl
  have hi:decide ((s.size:Int)<=400)=false:=aai (by omega);have hi2:(400:Int)<(s.size:Int):=by omega
  clear la;go_enter Tryz.func151,Tryz.ntmps151;go_wp2_with fail;go_returns;exact⟨by rw[HK.out];rfl,rfl⟩
def lW{l:Bs}(h:sh l=true):aj l=true:=by unfold sh at h;rw[aaE]at h;exact h.2
def iI{l:Bs}(h:aI l=none):dJ l=.tuple #[.bool false,.string ⟨#[]⟩,.string ⟨#[]⟩,.bool false]:=by unfold dJ;rw[h];rfl
def rD{l:Bs}{p:Bool}{A D:ByteArray}(h:aI l=some (p,A.data.toList,D.data.toList)):dJ l=.tuple #[.bool p,.string A,.string D,.bool true]:=by
 unfold dJ;rw[h];simp only[abL,acL]
def Lc{n d:Bs}(hn:n=[48])(hd:sh d=true)(h1:¬ d=[49]):decide (Nat.gcd (ag n) (ag d)=1)=false:=by
 subst hn;apply aai;intro e;have e2:Nat.gcd (ag [48]) (ag d)=ag d:=by rw[show ag [48]=0 from rfl,Nat.gcd_zero_left]
 rw[e2]at e;exact h1 ((yg ((iG _).1 (lW hd)).1).1 e)
def aAh(R:ByteArray)(h:R.size<=9223372036854775807) :
  (∃(k:Nat) (N D:ByteArray),cB R.data.toList=(true,N.data.toList,D.data.toList)/\oO 47 R.data.toList=(k:Int)/\k+1<=R.size/\R.extract 0 k=N/\R.extract (k+1) R.size=D/\N.size<=9223372036854775807/\D.size<=9223372036854775807) ∨
   (cB R.data.toList=(false,R.data.toList,(⟨#[49]⟩:ByteArray).data.toList)/\oO 47 R.data.toList=-1):=by
 unfold cB oO
 cases h47:fM 47 R.data.toList with
 |some p=>
  obtain⟨hcut,hnot⟩:=nM.1 (show fM 47 R.data.toList=some (p.1,p.2) by rw[h47]);have hsz:=Ah (a:=p.1) (b:=p.2) h47;rw[<-aae]at hsz;obtain⟨k,hk⟩:∃k,p.1.length=k:=⟨_,rfl⟩;have Yo:(R.extract 0 k).data.toList=p.1:=by rw[eH,abj,hcut,<-hk];simp
  have Vy:(R.extract (k+1) R.size).data.toList=p.2:=by rw[eH,hcut,<-hk,aav (by rw[aaH,<-hcut,<-aae];omega)];simp
  exact aam ⟨k,_,_,by rw[Yo,Vy],by show((p.1.length:Nat):Int)=k;rw[hk],by omega,rfl,rfl,by rw[aae,Yo,hk];omega,by rw[aae,Vy];omega⟩
 |none=>exact aad ⟨rfl,rfl⟩
def aAd(N D:ByteArray)(hN:N.size<=9223372036854775807)(hD:D.size<=9223372036854775807) :
  ∃b1 b2 b5 b6 b7 b8:Bool,(∀W,Calls Tryz.prog 151 #[.string N] W fun e w'=>e=.returned (.bool b1)/\W=w')/\(∀W,Calls Tryz.prog 151 #[.string D] W fun e w'=>e=.returned (.bool b2)/\W=w') ∧
   (N.toList==[48])=b5/\(D.toList==[48])=b6/\(D.toList==[49])=b7/\(b1=true->b2=true->∃G:ByteArray,(G.toList==[49])=b8/\∀W,Calls Tryz.prog 152 #[.string N,.string D] W fun e w'=>e=.returned (.tuple #[.string G,.int .i64 0])/\Below W W w') ∧
   (∀neg frac,mW neg frac N.data.toList D.data.toList=(b1&&b2 && !(neg&&b5) && !(frac&&(b6||b7))&&b8))/\(b2=true->b5=true->b7=false->b8=false)/\(b7=true->b8=true):=by
 refine⟨sh N.data.toList,sh D.data.toList,N.data.toList==[48],D.data.toList==[48],D.data.toList==[49],decide (Nat.gcd (ag N.data.toList) (ag D.data.toList)=1),fun W=>nT N W hN,fun W=>nT D W hD,by rw[aan],by rw[aan],by rw[aan],fun h1 h2=>?_,fun neg frac=>wh _ _ _ _,fun h2 h5 h7=>?_,fun h7=>?_⟩
 ·have gG:=fun W=>rO N D W hN hD
  rw[show z8 N.data.toList D.data.toList=(af (Nat.gcd (ag N.data.toList) (ag D.data.toList)),0) from by unfold z8;rw[aaa ⟨lW h1,lW h2⟩]]at gG;exact⟨_,qg (s:=⟨(af (Nat.gcd (ag N.data.toList) (ag D.data.toList))).toArray⟩) rfl,gG⟩
 ·exact Lc (by simpa using h5) h2 (by simpa using h7)
 ·rw[show D.data.toList=[49] by simpa using h7]
  exact aaA (Nat.gcd_one_right _)
def aAc(b1 b2 b5 b6 b7 b8:Bool):b1=false\/(b1=true/\b2=false)\/(b1=true/\b2=true/\b6=true)\/(b1=true/\b2=true/\b6=false/\(b5=false\/b5=true)/\(b7=false\/b7=true)/\(b8=false\/b8=true)):=by
 cases b1<;>cases b2<;>cases b6<;>simp
def lQ(s:ByteArray)(w:World)(hs:s.size<=9223372036854775807) :
  Calls Tryz.prog 119 #[.string s] w fun e w'=>e=.returned (dJ s.data.toList)/\Below w w w':=by
 have HV:∀(neg fr:Bool) (R N D:ByteArray),bY s.data.toList=(neg,R.data.toList)->cB R.data.toList=(fr,N.data.toList,D.data.toList)->dJ s.data.toList=if mW neg fr N.data.toList D.data.toList=true then .tuple #[.bool neg,.string N,.string D,.bool true] else .tuple #[.bool false,.string ⟨#[]⟩,.string ⟨#[]⟩,.bool false]:=by
  intro neg fr R N D h1 h2;have HP:aI s.data.toList=if mW neg fr N.data.toList D.data.toList=true then some (neg,N.data.toList,D.data.toList) else none:=by unfold aI;rw[h1];simp only[];rw[h2]
  split
  ·rename_i h;exact rD (by rw[HP,aaa h])
  ·rename_i h;exact iI (by rw[HP,aab h])
 have hA:Below w w w:=aac _ _;have la:=aae s;obtain⟨PV,hPV⟩:∃v,dJ s.data.toList=v:=⟨_,rfl⟩;simp only[hPV]at HV;rw[hPV];clear hPV;by_cases hneg:s.data.toList.head? = some 45
 case' pos=>
  have h0:0<s.size:=by
   rw[la];cases hl:s.data.toList with
   |nil=>rw[hl]at hneg;simp at hneg
   |cons=>simp
  have hb:s[0]=45:=by
   rw[tC s h0]
   cases hl:s.data.toList with
   |nil=>rw[hl]at hneg;simp at hneg
   |cons x r=>rw[hl]at hneg;simp at hneg;simp[hneg]
  have hS:bY s.data.toList=(true,(s.extract 1 s.size).data.toList):=by
   unfold bY;rw[aaa hneg,eH,aav (by rw[aaH,<-la];omega),List.drop_one]
  have sR:(s.extract 1 s.size).size=s.size-1:=by rw[aae,eH,aav (by rw[aaH,<-la];omega),aaH,<-la]
  have h45:s[0].toNat=45:=by rw[hb];rfl
  have i0:(0:Int)<(s.size:Int):=by omega
  have i1:(1:Int)<=(s.size:Int):=by omega
  clear hneg hb la;generalize hRe:s.extract 1 s.size=R at*;have hR:R.size<=9223372036854775807:=by omega
  clear sR;have HP:=fun fr N D=>HV true fr R N D hS
  clear HV hS
 case' neg=>
  have hS:bY s.data.toList=(false,s.data.toList):=by unfold bY;rw[aab hneg]
  have HP:=fun fr N D=>HV false fr s N D hS
  have hR:=hs;clear HV hS;obtain⟨R,hRe⟩:∃R,R=s:=⟨s,rfl⟩;subst hRe;by_cases h0:0<R.size
  case' pos=>
   have hb:¬ R[0].toNat=45:=by
    intro e;apply hneg;have e2:R[0]=45:=abz.1 e;rw[tC R h0]at e2
    cases hl:R.data.toList with
    |nil=>rw[la,hl]at h0;simp at h0
    |cons x r=>rw[hl]at e2;simp at e2;simp[e2]
   obtain⟨x,hx⟩:∃x,R[0].toNat=x:=⟨_,rfl⟩;rw[hx]at hb;have hxb:((x:Int)==45)=false:=aaN.2 (by omega);have i0:(0:Int)<(R.size:Int):=by omega
   clear hneg la
  case' neg=>
   have i0:decide ((0:Int)<(R.size:Int))=false:=aai (by omega);have i1:(R.size:Int)<=0:=by omega
   clear hneg la
 all_goals
  have hix:=fun W=>yD R 47 W hR
  have kw:((47:UInt8).toNat:Int)=47:=rfl;rcases aAh R hR with⟨k,N,D,hF,hI,hk,hNe,hDe,sN,sD⟩|⟨hF,hI⟩
  ·rw[hI]at hix
   have k1:(k:Int)<=(R.size:Int):=(by omega);have k2:(k:Int)+1<=(R.size:Int):=(by omega);have k0:(0:Int)<=(k:Int):=(by omega);clear hI hk;obtain⟨b1,b2,b5,b6,b7,b8,gN,gD,q5,q6,q7,gG,HO,hz,hy⟩:=aAd N D (by omega) (by omega);replace HP:=HP _ N D hF;rw[HO]at HP;have HQ:=Pd HP;clear HP HO hF;rcases aAc b1 b2 b5 b6 b7 b8 with rfl|⟨rfl,rfl⟩|⟨rfl,rfl,rfl⟩|⟨rfl,rfl,rfl,rfl|rfl,rfl|rfl,rfl|rfl⟩
   all_goals first
    |exact absurd (hz rfl rfl rfl) (by decide)
    |exact absurd (hy rfl) (by decide)
    |exact absurd q6 (by rw[aan];decide)
    |exact absurd q7 (by rw[aan];decide)
    |(try obtain⟨G,q8,gH⟩:=gG rfl rfl
      clear hz hy gG;go_enter Tryz.func119,Tryz.ntmps119
      go_wp2_with (first
       |(go_at_call 150;refine(hix _).mono ?_;rintro e w1 ⟨rfl,rfl⟩)
       |(go_at_call_of 151 (Value.string N);refine(gN _).mono ?_;rintro e w1 ⟨rfl,rfl⟩)
       |(go_at_call 151;refine(gD _).mono ?_;rintro e w1 ⟨rfl,rfl⟩)
       |(go_at_call 152;refine(gH _).mono ?_;rintro e w1 ⟨rfl,hA⟩))
      go_returns;exact⟨by rw[HQ.out];first|rfl|simp,hA⟩)
  ·rw[hI]at hix
   have s49:(⟨#[49]⟩:ByteArray).size=1:=rfl;clear hI;obtain⟨b1,b2,b5,b6,b7,b8,gN,gD,q5,q6,q7,gG,HO,hz,hy⟩:=aAd R (⟨#[49]⟩:ByteArray) (by omega) (by omega);replace HP:=HP _ R (⟨#[49]⟩:ByteArray) hF;rw[HO]at HP;have HQ:=Pd HP;clear HP HO hF;rcases aAc b1 b2 b5 b6 b7 b8 with rfl|⟨rfl,rfl⟩|⟨rfl,rfl,rfl⟩|⟨rfl,rfl,rfl,rfl|rfl,rfl|rfl,rfl|rfl⟩
   all_goals first
    |exact absurd (hz rfl rfl rfl) (by decide)
    |exact absurd (hy rfl) (by decide)
    |exact absurd q6 (by rw[aan];decide)
    |exact absurd q7 (by rw[aan];decide)
    |(try obtain⟨G,q8,gH⟩:=gG rfl rfl
      clear hz hy gG;go_enter Tryz.func119,Tryz.ntmps119
      go_wp2_with (first
       |(go_at_call 150;refine(hix _).mono ?_;rintro e w1 ⟨rfl,rfl⟩)
       |(go_at_call_of 151 (Value.string R);refine(gN _).mono ?_;rintro e w1 ⟨rfl,rfl⟩)
       |(go_at_call 151;refine(gD _).mono ?_;rintro e w1 ⟨rfl,rfl⟩)
       |(go_at_call 152;refine(gH _).mono ?_;rintro e w1 ⟨rfl,hA⟩))
      go_returns;exact⟨by rw[HQ.out];first|rfl|simp,hA⟩)
def Di(s:ByteArray)(w:World)(hs:s.size<=9223372036854775807) :
  Calls Tryz.prog 102 #[.string s] w fun e w'=>e=.returned (.bool (aK s.data.toList).isSome)/\Below w w w':=by
 have hc:=lQ s w hs;unfold dJ at hc;rw[mX]at hc;generalize (aK s.data.toList).isSome=ok at*;generalize ((aI s.data.toList).getD (false,[],[]))=nv at*;go_enter Tryz.func102,Tryz.ntmps102;go_wp2_with (go_at_call 119;refine hc.mono ?_;rintro e w1 ⟨rfl,b1⟩);go_returns;exact⟨rfl,b1⟩
def Ij{m n:Nat}(hn:n≠0):Nat.gcd m n≠0:=Nat.ne_of_gt (afO _ (ac4 hn))
def KH{m n:Nat}(hn:n≠0):m/Nat.gcd m n=0↔m=0:=by
 constructor
 ·intro h
  have h1:=Nat.div_mul_cancel (Nat.gcd_dvd_left m n);rw[h]at h1;omega
 ·rintro rfl;simp
def JL(nb:Bool)(a d:Bs):uq nb a d=if d=[49] then (if nb=true then 45::a else a) else (if nb=true then 45::a else a)++([47]++d):=by
 unfold uq;by_cases h:d=[49]<;>cases nb<;>simp[h]
def rM{a b:ByteArray}{v:Value}(h:a.data.toList=b.data.toList):Ending.returned (.tuple #[.string a,v])=.returned (.tuple #[.string b,v]):=by
 have:a=b:=by
  cases a;cases b;simp at h;rw[h]
 rw[this]
def AA(a b:ByteArray)(m n:Nat)(ha:a.data.toList=af m)(hb:b.data.toList=af n)(sa:a.size<=1000)(sb:b.size<=1000)(hn:n≠0)(W:World) :
  Calls Tryz.prog 160 #[.string a,.string b] W (oI W (af (m/n),af (m%n),0)):=by
 have h:=Dv a b W (by omega) (by omega);rw[Ce ha hb (by rw[<-aae];exact sa) (by rw[<-aae];exact sb) hn]at h;exact h
def vZ(neg:Bool)(A D:ByteArray)(m n:Nat)(w:World)(hA:A.data.toList=af m)(hD:D.data.toList=af n)(sA:A.size<=1000)(sD:D.size<=1000)(hn:n≠0) :
  Calls Tryz.prog 124 #[.bool neg,.string A,.string D] w (aA w (iq neg m n)):=by
 have lA:A.data.toList.length<=1000:=by rw[<-aae];exact sA
 have lD:D.data.toList.length<=1000:=by rw[<-aae];exact sD
 have vA:=fun W=>eG A W (by omega)
 have vD:=fun W=>eG D W (by omega)
 rw[show aj A.data.toList=true from by rw[hA];exact jV (by rw[<-hA];exact lA)]at vA;rw[show aj D.data.toList=true from by rw[hD];exact jV (by rw[<-hD];exact lD)]at vD;have d48:=qA hD;rw[aai hn]at d48;have gG:=fun W=>rO A D W (by omega) (by omega)
 rw[JA hA hD lA lD]at gG;have hg0:=Ij (m:=m) hn;have hgn:Nat.gcd m n<=n:=Nat.gcd_le_right _ (ac4 hn);obtain⟨G,hG⟩:∃G:ByteArray,(⟨(af (Nat.gcd m n)).toArray⟩:ByteArray)=G:=⟨_,rfl⟩;have TU:G.data.toList=af (Nat.gcd m n):=by rw[<-hG]
 have sG:G.size<=1000:=by
  rw[aae,TU];refine aaB (tN hgn) ?_;rw[<-hD];exact lD
 unfold aA at gG;simp only[hG]at gG;have q1:=AA A G m _ hA TU sA sG hg0;have q2:=AA D G n _ hD TU sD sG hg0;unfold oI at q1 q2;obtain⟨F1,hF1⟩:∃F:ByteArray,(⟨(af (m/Nat.gcd m n)).toArray⟩:ByteArray)=F:=⟨_,rfl⟩;obtain⟨F2,hF2⟩:∃F:ByteArray,(⟨(af (n/Nat.gcd m n)).toArray⟩:ByteArray)=F:=⟨_,rfl⟩;obtain⟨R1,Zq⟩:∃F:ByteArray,(⟨(af (m%Nat.gcd m n)).toArray⟩:ByteArray)=F:=⟨_,rfl⟩;obtain⟨R2,hR2⟩:∃F:ByteArray,(⟨(af (n%Nat.gcd m n)).toArray⟩:ByteArray)=F:=⟨_,rfl⟩;simp only[hF1,Zq]at q1;simp only[hF2,hR2]at q2;have Xj:F1.data.toList=af (m/Nat.gcd m n):=by rw[<-hF1]
 have Wx:F2.data.toList=af (n/Nat.gcd m n):=by rw[<-hF2]
 have l1:(af (m/Nat.gcd m n)).length=F1.size:=by rw[<-Xj,aae]
 have l2:(af (n/Nat.gcd m n)).length=F2.size:=by rw[<-Wx,aae]
 have f48:=qA Xj;have f49:=qg Wx;have HL:Hid (o6 m n=(decide (400<F1.size)||decide (400<F2.size))):=by unfold Hid o6;rw[l1,l2]
 have TL:Hid (o6 m n=true->iq neg m n=([],2)):=fun h=>Jl hn h
 have HS:Hid (¬ o6 m n=true->iq neg m n=(uq (neg&&decide (m≠0)) F1.data.toList F2.data.toList,0)):=fun h=>by rw[Xj,Wx];exact Jo hn h
 have HO:Hid (F2.data.toList=[49]↔n/Nat.gcd m n=1):=by
  rw[Hid,Wx];constructor
  ·intro e;rw[<-fq (n/Nat.gcd m n),e];rfl
  ·intro e;rw[e];rfl
 have c45:(⟨#[45]⟩:ByteArray).size=1:=rfl;have c47:(⟨#[47]⟩:ByteArray).size=1:=rfl;have hA0:Below w w w:=aac _ _;have hqz:=KH (m:=m) hn;clear hA hD lA lD hn hgn hG TU sG hF1 hF2 Zq hR2 Xj Wx l1 l2 hg0;rcases aaz 400 F1.size with hl1|hl1
 ·have k1:(400:Int)<(F1.size:Int):=by omega
  have HK:Hid (iq neg m n=([],2)):=TL.out (by rw[HL.out,aaA hl1];rfl);clear hl1 f48 hqz;go_enter adq,ac9
  go_wp2_with (first
   |(go_at_call_of 159 (Value.string A);refine(vA _).mono ?_;rintro e w2 ⟨rfl,rfl⟩)
   |(go_at_call_of 159 (Value.string D);refine(vD _).mono ?_;rintro e w2 ⟨rfl,rfl⟩)
   |(go_at_call 152;refine(gG _).mono ?_;rintro e w1 ⟨rfl,b1⟩)
   |(go_at_call_of 160 (Value.string A);refine(q1 _).mono ?_;rintro e w2 ⟨rfl,b2⟩;have hA2:=ae b1 b2)
   |(go_at_call_of 160 (Value.string D);refine(q2 _).mono ?_;rintro e w3 ⟨rfl,b3⟩;have hA3:=ae hA2 b3))
  go_returns;unfold aA;rw[HK.out];exact⟨rfl,hA3⟩
 ·have k1:decide ((400:Int)<(F1.size:Int))=false:=aai (by omega)
  have k1':(F1.size:Int)<=400:=by omega
  rcases aaz 400 F2.size with hl2|hl2
  ·have k2:(400:Int)<(F2.size:Int):=by omega
   have HK:Hid (iq neg m n=([],2)):=TL.out (by rw[HL.out,aaA hl2];simp);clear hl1 hl2 f48 hqz;go_enter adq,ac9
   go_wp2_with (first
    |(go_at_call_of 159 (Value.string A);refine(vA _).mono ?_;rintro e w2 ⟨rfl,rfl⟩)
    |(go_at_call_of 159 (Value.string D);refine(vD _).mono ?_;rintro e w2 ⟨rfl,rfl⟩)
    |(go_at_call 152;refine(gG _).mono ?_;rintro e w1 ⟨rfl,b1⟩)
    |(go_at_call_of 160 (Value.string A);refine(q1 _).mono ?_;rintro e w2 ⟨rfl,b2⟩;have hA2:=ae b1 b2)
    |(go_at_call_of 160 (Value.string D);refine(q2 _).mono ?_;rintro e w3 ⟨rfl,b3⟩;have hA3:=ae hA2 b3))
   go_returns;unfold aA;rw[HK.out];exact⟨rfl,hA3⟩
  ·have k2:decide ((400:Int)<(F2.size:Int))=false:=aai (by omega)
   have k2':(F2.size:Int)<=400:=(by omega);have HK:=Pd (HS.out (by rw[HL.out,aai (by omega),aai (by omega)];simp));have z1:¬ 9223372036854775807<1+F1.size:=by omega
   have z2:¬ 9223372036854775807<F1.size+1:=(by omega);have z3:¬ 9223372036854775807<F1.size+1+F2.size:=(by omega);have z4:¬ 9223372036854775807<1+F1.size+1:=(by omega);have z5:¬ 9223372036854775807<1+F1.size+1+F2.size:=(by omega);have f48':(F1.toList==[48])=decide (m=0):=by rw[f48];exact afR.2 hqz
   rw[JL]at HK;clear hl1 hl2 f48 hqz;by_cases h1:n/Nat.gcd m n=1
   ·rw[aaA h1]at f49
    rw[aaa (HO.out.2 h1)]at HK;clear h1 HO
    cases neg with
    |false=>
     rw[aab (by simp)]at HK;clear f48';go_enter adq,ac9
     go_wp2_with (first
      |(go_at_call_of 159 (Value.string A);refine(vA _).mono ?_;rintro e w2 ⟨rfl,rfl⟩)
      |(go_at_call_of 159 (Value.string D);refine(vD _).mono ?_;rintro e w2 ⟨rfl,rfl⟩)
      |(go_at_call 152;refine(gG _).mono ?_;rintro e w1 ⟨rfl,b1⟩)
      |(go_at_call_of 160 (Value.string A);refine(q1 _).mono ?_;rintro e w2 ⟨rfl,b2⟩;have hA2:=ae b1 b2)
      |(go_at_call_of 160 (Value.string D);refine(q2 _).mono ?_;rintro e w3 ⟨rfl,b3⟩;have hA3:=ae hA2 b3))
     go_returns;unfold aA;rw[HK.out];exact⟨rM (by simp),hA3⟩
    |true=>
     by_cases hm:m=0
     ·rw[aaA hm]at f48'
      rw[aab (by simp[hm])]at HK;clear hm;go_enter adq,ac9
      go_wp2_with (first
       |(go_at_call_of 159 (Value.string A);refine(vA _).mono ?_;rintro e w2 ⟨rfl,rfl⟩)
       |(go_at_call_of 159 (Value.string D);refine(vD _).mono ?_;rintro e w2 ⟨rfl,rfl⟩)
       |(go_at_call 152;refine(gG _).mono ?_;rintro e w1 ⟨rfl,b1⟩)
       |(go_at_call_of 160 (Value.string A);refine(q1 _).mono ?_;rintro e w2 ⟨rfl,b2⟩;have hA2:=ae b1 b2)
       |(go_at_call_of 160 (Value.string D);refine(q2 _).mono ?_;rintro e w3 ⟨rfl,b3⟩;have hA3:=ae hA2 b3))
      go_returns;unfold aA;rw[HK.out];exact⟨rM (by simp),hA3⟩
     ·rw[aai hm]at f48'
      rw[aaa (by simp[hm])]at HK;clear hm;go_enter adq,ac9
      go_wp2_with (first
       |(go_at_call_of 159 (Value.string A);refine(vA _).mono ?_;rintro e w2 ⟨rfl,rfl⟩)
       |(go_at_call_of 159 (Value.string D);refine(vD _).mono ?_;rintro e w2 ⟨rfl,rfl⟩)
       |(go_at_call 152;refine(gG _).mono ?_;rintro e w1 ⟨rfl,b1⟩)
       |(go_at_call_of 160 (Value.string A);refine(q1 _).mono ?_;rintro e w2 ⟨rfl,b2⟩;have hA2:=ae b1 b2)
       |(go_at_call_of 160 (Value.string D);refine(q2 _).mono ?_;rintro e w3 ⟨rfl,b3⟩;have hA3:=ae hA2 b3))
      go_returns;unfold aA;rw[HK.out];exact⟨rM (by simp),hA3⟩
   ·rw[aai h1]at f49
    rw[aab (fun e=>h1 (HO.out.1 e))]at HK;clear h1 HO
    cases neg with
    |false=>
     rw[aab (by simp)]at HK;clear f48';go_enter adq,ac9
     go_wp2_with (first
      |(go_at_call_of 159 (Value.string A);refine(vA _).mono ?_;rintro e w2 ⟨rfl,rfl⟩)
      |(go_at_call_of 159 (Value.string D);refine(vD _).mono ?_;rintro e w2 ⟨rfl,rfl⟩)
      |(go_at_call 152;refine(gG _).mono ?_;rintro e w1 ⟨rfl,b1⟩)
      |(go_at_call_of 160 (Value.string A);refine(q1 _).mono ?_;rintro e w2 ⟨rfl,b2⟩;have hA2:=ae b1 b2)
      |(go_at_call_of 160 (Value.string D);refine(q2 _).mono ?_;rintro e w3 ⟨rfl,b3⟩;have hA3:=ae hA2 b3))
     go_returns;unfold aA;rw[HK.out];exact⟨rM (by simp),hA3⟩
    |true=>
     by_cases hm:m=0
     ·rw[aaA hm]at f48'
      rw[aab (by simp[hm])]at HK;clear hm;go_enter adq,ac9
      go_wp2_with (first
       |(go_at_call_of 159 (Value.string A);refine(vA _).mono ?_;rintro e w2 ⟨rfl,rfl⟩)
       |(go_at_call_of 159 (Value.string D);refine(vD _).mono ?_;rintro e w2 ⟨rfl,rfl⟩)
       |(go_at_call 152;refine(gG _).mono ?_;rintro e w1 ⟨rfl,b1⟩)
       |(go_at_call_of 160 (Value.string A);refine(q1 _).mono ?_;rintro e w2 ⟨rfl,b2⟩;have hA2:=ae b1 b2)
       |(go_at_call_of 160 (Value.string D);refine(q2 _).mono ?_;rintro e w3 ⟨rfl,b3⟩;have hA3:=ae hA2 b3))
      go_returns;unfold aA;rw[HK.out];exact⟨rM (by simp),hA3⟩
     ·rw[aai hm]at f48'
      rw[aaa (by simp[hm])]at HK;clear hm;go_enter adq,ac9
      go_wp2_with (first
       |(go_at_call_of 159 (Value.string A);refine(vA _).mono ?_;rintro e w2 ⟨rfl,rfl⟩)
       |(go_at_call_of 159 (Value.string D);refine(vD _).mono ?_;rintro e w2 ⟨rfl,rfl⟩)
       |(go_at_call 152;refine(gG _).mono ?_;rintro e w1 ⟨rfl,b1⟩)
       |(go_at_call_of 160 (Value.string A);refine(q1 _).mono ?_;rintro e w2 ⟨rfl,b2⟩;have hA2:=ae b1 b2)
       |(go_at_call_of 160 (Value.string D);refine(q2 _).mono ?_;rintro e w3 ⟨rfl,b3⟩;have hA3:=ae hA2 b3))
      go_returns;unfold aA;rw[HK.out];exact⟨rM (by simp),hA3⟩
def nU(a b:ByteArray)(m n:Nat)(F:ByteArray)(hF:(⟨(af (m*n)).toArray⟩:ByteArray)=F)(ha:a.data.toList=af m)(hb:b.data.toList=af n)(sa:a.size<=400)(sb:b.size<=400)(w:World) :
  Calls Tryz.prog 121 #[.string a,.string b] w fun e w'=>e=.returned (.string F)/\Below w w w':=by
 have h:=LF a b w (by omega) (by omega);have l1:=aae a;have l2:=aae b;have h3:(af (m*n)).length<=1000:=by
  have:=xC m n;rw[<-ha,<-hb]at this;omega
 rw[Cf ha hb (by omega) (by omega) h3]at h;unfold aA at h;simp only[hF]at h;clear ha hb hF h3 l1 l2;go_enter Tryz.func121,Tryz.ntmps121;go_wp2_with (go_at_call 156;refine h.mono ?_;rintro e w1 ⟨rfl,b1⟩);go_returns;exact⟨rfl,b1⟩
def Dg(s t:Bool)(a b:ByteArray)(m n:Nat)(w:World)(ha:a.data.toList=af m)(hb:b.data.toList=af n)(sa:a.size<=1000)(sb:b.size<=1000)(hs:(af (m+n)).length<=1000) :
  Calls Tryz.prog 120 #[.bool s,.string a,.bool t,.string b] w fun e w'=>e=.returned (.tuple #[.bool (dQ s m t n).1,.string ⟨(af (dQ s m t n).2).toArray⟩])/\Below w w w':=by
 have la:a.data.toList.length<=1000:=by rw[<-aae];exact sa
 have lb:b.data.toList.length<=1000:=by rw[<-aae];exact sb
 by_cases hst:s=t
 ·have hq:=uy a b w (by omega) (by omega)
  rw[Ca ha hb la lb hs]at hq;unfold aA at hq;have HA:Hid (dQ s m t n=(s,m+n)):=by unfold Hid dQ;rw[aaa hst]
  obtain⟨F,hF⟩:∃F:ByteArray,(⟨(af (m+n)).toArray⟩:ByteArray)=F:=⟨_,rfl⟩;simp only[hF]at hq;have HF:=Pd hF;subst hst;clear hF la lb ha hb hs;go_enter Tryz.func120,Tryz.ntmps120;go_wp2_with (go_at_call 153;refine hq.mono ?_;rintro e w1 ⟨rfl,b1⟩);go_returns;exact⟨by rw[HA.out,HF.out];rfl,b1⟩
 ·have hst2:(s==t)=false:=aaN.2 hst
  have hc:=K5 a b w (by omega) (by omega);rw[Cc ha hb la lb]at hc;rcases aaz m n with hlt|hge
  ·rw[lu hlt]at hc
   have HA:Hid (dQ s m t n=(t,n-m)):=by unfold Hid dQ;rw[aab hst,aaa hlt]
   have hq:=fun W=>Rx b a W (by omega) (by omega)
   rw[vR hb ha lb la (by omega)]at hq;unfold aA at hq;obtain⟨F,hF⟩:∃F:ByteArray,(⟨(af (n-m)).toArray⟩:ByteArray)=F:=⟨_,rfl⟩;simp only[hF]at hq;have HF:=Pd hF;clear hF la lb ha hb hs hst;go_enter Tryz.func120,Tryz.ntmps120;go_wp2_with (first|(go_at_call 154;refine hc.mono ?_;rintro e w1 ⟨rfl,b1⟩)|(go_at_call 155;refine(hq _).mono ?_;rintro e w2 ⟨rfl,b2⟩;have hA2:=ae b1 b2));go_returns;exact⟨by rw[HA.out,HF.out];rfl,hA2⟩
  ·have VD:¬ bZ m n<0:=by rw[nL];omega
   obtain⟨cc,hcc⟩:∃cc,bZ m n=cc:=⟨_,rfl⟩;rw[hcc]at hc VD;have HA:Hid (dQ s m t n=(s,m-n)):=by unfold Hid dQ;rw[aab hst,aab (by omega)]
   have hq:=fun W=>Rx a b W (by omega) (by omega)
   rw[vR ha hb la lb (by omega)]at hq;unfold aA at hq;obtain⟨F,hF⟩:∃F:ByteArray,(⟨(af (m-n)).toArray⟩:ByteArray)=F:=⟨_,rfl⟩;simp only[hF]at hq;have HF:=Pd hF;have hc0:0<=cc:=by omega
   clear hF la lb ha hb hs hst hcc VD;go_enter Tryz.func120,Tryz.ntmps120;go_wp2_with (first|(go_at_call 154;refine hc.mono ?_;rintro e w1 ⟨rfl,b1⟩)|(go_at_call 155;refine(hq _).mono ?_;rintro e w2 ⟨rfl,b2⟩;have hA2:=ae b1 b2));go_returns;exact⟨by rw[HA.out,HF.out];rfl,hA2⟩
def KA(s:ByteArray)(w:World)(hs:s.size<=9223372036854775807)(h:aK s.data.toList=none) :
  Calls Tryz.prog 119 #[.string s] w fun e w'=>e=.returned (.tuple #[.bool false,.string ⟨#[]⟩,.string ⟨#[]⟩,.bool false])/\Below w w w':=by
 have hp:=lQ s w hs;rw[iI (Dm h)]at hp;exact hp
def nS(s A D:ByteArray)(p:Bool)(w:World)(hs:s.size<=9223372036854775807)(h:aI s.data.toList=some (p,A.data.toList,D.data.toList)) :
  Calls Tryz.prog 119 #[.string s] w fun e w'=>e=.returned (.tuple #[.bool p,.string A,.string D,.bool true])/\Below w w w':=by
 have hp:=lQ s w hs;rw[rD h]at hp;exact hp
def Jn(x:Rat):iq (!decide (x.num<0)) x.num.natAbs x.den=ik (-x):=by
 unfold iq;rw[D8,<-Rat.neg_mkRat,qw]
def Kr(a:ByteArray)(w:World)(ha:a.size<=9223372036854775807) :
  Calls Tryz.prog 202 #[.string a] w (aA w (aDc a.data.toList)):=by
 cases hu:aK a.data.toList with
 |none=>
  have HK:Hid (aDc a.data.toList=([],1)):=by unfold Hid aDc gV fZ;rw[nW,hu]
  have pa:=fun W=>KA a W ha hu
  clear hu;go_enter Tryz.func202,Tryz.ntmps202;go_wp2_with (go_at_call 119;refine(pa _).mono ?_;rintro e w1 ⟨rfl,b1⟩);go_returns;unfold aA;rw[HK.out];exact⟨rfl,b1⟩
 |some x=>
  obtain⟨A,D,U2,TM⟩:=lL hu;have HK:Hid (aDc a.data.toList=iq (!decide (x.num<0)) x.num.natAbs x.den):=by
   unfold Hid aDc gV fZ;rw[nW,hu,Jn];show ik (0-x)=_;rw[ad6,Rat.zero_add]
  have pa:=fun W=>nS a A D _ W ha U2
  have pm:=fun W=>vZ (!decide (x.num<0)) A D _ _ W TM.a TM.d (by have:=TM.sa;omega) (by have:=TM.sd;omega) TM.nz
  generalize x.num.natAbs=m at*;generalize decide (x.num<0)=p at*;generalize x.den=d at*;clear hu U2 TM;go_enter Tryz.func202,Tryz.ntmps202
  go_wp2_with (first
   |(go_at_call 119;refine(pa _).mono ?_;rintro e w1 ⟨rfl,b1⟩)
   |(go_at_call 124;refine(pm _).mono ?_;rintro e w2 ⟨rfl,b2⟩;have hA2:=ae b1 b2))
  go_returns;unfold aA;rw[HK.out];exact⟨rfl,hA2⟩
def CJ(a b:ByteArray)(w:World)(ha:a.size<=9223372036854775807)(hb:b.size<=9223372036854775807)(h:aK a.data.toList=none\/aK b.data.toList=none) :
  Calls Tryz.prog 107 #[.string a,.string b] w fun e w'=>e=.returned (if "add" = "cmp" then .int .i64 0 else .tuple #[.string ⟨#[]⟩,.int .i64 1])/\Below w w w':=by
 have pa:=fun W=>lQ a W ha
 have pb:=fun W=>lQ b W hb
 unfold dJ at pa pb;have hok:(aI a.data.toList).isSome=false\/(aI b.data.toList).isSome=false:=by
  rw[mX,mX];rcases h with h|h
  ·left;rw[h];rfl
  ·right;rw[h];rfl
 generalize (aI a.data.toList).isSome=o1 at*;generalize (aI b.data.toList).isSome=o2 at*;generalize (aI a.data.toList).getD (false,[],[])=x at*;generalize (aI b.data.toList).getD (false,[],[])=y at*;clear h
 cases o1 with
 |false=>
  clear hok;go_enter Tryz.func107,Tryz.ntmps107
  go_wp2_with (first
   |(go_at_call_of 119 (Value.string a);refine(pa _).mono ?_;rintro e w1 ⟨rfl,b1⟩)
   |(go_at_call_of 119 (Value.string b);refine(pb _).mono ?_;rintro e w2 ⟨rfl,b2⟩;have hA2:=ae b1 b2))
  go_returns
  first
   |exact⟨rfl,hA2⟩
   |(have hA1:=b1;refine(pb _).mono ?_)
 |true=>
  obtain rfl:o2=false:=by simpa using hok
  clear hok;go_enter Tryz.func107,Tryz.ntmps107;go_wp2_with fail;refine(pa _).mono ?_;rintro e w1 ⟨rfl,b1⟩;go_wp2_with fail;refine(pb _).mono ?_;rintro e w2 ⟨rfl,b2⟩;have hA2:=ae b1 b2;go_wp2_with fail;go_returns;exact⟨rfl,hA2⟩
def CS(a b:ByteArray)(w:World)(ha:a.size<=9223372036854775807)(hb:b.size<=9223372036854775807)(h:aK a.data.toList=none\/aK b.data.toList=none) :
  Calls Tryz.prog 103 #[.string a,.string b] w fun e w'=>e=.returned (if "cmp" = "cmp" then .int .i64 0 else .tuple #[.string ⟨#[]⟩,.int .i64 1])/\Below w w w':=by
 have pa:=fun W=>lQ a W ha
 have pb:=fun W=>lQ b W hb
 unfold dJ at pa pb;have hok:(aI a.data.toList).isSome=false\/(aI b.data.toList).isSome=false:=by
  rw[mX,mX];rcases h with h|h
  ·left;rw[h];rfl
  ·right;rw[h];rfl
 generalize (aI a.data.toList).isSome=o1 at*;generalize (aI b.data.toList).isSome=o2 at*;generalize (aI a.data.toList).getD (false,[],[])=x at*;generalize (aI b.data.toList).getD (false,[],[])=y at*;clear h
 cases o1 with
 |false=>
  clear hok;go_enter Tryz.func103,Tryz.ntmps103
  go_wp2_with (first
   |(go_at_call_of 119 (Value.string a);refine(pa _).mono ?_;rintro e w1 ⟨rfl,b1⟩)
   |(go_at_call_of 119 (Value.string b);refine(pb _).mono ?_;rintro e w2 ⟨rfl,b2⟩;have hA2:=ae b1 b2))
  go_returns
  first
   |exact⟨rfl,hA2⟩
   |(have hA1:=b1;refine(pb _).mono ?_)
 |true=>
  obtain rfl:o2=false:=by simpa using hok
  clear hok;go_enter Tryz.func103,Tryz.ntmps103;go_wp2_with fail;refine(pa _).mono ?_;rintro e w1 ⟨rfl,b1⟩;go_wp2_with fail;refine(pb _).mono ?_;rintro e w2 ⟨rfl,b2⟩;have hA2:=ae b1 b2;go_wp2_with fail;go_returns;exact⟨rfl,hA2⟩
def De(a b:ByteArray)(w:World)(ha:a.size<=9223372036854775807)(hb:b.size<=9223372036854775807)(h:aK a.data.toList=none\/aK b.data.toList=none) :
  Calls Tryz.prog 130 #[.string a,.string b] w fun e w'=>e=.returned (if "mul" = "cmp" then .int .i64 0 else .tuple #[.string ⟨#[]⟩,.int .i64 1])/\Below w w w':=by
 have pa:=fun W=>lQ a W ha
 have pb:=fun W=>lQ b W hb
 unfold dJ at pa pb;have hok:(aI a.data.toList).isSome=false\/(aI b.data.toList).isSome=false:=by
  rw[mX,mX];rcases h with h|h
  ·left;rw[h];rfl
  ·right;rw[h];rfl
 generalize (aI a.data.toList).isSome=o1 at*;generalize (aI b.data.toList).isSome=o2 at*;generalize (aI a.data.toList).getD (false,[],[])=x at*;generalize (aI b.data.toList).getD (false,[],[])=y at*;clear h
 cases o1 with
 |false=>
  clear hok;go_enter Tryz.func130,Tryz.ntmps130
  go_wp2_with (first
   |(go_at_call_of 119 (Value.string a);refine(pa _).mono ?_;rintro e w1 ⟨rfl,b1⟩)
   |(go_at_call_of 119 (Value.string b);refine(pb _).mono ?_;rintro e w2 ⟨rfl,b2⟩;have hA2:=ae b1 b2))
  go_returns
  first
   |exact⟨rfl,hA2⟩
   |(have hA1:=b1;refine(pb _).mono ?_)
 |true=>
  obtain rfl:o2=false:=by simpa using hok
  clear hok;go_enter Tryz.func130,Tryz.ntmps130;go_wp2_with fail;refine(pa _).mono ?_;rintro e w1 ⟨rfl,b1⟩;go_wp2_with fail;refine(pb _).mono ?_;rintro e w2 ⟨rfl,b2⟩;have hA2:=ae b1 b2;go_wp2_with fail;go_returns;exact⟨rfl,hA2⟩
def CU(a b:ByteArray)(w:World)(ha:a.size<=9223372036854775807)(hb:b.size<=9223372036854775807)(h:aK a.data.toList=none\/aK b.data.toList=none) :
  Calls Tryz.prog 186 #[.string a,.string b] w fun e w'=>e=.returned (if "div" = "cmp" then .int .i64 0 else .tuple #[.string ⟨#[]⟩,.int .i64 1])/\Below w w w':=by
 have pa:=fun W=>lQ a W ha
 have pb:=fun W=>lQ b W hb
 unfold dJ at pa pb;have hok:(aI a.data.toList).isSome=false\/(aI b.data.toList).isSome=false:=by
  rw[mX,mX];rcases h with h|h
  ·left;rw[h];rfl
  ·right;rw[h];rfl
 generalize (aI a.data.toList).isSome=o1 at*;generalize (aI b.data.toList).isSome=o2 at*;generalize (aI a.data.toList).getD (false,[],[])=x at*;generalize (aI b.data.toList).getD (false,[],[])=y at*;clear h
 cases o1 with
 |false=>
  clear hok;go_enter Tryz.func186,afw
  go_wp2_with (first
   |(go_at_call_of 119 (Value.string a);refine(pa _).mono ?_;rintro e w1 ⟨rfl,b1⟩)
   |(go_at_call_of 119 (Value.string b);refine(pb _).mono ?_;rintro e w2 ⟨rfl,b2⟩;have hA2:=ae b1 b2))
  go_returns
  first
   |exact⟨rfl,hA2⟩
   |(have hA1:=b1;refine(pb _).mono ?_)
 |true=>
  obtain rfl:o2=false:=by simpa using hok
  clear hok;go_enter Tryz.func186,afw;go_wp2_with fail;refine(pa _).mono ?_;rintro e w1 ⟨rfl,b1⟩;go_wp2_with fail;refine(pb _).mono ?_;rintro e w2 ⟨rfl,b2⟩;have hA2:=ae b1 b2;go_wp2_with fail;go_returns;exact⟨rfl,hA2⟩
def F6{F:ByteArray}{n:Nat}(h:F.data.toList=af n):(af n).length=F.size:=by rw[<-h,aae]
def yB(a b:ByteArray)(w:World)(ha:a.size<=9223372036854775807)(hb:b.size<=9223372036854775807) :
  Calls Tryz.prog 107 #[.string a,.string b] w (aA w (jW a.data.toList b.data.toList)):=by
 cases hu:aK a.data.toList with
 |none=>
  refine(CJ a b w ha hb (aam hu)).mono ?_;rintro e w' ⟨rfl,h⟩;unfold aA jW fZ;rw[hu];exact⟨rfl,h⟩
 |some x=>
  cases hv:aK b.data.toList with
  |none=>
   refine(CJ a b w ha hb (aad hv)).mono ?_;rintro e w' ⟨rfl,h⟩;unfold aA jW fZ;rw[hu,hv];exact⟨rfl,h⟩
  |some y=>
   obtain⟨A,D,U2,TM⟩:=lL hu;obtain⟨B,E,VG,TQ⟩:=lL hv;have HK:Hid (jW a.data.toList b.data.toList=ik (x+y)):=by unfold Hid jW fZ;rw[hu,hv]
   rw[<-Jj]at HK;have pa:=fun W=>nS a A D _ W ha U2
   have pb:=fun W=>nS b B E _ W hb VG
   obtain⟨F,hF⟩:∃F:ByteArray,(⟨(af (x.num.natAbs*y.den)).toArray⟩:ByteArray)=F:=⟨_,rfl⟩;obtain⟨G,hG⟩:∃G:ByteArray,(⟨(af (y.num.natAbs*x.den)).toArray⟩:ByteArray)=G:=⟨_,rfl⟩;obtain⟨H,hH⟩:∃G:ByteArray,(⟨(af (x.den*y.den)).toArray⟩:ByteArray)=G:=⟨_,rfl⟩;have m1:=nU A E _ _ F hF TM.a TQ.d TM.sa TQ.sd;have m2:=nU B D _ _ G hG TQ.a TM.d TQ.sa TM.sd;have m3:=nU D E _ _ H hH TM.d TQ.d TM.sd TQ.sd;obtain⟨TN,sF⟩:=lK A E _ _ F hF TM.a TQ.d TM.sa TQ.sd;obtain⟨TU,sG⟩:=lK B D _ _ G hG TQ.a TM.d TQ.sa TM.sd;obtain⟨hHd,sH⟩:=lK D E _ _ H hH TM.d TQ.d TM.sd TQ.sd;have hal:=wZ TN TU sF sG;have hpl:=fun W=>Dg (decide (x.num<0)) (decide (y.num<0)) F G _ _ W TN TU (by omega) (by omega) (by omega)
   have hle:=tN (Fe (decide (x.num<0)) (x.num.natAbs*y.den) (decide (y.num<0)) (y.num.natAbs*x.den));have hdz:=adz x.den_nz y.den_nz;generalize (dQ (decide (x.num<0)) (x.num.natAbs * y.den) (decide (y.num<0)) (y.num.natAbs * x.den)).1=sg at*;generalize (dQ (decide (x.num<0)) (x.num.natAbs * y.den) (decide (y.num<0)) (y.num.natAbs * x.den)).2=N at*;obtain⟨S,hS0⟩:∃S:ByteArray,(⟨(af N).toArray⟩:ByteArray)=S:=⟨_,rfl⟩;have hSd:S.data.toList=af N:=by rw[<-hS0]
   have sS:S.size<=1000:=by rw[<-F6 hSd];omega
   simp only[hS0]at hpl;have pm:=fun W=>vZ sg S H _ _ W hSd hHd sS (by omega) hdz
   generalize x.den * y.den=Dn at*;generalize decide (x.num<0)=p at*;generalize decide (y.num<0)=q at*;clear hu hv U2 TM VG TQ hF hG hH TN TU hHd hal hle hS0 hSd hdz;go_enter Tryz.func107,Tryz.ntmps107;go_wp2_with fail;refine(pa _).mono ?_;rintro e w1 ⟨rfl,b1⟩;go_wp2_with fail;refine(pb _).mono ?_;rintro e w2 ⟨rfl,b2⟩;have hA2:=ae b1 b2;go_wp2_with fail;refine(m1 _).mono ?_;rintro e w3 ⟨rfl,b3⟩;have hA3:=ae hA2 b3;go_wp2_with fail;refine(m2 _).mono ?_;rintro e w4 ⟨rfl,b4⟩;have VJ:=ae hA3 b4;go_wp2_with fail;refine(hpl _).mono ?_;rintro e w5 ⟨rfl,b5⟩;have Vx:=ae VJ b5;go_wp2_with fail;refine(m3 _).mono ?_;rintro e w6 ⟨rfl,b6⟩;have hA6:=ae Vx b6;go_wp2_with fail;refine(pm _).mono ?_;rintro e w7 ⟨rfl,b7⟩;have hA7:=ae hA6 b7;go_wp2_with fail;go_returns;unfold aA;rw[HK.out];exact⟨rfl,hA7⟩
def CR(a b:ByteArray)(w:World)(ha:a.size<=9223372036854775807)(hb:b.size<=9223372036854775807) :
  Calls Tryz.prog 103 #[.string a,.string b] w fun e w'=>e=.returned (.int .i64 (fB a.data.toList b.data.toList))/\Below w w w':=by
 cases hu:aK a.data.toList with
 |none=>
  refine(CS a b w ha hb (aam hu)).mono ?_;rintro e w' ⟨rfl,h⟩;unfold fB;rw[hu];exact⟨rfl,h⟩
 |some x=>
  cases hv:aK b.data.toList with
  |none=>
   refine(CS a b w ha hb (aad hv)).mono ?_;rintro e w' ⟨rfl,h⟩;unfold fB;rw[hu,hv];exact⟨rfl,h⟩
  |some y=>
   obtain⟨A,D,U2,TM⟩:=lL hu;obtain⟨B,E,VG,TQ⟩:=lL hv;have pa:=fun W=>nS a A D _ W ha U2
   have pb:=fun W=>nS b B E _ W hb VG
   obtain⟨F,hF⟩:∃F:ByteArray,(⟨(af (x.num.natAbs*y.den)).toArray⟩:ByteArray)=F:=⟨_,rfl⟩;obtain⟨G,hG⟩:∃G:ByteArray,(⟨(af (y.num.natAbs*x.den)).toArray⟩:ByteArray)=G:=⟨_,rfl⟩;have m1:=nU A E _ _ F hF TM.a TQ.d TM.sa TQ.sd;have m2:=nU B D _ _ G hG TQ.a TM.d TQ.sa TM.sd;obtain⟨TN,sF⟩:=lK A E _ _ F hF TM.a TQ.d TM.sa TQ.sd;obtain⟨TU,sG⟩:=lK B D _ _ G hG TQ.a TM.d TQ.sa TM.sd;have hal:=wZ TN TU sF sG;have hpl:=fun W=>Dg (decide (x.num<0)) (!decide (y.num<0)) F G _ _ W TN TU (by omega) (by omega) (by omega)
   have hcr:=zY x y _ _ (xc (decide (x.num<0)) (!decide (y.num<0)) (x.num.natAbs*y.den) (y.num.natAbs*x.den));have HK:Hid (fB a.data.toList b.data.toList=if x=y then (0:Int) else if x<y then -1 else 1):=by unfold Hid fB;rw[hu,hv]
   rw[hcr]at HK;generalize (dQ (decide (x.num<0)) (x.num.natAbs * y.den) (!decide (y.num<0)) (y.num.natAbs * x.den)).1=sg at*;generalize (dQ (decide (x.num<0)) (x.num.natAbs * y.den) (!decide (y.num<0)) (y.num.natAbs * x.den)).2=N at*;obtain⟨S,hS0⟩:∃S:ByteArray,(⟨(af N).toArray⟩:ByteArray)=S:=⟨_,rfl⟩;have WB:(S.toList==[48])=decide (N=0):=qA (by rw[<-hS0]);simp only[hS0]at hpl;generalize decide (x.num<0)=p at*;generalize decide (y.num<0)=q at*;clear hu hv U2 TM VG TQ hF hG TN TU hal hcr hS0;go_enter Tryz.func103,Tryz.ntmps103;go_wp2_with fail;refine(pa _).mono ?_;rintro e w1 ⟨rfl,b1⟩;go_wp2_with fail;refine(pb _).mono ?_;rintro e w2 ⟨rfl,b2⟩;have hA2:=ae b1 b2;go_wp2_with fail;refine(m1 _).mono ?_;rintro e w3 ⟨rfl,b3⟩;have hA3:=ae hA2 b3;go_wp2_with fail;refine(m2 _).mono ?_;rintro e w4 ⟨rfl,b4⟩;have VJ:=ae hA3 b4;go_wp2_with fail;refine(hpl _).mono ?_;rintro e w5 ⟨rfl,b5⟩;have Vx:=ae VJ b5;by_cases hN:N=0
   ·rw[aaA hN]at WB
    rw[aaa hN]at HK;clear hN;go_wp2_with fail;go_returns;exact⟨by rw[HK.out];rfl,Vx⟩
   ·rw[aai hN]at WB
    rw[aab hN]at HK;clear hN
    cases sg with
    |true=>
     go_wp2_with fail;go_returns;exact⟨by rw[HK.out];rfl,Vx⟩
    |false=>
     go_wp2_with fail;go_returns;exact⟨by rw[HK.out];rfl,Vx⟩
def Kq(a b:ByteArray)(w:World)(ha:a.size<=9223372036854775807)(hb:b.size<=9223372036854775807) :
  Calls Tryz.prog 130 #[.string a,.string b] w (aA w (mV a.data.toList b.data.toList)):=by
 cases hu:aK a.data.toList with
 |none=>
  refine(De a b w ha hb (aam hu)).mono ?_;rintro e w' ⟨rfl,h⟩;unfold aA mV fZ;rw[hu];exact⟨rfl,h⟩
 |some x=>
  cases hv:aK b.data.toList with
  |none=>
   refine(De a b w ha hb (aad hv)).mono ?_;rintro e w' ⟨rfl,h⟩;unfold aA mV fZ;rw[hu,hv];exact⟨rfl,h⟩
  |some y=>
   obtain⟨A,D,U2,TM⟩:=lL hu;obtain⟨B,E,VG,TQ⟩:=lL hv;have HK:Hid (mV a.data.toList b.data.toList=ik (x*y)):=by unfold Hid mV fZ;rw[hu,hv]
   rw[<-Jm]at HK;have pa:=fun W=>nS a A D _ W ha U2
   have pb:=fun W=>nS b B E _ W hb VG
   obtain⟨F,hF⟩:∃F:ByteArray,(⟨(af (x.num.natAbs*y.num.natAbs)).toArray⟩:ByteArray)=F:=⟨_,rfl⟩;obtain⟨G,hG⟩:∃G:ByteArray,(⟨(af (x.den*y.den)).toArray⟩:ByteArray)=G:=⟨_,rfl⟩;have m1:=nU A B _ _ F hF TM.a TQ.a TM.sa TQ.sa;have m2:=nU D E _ _ G hG TM.d TQ.d TM.sd TQ.sd;obtain⟨TN,sF⟩:=lK A B _ _ F hF TM.a TQ.a TM.sa TQ.sa;obtain⟨TU,sG⟩:=lK D E _ _ G hG TM.d TQ.d TM.sd TQ.sd;have pm:=fun W=>vZ (!decide (x.num<0)==decide (y.num<0)) F G _ _ W TN TU (by omega) (by omega) (adz x.den_nz y.den_nz)
   have Vk:Hid (mV a.data.toList b.data.toList=iq (!decide (x.num<0)==decide (y.num<0)) (x.num.natAbs*y.num.natAbs) (x.den*y.den)):=HK.out;generalize x.num.natAbs * y.num.natAbs=N at*;generalize x.den * y.den=Dn at*;generalize decide (x.num<0)=p at*;generalize decide (y.num<0)=q at*;clear hu hv U2 TM VG TQ hF hG TN TU HK;go_enter Tryz.func130,Tryz.ntmps130;go_wp2_with fail;refine(pa _).mono ?_;rintro e w1 ⟨rfl,b1⟩;go_wp2_with fail;refine(pb _).mono ?_;rintro e w2 ⟨rfl,b2⟩;have hA2:=ae b1 b2;go_wp2_with fail;refine(m1 _).mono ?_;rintro e w3 ⟨rfl,b3⟩;have hA3:=ae hA2 b3;go_wp2_with fail;refine(m2 _).mono ?_;rintro e w4 ⟨rfl,b4⟩;have VJ:=ae hA3 b4;go_wp2_with fail;refine(pm _).mono ?_;rintro e w7 ⟨rfl,b7⟩;have hA7:=ae VJ b7;go_wp2_with fail;go_returns;unfold aA;rw[Vk.out];exact⟨rfl,hA7⟩
def Kb(a b:ByteArray)(w:World)(ha:a.size<=9223372036854775807)(hb:b.size<=9223372036854775807) :
  Calls Tryz.prog 186 #[.string a,.string b] w (aA w (lS a.data.toList b.data.toList)):=by
 cases hu:aK a.data.toList with
 |none=>
  refine(CU a b w ha hb (aam hu)).mono ?_;rintro e w' ⟨rfl,h⟩;unfold aA lS fZ;rw[hu];exact⟨rfl,h⟩
 |some x=>
  cases hv:aK b.data.toList with
  |none=>
   refine(CU a b w ha hb (aad hv)).mono ?_;rintro e w' ⟨rfl,h⟩;unfold aA lS fZ;rw[hu,hv];exact⟨rfl,h⟩
  |some y=>
   obtain⟨A,D,U2,TM⟩:=lL hu;obtain⟨B,E,VG,TQ⟩:=lL hv;have pa:=fun W=>nS a A D _ W ha U2
   have pb:=fun W=>nS b B E _ W hb VG
   have b48:=qA TQ.a;by_cases hy:y=0
   ·have HK:Hid (lS a.data.toList b.data.toList=([],4)):=by
     unfold Hid lS fZ;rw[hu,hv];exact aaa hy
    rw[aaA (by rw[hy];rfl)]at b48;generalize decide (x.num<0)=p at*;generalize decide (y.num<0)=q at*;clear hu hv U2 TM VG TQ hy;go_enter Tryz.func186,afw;go_wp2_with fail;refine(pa _).mono ?_;rintro e w1 ⟨rfl,b1⟩;go_wp2_with fail;refine(pb _).mono ?_;rintro e w2 ⟨rfl,b2⟩;have hA2:=ae b1 b2;go_wp2_with fail;go_returns;unfold aA;rw[HK.out];exact⟨rfl,hA2⟩
   ·have hyn:=Cj hy
    have HK:Hid (lS a.data.toList b.data.toList=ik (x/y)):=by
     unfold Hid lS fZ;rw[hu,hv];exact aab hy
    rw[<-Jk x y hy]at HK;rw[aai hyn]at b48;obtain⟨F,hF⟩:∃F:ByteArray,(⟨(af (x.num.natAbs*y.den)).toArray⟩:ByteArray)=F:=⟨_,rfl⟩;obtain⟨G,hG⟩:∃G:ByteArray,(⟨(af (x.den*y.num.natAbs)).toArray⟩:ByteArray)=G:=⟨_,rfl⟩;have m1:=nU A E _ _ F hF TM.a TQ.d TM.sa TQ.sd;have m2:=nU D B _ _ G hG TM.d TQ.a TM.sd TQ.sa;obtain⟨TN,sF⟩:=lK A E _ _ F hF TM.a TQ.d TM.sa TQ.sd;obtain⟨TU,sG⟩:=lK D B _ _ G hG TM.d TQ.a TM.sd TQ.sa;have pm:=fun W=>vZ (!decide (x.num<0)==decide (y.num<0)) F G _ _ W TN TU (by omega) (by omega) (adz x.den_nz hyn)
    have Vk:Hid (lS a.data.toList b.data.toList=iq (!decide (x.num<0)==decide (y.num<0)) (x.num.natAbs*y.den) (x.den*y.num.natAbs)):=HK.out;generalize x.num.natAbs * y.den=N at*;generalize x.den * y.num.natAbs=Dn at*;generalize decide (x.num<0)=p at*;generalize decide (y.num<0)=q at*;clear hu hv U2 TM VG TQ hF hG TN TU HK hy hyn;go_enter Tryz.func186,afw;go_wp2_with fail;refine(pa _).mono ?_;rintro e w1 ⟨rfl,b1⟩;go_wp2_with fail;refine(pb _).mono ?_;rintro e w2 ⟨rfl,b2⟩;have hA2:=ae b1 b2;go_wp2_with fail;refine(m1 _).mono ?_;rintro e w3 ⟨rfl,b3⟩;have hA3:=ae hA2 b3;go_wp2_with fail;refine(m2 _).mono ?_;rintro e w4 ⟨rfl,b4⟩;have VJ:=ae hA3 b4;go_wp2_with fail;refine(pm _).mono ?_;rintro e w7 ⟨rfl,b7⟩;have hA7:=ae VJ b7;go_wp2_with fail;go_returns;unfold aA;rw[Vk.out];exact⟨rfl,hA7⟩
end Go.Proofs.YtppnecgeboonbaaGreatDoor.Rat3
