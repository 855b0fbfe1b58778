/- Walks. -/
import Derived.Test.YtppnecgeboonbaaGreatDoorZ14
import Derived.OwnWalk
namespace Go.Proofs.YtppnecgeboonbaaGreatDoor.Rat3
set_option maxRecDepth 100000
set_option linter.all false
set_option maxHeartbeats 2000000
open Go.RowKit
def I(n:Nat):Value:=.int .i64 n
def uk{l:List Nat}{k:Nat}(h:k<l.length):(l.map I)[k]? = some (I l[k]):=by simp[h]
def vM:(Tryz.prog.info? 3).map (fun i=>(i.zero,i.size,i.bytes))=some (some (.int .i64 0),1,8):=by kernel_rfl
def uA(A:Option Addr)(c:Nat)(l:List Nat)(i:Nat)(w:World)(hrow:ay w A (l.map I)) :
  Calls Tryz.prog 180 #[.slice A l.length c,.int .i64 i] w fun e w'=>e=.returned (.int .i64 (l.getD i 0:Nat))/\w=w':=by
 by_cases h:i<l.length
 ·obtain⟨b,o,rfl,hbl,hcell⟩:=hrow (by intro e;rw[aaO]at e;rw[e]at h;simp at h)
  have hc:w.cell? ⟨b,o+i,none⟩=some (.int .i64 l[i]):=hcell i _ (uk h);have HG:=Pd (kv h);clear hcell;go_enter Tryz.func180,Tryz.ntmps180;go_wp2_with fail;go_returns;exact⟨by rw[HG.out];rfl,rfl⟩
 ·have HG:=Pd (eB (x:=l) (i:=i) (by omega))
  clear hrow;go_enter Tryz.func180,Tryz.ntmps180;go_wp2_with fail;go_returns;exact⟨by rw[HG.out];rfl,rfl⟩
def Dy(s:ByteArray)(w:World) :
  Calls Tryz.prog 181 #[.string s] w fun e w'=>e=.returned (if 1000<s.size then .tuple #[.string ⟨#[]⟩,.int .i64 2] else .tuple #[.string s,.int .i64 0])/\w=w':=by
 by_cases h:1000<s.size
 ·rw[aaa h]
  go_enter Tryz.func181,Tryz.ntmps181;go_wp2_with fail;go_returns;exact⟨rfl,rfl⟩
 ·rw[aab h]
  go_enter Tryz.func181,Tryz.ntmps181;go_wp2_with fail;go_returns;exact⟨rfl,rfl⟩
def aAi(l:Bs):List Nat:=(l.map dv).reverse
def o7(l:Bs):aa 10 (aAi l)=ag l:=rfl
def wS(w:World)(l:List Nat)(e:Ending)(w':World):Prop:=
 ∃A c,e=.returned (.slice A l.length c)/\l.length<=c/\ay w' A (l.map I)/\Below w w w'
def sK(L:List Nat)(n:Nat):L.map I++[.int .i64 n]=(L++[n]).map I:=by rw[aa3];rfl
def Ll{s:ByteArray}{k:Nat}(hk:k<s.size):aAi (s.data.toList.drop k)=aAi (s.data.toList.drop (k+1))++[dv s[k]]:=by
 rw[drop_byte s k hk];unfold aAi;simp
def nY(s:ByteArray)(w:World)(hd:∀c∈s.data.toList,cz c=true)(hs:s.size<=10000) :
  Calls Tryz.prog 179 #[.string s] w (wS w (aAi s.data.toList)):=by
 obtain⟨i0,hi,hz0,hz1,hz2⟩:=abm vM;have HD:=Pd hd;go_enter Tryz.func179,Tryz.ntmps179;go_wp2_with fail
 go_loopw [3,4] (fun v i wr=>∃(k:Nat),i=.int .i64 ((k:Int)-1)/\k<=s.size/\Below w w wr/\Own w.heap.size 3 v ((aAi (s.data.toList.drop k)).map I) wr) (fun _ i _=>(intOf i+1).toNat)
 case atStart=>exact⟨s.size,rfl,Pe _,aac _ _,by rw[abo (by rw[<-aae];exact Pe _)];exact Own.nil _ _ _⟩
 case round=>
  obtain⟨k,rfl,hk,hb,hown⟩:=hrel;rcases abE k with rfl|hp
  ·rw[abj]at hown
   obtain⟨A,c,rfl,hc,hr⟩:=hown.row.to (n:=(aAi s.data.toList).length) (by simp);clear hown;go_wp2_with fail;go_returns;exact⟨A,c,rfl,hc,hr,hb⟩
  ·obtain⟨j,rfl⟩:∃j,k=j+1:=⟨k-1,by omega⟩
   have hj:j<s.size:=(by omega);have hdg:=tY HD.out hj;rw[lJ]at hdg;have HM:=Pd (Ll hj);have hL:(aAi (s.data.toList.drop (j+1))).length=s.size-(j+1):=by unfold aAi;rw[List.length_reverse,aaC,aaH,<-aae]
   generalize aAi (s.data.toList.drop (j+1))=L at hown HM hL;obtain⟨x,hx⟩:∃x,s[j].toNat=x:=⟨_,rfl⟩;have HV:Hid (dv s[j]=x-48):=by unfold Hid dv;rw[hx]
   rw[hx]at hdg;obtain⟨d1,d2⟩:=hdg;have TY:(L.map I).length+1<=maxLen:=by rw[aaC];unfold maxLen;omega
   have hmb:((L.map I).length+1)*8<=140737488355328:=by rw[aaC];omega
   have j1:((j+1:Nat):Int)-1=(j:Int):=(by omega);rw[j1];go_wp2_with (at_builtin;refine fJ rfl (.tmp 12) (.tmp 18) 38 rfl w.heap.size i0 _ 8 ab3 hi hz0 hz1 hz2 rfl _ (L.map I) rfl hown 1 rfl rfl TY hmb hb.size ?_;intro v' w3 TE _ hb4);go_roundw
   case rel=>exact⟨j,by go_num,by omega,hb.trans hb4,by rw[HM.out,HV.out,<-sK];have e:((x-48:Nat):Int)=(x:Int)-48:=(by omega);rw[e];exact TE⟩
   case measure=>simp[intOf]<;>omega
def QQ{a b:Bs}(ha:iH a)(hb:iH b)(h:a.length<b.length):ag a<ag b:=by
 have h1:=tQ ha.2.1;rcases aaz (ag a) (ag b)with h2|h2
 ·exact h2
 ·exfalso
  have h3:=tN h2;rw[jo ha,jo hb]at h3;omega
def Av{a b:Bs}(ha:∀c∈a,cz c=true)(hb:∀c∈b,cz c=true)(hlen:a.length=b.length){k:Nat}(hk:k<a.length)(ht:a.take k=b.take k)(hlt:dv a[k]<dv (b[k]'(by omega))):ag a<ag b:=by
 have e1:a=a.take k++a[k]::a.drop (k+1):=by rw[<-aat hk,aaY]
 have e2:b=b.take k++b[k]'(by omega)::b.drop (k+1):=by rw[<-aat (by omega),aaY]
 have d1:=tQ (l:=a.drop (k+1)) fun c hc=>ha c (abV hc)
 have d2:=mD (a.take k) (a[k]::a.drop (k+1));have d3:=mD (b.take k) (b[k]'(by omega)::b.drop (k+1));have d4:=mD [a[k]] (a.drop (k+1));have d5:=mD [b[k]'(by omega)] (b.drop (k+1));rw[<-e1]at d2;rw[<-e2,<-ht]at d3;simp only[abZ,abH]at d4 d5;have s1:ag [a[k]]=dv a[k]:=by simp[ag,aa]
 have s2:ag [b[k]'(by omega)]=dv (b[k]'(by omega)):=by simp[ag,aa]
 have l1:(a.drop (k+1)).length=(b.drop (k+1)).length:=by rw[aaH,aaH,hlen]
 rw[d4,s1]at d2;rw[d5,s2]at d3;rw[d2,d3];simp only[aaF];rw[<-l1];have hm:10 ^ (a.drop (k+1)).length*dv a[k]+10 ^ (a.drop (k+1)).length<=10 ^ (a.drop (k+1)).length*dv (b[k]'(by omega)):=by
  rw[<-Nat.mul_succ];exact abn _ hlt
 omega
def zO{s:ByteArray}{k:Nat}(h:k<s.size)(h2:k<s.data.toList.length):s.data.toList[k]=s[k]:=by
 have:=drop_byte s k h;rw[aat h2]at this;injection this
def yG(a b:ByteArray)(w:World)(ha:iH a.data.toList)(hb:iH b.data.toList)(hsa:a.size<=100000)(hsb:b.size<=100000) :
  Calls Tryz.prog 183 #[.string a,.string b] w fun e w'=>e=.returned (.int .i64 (bZ (ag a.data.toList) (ag b.data.toList)))/\Below w w w':=by
 have la:=aae a;have lb:=aae b;rcases acT a.size b.size with h|h|h
 ·have HK:=Pd (lu (QQ ha hb (by omega)))
  clear la lb;go_enter Tryz.func183,Tryz.ntmps183;go_wp2_with fail;go_returns;exact⟨by rw[HK.out];rfl,aac _ _⟩
 ·have Zl:Hid (a.data.toList=b.data.toList->bZ (ag a.data.toList) (ag b.data.toList)=0):=fun e=>vg (by rw[e])
  have V6:Hid (∀k (hk:k<a.size) (hk2:k<b.size),a.data.toList.take k=b.data.toList.take k->(a[k].toNat<b[k].toNat->bZ (ag a.data.toList) (ag b.data.toList)=-1)/\(b[k].toNat<a[k].toNat->bZ (ag a.data.toList) (ag b.data.toList)=1)/\(a[k].toNat=b[k].toNat->a.data.toList.take (k+1)=b.data.toList.take (k+1))):=by
   intro k hk hk2 ht;have ka:k<a.data.toList.length:=by omega
   have kb:k<b.data.toList.length:=(by omega);have ga:=zO hk ka;have gb:=zO hk2 kb;have da:=(lJ _).1 (tY ha.2.1 hk);have db:=(lJ _).1 (tY hb.2.1 hk2);refine⟨fun hl=>lu (Av ha.2.1 hb.2.1 (by omega) ka ht (by rw[ga,gb];unfold dv;omega)),fun hl=>qV (Av hb.2.1 ha.2.1 (by omega) kb ht.symm (by rw[ga,gb];unfold dv;omega)),fun he=>?_⟩;rw[aau ka,aau kb,ht,ga,gb,abz.1 he]
  clear ha hb la lb;obtain⟨N,hN⟩:∃N,b.size=N:=⟨_,rfl⟩;rw[hN]at h hsb;clear hsa;go_enter Tryz.func183,Tryz.ntmps183;go_wp2_with fail
  go_loopw [4,5] (fun _ i wr=>∃(k:Nat),i=.int .i64 k/\k<=N/\Below w w wr/\Hid (a.data.toList.take k=b.data.toList.take k)) (fun _ i _=>N-(intOf i).toNat)
  case atStart=>exact⟨0,rfl,by omega,aac _ _,rfl⟩
  case round=>
   obtain⟨k,rfl,hk,hb,H⟩:=hrel;by_cases hlt:k<N
   ·obtain⟨h1,h2,h3⟩:=V6.out k (by omega) (by omega) H.out
    have kb0:(0:Int)<=(k:Int):=(by omega);have kb1:(k:Int)<(N:Int):=(by omega);have ka:k<a.size:=(by omega);have kb:k<b.size:=(by omega);obtain⟨x,hx⟩:∃x,a[k].toNat=x:=⟨_,rfl⟩;obtain⟨y,hy⟩:∃y,b[k].toNat=y:=⟨_,rfl⟩;rw[hx,hy]at h1 h2 h3;rcases acT x y with hc|hc|hc
    ·have HK:=Pd (h1 hc)
     have ci:(x:Int)<(y:Int):=(by omega);have cd:(((x:Nat):Int)==((y:Nat):Int))=false:=aaN.2 (by omega);clear h1 h2 h3;go_wp2_with fail
     go_quiet (fail)
     go_wp2_with fail
     go_quiet (fail)
     go_wp2_with fail;go_returns;exact⟨by rw[HK.out];rfl,⟨hb.os,hb.tape,hb.output,hb.size,hb.block⟩⟩
    ·have HN:=Pd (h3 hc)
     subst hc;clear h1 h2 h3;go_wp2_with fail
     go_quiet (fail)
     go_wp2_with fail;go_roundw
     case rel=>exact⟨k+1,by go_num,by omega,⟨hb.os,hb.tape,hb.output,hb.size,hb.block⟩,HN⟩
     case measure=>simp[intOf]<;>omega
    ·have HK:=Pd (h2 hc)
     have ci:(y:Int)<(x:Int):=(by omega);have cd:(((x:Nat):Int)==((y:Nat):Int))=false:=aaN.2 (by omega);have ce:decide ((x:Int)<(y:Int))=false:=aai (by omega);clear h1 h2 h3;go_wp2_with fail
     go_quiet (fail)
     go_wp2_with fail
     go_quiet (fail)
     go_wp2_with fail;go_returns;exact⟨by rw[HK.out];rfl,⟨hb.os,hb.tape,hb.output,hb.size,hb.block⟩⟩
   ·obtain rfl:k=N:=by omega
    have HK:Hid (bZ (ag a.data.toList) (ag b.data.toList)=0):=Zl.out (by
     have h:=H.out;rwa[aav (by rw[<-aae];omega),aav (by rw[<-aae];omega)]at h)
    go_wp2_with fail;go_returns;exact⟨by rw[HK.out];rfl,hb⟩
 ·have HK:=Pd (qV (QQ hb ha (by omega)))
  clear la lb;go_enter Tryz.func183,Tryz.ntmps183;go_wp2_with fail;go_returns;exact⟨by rw[HK.out];rfl,aac _ _⟩
def K5(a b:ByteArray)(w:World)(ha:a.size<=9223372036854775807)(hb:b.size<=9223372036854775807) :
  Calls Tryz.prog 154 #[.string a,.string b] w fun e w'=>e=.returned (.int .i64 (mM a.data.toList b.data.toList))/\Below w w w':=by
 by_cases hok:aj a.data.toList=true/\aj b.data.toList=true
 ·obtain⟨hoa,TF⟩:=hok
  have HK:Hid (mM a.data.toList b.data.toList=bZ (ag a.data.toList) (ag b.data.toList)):=by unfold Hid mM;rw[aaa ⟨hoa,TF⟩]
  have va:=fun W=>eG a W ha
  have vb:=fun W=>eG b W hb
  have hc:=fun W=>yG a b W ((iG _).1 hoa).1 ((iG _).1 TF).1 (by have:=kz hoa;omega) (by have:=kz TF;omega)
  rw[hoa]at va;rw[TF]at vb;clear hoa TF;go_enter Tryz.func154,Tryz.ntmps154;go_wp2_with (first|(go_at_call_of 159 (Value.string a);refine(va _).mono ?_;rintro e w2 ⟨rfl,rfl⟩)|(go_at_call_of 159 (Value.string b);refine(vb _).mono ?_;rintro e w2 ⟨rfl,rfl⟩)|(go_at_call 183;refine(hc _).mono ?_;rintro e w3 ⟨rfl,hb3⟩));go_returns;exact⟨by rw[HK.out];rfl,hb3⟩
 ·refine(K6 a b w ha hb hok).mono ?_
  rintro e w' ⟨rfl,rfl⟩;unfold mM;rw[aab hok];exact⟨rfl,aac _ _⟩
def bJ(a b c:Nat):Nat×Nat:=if a<b+c then (a+10-b-c,1) else (a-b-c,0)
theorem x8{x y:List Nat}(hx:∀d∈x,d<10)(hy:∀d∈y,d<10):∀i,
  aa 10 (ah bJ x y i).1+aa 10 (y.take i)=aa 10 (x.take i)+10 ^ i*(ah bJ x y i).2/\(∀d∈(ah bJ x y i).1,d<10)/\(ah bJ x y i).2<=1
 |0=>⟨rfl,(fun d hd=>by cases hd),aaS _⟩
 |i+1=>by
  obtain⟨h1,h2,h3⟩:=x8 hx hy i;have ha:=getD_lt (by omega) hx i;have hb:=getD_lt (by omega) hy i;have hlen:=jb bJ x y i;simp only[ah];rw[nD,hlen,cK,cK];generalize (ah bJ x y i).2=c at*;generalize (ah bJ x y i).1=s at*;generalize x.getD i 0=a at*;generalize y.getD i 0=b at*;have key:(bJ a b c).1+b+c=a+10*(bJ a b c).2/\(bJ a b c).1<10/\(bJ a b c).2<=1:=by
   unfold bJ
   split<;>simp only[]<;>omega
  obtain⟨k1,k2,k3⟩:=key;refine⟨?_,?_,k3⟩
  ·have e4:10 ^ i*(bJ a b c).1+10 ^ i*b+10 ^ i*c=10 ^ i*a+10 ^ (i+1)*(bJ a b c).2:=by
    rw[abl,aa6,<-aaL,<-aaL,<-aaL,k1]
   omega
  ·intro d hd
   rcases aaG.1 hd with hd|hd
   ·exact h2 d hd
   ·rw[aar.1 hd];exact k2
def IP{x y:List Nat}(hx:∀d∈x,d<10)(hy:∀d∈y,d<10)(hl:y.length<=x.length)(hle:aa 10 y<=aa 10 x) :
  aa 10 (ah bJ x y x.length).1=aa 10 x-aa 10 y/\∀d∈(ah bJ x y x.length).1,d<10:=by
 obtain⟨i1,i2,i3⟩:=x8 hx hy x.length;rw[aaJ,aav hl]at i1;have hlt:=jN i2;rw[jb]at hlt;have hz:(ah bJ x y x.length).2=0:=by
  rcases(show(ah bJ x y x.length).2=0\/(ah bJ x y x.length).2=1 by omega)with h|h
  ·exact h
  ·rw[h]at i1;omega
 rw[hz,ado,abw]at i1;exact⟨by omega,i2⟩
def yK(A B:Option Addr)(c d:Nat)(x y:List Nat)(w:World)(hx:∀d∈x,d<10)(hy:∀d∈y,d<10)(hA:ay w A (x.map I))(hB:ay w B (y.map I))(hlx:x.length<=100000) :
  Calls Tryz.prog 184 #[.slice A x.length c,.slice B y.length d] w (wS w (ah bJ x y x.length).1):=by
 obtain⟨i0,hi,hz0,hz1,hz2⟩:=abm vM;have HX:Hid (∀i,x.getD i 0<10):=fun i=>getD_lt (by omega) hx i
 have HY:Hid (∀i,y.getD i 0<10):=fun i=>getD_lt (by omega) hy i
 have HI:Hid (∀i,(ah bJ x y i).2<=1):=fun i=>(x8 hx hy i).2.2
 have HL:Hid (∀i,(ah bJ x y i).1.length=i):=fun i=>jb _ _ _ i
 go_enter Tryz.func184,Tryz.ntmps184;go_wp2_with fail
 go_loopw [5,6,7] (fun l cy i wr=>∃(j0:Nat),i=.int .i64 j0/\j0<=x.length/\cy=.int .i64 (ah bJ x y j0).2/\Below w w wr/\Own w.heap.size 3 l ((ah bJ x y j0).1.map I) wr) (fun _ _ i _=>x.length-(intOf i).toNat)
 case atStart=>exact⟨0,rfl,by omega,rfl,aac _ _,Own.nil _ _ _⟩
 case round=>
  obtain⟨k0,rfl,hk0,rfl,hb,hown⟩:=hrel;by_cases hlt:k0<x.length
  ·have ca:=fun W hr=>uA A c x k0 W hr
   have cb:=fun W hr=>uA B d y k0 W hr
   have ra:=hA.below hb;have rb:=hB.below hb;have hS1:(ah bJ x y (k0+1)).1=(ah bJ x y k0).1++[(bJ (x.getD k0 0) (y.getD k0 0) (ah bJ x y k0).2).1]:=rfl;have hS2:(ah bJ x y (k0+1)).2=(bJ (x.getD k0 0) (y.getD k0 0) (ah bJ x y k0).2).2:=rfl;have ha1:=HX.out k0;have hb1:=HY.out k0;have hq1:=HI.out k0;have hlen:=HL.out k0;have Uf:=Pd hS1;have HS2:=Pd hS2;clear hS1 hS2;generalize x.getD k0 0=a at*;generalize y.getD k0 0=b at*;generalize (ah bJ x y k0).2=q at*;generalize (ah bJ x y k0).1=L at*;have TY:(L.map I).length+1<=maxLen:=by rw[aaC];unfold maxLen;omega
   have hmb:((L.map I).length+1)*8<=140737488355328:=by rw[aaC];omega
   rcases aaz a (b+q)with hc|hc
   ·have HF:Hid (bJ a b q=(a+10-b-q,1)):=by unfold Hid bJ;rw[aaa hc]
    go_wp2_with (first|(go_at_call_of 180 (Value.slice A x.length c);refine(ca _ ra).mono ?_;rintro e wx ⟨rfl,rfl⟩)|(go_at_call_of 180 (Value.slice B y.length d);refine(cb _ rb).mono ?_;rintro e wx ⟨rfl,rfl⟩)|(at_builtin;refine fJ rfl (.tmp 28) (.tmp 30) 38 rfl w.heap.size i0 _ 8 ab3 hi hz0 hz1 hz2 rfl _ (L.map I) rfl hown 1 rfl rfl TY hmb hb.size ?_;intro v' w3 TE _ hb4));go_roundw
    case rel=>exact⟨k0+1,by go_num,by omega,by rw[HS2.out,HF.out];rfl,hb.trans hb4,by rw[Uf.out,HF.out,<-sK];have e:((a+10-b-q:Nat):Int)=(a:Int)-(b:Int)-(q:Int)+10:=(by omega);rw[e];exact TE⟩
    case measure=>simp[intOf]<;>omega
   ·have HF:Hid (bJ a b q=(a-b-q,0)):=by unfold Hid bJ;rw[aab (by omega)]
    go_wp2_with (first|(go_at_call_of 180 (Value.slice A x.length c);refine(ca _ ra).mono ?_;rintro e wx ⟨rfl,rfl⟩)|(go_at_call_of 180 (Value.slice B y.length d);refine(cb _ rb).mono ?_;rintro e wx ⟨rfl,rfl⟩)|(at_builtin;refine fJ rfl (.tmp 28) (.tmp 30) 38 rfl w.heap.size i0 _ 8 ab3 hi hz0 hz1 hz2 rfl _ (L.map I) rfl hown 1 rfl rfl TY hmb hb.size ?_;intro v' w3 TE _ hb4));go_roundw
    case rel=>exact⟨k0+1,by go_num,by omega,by rw[HS2.out,HF.out];rfl,hb.trans hb4,by rw[Uf.out,HF.out,<-sK];have e:((a-b-q:Nat):Int)=(a:Int)-(b:Int)-(q:Int):=(by omega);rw[e];exact TE⟩
    case measure=>simp[intOf]<;>omega
  ·obtain rfl:k0=x.length:=by omega
   obtain⟨A',c',rfl,hc',hr⟩:=hown.row.to (n:=(ah bJ x y x.length).1.length) (by simp);clear hown hA hB HX HY HI HL;go_wp2_with fail;go_returns;exact⟨A',c',rfl,hc',hr,hb⟩
def NQ{l:List Nat}{n:Nat}(h:1<n)(hn:n<=l.length)(hz:l[n-1]=0):aa 10 (l.take (n-1))=aa 10 (l.take n):=by
 obtain⟨k,rfl⟩:∃k,n=k+1:=⟨n-1,by omega⟩;simp only[acK]at hz ⊢;rw[cK,aaf,aak (by omega)];simp[hz]
def NN{l:List Nat}{n:Nat}(hl:∀d∈l,d<10)(h1:1<=n)(hn:n<=l.length)(hv:aa 10 (l.take n)=aa 10 l)(ht:n=1\/l[n-1]≠0):((l.take n).reverse).map dc=af (aa 10 l):=by
 have hlen:(l.take n).length=n:=by rw[aaI];omega
 by_cases h0:aa 10 l=0
 ·rw[h0]
  rw[h0]at hv;rcases ht with rfl|ht
  ·cases l with
   |nil=>simp at hn
   |cons x r=>
    simp[aa]at hv;subst hv
    rfl
  ·exfalso
   obtain⟨k,rfl⟩:∃k,n=k+1:=⟨n-1,by omega⟩;simp only[acK]at ht;rw[cK,aaf,aak (by omega)]at hv;simp at hv;exact ht ((Nat.mul_eq_zero.1 hv.2).resolve_left (Nat.ne_of_gt (Nat.pow_pos (by omega))))
 ·rw[nN h0]
  have hc:Canon (l.take n):=by
   intro x hx;rw[afF,hlen]at hx;rcases ht with rfl|ht
   ·cases l with
    |nil=>simp at hn
    |cons y r=>
     simp[aa]at hv hx;intro e;exact h0 (by show y+10*aa 10 r=0;omega)
   ·rw[ac2,aaa (by omega),aak (by omega)]at hx
    injection hx with hx
    rw[<-hx];exact ht
  have e:=xI (b:=10) (by omega) (l:=l.take n) (fun d hd=>hl d (ach hd)) hc;rw[hv]at e;rw[e]
def jh(l:List Nat)(k:Nat):Bs:=((l.drop k).reverse).map dc
def EH{l:List Nat}{k:Nat}(hk:k<l.length):jh l k=jh l (k+1)++[dc l[k]]:=by
 unfold jh;rw[aat hk,List.reverse_cons,aa3];rfl
def r9(l:List Nat)(k:Nat):(jh l k).length=l.length-k:=by unfold jh;simp
def uI(A:Option Addr)(c:Nat)(l:List Nat)(w:World)(hl:∀d∈l,d<10)(hA:ay w A (l.map I))(hm:l.length<=100000)(hnil:l≠[]) :
  Calls Tryz.prog 182 #[.slice A l.length c] w fun e w'=>e=.returned (.string ⟨(af (aa 10 l)).toArray⟩)/\Below w w w':=by
 obtain⟨i0,hi,hz0,hz1,hz2⟩:=abm aD1;have V6:=Pd hl;have hpos:=aaM.2 hnil;obtain⟨b,o,rfl,hbl,hcell⟩:=hA (by intro e;rw[aaO]at e;exact hnil e);have hc:∀k (h:k<l.length),w.cell? ⟨b,o+k,none⟩=some (.int .i64 l[k]):=fun k h=>hcell k _ (uk h)
 have HC:=Pd hc;clear hcell hA hc hl hnil;go_enter Tryz.func182,Tryz.ntmps182;go_wp2_with fail
 go_loopw [3] (fun n wr=>∃(k:Nat),n=.int .i64 k/\1<=k/\k<=l.length/\w=wr/\Hid (aa 10 (l.take k)=aa 10 l)) (fun n _=>(intOf n).toNat)
 case atStart=>exact⟨l.length,rfl,by omega,by omega,rfl,by rw[Hid,aaJ]⟩
 case round=>
  obtain⟨n,rfl,hn1,hn2,rfl,HV⟩:=hrel;have hcn:=HC.out (n-1) (by omega);obtain⟨j,hj⟩:∃j,n-1=j:=⟨_,rfl⟩;have HJ:=Pd hj;have hnl:n-1<l.length:=by omega
  by_cases hgo:1<n/\l[n-1]=0
  ·obtain⟨hg1,hg2⟩:=hgo
   have Vu:=Pd (NQ hg1 hn2 hg2);rw[hg2,hj]at hcn;have ni:(1:Int)<(n:Int):=by omega
   have nj:(n:Int)-1=(j:Int):=(by omega);have j0:(0:Int)<=(j:Int):=(by omega);have jl:(j:Int)<(l.length:Int):=(by omega);clear hg2 hj;go_wp2_with fail;go_roundw
   case rel=>exact⟨j,rfl,by have:=HJ.out;omega,by have:=HJ.out;omega,trivial,by have e:=Vu.out;rw[HJ.out]at e;rw[Hid,e,HV.out]⟩
   case measure=>have:=HJ.out;simp[intOf];omega
  ·have hst:n=1\/l[n-1]≠0:=by
    by_cases h1:n=1
    ·exact aam h1
    ·right;intro e;exact hgo ⟨by omega,e⟩
   have HE:=Pd (NN V6.out hn1 hn2 HV.out hst);have hTl:(l.take n).length=n:=by rw[aaI];omega
   have Zt:∀k (h:k<(l.take n).length),(l.take n)[k]<10/\w.cell? ⟨b,o+k,none⟩=some (.int .i64 (l.take n)[k]):=fun k h=>by
    rw[acS];exact⟨V6.out _ (aag _),HC.out k (by omega)⟩
   have HTG:=Pd Zt;obtain⟨x,hx⟩:∃x,l[n-1]=x:=⟨_,rfl⟩;rw[hx]at hcn hst;rw[hj]at hcn;have nj:(n:Int)-1=(j:Int):=by omega
   have j0:(0:Int)<=(j:Int):=(by omega);have jl:(j:Int)<(l.length:Int):=(by omega);have HST:=Pd hst;clear Zt hx hgo HV hj hst;generalize l.take n=T at*;have hA2:Below w w w:=aac _ _;rcases aaz 1 n with h1n|h1n
   ·have hx0:¬ x=0:=by
     rcases HST.out with h|h
     ·omega
     ·exact h
    have hxi:((x:Int)==0)=false:=aaN.2 (by omega);have ni:(1:Int)<(n:Int):=by omega
    go_wp2_with fail
    go_loopw [4,5] (fun v i wr=>∃(k:Nat),i=.int .i64 ((k:Int)-1)/\k<=n/\Below w w wr/\Own w.heap.size 5 v (Lib.byteCells (jh T k)) wr) (fun _ i _=>(intOf i+1).toNat)
    case atStart=>exact⟨n,by rw[nj],Pe _,hA2,by rw[show jh T n=[] from aaQ (by rw[r9];omega)];exact Own.nil _ _ _⟩
    case round=>
     obtain⟨k,rfl,hk,hb,hown⟩:=hrel;rcases abE k with rfl|hp
     ·have hw:jh T 0=af (aa 10 l):=HE.out
      rw[hw]at hown;have hlen:(af (aa 10 l)).length=n:=by rw[<-hw,r9];omega
      obtain⟨A',c',rfl,hc',hr⟩:=hown.row.to (n:=n) (by rw[abe,hlen]);have hcv:=yx (P:=Tryz.prog) (src:=127) (dst:=9) abF abd aaV hown;have hnb:((n:Int)==0)=false:=aaN.2 (by omega);clear hr hown hw hlen;go_wp2_with fail;go_returns;exact⟨rfl,hb⟩
     ·obtain⟨q,rfl⟩:∃q,k=q+1:=⟨k-1,by omega⟩
      obtain⟨hd1,hcq⟩:=HTG.out q (by omega);have YI:=(hb.cell (p:=⟨b,o+q,none⟩) hbl).trans hcq;have HM:=Pd (EH (l:=T) (k:=q) (by omega));have hwl:=r9 T (q+1);obtain⟨y,hy⟩:∃y,T[q]'(by omega)=y:=⟨_,rfl⟩;rw[hy]at YI hd1 HM;have HDC:=Pd (oJ hd1);have TY:(Lib.byteCells (jh T (q+1))).length+1<=maxLen:=by rw[abe];unfold maxLen;omega
      have hmb:((Lib.byteCells (jh T (q+1))).length+1)*1<=140737488355328:=by rw[abe];omega
      have wy:IntKind.u8.wrap (48+(y:Int))=48+(y:Int):=by rw[aeO];omega
      have q1:((q+1:Nat):Int)-1=(q:Int):=(by omega);have q2:(q:Int)<(l.length:Int):=(by omega);have q0:(0:Int)<=(q:Int):=(by omega);rw[q1];clear hcq hy hwl;go_wp2_with (at_builtin;refine fJ rfl (.tmp 26) (.tmp 33) 127 rfl w.heap.size i0 _ 1 abF hi hz0 hz1 hz2 rfl _ (Lib.byteCells (jh T (q+1))) rfl hown 1 rfl rfl TY hmb hb.size ?_;intro v' w3 TE _ hb4);go_roundw
      case rel=>
       refine⟨q,by go_num,by omega,hb.trans hb4,?_⟩;rw[HM.out,<-tF,HDC.out];have e:((48+y:Nat):Int)=48+(y:Int):=by omega
       rw[e];exact TE
      case measure=>simp[intOf]<;>omega
   ·have ni:decide ((1:Int)<(n:Int))=false:=aai (by omega)
    have n1:(n:Int)<=1:=(by omega);go_wp2_with fail
    go_loopw [4,5] (fun v i wr=>∃(k:Nat),i=.int .i64 ((k:Int)-1)/\k<=n/\Below w w wr/\Own w.heap.size 5 v (Lib.byteCells (jh T k)) wr) (fun _ i _=>(intOf i+1).toNat)
    case atStart=>exact⟨n,by rw[nj],Pe _,hA2,by rw[show jh T n=[] from aaQ (by rw[r9];omega)];exact Own.nil _ _ _⟩
    case round=>
     obtain⟨k,rfl,hk,hb,hown⟩:=hrel;rcases abE k with rfl|hp
     ·have hw:jh T 0=af (aa 10 l):=HE.out
      rw[hw]at hown;have hlen:(af (aa 10 l)).length=n:=by rw[<-hw,r9];omega
      obtain⟨A',c',rfl,hc',hr⟩:=hown.row.to (n:=n) (by rw[abe,hlen]);have hcv:=yx (P:=Tryz.prog) (src:=127) (dst:=9) abF abd aaV hown;have hnb:((n:Int)==0)=false:=aaN.2 (by omega);clear hr hown hw hlen;go_wp2_with fail;go_returns;exact⟨rfl,hb⟩
     ·obtain⟨q,rfl⟩:∃q,k=q+1:=⟨k-1,by omega⟩
      obtain⟨hd1,hcq⟩:=HTG.out q (by omega);have YI:=(hb.cell (p:=⟨b,o+q,none⟩) hbl).trans hcq;have HM:=Pd (EH (l:=T) (k:=q) (by omega));have hwl:=r9 T (q+1);obtain⟨y,hy⟩:∃y,T[q]'(by omega)=y:=⟨_,rfl⟩;rw[hy]at YI hd1 HM;have HDC:=Pd (oJ hd1);have TY:(Lib.byteCells (jh T (q+1))).length+1<=maxLen:=by rw[abe];unfold maxLen;omega
      have hmb:((Lib.byteCells (jh T (q+1))).length+1)*1<=140737488355328:=by rw[abe];omega
      have wy:IntKind.u8.wrap (48+(y:Int))=48+(y:Int):=by rw[aeO];omega
      have q1:((q+1:Nat):Int)-1=(q:Int):=(by omega);have q2:(q:Int)<(l.length:Int):=(by omega);have q0:(0:Int)<=(q:Int):=(by omega);rw[q1];clear hcq hy hwl;go_wp2_with (at_builtin;refine fJ rfl (.tmp 26) (.tmp 33) 127 rfl w.heap.size i0 _ 1 abF hi hz0 hz1 hz2 rfl _ (Lib.byteCells (jh T (q+1))) rfl hown 1 rfl rfl TY hmb hb.size ?_;intro v' w3 TE _ hb4);go_roundw
      case rel=>
       refine⟨q,by go_num,by omega,hb.trans hb4,?_⟩;rw[HM.out,<-tF,HDC.out];have e:((48+y:Nat):Int)=48+(y:Int):=by omega
       rw[e];exact TE
      case measure=>simp[intOf]<;>omega
def eY(a b c:Nat):Nat×Nat:=((a+b+c)%10,(a+b+c)/10)
theorem uW{x y:List Nat}(hx:∀d∈x,d<10)(hy:∀d∈y,d<10):∀i,
  aa 10 (ah eY x y i).1+10 ^ i*(ah eY x y i).2=aa 10 (x.take i)+aa 10 (y.take i)/\(∀d∈(ah eY x y i).1,d<10)/\(ah eY x y i).2<=1
 |0=>⟨rfl,(fun d hd=>by cases hd),aaS _⟩
 |i+1=>by
  obtain⟨h1,h2,h3⟩:=uW hx hy i;have ha:=getD_lt (by omega) hx i;have hb:=getD_lt (by omega) hy i;have hlen:=jb eY x y i;simp only[ah];rw[nD,hlen,cK,cK];generalize (ah eY x y i).2=c at*;generalize (ah eY x y i).1=s at*;generalize x.getD i 0=a at*;generalize y.getD i 0=b at*;refine⟨?_,?_,?_⟩
  ·unfold eY
   simp only[];have e:=abt (a+b+c) 10;have e2:10 ^ i*((a+b+c)%10)+10 ^ (i+1)*((a+b+c)/10)=10 ^ i*(a+b+c):=by
    rw[abl,aa6,<-aaL,e]
   rw[aaL,aaL]at e2;omega
  ·intro d hd
   rcases aaG.1 hd with hd|hd
   ·exact h2 d hd
   ·rw[aar.1 hd];exact abR _ (by omega)
  ·unfold eY
   simp only[];omega
def Fb{x y:List Nat}(hx:∀d∈x,d<10)(hy:∀d∈y,d<10){n:Nat}(h1:x.length<=n)(h2:y.length<=n) :
  aa 10 (ah eY x y (n+1)).1=aa 10 x+aa 10 y/\∀d∈(ah eY x y (n+1)).1,d<10:=by
 obtain⟨i1,i2,i3⟩:=uW hx hy (n+1);obtain⟨_,_,j3⟩:=uW hx hy n;rw[aav (by omega),aav (by omega)]at i1;have hz:(ah eY x y (n+1)).2=0:=by
  simp only[ah];rw[eB h1,eB h2];generalize (ah eY x y n).2=c at j3 ⊢;unfold eY;simp only[];omega
 rw[hz,ado,abw]at i1;exact⟨i1,i2⟩
def lV{l:Bs}(h:∀c∈l,cz c=true):∀d∈aAi l,d<10:=by
 intro d hd;unfold aAi at hd;rw[aeH,abk]at hd;obtain⟨c,hc,rfl⟩:=hd;exact qc (h c hc)
def mZ(l:Bs):(aAi l).length=l.length:=by unfold aAi;simp
def Bt(n:Nat)(F:ByteArray)(hF:(⟨(af n).toArray⟩:ByteArray)=F) :
  (if 1000<F.size then Value.tuple #[.string ⟨#[]⟩,.int .i64 2] else .tuple #[.string F,.int .i64 0])=.tuple #[.string ⟨(jv n).1.toArray⟩,.int .i64 (jv n).2]:=by
 have hs:F.size=(af n).length:=by rw[<-hF,aae]
 rw[hs];unfold jv
 split
 ·rfl
 ·rw[<-hF];rfl
def uy(a b:ByteArray)(w:World)(ha:a.size<=9223372036854775807)(hb:b.size<=9223372036854775807) :
  Calls Tryz.prog 153 #[.string a,.string b] w (aA w (mK a.data.toList b.data.toList)):=by
 by_cases hok:aj a.data.toList=true/\aj b.data.toList=true
 ·obtain⟨hoa,TF⟩:=hok
  obtain⟨i0,hi,hz0,hz1,hz2⟩:=abm vM;have HK:Hid (mK a.data.toList b.data.toList=jv (ag a.data.toList+ag b.data.toList)):=by unfold Hid mK;rw[aaa ⟨hoa,TF⟩]
  have va:=fun W=>eG a W ha
  have vb:=fun W=>eG b W hb
  rw[hoa]at va;rw[TF]at vb;have sa:=kz hoa;have sb:=kz TF;have da:=fun W=>nY a W (kW hoa) (by omega)
  have db:=fun W=>nY b W (kW TF) (by omega)
  have hxl:=lV (kW hoa);have hyl:=lV (kW TF);have Y5:(aAi a.data.toList).length<=1000:=by rw[mZ,<-aae];omega
  have hyn:(aAi b.data.toList).length<=1000:=by rw[mZ,<-aae];omega
  have vx:=o7 a.data.toList;have vy:=o7 b.data.toList;generalize ag a.data.toList=m at*;generalize ag b.data.toList=n at*;clear hoa TF;generalize aAi a.data.toList=x at*;generalize aAi b.data.toList=y at*;have hA:Below w w w:=aac _ _;have HX:Hid (∀i,x.getD i 0<10):=fun i=>getD_lt (by omega) hxl i
  have HY:Hid (∀i,y.getD i 0<10):=fun i=>getD_lt (by omega) hyl i
  have HI:Hid (∀i,(ah eY x y i).2<=1):=fun i=>(uW hxl hyl i).2.2
  have HL:Hid (∀i,(ah eY x y i).1.length=i):=fun i=>jb _ _ _ i
  have HV:=Pd (Fb hxl hyl (n:=max x.length y.length) (af0 _ _) (Nat.le_max_right _ _));rw[vx,vy]at HV;obtain⟨M,hM⟩:∃M,max x.length y.length=M:=⟨_,rfl⟩;have hMx:x.length<=M:=by omega
  have hMy:y.length<=M:=by omega
  have hMe:M<=x.length\/M<=y.length:=by omega
  rw[hM]at HV;clear hM vx vy hxl hyl;go_enter Tryz.func153,Tryz.ntmps153;go_wp2_with (first|(go_at_call_of 159 (Value.string a);refine(va _).mono ?_;rintro e w2 ⟨rfl,rfl⟩)|(go_at_call_of 159 (Value.string b);refine(vb _).mono ?_;rintro e w2 ⟨rfl,rfl⟩));refine(da _).mono ?_;rintro e w1 ⟨A1,c1,rfl,h1,r1,b1⟩;have hA1:=ae hA b1;go_wp2_with fail;refine(db _).mono ?_;rintro e w2 ⟨A2,c2,rfl,h2,r2,b2⟩;have hA2:=ae hA1 b2;have r1':=r1.below b2;clear r1 b1 b2 hA hA1 va vb da db;go_wp2_with fail
  go_loopw [8,9,10] (fun l cy i wr=>∃(j0:Nat),i=.int .i64 j0/\j0<=M+1/\cy=.int .i64 (ah eY x y j0).2/\Below w2 w2 wr/\Own w2.heap.size 3 l ((ah eY x y j0).1.map I) wr) (fun _ _ i _=>M+1-(intOf i).toNat)
  case atStart=>exact⟨0,rfl,by omega,rfl,aac _ _,Own.nil _ _ _⟩
  case round=>
   obtain⟨k0,rfl,hk0,rfl,hb,hown⟩:=hrel;by_cases hlt:k0<=M
   ·have ca:=fun W hr=>uA A1 c1 x k0 W hr
    have cb:=fun W hr=>uA A2 c2 y k0 W hr
    have ra:=r1'.below hb;have rb:=r2.below hb;have hS1:(ah eY x y (k0+1)).1=(ah eY x y k0).1++[(x.getD k0 0+y.getD k0 0+(ah eY x y k0).2)%10]:=rfl;have hS2:(ah eY x y (k0+1)).2=(x.getD k0 0+y.getD k0 0+(ah eY x y k0).2)/10:=rfl;have ha1:=HX.out k0;have hb1:=HY.out k0;have hq1:=HI.out k0;have hlen:=HL.out k0;have Uf:=Pd hS1;have HS2:=Pd hS2;clear hS1 hS2;generalize x.getD k0 0=a at*;generalize y.getD k0 0=b at*;generalize (ah eY x y k0).2=q at*;generalize (ah eY x y k0).1=L at*;have TY:(L.map I).length+1<=maxLen:=by rw[aaC];unfold maxLen;omega
    have hmb:((L.map I).length+1)*8<=140737488355328:=by rw[aaC];omega
    rcases aaz x.length k0 with hc|hc
    ·have k1:decide ((k0:Int)<=(x.length:Int))=false:=aai (by omega)
     have k1':(x.length:Int)<(k0:Int):=(by omega);have k2:(k0:Int)<=(y.length:Int):=(by omega);go_wp2_with (first|(go_at_call_of 180 (Value.slice A1 x.length c1);refine(ca _ ra).mono ?_;rintro e wx ⟨rfl,rfl⟩)|(go_at_call_of 180 (Value.slice A2 y.length c2);refine(cb _ rb).mono ?_;rintro e wx ⟨rfl,rfl⟩)|(at_builtin;refine fJ rfl (.tmp 45) (.tmp 48) 38 rfl w2.heap.size i0 _ 8 ab3 hi hz0 hz1 hz2 rfl _ (L.map I) rfl hown 1 rfl rfl TY hmb hb.size ?_;intro v' w3 TE _ hb4));go_roundw
     case rel=>exact⟨k0+1,by go_num,by omega,by rw[HS2.out];simp,hb.trans hb4,by rw[Uf.out,<-sK];simpa using TE⟩
     case measure=>simp[intOf]<;>omega
    ·have k2:(k0:Int)<=(x.length:Int):=by omega
     go_wp2_with (first|(go_at_call_of 180 (Value.slice A1 x.length c1);refine(ca _ ra).mono ?_;rintro e wx ⟨rfl,rfl⟩)|(go_at_call_of 180 (Value.slice A2 y.length c2);refine(cb _ rb).mono ?_;rintro e wx ⟨rfl,rfl⟩)|(at_builtin;refine fJ rfl (.tmp 45) (.tmp 48) 38 rfl w2.heap.size i0 _ 8 ab3 hi hz0 hz1 hz2 rfl _ (L.map I) rfl hown 1 rfl rfl TY hmb hb.size ?_;intro v' w3 TE _ hb4));go_roundw
     case rel=>exact⟨k0+1,by go_num,by omega,by rw[HS2.out];simp,hb.trans hb4,by rw[Uf.out,<-sK];simpa using TE⟩
     case measure=>simp[intOf]<;>omega
   ·obtain rfl:k0=M+1:=by omega
    obtain⟨hv1,hv2⟩:=HV.out;have hln:=HL.out (M+1);obtain⟨A',c',rfl,hc',hr⟩:=hown.row.to (n:=(ah eY x y (M+1)).1.length) (by simp);have ht:=uI A' c' _ wr hv2 hr (by rw[hln];omega) (by intro e;rw[e]at hln;simp at hln);rw[hv1]at ht;obtain⟨F,hF⟩:∃F:ByteArray,(⟨(af (m+n)).toArray⟩:ByteArray)=F:=⟨_,rfl⟩;rw[hF]at ht;have hl:=fun W=>Dy F W
    rw[Bt _ F hF]at hl;have hx1:(x.length:Int)<((M+1:Nat):Int):=by omega
    have hy1:(y.length:Int)<((M+1:Nat):Int):=(by omega);have kx:decide (((M+1:Nat):Int)<=(x.length:Int))=false:=aai (by omega);have ky:decide (((M+1:Nat):Int)<=(y.length:Int))=false:=aai (by omega);have hA3:=ae hA2 hb;clear hown HX HY HI HL HV hv1 hv2 hr hF hln;generalize (ah eY x y (M+1)).1.length=LN at*;generalize M+1=M1 at*
    go_wp2_with (first
     |(go_at_call 182;refine ht.mono ?_;rintro e w5 ⟨rfl,b5⟩;have Vx:=ae hA3 b5)
     |(go_at_call 181;refine(hl _).mono ?_;rintro e w6 ⟨rfl,rfl⟩))
    go_returns;unfold aA;rw[HK.out];exact⟨rfl,Vx⟩
 ·refine(KM a b w ha hb hok).mono ?_
  rintro e w' ⟨rfl,rfl⟩;unfold aA mK;rw[aab hok];exact⟨rfl,aac _ _⟩
def IM{a b:Bs}(ha:iH a)(hb:iH b)(h:ag b<=ag a):b.length<=a.length:=by
 have:=tN h;rwa[jo ha,jo hb]at this
def Br{a b:Bs}(ha:iH a)(hb:iH b)(h:ag b<=ag a) :
  aa 10 (ah bJ (aAi a) (aAi b) (aAi a).length).1=ag a-ag b/\(∀d∈(ah bJ (aAi a) (aAi b) (aAi a).length).1,d<10)/\(ah bJ (aAi a) (aAi b) (aAi a).length).1≠[]:=by
 have h1:=IP (lV ha.2.1) (lV hb.2.1) (by rw[mZ,mZ];exact IM ha hb h) (by rw[o7,o7];exact h);rw[o7,o7]at h1;refine⟨h1.1,h1.2,?_⟩;intro e;have:=jb bJ (aAi a) (aAi b) (aAi a).length;rw[e,mZ]at this;exact ha.1 (aaQ this.symm)
def Rx(a b:ByteArray)(w:World)(ha:a.size<=9223372036854775807)(hb:b.size<=9223372036854775807) :
  Calls Tryz.prog 155 #[.string a,.string b] w (aA w (jT a.data.toList b.data.toList)):=by
 by_cases hok:aj a.data.toList=true/\aj b.data.toList=true
 ·obtain⟨hoa,TF⟩:=hok
  have HK:Hid (jT a.data.toList b.data.toList=if ag a.data.toList<ag b.data.toList then ([],4) else (af (ag a.data.toList-ag b.data.toList),0)):=by unfold Hid jT;rw[aaa ⟨hoa,TF⟩]
  have va:=fun W=>eG a W ha
  have vb:=fun W=>eG b W hb
  rw[hoa]at va;rw[TF]at vb;have sa:=kz hoa;have sb:=kz TF;have ta:=((iG _).1 hoa).1;have tb:=((iG _).1 TF).1;have hcm:=fun W=>yG a b W ta tb (by omega) (by omega)
  have hA:Below w w w:=aac _ _;by_cases hlt:ag a.data.toList<ag b.data.toList
  ·have Vk:Hid (jT a.data.toList b.data.toList=([],4)):=by rw[Hid,HK.out,aaa hlt]
   rw[lu hlt]at hcm;clear hlt HK ta tb hoa TF;go_enter Tryz.func155,aft;go_wp2_with (first|(go_at_call_of 159 (Value.string a);refine(va _).mono ?_;rintro e w2 ⟨rfl,rfl⟩)|(go_at_call_of 159 (Value.string b);refine(vb _).mono ?_;rintro e w2 ⟨rfl,rfl⟩)|(go_at_call 183;refine(hcm _).mono ?_;rintro e w2 ⟨rfl,b1⟩));go_returns;unfold aA;rw[Vk.out];exact⟨rfl,b1⟩
  ·have Vk:Hid (jT a.data.toList b.data.toList=(af (ag a.data.toList-ag b.data.toList),0)):=by rw[Hid,HK.out,aab hlt]
   have hge:¬ bZ (ag a.data.toList) (ag b.data.toList)<0:=by rw[nL];exact hlt
   obtain⟨hv1,hv2,hv3⟩:=Br ta tb (by omega);have hxl:=lV ta.2.1;have hyl:=lV tb.2.1;have da:=fun W=>nY a W (kW hoa) (by omega)
   have db:=fun W=>nY b W (kW TF) (by omega)
   have Y5:(aAi a.data.toList).length<=1000:=by rw[mZ,<-aae];omega
   have hls:=jb bJ (aAi a.data.toList) (aAi b.data.toList) (aAi a.data.toList).length;have le:=fun A B c d W h1 h2=>yK A B c d (aAi a.data.toList) (aAi b.data.toList) W hxl hyl h1 h2 (by omega)
   generalize aAi a.data.toList=x at*;generalize aAi b.data.toList=y at*;generalize (ah bJ x y x.length).1=z at*;have HZ1:=Pd hv1;have HZ2:=Pd hv2;have hzn:z.length<=1000:=by omega
   have tx:=fun A c W h=>uI A c z W hv2 h (by omega) hv3
   rw[hv1]at tx;obtain⟨F,hF⟩:∃F:ByteArray,(⟨(af (ag a.data.toList-ag b.data.toList)).toArray⟩:ByteArray)=F:=⟨_,rfl⟩;rw[hF]at tx;have HF:=Pd hF;obtain⟨cc,hcc⟩:∃cc,bZ (ag a.data.toList) (ag b.data.toList)=cc:=⟨_,rfl⟩;rw[hcc]at hcm hge;have hge0:0<=cc:=by omega
   clear hlt HK ta tb hoa TF hv1 hv2 hv3 hxl hyl hls Y5 hF hcc hge;go_enter Tryz.func155,aft;go_wp2_with (first|(go_at_call_of 159 (Value.string a);refine(va _).mono ?_;rintro e w2 ⟨rfl,rfl⟩)|(go_at_call_of 159 (Value.string b);refine(vb _).mono ?_;rintro e w2 ⟨rfl,rfl⟩)|(go_at_call 183;refine(hcm _).mono ?_;rintro e w1 ⟨rfl,b1⟩));refine(da _).mono ?_;rintro e w2 ⟨A1,c1,rfl,h1,r1,b2⟩;have hA2:=ae b1 b2;go_wp2_with fail;refine(db _).mono ?_;rintro e w3 ⟨A2,c2,rfl,h2,r2,b3⟩;have hA3:=ae hA2 b3;go_wp2_with fail;refine(le _ _ _ _ _ (r1.below b3) r2).mono ?_;rintro e w4 ⟨A3,c3,rfl,h3,r3,b4⟩;have VJ:=ae hA3 b4;go_wp2_with fail;refine(tx _ _ _ r3).mono ?_;rintro e w5 ⟨rfl,b5⟩;have Vx:=ae VJ b5;go_wp2_with fail;go_returns;unfold aA;rw[Vk.out];show _=Ending.returned (.tuple #[.string ⟨(af (ag a.data.toList-ag b.data.toList)).toArray⟩,_])/\_;rw[HF.out];exact⟨rfl,Vx⟩
 ·refine(Mf a b w ha hb hok).mono ?_
  rintro e w' ⟨rfl,rfl⟩;unfold aA jT;rw[aab hok];exact⟨rfl,aac _ _⟩
def kI(B g n:Nat)(L:List Nat)(w:World):Prop:=L.length=n/\w.ownsRow B 3 1 (.slice (some ⟨g,0,none⟩) n n) n (L.map I)
def kI.cell{B g n:Nat}{L:List Nat}{w:World}(h:kI B g n L w){j:Nat}(hj:j<L.length):w.cell? ⟨g,j,none⟩=some (.int .i64 L[j]):=by
 have hn:j<n:=by have:=h.1;omega
 rcases h.2.2 with⟨h',_⟩|⟨g',cap',cur,h',_,hg,_,_,_,htake⟩
 ·simp at h'
 ·simp only[acU,aao,adP,acH,aeg]at h'
  obtain⟨rfl,rfl⟩:=h';rw[aap w g j cur 3 (0,0) hg];have h2:(L.map I)[j]? = some (I L[j]):=uk hj;rw[<-htake,ac2,aaa (by omega)]at h2;simp only[aeJ]at h2;exact h2
def kI.frozen{B g n:Nat}{L:List Nat}{w:World}(h:kI B g n L w)(j:Nat):w.frozen? ⟨g,j,none⟩=false:=aeC h.2 j
def kI.row{B g n:Nat}{L:List Nat}{w:World}(h:kI B g n L w):ay w (some ⟨g,0,none⟩) (L.map I):=fun hne=>by
 have hp:0<L.length:=aaM.2 (fun e=>hne (by rw[e];rfl));refine⟨g,0,rfl,ax (h.cell hp),fun j u hu=>?_⟩;rw[aaP];rcases aaz j L.length with hj|hj
 ·rw[uk hj]at hu
  injection hu with hu
  rw[<-hu];exact h.cell hj
 ·rw[aa4 (by rw[aaC];exact hj)]at hu;cases hu
def kI.store{B g n:Nat}{L:List Nat}{w:World}(h:kI B g n L w)(j v:Nat):kI B g n (L.set j v) (w.setCell ⟨g,j,none⟩ (.int .i64 v)):=by
 refine⟨by rw[abh];exact h.1,?_⟩;rw[ac3];exact(ae3 h.2 j (I v)).1
def K4(A:Option Addr)(c:Nat)(l:List Nat)(i:Nat)(w:World)(hrow:ay w A (l.map I)) :
  Calls Tryz.prog 180 #[.slice A l.length c,.int .i64 i] w fun e w'=>e=.returned (.int .i64 (l.getD i 0:Nat))/\w'=w:=
 (uA A c l i w hrow).mono fun e w' h=>⟨h.1,h.2.symm⟩
def ay.drewN{w:World}{A:Option Addr}{cs:List Value}(h:ay w A cs)(n:Nat):ay (w.drewN n) A cs:=fun hne=>by
 obtain⟨b,o,e,hlt,hcell⟩:=h hne;exact⟨b,o,e,hlt,hcell⟩
def LF(a b:ByteArray)(w:World)(ha:a.size<=9223372036854775807)(hb:b.size<=9223372036854775807) :
  Calls Tryz.prog 156 #[.string a,.string b] w (aA w (mO a.data.toList b.data.toList)):=by
 by_cases hok:aj a.data.toList=true/\aj b.data.toList=true
 ·obtain⟨hoa,TF⟩:=hok
  obtain⟨i0,hi,hz0,hz1,hz2⟩:=abm vM;have HK:Hid (mO a.data.toList b.data.toList=jv (ag a.data.toList*ag b.data.toList)):=by unfold Hid mO;rw[aaa ⟨hoa,TF⟩]
  have va:=fun W=>eG a W ha
  have vb:=fun W=>eG b W hb
  rw[hoa]at va;rw[TF]at vb;have sa:=kz hoa;have sb:=kz TF;have da:=fun W=>nY a W (kW hoa) (by omega)
  have db:=fun W=>nY b W (kW TF) (by omega)
  have hxl:=lV (kW hoa);have hyl:=lV (kW TF);have Y5:(aAi a.data.toList).length<=1000:=by rw[mZ,<-aae];omega
  have hyn:(aAi b.data.toList).length<=1000:=by rw[mZ,<-aae];omega
  have HVx:=Pd (o7 a.data.toList);have HVy:=Pd (o7 b.data.toList);generalize ag a.data.toList=m at*;generalize ag b.data.toList=n at*;clear hoa TF;generalize aAi a.data.toList=x at*;generalize aAi b.data.toList=y at*;have hA:Below w w w:=aac _ _;have HX:=Pd hxl;have HY:=Pd hyl;clear hxl hyl;go_enter Tryz.func156,Tryz.ntmps156;go_wp2_with (first|(go_at_call_of 159 (Value.string a);refine(va _).mono ?_;rintro e w2 ⟨rfl,rfl⟩)|(go_at_call_of 159 (Value.string b);refine(vb _).mono ?_;rintro e w2 ⟨rfl,rfl⟩));refine(da _).mono ?_;rintro e w1 ⟨A1,c1,rfl,h1,r1,b1⟩;have hA1:=ae hA b1;go_wp2_with fail;refine(db _).mono ?_;rintro e w2 ⟨A2,c2,rfl,h2,r2,b2⟩;have hA2:=ae hA1 b2;have r1':=r1.below b2;clear r1 b1 b2 hA hA1 va vb da db;obtain⟨N,hN⟩:∃N,x.length+y.length+1=N:=⟨_,rfl⟩;have hNi:(x.length:Int)+(y.length:Int)+1=(N:Int):=by omega
  obtain⟨g,hg⟩:∃g,w2.heap.size=g:=⟨_,rfl⟩;go_wp2_with (at_make;refine afS _ rfl (.tmp 30) (.tmp 30) 38 rfl w2.heap.size 3 i0 (.int .i64 0) 1 ab3 hi hz0 hz1 .i64 .i64 _ _ N rfl rfl (by omega) (by omega) (by rw[hz2];omega) (by unfold maxLen;omega) (Pe _) ?_;intro w3 own3 hg3);have Us:(madeCells (Value.int .i64 0).cells (N*1)).toList=(List.replicate N 0).map I:=by
   rw[acN,ad5];exact ae5 (.int .i64 0) N
  rw[Us]at own3;have hb3:Below w2 w2 w3:=(aac _ _).grown hg3 (Pe _) (by simp);clear Us hg3
  go_loopw [9] (fun i wr=>∃(j0:Nat) (L:List Nat),i=.int .i64 j0/\j0<=x.length/\Below w2 w2 wr/\kI w2.heap.size g N L wr/\Hid (∀d∈L,d<10)/\Hid (aa 10 L=aa 10 (x.take j0)*aa 10 y)) (fun i _=>x.length-(intOf i).toNat)
  case atStart=>exact⟨0,List.replicate N 0,rfl,by omega,hb3,⟨by simp,by rw[hg]at own3 ⊢;exact own3⟩,fun d hd=>by rw[ab5 hd];omega,by rw[Hid,EB];simp[aa]⟩
  case round=>
   obtain⟨i1,L,rfl,hi1,hbr,hmd,HL,HV⟩:=hrel;by_cases hlt:i1<x.length
   ·go_wp2_with fail
    go_loopw [10,11] (fun cy k wr'=>∃(k0 q:Nat) (L':List Nat),k=.int .i64 k0/\k0<=y.length+1/\cy=.int .i64 q/\q<10/\Below w2 w2 wr'/\kI w2.heap.size g N L' wr'/\Hid (∀d∈L',d<10)/\Hid (aa 10 L'+10 ^ (i1+k0)*q=aa 10 L+10 ^ i1*(x[i1]*aa 10 (y.take k0)))) (fun _ k _=>y.length+1-(intOf k).toNat)
    case atStart=>exact⟨0,0,L,rfl,by omega,rfl,by omega,hbr,hmd,HL,by simp[Hid,aa]⟩
    case round=>
     obtain⟨k0,q,L',rfl,hk0,rfl,hq,Uk,UF,VO,HI⟩:=hrel;have hLn:=UF.1;by_cases hlt2:k0<y.length+1
     ·obtain⟨j,hj⟩:∃j,i1+k0=j:=⟨_,rfl⟩
      have YR:j<L'.length:=(by omega);have hcg:=UF.cell YR;have hfg:=UF.frozen j;have hgB:w2.heap.size<=g:=by omega
      obtain⟨bx,ox,rfl,hblx,UD⟩:=(r1'.below Uk) (by intro e;rw[aaO]at e;rw[e]at hlt;simp at hlt);have hcx:_=some (Value.int .i64 x[i1]):=UD i1 _ (uk hlt);have hay:=fun n=>K4 A2 c2 y k0 _ ((r2.below Uk).drewN n)
      have ha1:=VO.out _ (aag YR);have hx1:=HX.out _ (aag hlt);have hy1:=getD_lt (by omega) HY.out k0;have HST:=Pd (BZ (by omega) hj YR HI.out (cK 10 y k0));clear UD;generalize x[i1]=xi at hcx hx1 HST;generalize L'[j]=a0 at hcg ha1 HST;obtain⟨yk,hyk⟩:∃yk,y.getD k0 0=yk:=⟨_,rfl⟩;rw[hyk]at hy1 HST hay;have hpp1:xi*yk<=9*9:=ab8 (by omega) (by omega);obtain⟨pp,Vf⟩:∃pp,xi*yk=pp:=⟨_,rfl⟩;have hpi:(xi:Int)*(yk:Int)=(pp:Int):=by rw[<-Vf];exact(adY xi yk).symm
      rw[Vf]at hpp1 HST;obtain⟨dd,hdd⟩:∃dd,a0+q+pp=dd:=⟨_,rfl⟩;rw[hdd]at HST;have hdi:(a0:Int)+(pp:Int)+(q:Int)=(dd:Int):=by omega
      have hdb:dd<100:=(by omega);have VI:=Pd (jY (j:=j) VO.out (abR dd (show 10>0 by omega)));have hji:(i1:Int)+(k0:Int)=(j:Int):=by omega
      have jb0:(0:Int)<=(j:Int):=(by omega);have jb1:(j:Int)<(N:Int):=(by omega);have kb0:(0:Int)<=(k0:Int):=(by omega);have kb2:(k0:Int)<=(y.length:Int):=(by omega);have ib0:(0:Int)<=(i1:Int):=(by omega);have ib1:(i1:Int)<(x.length:Int):=(by omega);have q1:IntKind.i64.wrap (pp:Int)=(pp:Int):=by rw[oF];exact acn _ ⟨by omega,by omega⟩
      have q2:IntKind.i64.wrap ((a0:Int)+(pp:Int))=(a0:Int)+(pp:Int):=by rw[oF];exact acn _ ⟨by omega,by omega⟩
      have q3:IntKind.i64.wrap (dd:Int)=(dd:Int):=by rw[oF];exact acn _ ⟨by omega,by omega⟩
      have q4:IntKind.i64.wrap (j:Int)=(j:Int):=by rw[oF];exact acn _ ⟨by omega,by omega⟩
      clear Vf ha1 hj hyk hdd;go_wp2_with fail
      go_quiet (first|(go_at_call 180;refine ab1 (hay _)))
      go_wp2_with fail;have hmq:kI w2.heap.size g N L' (wr.drewN nq):=UF;have hbq:Below w2 w2 (wr.drewN nq):=⟨Uk.os,Uk.tape,Uk.output,Uk.size,Uk.block⟩;have hst:=hmq.store j (dd%10);have hbs:=hbq.setCell (p:=⟨g,j,none⟩) hgB (.int .i64 (dd%10:Nat));have e1:((dd%10:Nat):Int)=(dd:Int)%10:=by omega
      rw[e1]at hst hbs;go_roundw
      case rel=>exact⟨k0+1,dd/10,L'.set j (dd%10),by go_num,by omega,by go_num,by omega,hbs,hst,VI,HST.out⟩
      case measure=>simp[intOf];omega
     ·obtain rfl:k0=y.length+1:=by omega
      have h1:=HI.out;rw[aav (by omega),HV.out]at h1;obtain⟨hq0,hS⟩:=BX (by omega) HX.out HY.out hlt h1;have HS:=Pd hS;clear h1 hq0 hS;go_wp2_with fail;go_roundw
      case rel=>exact⟨i1+1,L',by go_num,by omega,Uk,UF,VO,HS⟩
      case measure=>simp[intOf];omega
   ·obtain rfl:i1=x.length:=by omega
    have hV:=HV.out;rw[aaJ,HVx.out,HVy.out]at hV;have hLn:=hmd.1;have ht:=uI (some ⟨g,0,none⟩) N L wr HL.out hmd.row (by omega) (by intro e;rw[e]at hLn;simp at hLn;omega);rw[hV,hLn]at ht;obtain⟨F,hF⟩:∃F:ByteArray,(⟨(af (m*n)).toArray⟩:ByteArray)=F:=⟨_,rfl⟩;rw[hF]at ht;have hl:=fun W=>Dy F W
    rw[Bt _ F hF]at hl;have hA3:=ae hA2 hbr;clear hV hF hmd hN hNi
    go_wp2_with (first
     |(go_at_call 182;refine ht.mono ?_;rintro e w5 ⟨rfl,b5⟩;have Vx:=ae hA3 b5)
     |(go_at_call 181;refine(hl _).mono ?_;rintro e w6 ⟨rfl,rfl⟩))
    go_returns;unfold aA;rw[HK.out];exact⟨rfl,Vx⟩
 ·refine(LG a b w ha hb hok).mono ?_
  rintro e w' ⟨rfl,rfl⟩;unfold aA mO;rw[aab hok];exact⟨rfl,aac _ _⟩
def Made(B g n:Nat)(L:List Nat)(w:World):Prop:=L.length=n/\w.ownsRow B 231 1 (.slice (some ⟨g,0,none⟩) n n) n (L.map U)
def Made.cell{B g n:Nat}{L:List Nat}{w:World}(h:Made B g n L w){j:Nat}(hj:j<L.length):w.cell? ⟨g,j,none⟩=some (.int .u64 L[j]):=by
 have hn:j<n:=by have:=h.1;omega
 rcases h.2.2 with⟨h',_⟩|⟨g',cap',cur,h',_,hg,_,_,_,htake⟩
 ·simp at h'
 ·simp only[acU,aao,adP,acH,aeg]at h'
  obtain⟨rfl,rfl⟩:=h';rw[aap w g j cur 231 (0,0) hg];have h2:(L.map U)[j]? = some (U L[j]):=gP hj;rw[<-htake,ac2,aaa (by omega)]at h2;simp only[aeJ]at h2;exact h2
def Made.frozen{B g n:Nat}{L:List Nat}{w:World}(h:Made B g n L w)(j:Nat):w.frozen? ⟨g,j,none⟩=false:=aeC h.2 j
def Made.row{B g n:Nat}{L:List Nat}{w:World}(h:Made B g n L w):ay w (some ⟨g,0,none⟩) (L.map U):=fun hne=>by
 have hp:0<L.length:=aaM.2 (fun e=>hne (by rw[e];rfl));refine⟨g,0,rfl,ax (h.cell hp),fun j u hu=>?_⟩;rw[aaP];rcases aaz j L.length with hj|hj
 ·rw[gP hj]at hu
  injection hu with hu
  rw[<-hu];exact h.cell hj
 ·rw[aa4 (by rw[aaC];exact hj)]at hu;cases hu
def Made.store{B g n:Nat}{L:List Nat}{w:World}(h:Made B g n L w)(j v:Nat):Made B g n (L.set j v) (w.setCell ⟨g,j,none⟩ (.int .u64 v)):=by
 refine⟨by rw[abh];exact h.1,?_⟩;rw[ac3];exact(ae3 h.2 j (U v)).1
def JH(a b:ByteArray)(w:World)(hT:bK w)(ha:a.size<=9223372036854775807)(hb:b.size<=9223372036854775807) :
  Calls Tryz.prog 172 #[.string a,.string b] w (aA w (mO a.data.toList b.data.toList)):=by
 by_cases hok:aj a.data.toList=true/\aj b.data.toList=true
 ·obtain⟨hoa,TF⟩:=hok
  have HK:Hid (mO a.data.toList b.data.toList=jv (ag a.data.toList*ag b.data.toList)):=by unfold Hid mO;rw[aaa ⟨hoa,TF⟩]
  have va:=fun W=>gI a W ha
  have vb:=fun W=>gI b W hb
  rw[hoa]at va;rw[TF]at vb;have ba:=fun W=>mP a W hoa
  have bb:=fun W=>mP b W TF
  have la:=mR hoa;have lb:=mR TF;generalize ag a.data.toList=m at*;generalize ag b.data.toList=n at*;clear hoa TF;obtain⟨i0,hi,hz0,hz1,hz2⟩:=abm rZ;have hA:Below w w w:=aac _ _;go_enter Tryz.func172,Tryz.ntmps172;go_wp2_with (first|(go_at_call_of 192 (Value.string a);refine(va _).mono ?_;rintro e w2 ⟨rfl,rfl⟩)|(go_at_call_of 192 (Value.string b);refine(vb _).mono ?_;rintro e w2 ⟨rfl,rfl⟩));refine(ba _).mono ?_;rintro e w1 ⟨A1,c1,rfl,h1,r1,b1⟩;have hA1:=ae hA b1;go_wp2_with fail;refine(bb _).mono ?_;rintro e w2 ⟨A2,c2,rfl,h2,r2,b2⟩;have hA2:=ae hA1 b2;have r1':=r1.below b2;clear r1;have hxl:=aCp m;have hyl:=aCp n;have HVx:=Pd (gM m);have HVy:=Pd (gM n);have HX:=Pd hxl;have HY:=Pd hyl;have l3:=FJ la lb;clear hxl hyl;generalize blk m=x at*;generalize blk n=y at*;obtain⟨N,hN⟩:∃N,x.length+y.length+1=N:=⟨_,rfl⟩;have hNi:(x.length:Int)+(y.length:Int)+1=(N:Int):=by omega
  obtain⟨g,hg⟩:∃g,w2.heap.size=g:=⟨_,rfl⟩;go_wp2_with (at_make;refine afS _ rfl (.tmp 30) (.tmp 30) 229 rfl w2.heap.size 231 i0 (.int .u64 0) 1 abf hi hz0 hz1 .i64 .i64 _ _ N rfl rfl (by omega) (by omega) (by rw[hz2];omega) (by unfold maxLen;omega) (Pe _) ?_;intro w3 own3 hg3);have Us:(madeCells (Value.int .u64 0).cells (N*1)).toList=(List.replicate N 0).map U:=by
   rw[acN,ad5];exact ae5 (.int .u64 0) N
  rw[Us]at own3;have hb3:Below w2 w2 w3:=(aac _ _).grown hg3 (Pe _) (by simp);clear Us hg3;have hrx:=r1'.below hb3;have hry:=r2.below hb3
  go_loopw [34] (fun i wr=>∃(j0:Nat) (L:List Nat),i=.int .i64 j0/\j0<=x.length/\Below w2 w2 wr/\Made w2.heap.size g N L wr/\Hid (∀d∈L,d<BB)/\Hid (aa BB L=aa BB (x.take j0)*aa BB y)) (fun i _=>x.length-(intOf i).toNat)
  case atStart=>exact⟨0,List.replicate N 0,rfl,by omega,hb3,⟨by simp,by rw[hg]at own3 ⊢;exact own3⟩,fun d hd=>by rw[ab5 hd];exact aC,by rw[Hid,EB];simp[aa]⟩
  case round=>
   obtain⟨i1,L,rfl,hi1,hbr,hmd,HL,HV⟩:=hrel;by_cases hlt:i1<x.length
   ·have hV0:=HV.out
    go_wp2_with fail
    go_loopw [10,40] (fun cy k wr'=>∃(k0 q:Nat) (L':List Nat),k=.int .i64 k0/\k0<=y.length+1/\cy=.int .u64 q/\q<1000000000/\Below w2 w2 wr'/\Made w2.heap.size g N L' wr'/\Hid (∀d∈L',d<BB)/\Hid (aa BB L'+BB ^ (i1+k0)*q=aa BB L+BB ^ i1*(x[i1]*aa BB (y.take k0)))) (fun _ k _=>y.length+1-(intOf k).toNat)
    case atStart=>exact⟨0,0,L,rfl,by omega,rfl,by omega,hbr,hmd,HL,by simp[Hid,aa]⟩
    case round=>
     obtain⟨k0,q,L',rfl,hk0,rfl,hq,Uk,UF,VO,HI⟩:=hrel;have hLn:=UF.1;by_cases hlt2:k0<y.length+1
     ·obtain⟨j,hj⟩:∃j,i1+k0=j:=⟨_,rfl⟩
      have YR:j<L'.length:=(by omega);have hcg:=UF.cell YR;have hfg:=UF.frozen j;have hgB:w2.heap.size<=g:=by omega
      obtain⟨bx,ox,rfl,hblx,UD⟩:=(r1'.below Uk) (by intro e;rw[aaO]at e;rw[e]at hlt;simp at hlt);have hcx:_=some (Value.int .u64 x[i1]):=UD i1 _ (gP hlt);have ha1:=VO.out _ (aag YR);have hx1:=HX.out _ (aag hlt);have hy1:=getD_lt aC HY.out k0;have hsq:=EM ha1 (show q<BB from hq) hx1 hy1;have HST:=Pd (BZ aC hj YR HI.out (cK BB y k0));clear UD;generalize x[i1]=xi at hcx hx1 hsq HST;generalize L'[j]=a0 at hcg ha1 hsq HST;obtain⟨yk,hyk⟩:∃yk,y.getD k0 0=yk:=⟨_,rfl⟩;rw[hyk]at hy1 hsq HST;obtain⟨pp,Vf⟩:∃pp,xi*yk=pp:=⟨_,rfl⟩;have hpi:(xi:Int)*(yk:Int)=(pp:Int):=by rw[<-Vf];exact(adY xi yk).symm
      rw[Vf]at hsq HST;obtain⟨hs1,hs2⟩:=hsq;have HS2:=Pd hs2;have VI:=Pd (jY (j:=j) VO.out (abR (a0+q+pp) aC));have ha2:a0<1000000000:=ha1;have hji:(i1:Int)+(k0:Int)=(j:Int):=by omega
      have jb0:(0:Int)<=(j:Int):=(by omega);have jb1:(j:Int)<(N:Int):=(by omega);have kb0:(0:Int)<=(k0:Int):=(by omega);have ib0:(0:Int)<=(i1:Int):=(by omega);have ib1:(i1:Int)<(x.length:Int):=(by omega);have HJ:=Pd hj;have hst:=UF.store j ((a0+q+pp)%BB);have XE:Made w2.heap.size g N (L'.set j ((a0+q+pp)%BB)) (World.drew _ |>.setCell ⟨g,j,none⟩ (.int .u64 ((a0+q+pp)%BB:Nat))):=hst;have HV1:Hid ((((a0+q+pp)%BB:Nat):Int)=((a0:Int)+(q:Int)+(pp:Int))%1000000000):=by unfold Hid BB;omega
      have Vu:Hid ((((a0+q+pp)/BB:Nat):Int)=((a0:Int)+(q:Int)+(pp:Int))/1000000000):=by unfold Hid BB;omega
      have hbs:=Uk.setCell (p:=⟨g,j,none⟩) hgB (.int .u64 ((a0+q+pp)%BB:Nat));have aCd:=Uk.drew.setCell (p:=⟨g,j,none⟩) hgB (.int .u64 ((a0+q+pp)%BB:Nat));rw[HV1.out]at hst XE hbs aCd;have hp0:yk=0->pp=0:=fun h=>by rw[<-Vf,h];rfl
      clear hs2 Vf ha1 hj;by_cases hky:k0<y.length
      ·obtain⟨by',oy,rfl,hbly,WM⟩:=(r2.below Uk) (by intro e;rw[aaO]at e;rw[e]at hky;simp at hky)
       have hcy:wr.cell? ⟨by',oy+k0,none⟩=some (.int .u64 yk):=by rw[<-hyk,kv hky];exact WM k0 _ (gP hky)
       have kb1:(k0:Int)<(y.length:Int):=(by omega);have q1:IntKind.u64.wrap ((pp:Int))=(pp:Int):=by rw[aa9];omega
       have q2:IntKind.u64.wrap ((a0:Int)+(q:Int)+(pp:Int))=(a0:Int)+(q:Int)+(pp:Int):=by rw[aa9];omega
       clear WM hyk hp0;go_wp2_with fail
       go_region_held3 (fun w'=>w'.cell? ⟨bx,ox+i1,none⟩=some (.int .u64 xi)/\w'.cell? ⟨by',oy+k0,none⟩=some (.int .u64 yk)/\w'.cell? ⟨g,j,none⟩=some (.int .u64 a0)/\w'.frozen? ⟨g,j,none⟩=false) (first|assumption|exact⟨hcx,hcy,hcg,hfg⟩) (fail)
       all_goals go_wp2_with fail
       all_goals go_roundw
       all_goals first
        |(case rel=>exact⟨k0+1,(a0+q+pp)/BB,L'.set j ((a0+q+pp)%BB),by go_num,by omega,by rw[Vu.out],HS2.out,aCd,XE,VI.out,HST.out⟩)
        |(case measure=>simp[intOf];omega)
      ·have hyk0:yk=0:=by rw[<-hyk,eB (by omega)]
       obtain rfl:=hp0 hyk0;clear hyk;go_wp2_with fail;go_roundw
       case rel=>exact⟨k0+1,(a0+q+0)/BB,L'.set j ((a0+q+0)%BB),by go_num,by omega,by rw[Vu.out];simp,HS2.out,by simpa using hbs,by simpa using hst,VI.out,HST.out⟩
       case measure=>simp[intOf];omega
     ·obtain rfl:k0=y.length+1:=by omega
      have h1:=HI.out;rw[aav (by omega),HV.out]at h1;obtain⟨hq0,hS⟩:=BX aC HX.out HY.out hlt h1;have HS:=Pd hS;clear h1 hq0 hS;go_wp2_with fail;go_roundw
      case rel=>exact⟨i1+1,L',by go_num,by omega,Uk,UF,VO,HS⟩
      case measure=>simp[intOf];omega
   ·obtain rfl:i1=x.length:=by omega
    have hV:=HV.out;rw[aaJ,HVx.out,HVy.out]at hV;have hLn:=hmd.1;have hrow:=hmd.row;have HT:Hid (aV L=blk (m*n)):=by rw[Hid,qC dN HL.out,hV];rfl
    have ht:=pu (some ⟨g,0,none⟩) N L wr hrow (by omega) (by omega);have Um:=Pd (oz L);have hrt:=hrow.take (aV L).length;rw[<-adv,<-Um.out,HT.out]at hrt;rw[hLn,HT.out]at ht;have hAw:=ae hA2 hbr;have hlim:=Bu (some ⟨g,0,none⟩) N (m*n) wr (hT.below hAw) hrt (by omega);clear hV hrow hrt hmd
    go_wp2_with (first
     |(go_at_call 195;refine ht.mono ?_;rintro e wx ⟨rfl,rfl⟩)
     |(go_at_call 194;refine hlim.mono ?_;rintro e wx ⟨rfl,hbx⟩;have hAx:=ae hAw hbx))
    go_returns;unfold aA;rw[HK.out];exact⟨rfl,hAx⟩
 ·refine(JI a b w ha hb hok).mono ?_
  rintro e w' ⟨rfl,rfl⟩;unfold aA mO;rw[aab hok];exact⟨rfl,aac _ _⟩
end Go.Proofs.YtppnecgeboonbaaGreatDoor.Rat3
