/- Walks. -/
import Derived.Test.YtppnecgeboonbaaGreatDoorZ19
namespace Go.Proofs.YtppnecgeboonbaaGreatDoor
set_option maxRecDepth 100000
set_option linter.all false
set_option maxHeartbeats 4000000
open Go.RowKit
def IV(x:Int):Value:=.int .i64 x
def DI{α:Type}{f:α->Value}{w:World}{A:Option Addr}{l:List α}(h:ay w A (l.map f)){k:Nat}(hk:k<l.length):∃b o,A=some ⟨b,o,none⟩/\b<w.heap.size/\w.cell? ⟨b,o+k,none⟩=some (f l[k]):=by
 obtain⟨b,o,rfl,hlt,hcell⟩:=h (by intro e;rw[aaO]at e;subst e;simp at hk);exact⟨b,o,rfl,hlt,hcell k _ (by rw[abA,aak hk];rfl)⟩
def OI{s:Int}:aBU s=true↔0<=s/\s<=500:=by unfold aBU;simp
def uZ{k:Int}{n:Nat}{a:aO}(h:¬ ((0<=a.inn/\a.inn<=500)/\(0<=a.out/\a.out<=500)/\(0<=a.to/\a.to<n)/\bg k a.w=true)):dZ k n a=false:=by
 cases e:dZ k n a with
 |false=>rfl
 |true=>
  rw[mh,OI,OI]at e;exact absurd e h
def OJ{k:Int}{n:Nat}{a:aO}(h:(0<=a.inn/\a.inn<=500)/\(0<=a.out/\a.out<=500)/\(0<=a.to/\a.to<n)/\bg k a.w=true):dZ k n a=true:=by
 rw[mh,OI,OI];exact h
def Ou{x:List Int}(h1:x.length<=200)(h:∀s∈x.take x.length,decide (1<=s/\s<=500)=true):iY x=true:=by
 rw[aaJ]at h;unfold iY;rw[aaA h1,aaT.2 h];rfl
def Ow{x:List Int}{k:Nat}(hk:k<x.length)(h:¬ (1<=x[k]/\x[k]<=500)):iY x=false:=by
 unfold iY;rw[p8 hk (aai h),Bool.and_false]
def Ov{x:List Int}(h:¬ x.length<=200):iY x=false:=by unfold iY;rw[aai h];rfl
def DT(A:Option Addr)(c:Nat)(x:List Int)(w:World)(hV:ay w A (x.map IV)):Calls Tryz.prog 27 #[.slice A x.length c] w fun e w'=>e=.returned (.bool (iY x))/\w=w':=by
 have HV:=Pd hV;clear hV;by_cases hl:x.length<=200
 ·have d1:(x.length:Int)<=200:=by omega
  go_enter Tryz.func27,Tryz.ntmps27;go_wp2_with fail
  go_loopw [3] (fun i wr=>∃(k:Nat),i=.int .i64 k/\k<=x.length/\w=wr/\Hid (∀s∈x.take k,decide (1<=s/\s<=500)=true)) (fun i _=>x.length-(intOf i).toNat)
  case atStart=>exact⟨0,rfl,by omega,rfl,by simp[Hid]⟩
  case round=>
   obtain⟨k,rfl,hk,rfl,HN⟩:=hrel;by_cases hlt:k<x.length
   ·obtain⟨b,o,rfl,hbl,hc0⟩:=DI HV.out hlt
    have HF:Hid (¬ (1<=x[k]/\x[k]<=500)->iY x=false):=Ow hlt;have HT:Hid (decide (1<=x[k]/\x[k]<=500)=true->∀s∈x.take (k+1),decide (1<=s/\s<=500)=true):=allT hlt HN.out;unfold IV at hc0;generalize x[k]=s at*;have i0:(0:Int)<=(k:Int):=by omega
    have il:(k:Int)<(x.length:Int):=by omega
    by_cases h1:s<1
    ·have HX:=Pd (HF.out (by omega))
     go_wp2_with fail;go_returns;exact⟨by rw[HX.out];(try rfl),rfl⟩
    have h1':1<=s:=by omega
    by_cases h5:500<s
    ·have HX:=Pd (HF.out (by omega))
     clear h1;go_wp2_with fail;go_returns;exact⟨by rw[HX.out];(try rfl),rfl⟩
    have h5':s<=500:=(by omega);have HX:=Pd (HT.out (aaA ⟨h1',h5'⟩));clear h1 h5;go_wp2_with fail;go_roundw
    case rel=>exact⟨k+1,by go_num,by omega,by trivial,HX.out⟩
    case measure=>simp[intOf];omega
   ·obtain rfl:k=x.length:=by omega
    have HX:=Pd (Ou hl HN.out);go_wp2_with fail;go_returns;exact⟨by rw[HX.out];(try rfl),rfl⟩
 ·have d1:200<(x.length:Int):=by omega
  have HX:=Pd (Ov hl);clear hl;go_enter Tryz.func27,Tryz.ntmps27;go_wp2_with fail;go_returns;exact⟨by rw[HX.out];(try rfl),rfl⟩
def dA{w w2 w3:World}(h:Below w w w2)(h2:Below w2 w2 w3):Below w w w3:=ae h h2
def yL(m:aQ)(A:Option Addr)(c:Nat)(w:World)(hV:dY w A m.states)(hl:m.states.length<=140737488355328)(Uu:m.lead.length<=9223372036854775807)(hsw:oH 9223372036854775807 m.states):Calls Tryz.prog 28 #[di m A c] w fun e w'=>e=.returned (.bool (bM m))/\Below w w w':=by
 have Uo:Hid (¬ l9 m->bM m=false):=BD;have TZ:Hid (l9 m->jB m m.states.length->bM m=true):=Bz;have HZ:Hid (jB m 0):=BH m;have TL:Hid (∀i,30000<dh (m.states.take i)->bM m=false):=fun i=>BC
 have Ug:Hid (∀i,(hi:i<m.states.length)->aBP m.kind m.states.length m.states[i]=false->bM m=false):=fun i hi=>BF hi
 have UV:Hid (∀i,(hi:i<m.states.length)->jB m i->aBP m.kind m.states.length m.states[i]=true->dh (m.states.take (i+1))<=30000->jB m (i+1)):=fun i hi=>BG hi
 have HV:=Pd hV;have HW:=Pd hsw;have HM:Hid (l9 m↔kindOk m.kind=true/\(1<=m.states.length/\m.states.length<=3000/\0<=m.start/\m.start<m.states.length)/\bg m.kind m.lead=true):=Iff.rfl;unfold di S;generalize bM m=R at*;generalize l9 m=MH at*;obtain⟨MT,hMT⟩:∃MT,jB m=MT:=⟨_,rfl⟩;rw[hMT]at TZ HZ UV;clear hV hsw hMT;obtain⟨kd,st,ld,ss⟩:=m;simp only at*;obtain⟨Ld,TJ⟩:∃Ld:ByteArray,(⟨ld.toArray⟩:ByteArray)=Ld:=⟨_,rfl⟩;have WA:ld=Ld.data.toList:=by rw[<-TJ]
 rw[TJ];subst WA;have hLs:Ld.size<=9223372036854775807:=by rw[aae];exact Uu
 clear TJ Uu;have z0:=az w #[.int .i64 kd,.int .i64 st,.string Ld,.slice A ss.length c] 30 0 _ rfl;have z1:=az w #[.int .i64 kd,.int .i64 st,.string Ld,.slice A ss.length c] 30 1 _ rfl;have z2:=az w #[.int .i64 kd,.int .i64 st,.string Ld,.slice A ss.length c] 30 2 _ rfl;have z3:=az w #[.int .i64 kd,.int .i64 st,.string Ld,.slice A ss.length c] 30 3 _ rfl;have hb0:Below w w (w.alloc (.cells #[.int .i64 kd,.int .i64 st,.string Ld,.slice A ss.length c] 30)):=(aac _ _).alloc (Pe _) _;have hn0:w.heap.size<(w.alloc (.cells #[.int .i64 kd,.int .i64 st,.string Ld,.slice A ss.length c] 30)).heap.size:=by simp
 have pk:=fun W=>uJ kd W
 by_cases hg:kindOk kd=true/\1<=ss.length/\ss.length<=3000/\0<=st/\st<(ss.length:Int)
 rotate_left
 ·have HX:=Pd (Uo.out (fun hh=>hg (by have hh:=HM.out.1 hh;exact⟨hh.1,hh.2.1⟩)))
  have hg:kindOk kd=false\/(kindOk kd=true/\(ss.length:Int)<1)\/(kindOk kd=true/\(1:Int)<=(ss.length:Int)/\(3000:Int)<(ss.length:Int))\/(kindOk kd=true/\(1:Int)<=(ss.length:Int)/\(ss.length:Int)<=3000/\st<0)\/(kindOk kd=true/\(1:Int)<=(ss.length:Int)/\(ss.length:Int)<=3000/\0<=st/\(ss.length:Int)<=st):=by
   cases hk:kindOk kd with
   |false=>exact aam rfl
   |true=>have h2:¬ (1<=ss.length/\ss.length<=3000/\0<=st/\st<(ss.length:Int)):=(fun h=>hg ⟨hk,h⟩);simp only[aeg];right;omega
  clear HV HW TL Ug UV TZ HZ HM Uo;generalize kindOk kd=kb at pk hg;rcases hg with rfl|⟨rfl,d1⟩|⟨rfl,d1,d2⟩|⟨rfl,d1,d2,d3⟩|⟨rfl,d1,d2,d3,d4⟩
  all_goals
   go_enter Tryz.func28,Tryz.ntmps28;go_wp2_with fail;generalize w.alloc (.cells #[.int .i64 kd,.int .i64 st,.string Ld,.slice A ss.length c] 30)=w0 at*;refine(pk _).mono ?_;rintro e w1 ⟨rfl,rfl⟩;go_wp2_with fail;go_returns;exact⟨by rw[HX.out];(try rfl),hb0⟩
 obtain⟨hk,c1,c2,d3,d4⟩:=hg;have d1:(1:Int)<=(ss.length:Int):=by omega
 have d2:(ss.length:Int)<=3000:=by omega
 clear c1 c2;have pw:=fun W=>wB kd Ld W hLs
 cases hw:bg kd Ld.data.toList with
 |false=>
  have HX:=Pd (Uo.out (fun hh=>by have hh:=HM.out.1 hh;rw[hw]at hh;exact absurd hh.2.2 (by simp)));rw[hw]at pw;rw[hk]at pk;clear hk hw HV HW TL Ug UV TZ HZ HM Uo;go_enter Tryz.func28,Tryz.ntmps28;go_wp2_with fail;generalize w.alloc (.cells #[.int .i64 kd,.int .i64 st,.string Ld,.slice A ss.length c] 30)=w0 at*;refine(pk _).mono ?_;rintro e w1 ⟨rfl,rfl⟩;go_wp2_with fail;refine(pw _).mono ?_;rintro e w2 ⟨rfl,b2⟩;go_wp2_with fail;go_returns;exact⟨by rw[HX.out];(try rfl),ae hb0 b2⟩
 |true=>
  have HMH:=Pd (HM.out.2 ⟨hk,⟨by omega,by omega,d3,d4⟩,hw⟩);rw[hw]at pw;rw[hk]at pk;clear hw HM Uo;go_enter Tryz.func28,Tryz.ntmps28;go_wp2_with fail;generalize w.alloc (.cells #[.int .i64 kd,.int .i64 st,.string Ld,.slice A ss.length c] 30)=w0 at*;refine(pk _).mono ?_;rintro e w1 ⟨rfl,rfl⟩;go_wp2_with fail;refine(pw _).mono ?_;rintro e w2 ⟨rfl,b2⟩;have TI:=ae hb0 b2;have q0:=(b2.cell (p:=⟨w.heap.size,0,none⟩) hn0).trans z0;have q3:=(b2.cell (p:=⟨w.heap.size,3,none⟩) hn0).trans z3;have hn2:w.heap.size<w2.heap.size:=aah hn0 b2.size;have hsz:=TI.size;clear z0 z1 z2 z3 b2 hb0 hn0 pw pk;go_wp2_with fail
  go_loopw [3,4] (fun n i wr=>∃(k:Nat),n=.int .i64 (dh (ss.take k))/\i=.int .i64 k/\k<=ss.length/\Below w2 w2 wr/\Hid (MT k/\dh (ss.take k)<=30000)) (fun _ i _=>ss.length-(intOf i).toNat)
  case atStart=>exact⟨0,rfl,rfl,by omega,aac _ _,HZ.out,by simp[dh]⟩
  case round=>
   obtain⟨k,rfl,rfl,hk',hB,HN⟩:=hrel;by_cases hlt:k<ss.length
   ·obtain⟨b,o,rfl,hbl,hc0,A',c',hc1,TK⟩:=HV.out k hlt
    have VH:=Pd TK;have hnt:=sW hlt;have HE:Hid (dh (ss.take (k+1))=dh (ss.take k)+ss[k].arcs.length):=hnt;have ZL:Hid (30000<dh (ss.take k)+ss[k].arcs.length->R=false):=by have:=TL.out (k+1);rw[hnt]at this;exact this
    have hwk:=HW.out _ (aag hlt);have Yg:=Pd (Ug.out k hlt);have ZP:Hid (aBP kd ss.length ss[k]=true->dh (ss.take k)+ss[k].arcs.length<=30000->MT (k+1)):=by have:=UV.out k hlt HN.out.1;rw[hnt]at this;exact this
    clear hnt;have hN0:=HN.out.2;generalize dh (ss.take k)=N0 at*;generalize ss[k]=s at*;obtain⟨fin,arcs⟩:=s;simp only at*;obtain⟨Fn,hFn⟩:∃Fn:ByteArray,(⟨fin.toArray⟩:ByteArray)=Fn:=⟨_,rfl⟩;have Wy:fin=Fn.data.toList:=by rw[<-hFn]
    unfold S at hc0;rw[hFn]at hc0;subst Wy;have Uy:Fn.size<=9223372036854775807:=by rw[aae];exact hwk.1
    have hWa:=Pd hwk.2.1;have haL:=hwk.2.2;have k0:=(hB.cell (p:=⟨b,o+k*2,none⟩) (aah hbl hsz)).trans ((TI.cell (p:=⟨b,o+k*2,none⟩) hbl).trans hc0);have k1:=(hB.cell (p:=⟨b,o+k*2+1,none⟩) (aah hbl hsz)).trans ((TI.cell (p:=⟨b,o+k*2+1,none⟩) hbl).trans hc1);have m0:=(hB.cell (p:=⟨w.heap.size,0,none⟩) hn2).trans q0;have m3:=(hB.cell (p:=⟨w.heap.size,3,none⟩) hn2).trans q3;have i0:(0:Int)<=(k:Int):=by omega
    have il:(k:Int)<(ss.length:Int):=(by omega);have e0:=az wr #[.string Fn,.slice A' arcs.length c'] 75 0 _ rfl;have e1:=az wr #[.string Fn,.slice A' arcs.length c'] 75 1 _ rfl;have bC:=hB.alloc hB.size (.cells #[.string Fn,.slice A' arcs.length c'] 75);have hnr:wr.heap.size<(wr.alloc (.cells #[.string Fn,.slice A' arcs.length c'] 75)).heap.size:=by simp
    have j0:=(bC.cell (p:=⟨w.heap.size,0,none⟩) hn2).trans q0;have j3:=(bC.cell (p:=⟨w.heap.size,3,none⟩) hn2).trans q3;have s1:(N0:Int)+(arcs.length:Int)<=140737488400000:=by omega
    have s0:(0:Int)<=(N0:Int)+(arcs.length:Int):=(by omega);have hrs:=hB.size;clear hFn hwk hc0 hc1 hN0 TL Ug UV HZ HV HW TK;by_cases hlong:30000<N0+arcs.length
    ·have g1:(30000:Int)<(N0:Int)+(arcs.length:Int):=by omega
     have HX:=Pd (ZL.out hlong);clear hlong;go_wp2_with fail;go_returns;exact⟨by rw[HX.out];(try rfl),dA TI bC⟩
    have g1:(N0:Int)+(arcs.length:Int)<=30000:=(by omega);have Wn:=Pd (fun h=>ZP.out h (by omega:N0+arcs.length<=30000));clear hlong ZL ZP;by_cases hfn:Fn.size=0
    case' pos=>
     have t1:(Fn.toList != [])=false:=rf (fF hfn);have t1':(Fn.toList==[])=true:=iR (fF hfn);have HFin:Hid (Fn.data.toList=[]\/bg kd Fn.data.toList=true):=aam (fF hfn);have hem:=jF hfn;clear hfn;go_wp2_with fail;generalize wr.alloc (.cells #[.string Fn,.slice A' arcs.length c'] 75)=w3 at*;have w3b:=bC
    case' neg=>
     have t1:(Fn.toList != [])=true:=rq (gB hfn);have t1':(Fn.toList==[])=false:=iT (gB hfn);have hem:=jI hfn;have pf:=fun W=>wB kd Fn W Uy
     cases hwf:bg kd Fn.data.toList
     case' false=>
      have HX:=Pd (Yg.out (Eg (gB hfn) hwf));rw[hwf]at pf;clear hfn hwf;go_wp2_with fail;refine(pf _).mono ?_;rintro e w4 ⟨rfl,b4⟩;go_wp2_with fail;go_returns;exact⟨by rw[HX.out];(try rfl),ae (dA TI bC) b4⟩
     case' true=>
      have HFin:Hid (Fn.data.toList=[]\/bg kd Fn.data.toList=true):=aad hwf;rw[hwf]at pf;clear hfn hwf;go_wp2_with fail;generalize wr.alloc (.cells #[.string Fn,.slice A' arcs.length c'] 75)=wx at*;refine(pf _).mono ?_;rintro e w3 ⟨rfl,b4⟩;have w3b:=bC.trans (b4.mono bC.size);have e0':=(b4.cell (p:=⟨wr.heap.size,0,none⟩) hnr).trans e0;have e1':=(b4.cell (p:=⟨wr.heap.size,1,none⟩) hnr).trans e1;have j0':=(b4.cell (p:=⟨w.heap.size,0,none⟩) (aah hn2 bC.size)).trans j0;have j3':=(b4.cell (p:=⟨w.heap.size,3,none⟩) (aah hn2 bC.size)).trans j3;have WT:wr.heap.size<w3.heap.size:=aah hnr b4.size;clear e0 e1 j0 j3 hnr bC b4 pf;have e0:=e0';have e1:=e1';have j0:=j0';have j3:=j3';have hnr:=WT;clear e0' e1' j0' j3' WT;go_wp2_with fail
    all_goals
     obtain⟨wo,hwo⟩:∃W,W=wr:=⟨_,rfl⟩;subst hwo
     go_loopw [6] (fun i wt=>∃(j:Nat),i=.int .i64 j/\j<=arcs.length/\Below w2 w2 wt/\Below w3 w3 wt/\Hid (∀a∈arcs.take j,dZ kd ss.length a=true)) (fun i _=>arcs.length-(intOf i).toNat)
     case atStart=>exact⟨0,rfl,by omega,w3b,aac _ _,by simp[Hid]⟩
     case round=>
      obtain⟨j,rfl,hj,hB2,hB3,HJ⟩:=hrel;by_cases hjl:j<arcs.length
      ·obtain⟨b',o',rfl,TH,ha0,ha1,ha2,UJ⟩:=VH.out j hjl
       have WX:=hWa.out _ (aag hjl);have Wl:Hid (dZ kd ss.length arcs[j]=false->R=false):=fun h=>Yg.out (wO hjl h)
       have Ws:Hid (dZ kd ss.length arcs[j]=true->∀a∈arcs.take (j+1),dZ kd ss.length a=true):=allT hjl HJ.out;generalize arcs[j]=a at*;have HF:Hid (¬ ((0<=a.inn/\a.inn<=500)/\(0<=a.out/\a.out<=500)/\(0<=a.to/\a.to<ss.length)/\bg kd a.w=true)->R=false):=fun h=>Wl.out (uZ h)
       have HT2:Hid ((0<=a.inn/\a.inn<=500)/\(0<=a.out/\a.out<=500)/\(0<=a.to/\a.to<ss.length)/\bg kd a.w=true->∀a∈arcs.take (j+1),dZ kd ss.length a=true):=fun h=>Ws.out (OJ h)
       obtain⟨x,y,wt',tg⟩:=a;simp only at*;obtain⟨Wt,Ue⟩:∃Wt:ByteArray,(⟨wt'.toArray⟩:ByteArray)=Wt:=⟨_,rfl⟩;have UA:wt'=Wt.data.toList:=by rw[<-Ue]
       unfold S at ha2;rw[Ue]at ha2;subst UA;have hWs:Wt.size<=9223372036854775807:=by rw[aae];exact WX
       have hb2':b'<w2.heap.size:=aah TH hsz;have u0:=(hB2.cell (p:=⟨b',o'+j*4,none⟩) hb2').trans ((TI.cell (p:=⟨b',o'+j*4,none⟩) TH).trans ha0);have u1:=(hB2.cell (p:=⟨b',o'+j*4+1,none⟩) hb2').trans ((TI.cell (p:=⟨b',o'+j*4+1,none⟩) TH).trans ha1);have u2:=(hB2.cell (p:=⟨b',o'+j*4+2,none⟩) hb2').trans ((TI.cell (p:=⟨b',o'+j*4+2,none⟩) TH).trans ha2);have u3:=(hB2.cell (p:=⟨b',o'+j*4+3,none⟩) hb2').trans ((TI.cell (p:=⟨b',o'+j*4+3,none⟩) TH).trans UJ);have v1:=(hB3.cell (p:=⟨wo.heap.size,1,none⟩) hnr).trans e1;have ij0:(0:Int)<=(j:Int):=by omega
       have ijl:(j:Int)<(arcs.length:Int):=(by omega);have bE:=hB2.alloc hB2.size (.cells #[.int .i64 x,.int .i64 y,.string Wt,.int .i64 tg] 77);have f0:=az wr #[.int .i64 x,.int .i64 y,.string Wt,.int .i64 tg] 77 0 _ rfl;have f1:=az wr #[.int .i64 x,.int .i64 y,.string Wt,.int .i64 tg] 77 1 _ rfl;have f2:=az wr #[.int .i64 x,.int .i64 y,.string Wt,.int .i64 tg] 77 2 _ rfl;have f3:=az wr #[.int .i64 x,.int .i64 y,.string Wt,.int .i64 tg] 77 3 _ rfl;have p0:=(bE.cell (p:=⟨w.heap.size,0,none⟩) hn2).trans q0;have p3:=(bE.cell (p:=⟨w.heap.size,3,none⟩) hn2).trans q3;have b3E:=hB3.alloc hB3.size (.cells #[.int .i64 x,.int .i64 y,.string Wt,.int .i64 tg] 77);clear ha0 ha1 ha2 UJ Ue WX Wl Ws;by_cases g2:x<0
       ·have HX:=Pd (HF.out (fun hh=>by omega))
        clear HF HT2;go_wp2_with fail;go_returns;exact⟨by rw[HX.out];(try rfl),dA TI bE⟩
       have d5:0<=x:=(by omega);clear g2;by_cases g3:500<x
       ·have HX:=Pd (HF.out (fun hh=>by omega))
        clear HF HT2;go_wp2_with fail;go_returns;exact⟨by rw[HX.out];(try rfl),dA TI bE⟩
       have d6:x<=500:=(by omega);clear g3;by_cases g4:y<0
       ·have HX:=Pd (HF.out (fun hh=>by omega))
        clear HF HT2;go_wp2_with fail;go_returns;exact⟨by rw[HX.out];(try rfl),dA TI bE⟩
       have d7:0<=y:=(by omega);clear g4;by_cases g5:500<y
       ·have HX:=Pd (HF.out (fun hh=>by omega))
        clear HF HT2;go_wp2_with fail;go_returns;exact⟨by rw[HX.out];(try rfl),dA TI bE⟩
       have d8:y<=500:=(by omega);clear g5;by_cases g6:tg<0
       ·have HX:=Pd (HF.out (fun hh=>by omega))
        clear HF HT2;go_wp2_with fail;go_returns;exact⟨by rw[HX.out];(try rfl),dA TI bE⟩
       have d9:0<=tg:=(by omega);clear g6;by_cases g7:(ss.length:Int)<=tg
       ·have HX:=Pd (HF.out (fun hh=>by omega))
        clear HF HT2;go_wp2_with fail;go_returns;exact⟨by rw[HX.out];(try rfl),dA TI bE⟩
       have d10:tg<(ss.length:Int):=(by omega);clear g7;have pa:=fun W=>wB kd Wt W hWs
       cases Ur:bg kd Wt.data.toList with
       |false=>
        have HX:=Pd (HF.out (fun hh=>by rw[Ur]at hh;exact absurd hh.2.2.2 (by simp)));rw[Ur]at pa;clear HF HT2 Ur;go_wp2_with fail;refine(pa _).mono ?_;rintro e w5 ⟨rfl,b5⟩;go_wp2_with fail;go_returns;exact⟨by rw[HX.out];(try rfl),ae (dA TI bE) b5⟩
       |true=>
        have HX:=Pd (HT2.out ⟨⟨by omega,by omega⟩,⟨by omega,by omega⟩,⟨by omega,by omega⟩,Ur⟩);rw[Ur]at pa;clear HF HT2 Ur;go_wp2_with fail;refine(pa _).mono ?_;rintro e w5 ⟨rfl,b5⟩;have bF:=bE.trans (b5.mono bE.size);have bG:=b3E.trans (b5.mono b3E.size);go_wp2_with fail;go_roundw
        case rel=>exact⟨j+1,by go_num,by omega,bF,bG,HX.out⟩
        case measure=>simp[intOf];omega
      ·obtain rfl:j=arcs.length:=by omega
       have HX:=Pd (Wn.out (wM HFin.out HJ.out));have v1:=(hB3.cell (p:=⟨wo.heap.size,1,none⟩) hnr).trans e1;go_wp2_with fail;go_roundw
       case rel=>exact⟨k+1,by rw[HE.out];go_num,by go_num,by omega,hB2,HX.out,by rw[HE.out];omega⟩
       case measure=>simp[intOf];omega
   ·obtain rfl:k=ss.length:=by omega
    have HX:=Pd (TZ.out HMH.out HN.out.1);have k3:=(hB.cell (p:=⟨w.heap.size,3,none⟩) hn2).trans q3;go_wp2_with fail;go_returns;exact⟨by rw[HX.out];(try rfl),dA TI hB⟩
end Go.Proofs.YtppnecgeboonbaaGreatDoor
