/- Walks. -/
import Derived.Test.YtppnecgeboonbaaGreatDoorZ40
import Derived.Test.YtppnecgeboonbaaGreatDoorZ41
namespace Go.Proofs.YtppnecgeboonbaaGreatDoor
set_option maxRecDepth 100000
set_option linter.all false
set_option maxHeartbeats 8000000
open Go.RowKit
def Rv:uT (fun _ _=>True):=by
 intro k AS c n a w _ hA hN hn1 hn2;have pM:=LD k AS c n a w hA hN hn2;have HA:=Pd hA;have HD:Hid (qz k a=if nP k a=true then (if 60<a.length then .error 2 else if (rT k a).1=true then .error 2 else .ok (rT k a).2) else .error 1):=rfl;generalize qz k a=R at*;clear hA
 cases hm:nP k a with
 |false=>
  have HY:Hid (R=.error 1):=by rw[Hid,HD.out,hm];rfl
  rw[hm]at pM;clear HD hm;go_enter Tryz.func87,Tryz.ntmps87;go_wp2_with fail;refine pM.mono ?_;rintro e w1 ⟨rfl,b1⟩;go_wp2_with fail;go_returns;refine⟨b1,?_⟩;rw[HY.out];exact⟨rfl,by decide⟩
 |true=>
  rw[hm]at pM;by_cases XQ:60<n
  ·have HY:Hid (R=.error 2):=by rw[Hid,HD.out,hm,aaa rfl,aaa (by rw[hN.1];exact XQ)]
   have d6:60<(n:Int):=(by omega);clear HD hm;go_enter Tryz.func87,Tryz.ntmps87;go_wp2_with fail;refine pM.mono ?_;rintro e w1 ⟨rfl,b1⟩;go_wp2_with fail;go_returns;refine⟨b1,?_⟩;rw[HY.out];exact⟨rfl,by decide⟩
  ·have HY:Hid (R=if (rT k a).1=true then .error 2 else .ok (rT k a).2):=by
    rw[Hid,HD.out,hm,aaa rfl,aab (by rw[hN.1];exact XQ)]
   have d6:(n:Int)<=60:=(by omega);have pS:=fun sb W hS hA=>Tf sb k AS c n a W hS hA hN hn1 hn2
   obtain⟨f,hf⟩:∃f,(rT k a).1=f:=⟨_,rfl⟩;obtain⟨x,hx⟩:∃x,(rT k a).2=x:=⟨_,rfl⟩;unfold QJ at pS;rw[hf,hx]at HY;simp only[hf,hx]at pS;clear HD hm hf hx;go_enter Tryz.func87,Tryz.ntmps87;go_wp2_with fail;refine pM.mono ?_;rintro e w1 ⟨rfl,b1⟩;have hS1:dI (w1.alloc (.cells #[.int .i64 k,.bool false] 171)) w1.heap.size k false:=aaq w1 _;have bA:Below w1 w1 (w1.alloc (.cells #[.int .i64 k,.bool false] 171)):=(aac _ _).alloc (Pe _) _;have hA1:=(HA.out.below b1).below bA;have bB:=ae b1 bA;have pS1:=pS w1.heap.size _ hS1 hA1;go_wp2_with fail;refine pS1.mono ?_;rintro e w2 ⟨bb,rb,rfl,hI⟩;have x1:=hI.s.bad;have hlow:=hI.u.low w1.heap.size (Pe _) bA.size
   cases f with
   |false=>
    go_wp2_with fail;go_returns;refine⟨bB.trans (hlow.mono b1.size),?_⟩;rw[HY.out];exact⟨⟨bb,0,none⟩,n,rfl,hI.m.read,hI.m.mat⟩
   |true=>
    go_wp2_with fail;go_returns;refine⟨bB.trans (hlow.mono b1.size),?_⟩;rw[HY.out];exact⟨rfl,by decide⟩
def MP{k:Int}{loose:Bool}{any:Bool}{row:Vec}{arcs:List aO}{j:Nat}(hj:j<arcs.length) :
  kX k loose (arcs.drop j) (any,row)=if arcs[j].inn≠0\/(arcs[j].out≠0/\loose=false) then kX k loose (arcs.drop (j+1)) (any,row) else if (fI k (row.getD arcs[j].to.toNat []) arcs[j].w).2≠0 then .error (fI k (row.getD arcs[j].to.toNat []) arcs[j].w).2 else kX k loose (arcs.drop (j+1)) (true,row.set arcs[j].to.toNat (fI k (row.getD arcs[j].to.toNat []) arcs[j].w).1):=by
 rw[aat hj]
 rfl
def D9{m:aQ}{loose:Bool}{any:Bool}{a:ak}{ss:List bI}{q:Nat}(hq:q<ss.length) :
  kG m loose (ss.drop q) (any,a)=bi (kX m.kind loose (ss[q].arcs.drop 0) (any,eT m)) fun x=>kG m loose (ss.drop (q+1)) (x.1,a++[x.2]):=by
 rw[aat hq]
 rfl
def ER(w:World)(n:Nat)(R:Except Nat (Option ak))(e:Ending)(w':World):Prop:=Below w w w'/\match R with
 |.ok none=>e=.returned (.tuple #[.slice none 0 0,.int .i64 0])
 |.ok (some x)=>∃AS cs,e=.returned (.tuple #[.slice (some AS) n cs,.int .i64 0])/\jP w' (some AS) x/\iM n x
 |.error y=>e=.returned (.tuple #[.slice none 0 0,.int .i64 y])/\y≠0
def L8{X:Int->ak->Prop}(UT:uT X)(m:aQ)(A:Option Addr)(c:Nat)(loose:Bool)(w:World)(hm:bM m=true)(hV:dY w A m.states)(hX:∀l,kG m loose m.states (false,[])=.ok l->X m.kind l.2) :
  Calls Tryz.prog 62 #[di m A c,.bool loose] w (ER w m.states.length (qy m loose)):=by
 obtain⟨hk,⟨hn1,hn2,hs1,hs2⟩,hld,hst,har⟩:=kV.1 hm;have Yc:Hid (∀s∈m.states,s.arcs.length<=30000):=fun s hs=>aaB (xg hs) har
 have pZ:=fun W=>wu m A c W hn1 hn2
 have hzn:=wR m;obtain⟨G,hG⟩:∃G:Bool×ak->Except Nat (Option ak),G=fun x=>if x.1=false then .ok none else if 60<x.2.length then .error 2 else bi (qz m.kind x.2) fun a=>.ok (some a):=⟨_,rfl⟩
 have HR:Hid (qy m loose=bi (kG m loose m.states (false,[])) G):=by rw[hG];rfl
 have HG:=Pd hG;have HSd:Hid (∀q,(hq:q<m.states.length)->∀any a,kG m loose (m.states.drop q) (any,a)=bi (kX m.kind loose (m.states[q].arcs.drop 0) (any,eT m)) fun x=>kG m loose (m.states.drop (q+1)) (x.1,a++[x.2])):=fun q hq any a=>D9 hq
 obtain⟨SS,hSS⟩:∃SS:Nat->Bool×ak->Except Nat (Bool×ak),SS=fun q l=>kG m loose (m.states.drop q) l:=⟨_,rfl⟩
 obtain⟨X0,hX0⟩:∃X0,X0=SS 0 (false,[]):=⟨_,rfl⟩;have VQ:=Pd hX0;have ZX:Hid (qy m loose=bi X0 G):=by rw[hX0,hSS];exact HR.out
 have HX:Hid (∀l,X0=.ok l->X m.kind l.2):=fun l hl=>hX l (by rw[<-hl,hX0,hSS];rfl)
 have HSn:Hid (∀l,SS m.states.length l=.ok l):=fun l=>by rw[hSS];simp only[acZ];rfl
 have HSd:Hid (∀q,(hq:q<m.states.length)->∀any a,SS q (any,a)=bi (kX m.kind loose (m.states[q].arcs.drop 0) (any,eT m)) fun x=>SS (q+1) (x.1,a++[x.2])):=fun q hq any a=>by rw[hSS];exact D9 hq
 clear hG hSS HR hX hX0;generalize qy m loose=R at*;generalize eT m=Z at*;have HV:=Pd hV;have Ug:Hid (∀s∈m.states,aBP m.kind m.states.length s=true):=hst;have Z5:=Pd UT;unfold di S at*;obtain⟨kd,st,ld,ss⟩:=m;simp only at*;generalize (⟨ld.toArray⟩:ByteArray)=Ld at*;obtain⟨n,hn⟩:∃n,n=ss.length:=⟨_,rfl⟩;rw[<-hn]at pZ hn1 hn2 hzn Ug HSn ⊢;have HN:=Pd hn.symm;clear hld hm hV hst hs1 hs2 hk hn har UT;have z0:=az w #[.int .i64 kd,.int .i64 st,.string Ld,.slice A n c] 30 0 _ rfl;have z1:=az w #[.int .i64 kd,.int .i64 st,.string Ld,.slice A n c] 30 1 _ rfl;have z2:=az w #[.int .i64 kd,.int .i64 st,.string Ld,.slice A n c] 30 2 _ rfl;have z3:=az w #[.int .i64 kd,.int .i64 st,.string Ld,.slice A n c] 30 3 _ rfl;have hb0:Below w w (w.alloc (.cells #[.int .i64 kd,.int .i64 st,.string Ld,.slice A n c] 30)):=(aac _ _).alloc (Pe _) _;have hs0:(w.alloc (.cells #[.int .i64 kd,.int .i64 st,.string Ld,.slice A n c] 30)).heap.size=w.heap.size+1:=by simp
 have hmk:=BU n (by omega);have d1:(1:Int)<=(n:Int):=by omega
 have d2:(n:Int)<=3000:=by omega
 go_enter Tryz.func62,Tryz.ntmps62;go_wp2_with fail;generalize w.alloc (.cells #[.int .i64 kd,.int .i64 st,.string Ld,.slice A n c] 30)=w0 at*;have hM0:=I6 w0 n;have YF:Below w0 w0 (w0.alloc (.cells (Array.replicate n (.slice none 0 0)) 22)):=(aac _ _).alloc (Pe _) _;have hbw:=ae hb0 YF;have hB0:Below (w.heap.size+1) w0 (w0.alloc (.cells (Array.replicate n (.slice none 0 0)) 22)):=YF.mono (by rw[hs0];exact Pe _);have q0:=(YF.cell (p:=⟨w.heap.size,0,none⟩) (by rw[hs0];exact aci _)).trans z0;have q1:=(YF.cell (p:=⟨w.heap.size,1,none⟩) (by rw[hs0];exact aci _)).trans z1;have q2:=(YF.cell (p:=⟨w.heap.size,2,none⟩) (by rw[hs0];exact aci _)).trans z2;have q3:=(YF.cell (p:=⟨w.heap.size,3,none⟩) (by rw[hs0];exact aci _)).trans z3;rw[hs0]at hM0;clear z0 z1 z2 z3 YF hB0 hs0 hmk;generalize w0.alloc (.cells (Array.replicate n (.slice none 0 0)) 22)=w1 at*;obtain⟨ba,VK⟩:∃ba,ba=w.heap.size+1:=⟨_,rfl⟩;rw[<-VK]at hM0 ⊢;have hnb:w.heap.size<ba:=by rw[VK];exact aci _
 clear VK hb0
 go_loopw [7,8] (fun a' i wr=>∃(q:Nat) (any:Bool) (bs:List Nat) (a:ak),a'=.bool any/\i=.int .i64 q/\q<=n/\a.length=q/\Below ba w1 wr/\dV wr ba n bs a/\Hid (X0=SS q (any,a))) (fun _ i _=>n-(intOf i).toNat)
 case atStart=>exact⟨0,false,[],[],rfl,rfl,by omega,rfl,aac _ _,hM0,VQ.out⟩
 case round=>
  clear hM0 VQ;obtain⟨q,any,bs,a,rfl,rfl,hq,haq,hBr,Ut,HJ⟩:=hrel;have m0:=(hBr.cell (p:=⟨w.heap.size,0,none⟩) hnb).trans q0;have m1:=(hBr.cell (p:=⟨w.heap.size,1,none⟩) hnb).trans q1;have m2:=(hBr.cell (p:=⟨w.heap.size,2,none⟩) hnb).trans q2;have m3:=(hBr.cell (p:=⟨w.heap.size,3,none⟩) hnb).trans q3;have aCe:bs.length=q:=Ut.2.1.trans haq;by_cases hlt:q<n
  ·have VX:q<ss.length:=by rw[HN.out];exact hlt
   obtain⟨b,o,rfl,Vb,hc0,A',c',hc1,TK⟩:=HV.out q VX;have VH:=Pd TK;have HD:=Pd (HJ.out.trans (HSd.out q VX any a));have hso:=Ug.out _ (aag VX);have hal:=Yc.out _ (aag VX);generalize ss[q]=s at*;obtain⟨fin,arcs⟩:=s;simp only at*;have mn:=Ut.nil (i:=q) (by omega) hlt;have mf:=Ut.free q;have i0:(0:Int)<=(q:Int):=by omega
   have il:(q:Int)<(n:Int):=(by omega);have YG:=Ut.lt;clear TK HJ;go_wp2_with fail;refine(pZ _).mono ?_;rintro e w3 ⟨br,rfl,Vq,hbr,hb3⟩;have hne:br≠ba:=by omega
   have aCc:ba<=br:=by omega
   have V9:=Ut.push hb3 Vq hzn (by omega) hne;rw[haq]at V9;have hB3:Below ba w1 (w3.setCell ⟨ba,q,none⟩ (.slice (some ⟨br,0,none⟩) n n)):=(hBr.trans (hb3.mono (aa0 YG))).setCell (p:=⟨ba,q,none⟩) (Pe _) _;have aCy:br∉bs:=fun hm=>by
    obtain⟨i,hi,e⟩:=abr hm;have h1:=(Ut.2.2.2.1 i (by omega) hi).lt;rw[e]at h1;omega
   have j0:=(hb3.cell (p:=⟨ba,q,none⟩) YG).trans mn;have jf:=(hb3.frozen (p:=⟨ba,q,none⟩) YG).trans mf;clear m0 m1 m2 m3 mn mf hbr Vq Ut hBr;go_wp2_with fail;generalize w3.setCell ⟨ba,q,none⟩ (.slice (some ⟨br,0,none⟩) n n)=w4 at*;clear hb3 j0 jf
   go_loopw [7,9] (fun a' i wr=>∃(j:Nat) (any:Bool) (row:Vec),a'=.bool any/\i=.int .i64 j/\j<=arcs.length/\Below ba w1 wr/\dV wr ba n (bs++[br]) (a++[row])/\Hid (X0=bi (kX kd loose (arcs.drop j) (any,row)) fun x=>SS (q+1) (x.1,a++[x.2]))) (fun _ i _=>arcs.length-(intOf i).toNat)
   case atStart=>exact⟨0,any,Z,rfl,rfl,by omega,hB3,V9,HD.out⟩
   case round=>
    clear hB3 V9 HD;obtain⟨j,any,row,rfl,rfl,hj,T9,hMt,HJ⟩:=hrel;have hBw:Below w w wr:=hbw.trans (T9.mono (aa0 hnb));have m3:=(T9.cell (p:=⟨w.heap.size,3,none⟩) hnb).trans q3;have ms:=(hBw.cell (p:=⟨b,o+q*2+1,none⟩) Vb).trans hc1;by_cases hjl:j<arcs.length
    ·obtain⟨b',o',rfl,TH,ha0,ha1,ha2,UJ⟩:=VH.out j hjl
     have hao:=(pg.1 hso).2 _ (aag hjl);have HD:=Pd (HJ.out.trans (aaw (fun z=>bi z fun x=>SS (q+1) (x.1,a++[x.2])) (MP hjl)));generalize arcs[j]=ar at*;obtain⟨x,y,wt',tg⟩:=ar;simp only at*;obtain⟨ho1,ho2,⟨d0,d3⟩,ho3⟩:=mh.1 hao;simp only at d0 d3 ho3;have hwl:=wC ho3;obtain⟨Wt,Ue⟩:∃Wt:ByteArray,(⟨wt'.toArray⟩:ByteArray)=Wt:=⟨_,rfl⟩;have UA:wt'=Wt.data.toList:=by rw[<-Ue]
     unfold S at ha2;rw[Ue]at ha2;subst UA;have hWs:Wt.size<=802:=by rw[aae];exact hwl
     clear hao ho1 ho2 ho3 hwl Ue;have Vg:=hMt.last;have htl:tg.toNat<row.length:=by rw[Vg.2.1];omega
     have Wi:=Vg.1.cell htl;obtain⟨Y,hY⟩:∃Y:ByteArray,(⟨row[tg.toNat].toArray⟩:ByteArray)=Y:=⟨_,rfl⟩;have hYd:row.getD tg.toNat []=Y.data.toList:=by rw[<-hY,aaf,aak htl];rfl
     unfold S at Wi;rw[hY]at Wi;rw[hYd]at HD;have hYs:Y.size<=802:=by rw[aae,<-hYd];exact Vg.2.get _
     have pP:=fun W=>yO kd Y Wt W (by omega) (by omega)
     have hpl:(fI kd Y.data.toList Wt.data.toList).1.length<=802:=yP (by rw[<-aae];exact hYs) (by rw[<-aae];exact hWs);obtain⟨pt,hpt⟩:∃pt,fI kd Y.data.toList Wt.data.toList=pt:=⟨_,rfl⟩;rw[hpt]at pP HD hpl;obtain⟨pb,pe⟩:=pt;unfold Rat3.aA at pP;simp only at pP HD hpl;obtain⟨P,hP⟩:∃P:ByteArray,(⟨pb.toArray⟩:ByteArray)=P:=⟨_,rfl⟩;have Xm:pb=P.data.toList:=by rw[<-hP]
     rw[hP]at pP;subst Xm;clear hP hpt hY hYd;have HE:Hid (¬ (x≠0\/(y≠0/\loose=false))->pe≠0->R=.error pe):=fun hc he=>by
      rw[ZX.out,HD.out,aab hc,aaa he];rfl
     have HK:Hid (¬ (x≠0\/(y≠0/\loose=false))->pe=0->X0=bi (kX kd loose (arcs.drop (j+1)) (true,row.set tg.toNat P.data.toList)) fun x=>SS (q+1) (x.1,a++[x.2])):=fun hc he=>by
      rw[HD.out,aab hc,aab (by rw[he];simp)]
     have HS:Hid ((x≠0\/(y≠0/\loose=false))->X0=bi (kX kd loose (arcs.drop (j+1)) (any,row)) fun x=>SS (q+1) (x.1,a++[x.2])):=fun hc=>by
      rw[HD.out,aaa hc]
     clear HD HJ;have u0:=(hBw.cell (p:=⟨b',o'+j*4,none⟩) TH).trans ha0;have u1:=(hBw.cell (p:=⟨b',o'+j*4+1,none⟩) TH).trans ha1;have u2:=(hBw.cell (p:=⟨b',o'+j*4+2,none⟩) TH).trans ha2;have u3:=(hBw.cell (p:=⟨b',o'+j*4+3,none⟩) TH).trans UJ;have bA:=(aac wr.heap.size wr).alloc (Pe _) (.cells #[.int .i64 x,.int .i64 y,.string Wt,.int .i64 tg] 77);have TS:=T9.trans (bA.mono (aa0 hMt.lt));have hS5:=hMt.below bA;have g0:=az wr #[.int .i64 x,.int .i64 y,.string Wt,.int .i64 tg] 77 0 _ rfl;have g1:=az wr #[.int .i64 x,.int .i64 y,.string Wt,.int .i64 tg] 77 1 _ rfl;have g2:=az wr #[.int .i64 x,.int .i64 y,.string Wt,.int .i64 tg] 77 2 _ rfl;have g3:=az wr #[.int .i64 x,.int .i64 y,.string Wt,.int .i64 tg] 77 3 _ rfl;have Vj:wr.heap.size<(wr.alloc (.cells #[.int .i64 x,.int .i64 y,.string Wt,.int .i64 tg] 77)).heap.size:=by simp
     have n0:=(TS.cell (p:=⟨w.heap.size,0,none⟩) hnb).trans q0;have mr:=hS5.row (i:=q) (by simp[aCe]);have hbq:(bs++[br])[q]'(by simp[aCe])=br:=by rw[aa7 (by omega)];simp
     rw[hbq]at mr;have my:=(bA.cell (p:=⟨br,tg.toNat,none⟩) Vg.1.lt).trans Wi;have ij0:(0:Int)<=(j:Int):=by omega
     have ijl:(j:Int)<(arcs.length:Int):=(by omega);have i0:(0:Int)<=(q:Int):=(by omega);have il:(q:Int)<(n:Int):=(by omega);clear ha0 ha1 ha2 UJ Wi Vg bA hMt;by_cases hx:x=0
     ·have t1:=qY hx
      have t1':=ko hx;by_cases hy:y=0
      ·have t2:=qY hy
       have t2':=ko hy;have hc:¬ (x≠0\/(y≠0/\loose=false)):=by rintro(h|h);exact h hx;exact h.1 hy
       replace HE:=Pd (HE.out hc);replace HK:=Pd (HK.out hc);clear hc hx hy;go_wp2_with fail;generalize wr.alloc (.cells #[.int .i64 x,.int .i64 y,.string Wt,.int .i64 tg] 77)=w5 at*
       haveI:=Bey.ne w5
       have hrl:br<w5.heap.size:=hS5.last.1.lt;have y0:=Bey.cell n0 (Nat.lt_trans hnb hS5.lt);have y1:=Bey.cell mr hS5.lt;have y2:=Bey.cell my hrl;have y3:=Bey.cell g2 Vj;have y4:=Bey.cell g3 Vj;have qP:∀z:Bey w5,Calls Tryz.prog 86 #[.int .i64 kd,.string Y,.string Wt] z.w fun e w'=>e=.returned (.tuple #[.string P,.int .i64 pe])/\∃z':Bey w5,w'=z'.w:=fun z=>(pP z.w).mono fun e w' h=>⟨h.1,⟨w',ae z.h h.2⟩,rfl⟩
       refine zi 17 (fun x=>∃z:Bey w5,x=z.w) (by kernel_rfl) (by kernel_rfl) ⟨⟨w5.drew,(aac _ _).drew⟩,rfl⟩ ?_;simp only[aa1,ab7,ae9,abj]
       repeat (go_big_quiet_step (first|exact qP _))
       refine wpQuiet_nil ?_;intro w6 hw';obtain⟨⟨_,b6⟩,rfl⟩:=hw'
       try dsimp only
       have TV:Below ba w1 w6:=TS.trans (b6.mono (aa0 hS5.lt));have Yr:dV w6 ba n (bs++[br]) (a++[row]):=hS5.below b6;clear y0 y1 y2 y3 y4 qP;have x3:w6.cell? ⟨wr.heap.size,3,none⟩=some (.int .i64 tg):=(b6.cell (p:=⟨wr.heap.size,3,none⟩) Vj).trans g3;have x4:w6.cell? ⟨ba,q,none⟩=some (.slice (some ⟨br,0,none⟩) n n):=(b6.cell (p:=⟨ba,q,none⟩) hS5.lt).trans mr;have x5:w6.cell? ⟨br,tg.toNat,none⟩=some (.string Y):=(b6.cell (p:=⟨br,tg.toNat,none⟩) hrl).trans my;have x6:w6.frozen? ⟨br,tg.toNat,none⟩=false:=Yr.last.1.free _;clear b6 pP hS5 TS mr my g0 g1 g2 g3 Vj u0 u1 u2 u3 m3 ms n0;by_cases hpe:pe=0
       ·subst hpe
        have HX:=Pd (HK.out rfl);clear HE HK HS;go_wp2_with fail
        go_still_tail 8,(by kernel_rfl)
        change wpList _ _ _ _ _ w6.drew;have X5:w6.drew.cell? ⟨br,tg.toNat,none⟩=some (.string Y):=x5;have X6:w6.drew.frozen? ⟨br,tg.toNat,none⟩=false:=x6;have Vl:Below ba w1 (w6.drew.setCell ⟨br,tg.toNat,none⟩ (.string P)):=TV.drew.setCell (p:=⟨br,tg.toNat,none⟩) aCc _;have hS7:dV (w6.drew.setCell ⟨br,tg.toNat,none⟩ (.string P)) ba n (bs++[br]) (a++[row.set tg.toNat P.data.toList]):=dV.put (w:=w6.drew) Yr aCy tg.toNat hpl;clear x5 x6 x3 x4 Yr TV;generalize w6.drew=w7 at*;go_wp2_with fail;go_roundw
        case rel=>exact⟨j+1,true,row.set tg.toNat P.data.toList,rfl,by go_num,by omega,Vl,hS7,HX.out⟩
        case measure=>simp[intOf];omega
       ·have HX:=Pd (HE.out hpe)
        have t9:((pe:Int) != 0)=true:=(by simpa using hpe);have U6:=Pd hpe;clear hpe HE HK HS;go_wp2_with fail;go_returns;refine⟨hbw.trans (TV.mono (aa0 hnb)),?_⟩;rw[HX.out];exact⟨rfl,U6.out⟩
      ·have t2:=ry hy
       have t2':=jU hy
       cases loose with
       |false=>
        replace HS:=Pd (HS.out (aad ⟨hy,rfl⟩));clear HE HK hx hy pP;go_wp2_with fail;go_roundw
        case rel=>exact⟨j+1,any,row,rfl,by go_num,by omega,TS,hS5,HS.out⟩
        case measure=>simp[intOf];omega
       |true=>
        have hc:¬ (x≠0\/(y≠0/\true=false)):=by rintro(h|h);exact h hx;exact absurd h.2 (by simp)
        replace HE:=Pd (HE.out hc);replace HK:=Pd (HK.out hc);clear hc hx hy;go_wp2_with fail;generalize wr.alloc (.cells #[.int .i64 x,.int .i64 y,.string Wt,.int .i64 tg] 77)=w5 at*
        haveI:=Bey.ne w5
        have hrl:br<w5.heap.size:=hS5.last.1.lt;have y0:=Bey.cell n0 (Nat.lt_trans hnb hS5.lt);have y1:=Bey.cell mr hS5.lt;have y2:=Bey.cell my hrl;have y3:=Bey.cell g2 Vj;have y4:=Bey.cell g3 Vj;have qP:∀z:Bey w5,Calls Tryz.prog 86 #[.int .i64 kd,.string Y,.string Wt] z.w fun e w'=>e=.returned (.tuple #[.string P,.int .i64 pe])/\∃z':Bey w5,w'=z'.w:=fun z=>(pP z.w).mono fun e w' h=>⟨h.1,⟨w',ae z.h h.2⟩,rfl⟩
        refine zi 17 (fun x=>∃z:Bey w5,x=z.w) (by kernel_rfl) (by kernel_rfl) ⟨⟨w5.drew,(aac _ _).drew⟩,rfl⟩ ?_;simp only[aa1,ab7,ae9,abj]
        repeat (go_big_quiet_step (first|exact qP _))
        refine wpQuiet_nil ?_;intro w6 hw';obtain⟨⟨_,b6⟩,rfl⟩:=hw'
        try dsimp only
        have TV:Below ba w1 w6:=TS.trans (b6.mono (aa0 hS5.lt));have Yr:dV w6 ba n (bs++[br]) (a++[row]):=hS5.below b6;clear y0 y1 y2 y3 y4 qP;have x3:w6.cell? ⟨wr.heap.size,3,none⟩=some (.int .i64 tg):=(b6.cell (p:=⟨wr.heap.size,3,none⟩) Vj).trans g3;have x4:w6.cell? ⟨ba,q,none⟩=some (.slice (some ⟨br,0,none⟩) n n):=(b6.cell (p:=⟨ba,q,none⟩) hS5.lt).trans mr;have x5:w6.cell? ⟨br,tg.toNat,none⟩=some (.string Y):=(b6.cell (p:=⟨br,tg.toNat,none⟩) hrl).trans my;have x6:w6.frozen? ⟨br,tg.toNat,none⟩=false:=Yr.last.1.free _;clear b6 pP hS5 TS mr my g0 g1 g2 g3 Vj u0 u1 u2 u3 m3 ms n0;by_cases hpe:pe=0
        ·subst hpe
         have HX:=Pd (HK.out rfl);clear HE HK HS;go_wp2_with fail
         go_still_tail 8,(by kernel_rfl)
         change wpList _ _ _ _ _ w6.drew;have X5:w6.drew.cell? ⟨br,tg.toNat,none⟩=some (.string Y):=x5;have X6:w6.drew.frozen? ⟨br,tg.toNat,none⟩=false:=x6;have Vl:Below ba w1 (w6.drew.setCell ⟨br,tg.toNat,none⟩ (.string P)):=TV.drew.setCell (p:=⟨br,tg.toNat,none⟩) aCc _;have hS7:dV (w6.drew.setCell ⟨br,tg.toNat,none⟩ (.string P)) ba n (bs++[br]) (a++[row.set tg.toNat P.data.toList]):=dV.put (w:=w6.drew) Yr aCy tg.toNat hpl;clear x5 x6 x3 x4 Yr TV;generalize w6.drew=w7 at*;go_wp2_with fail;go_roundw
         case rel=>exact⟨j+1,true,row.set tg.toNat P.data.toList,rfl,by go_num,by omega,Vl,hS7,HX.out⟩
         case measure=>simp[intOf];omega
        ·have HX:=Pd (HE.out hpe)
         have t9:((pe:Int) != 0)=true:=(by simpa using hpe);have U6:=Pd hpe;clear hpe HE HK HS;go_wp2_with fail;go_returns;refine⟨hbw.trans (TV.mono (aa0 hnb)),?_⟩;rw[HX.out];exact⟨rfl,U6.out⟩
     ·have t1:=ry hx
      have t1':=jU hx;replace HS:=Pd (HS.out (aam hx));clear HE HK hx pP;go_wp2_with fail;go_roundw
      case rel=>exact⟨j+1,any,row,rfl,by go_num,by omega,TS,hS5,HS.out⟩
      case measure=>simp[intOf];omega
    ·obtain rfl:j=arcs.length:=by omega
     have HXn:Hid (X0=SS (q+1) (any,a++[row])):=by
      have:=HJ.out;rw[acZ]at this;exact this
     go_wp2_with fail;go_roundw
     case rel=>exact⟨q+1,any,bs++[br],a++[row],rfl,by go_num,by omega,by simp;omega,T9,hMt,HXn.out⟩
     case measure=>simp[intOf];omega
  ·obtain rfl:q=n:=by omega
   have hXa:X kd a:=HX.out (any,a) (HJ.out.trans (HSn.out _));have HX:Hid (R=G (any,a)):=by
    have:=HJ.out;rw[HSn.out]at this;rw[Hid,ZX.out,this];rfl
   have hBw:=hbw.trans (hBr.mono (aa0 hnb))
   cases any with
   |false=>
    have HY:Hid (R=.ok none):=by rw[Hid,HX.out,HG.out];rfl
    go_wp2_with fail;go_returns;refine⟨hBw,?_⟩;rw[HY.out];exact rfl
   |true=>
    by_cases XQ:60<q
    ·have HY:Hid (R=.error 2):=by
      rw[Hid,HX.out,HG.out];simp only;rw[aab (by simp),aaa (by rw[haq];exact XQ)]
     have d6:60<(q:Int):=(by omega);go_wp2_with fail;go_returns;refine⟨hBw,?_⟩;rw[HY.out];exact⟨rfl,by decide⟩
    ·have HY:Hid (R=bi (qz kd a) fun a=>.ok (some a)):=by
      rw[Hid,HX.out,HG.out];simp only;rw[aab (by simp),aab (by rw[haq];exact XQ)]
     have d6:(q:Int)<=60:=(by omega);obtain⟨hMV,hMN⟩:=Ut.whole haq;have pS:=Z5.out kd ⟨ba,0,none⟩ q q a wr hXa hMV hMN hn1 hn2;generalize qz kd a=sm at*;go_wp2_with fail;refine pS.mono ?_;rintro e w7 ⟨b7,hr⟩
     cases sm with
     |error y=>
      have HZ:Hid (R=.error y):=HY.out;obtain⟨rfl,hne⟩:=hr;go_wp2_with fail;go_returns;refine⟨ae hBw b7,?_⟩;rw[HZ.out];exact⟨rfl,hne⟩
     |ok x=>
      have HZ:Hid (R=.ok (some x)):=HY.out;obtain⟨AS,cs,rfl,h1,h2⟩:=hr;go_wp2_with fail;go_returns;refine⟨ae hBw b7,?_⟩;rw[HZ.out];exact⟨AS,cs,rfl,h1,h2⟩
def nH(w:World)(n:Nat)(v:Value)(star:Option ak):Prop:=match star with
 |none=>v=.slice none 0 0
 |some a=>∃AS cs,v=.slice (some AS) n cs/\jP w (some AS) a/\iM n a
def nH.below{w w':World}{n:Nat}{v:Value}{star:Option ak}(h:nH w n v star)(hb:Below w w w'):nH w' n v star:=by
 cases star with
 |none=>exact h
 |some a=>
  obtain⟨AS,cs,h1,h2,h3⟩:=h;exact⟨AS,cs,h1,h2.below hb,h3⟩
def zz(w:World)(n:Nat)(R:Except Nat Vec)(e:Ending)(w':World):Prop:=Below w w w'/\match R with
 |.ok l=>∃b,e=.returned (.tuple #[.slice (some ⟨b,0,none⟩) n n,.int .i64 0])/\aZ w' b l/\dK n l
 |.error x=>e=.returned (.tuple #[.slice none 0 0,.int .i64 x])/\x≠0
def LX(m:aQ)(A:Option Addr)(c bv:Nat)(v:Vec)(sv:Value)(star:Option ak)(w:World)(hn1:1<=m.states.length)(hn2:m.states.length<=3000)(hv:aZ w bv v)(UH:dK m.states.length v)(hS:nH w m.states.length sv star) :
  Calls Tryz.prog 64 #[di m A c,.slice (some ⟨bv,0,none⟩) m.states.length m.states.length,sv] w (zz w m.states.length (uB m v star)):=by
 cases star with
 |none=>
  obtain rfl:sv=.slice none 0 0:=hS;refine(LY m A c bv m.states.length v w hv UH).mono ?_;rintro e w' ⟨rfl,hb⟩;exact⟨hb,bv,rfl,hv.below hb,UH⟩
 |some a=>
  obtain⟨AS,cs,rfl,h2,h3⟩:=hS;refine(LZ m A c bv m.states.length cs v AS a w hn1 hn2 hv UH h2 h3).mono ?_;rintro e w' ⟨hb,hr⟩;refine⟨hb,?_⟩;show match lU m.kind v a (eT m)with | .ok l=>_ | .error x=>_
  cases hq:lU m.kind v a (eT m) with
  |error x=>rw[hq]at hr;exact hr
  |ok l=>
   rw[hq]at hr;obtain⟨b,h4,h5,_,h6⟩:=hr;exact⟨b,h4,h5,h6⟩
def Fg{m:aQ}{star:Option ak}{x:List Int}{v:Vec}{i:Nat}(hi:i<x.length):mg m star (x.drop i) v=bi (uB m v star) fun v=>bi (rU m v x[i] 0 true) (mg m star (x.drop (i+1))):=by
 rw[aat hi]
 rfl
def KN(m:aQ)(A AX:Option Addr)(c cx:Nat)(x:List Int)(sv:Value)(star:Option ak)(w:World)(hm:bM m=true)(hV:dY w A m.states)(hX:ay w AX (x.map IV))(hxl:x.length<=200)(hS:nH w m.states.length sv star) :
  Calls Tryz.prog 68 #[di m A c,.slice AX x.length cx,sv] w (qN w (mg m star x ((eT m).set m.start.toNat m.lead))):=by
 obtain⟨hk,⟨hn1,hn2,hs1,hs2⟩,hld,hst,har⟩:=kV.1 hm;have pZ:=fun W=>wu m A c W hn1 hn2
 have hzn:=wR m;have pR0:=fun W bv v h1 h2 h3=>LX m A c bv v sv star W hn1 hn2 h1 h2 h3
 have pS0:=fun W bv v s h0 h1 h2=>Me m A c bv m.states.length v s 0 true W hm h0 h1 h2
 have pF0:=fun W bv v h0 h1 h2=>Lm m A c bv m.states.length v W hm h0 h1 h2
 obtain⟨AL,XR⟩:∃AL:Nat->Vec->Except Nat Bs,AL=fun i v=>mg m star (x.drop i) v:=⟨_,rfl⟩
 obtain⟨RV,hRV⟩:∃RV:Vec->Except Nat Vec,RV=fun v=>uB m v star:=⟨_,rfl⟩
 obtain⟨SV,hSV⟩:∃SV:Vec->Int->Except Nat Vec,SV=fun v s=>rU m v s 0 true:=⟨_,rfl⟩
 obtain⟨FV,hFV⟩:∃FV:Vec->Except Nat Bs,FV=fun v=>lH m.kind m.states v (aF m.kind):=⟨_,rfl⟩
 have HA0:Hid (mg m star x ((eT m).set m.start.toNat m.lead)=AL 0 ((eT m).set m.start.toNat m.lead)):=by rw[XR];rfl
 have HAd:Hid (∀i v,(hi:i<x.length)->AL i v=bi (RV v) fun v=>bi (SV v x[i]) (AL (i+1))):=fun i v hi=>by rw[XR,hRV,hSV];exact Fg hi
 have HAe:Hid (∀v,AL x.length v=bi (RV v) FV):=fun v=>by rw[XR,hRV,hFV];simp only[acZ];rfl
 have pR:∀W bv v,aZ W bv v->dK m.states.length v->nH W m.states.length sv star->Calls Tryz.prog 64 #[di m A c,.slice (some ⟨bv,0,none⟩) m.states.length m.states.length,sv] W (zz W m.states.length (RV v)):=fun W bv v h1 h2 h3=>by rw[hRV];exact pR0 W bv v h1 h2 h3
 have pS:∀W bv v s,dY W A m.states->aZ W bv v->dK m.states.length v->Calls Tryz.prog 65 #[di m A c,.slice (some ⟨bv,0,none⟩) m.states.length m.states.length,.int .i64 s,.int .i64 0,.bool true] W (sP W m.states.length (SV v s)):=fun W bv v s h0 h1 h2=>by rw[hSV];exact pS0 W bv v s h0 h1 h2
 have pF:∀W bv v,dY W A m.states->aZ W bv v->dK m.states.length v->Calls Tryz.prog 67 #[di m A c,.slice (some ⟨bv,0,none⟩) m.states.length m.states.length] W (qN W (FV v)):=fun W bv v h0 h1 h2=>by rw[hFV];exact pF0 W bv v h0 h1 h2
 clear XR hRV hSV hFV pR0 pS0 pF0;generalize mg m star x ((eT m).set m.start.toNat m.lead)=R at*;generalize eT m=Z at*;have HV:=Pd hV;have HX:=Pd hX;have Ug:=Pd hS;have hll:=wC hld;unfold di S at*;obtain⟨kd,st,ld,ss⟩:=m;simp only at*;obtain⟨Ld,TJ⟩:∃Ld:ByteArray,(⟨ld.toArray⟩:ByteArray)=Ld:=⟨_,rfl⟩;have WA:ld=Ld.data.toList:=by rw[<-TJ]
 rw[TJ]at pZ pR pS pF ⊢;subst WA;obtain⟨n,hn⟩:∃n,n=ss.length:=⟨_,rfl⟩;rw[<-hn]at pZ pR pS pF hn1 hn2 hzn hs2 Ug ⊢;obtain⟨sj,hsj⟩:∃sj:Nat,st=(sj:Int):=⟨st.toNat,by omega⟩;subst hsj;simp only[abT]at HA0;clear hld hm hV hst hk hn har hX hS TJ;have z0:=az w #[.int .i64 kd,.int .i64 sj,.string Ld,.slice A n c] 30 0 _ rfl;have z1:=az w #[.int .i64 kd,.int .i64 sj,.string Ld,.slice A n c] 30 1 _ rfl;have z2:=az w #[.int .i64 kd,.int .i64 sj,.string Ld,.slice A n c] 30 2 _ rfl;have z3:=az w #[.int .i64 kd,.int .i64 sj,.string Ld,.slice A n c] 30 3 _ rfl;have hb0:Below w w (w.alloc (.cells #[.int .i64 kd,.int .i64 sj,.string Ld,.slice A n c] 30)):=(aac _ _).alloc (Pe _) _;have hn0:w.heap.size<(w.alloc (.cells #[.int .i64 kd,.int .i64 sj,.string Ld,.slice A n c] 30)).heap.size:=by simp
 go_enter Tryz.func68,Tryz.ntmps68;go_wp2_with fail;generalize w.alloc (.cells #[.int .i64 kd,.int .i64 sj,.string Ld,.slice A n c] 30)=w0 at*;refine(pZ _).mono ?_;rintro e w1 ⟨bl,rfl,Vq,hbl,hb1⟩;have q0:=(hb1.cell (p:=⟨w.heap.size,0,none⟩) hn0).trans z0;have q1:=(hb1.cell (p:=⟨w.heap.size,1,none⟩) hn0).trans z1;have q2:=(hb1.cell (p:=⟨w.heap.size,2,none⟩) hn0).trans z2;have i0:(0:Int)<=(sj:Int):=by omega
 have hzl:sj<Z.length:=by rw[hzn.1];omega
 have y0:=Vq.cell hzl;have y1:=Vq.free sj;obtain⟨yv,hyv⟩:∃yv,S Z[sj]=yv:=⟨_,rfl⟩;rw[hyv]at y0;have hvs:aZ (w1.setCell ⟨bl,sj,none⟩ (.string Ld)) bl (Z.set sj Ld.data.toList):=Vq.set sj Ld.data.toList;have UH:dK n (Z.set sj Ld.data.toList):=hzn.set sj hll;have hB2:Below w0 w0 (w1.setCell ⟨bl,sj,none⟩ (.string Ld)):=hb1.setCell (p:=⟨bl,sj,none⟩) hbl _;clear hyv Vq pZ;go_wp2_with fail;generalize w1.setCell ⟨bl,sj,none⟩ (.string Ld)=w2 at*;clear q0 q1 q2 y0 y1 hb1
 go_loopw [8,9,10] (fun a' e' i wr=>∃(q:Nat) (b:Nat) (v:Vec),a'=.slice (some ⟨b,0,none⟩) n n/\e'=.int .i64 0/\i=.int .i64 q/\q<=x.length+1/\Below w0 w0 wr/\aZ wr b v/\dK n v/\Hid ((q<=x.length->R=AL q v)/\(q=x.length+1->R=FV v))) (fun _ _ i _=>x.length+1-(intOf i).toNat)
 case atStart=>exact⟨0,bl,_,rfl,rfl,rfl,by omega,hB2,hvs,UH,fun _=>HA0.out,fun h=>by omega⟩
 case round=>
  clear hB2 hvs UH HA0;obtain⟨q,b,v,rfl,rfl,rfl,hq,hBr,Vp,UH,HJ⟩:=hrel;have hBw:Below w w wr:=ae hb0 hBr;have m0:=(hBr.cell (p:=⟨w.heap.size,0,none⟩) hn0).trans z0;have m1:=(hBr.cell (p:=⟨w.heap.size,1,none⟩) hn0).trans z1;have m2:=(hBr.cell (p:=⟨w.heap.size,2,none⟩) hn0).trans z2;have m3:=(hBr.cell (p:=⟨w.heap.size,3,none⟩) hn0).trans z3;by_cases hlt:q<=x.length
  ·have Zm:=Pd (HJ.out.1 hlt)
   have d1:(q:Int)<=(x.length:Int):=(by omega);have pr:=pR wr b v Vp UH (Ug.out.below hBw)
   cases XD:RV v with
   |error e'=>
    have HY:Hid (R=.error e'):=by
     rcases aaz q x.length with h|h
     ·rw[Hid,Zm.out,HAd.out q v h,XD];rfl
     ·obtain rfl:q=x.length:=by omega
      rw[Hid,Zm.out,HAe.out v,XD];rfl
    rw[XD]at pr;clear HJ XD;go_wp2_with fail;refine pr.mono ?_;rintro e w3 ⟨b3,rfl,hne⟩;have t1:((e':Int)==0)=false:=by simpa using hne
    have t2:((e':Int) != 0)=true:=(by simpa using hne);have U6:=Pd hne;clear hne;go_wp2_with fail;go_returns;refine⟨ae hBw b3,?_⟩;rw[HY.out];exact⟨rfl,U6.out⟩
   |ok u=>
    rw[XD]at pr;by_cases hqx:q<x.length
    ·have HY:Hid (R=bi (SV u x[q]) (AL (q+1))):=by rw[Hid,Zm.out,HAd.out q v hqx,XD];rfl
     obtain⟨bx,ox,rfl,hbx,hcx⟩:=DI HX.out hqx;unfold IV at hcx;generalize x[q]=s at*;have d2:(q:Int)<(x.length:Int):=by omega
     have d0:(0:Int)<=(q:Int):=(by omega);clear HJ Zm XD;go_wp2_with fail;refine pr.mono ?_;rintro e w3 ⟨b3,bu,rfl,hvu,hun⟩;have hB3:=ae hBr b3;have r0:=(b3.cell (p:=⟨w.heap.size,0,none⟩) (aah hn0 hBr.size)).trans m0;have r1:=(b3.cell (p:=⟨w.heap.size,1,none⟩) (aah hn0 hBr.size)).trans m1;have r2:=(b3.cell (p:=⟨w.heap.size,2,none⟩) (aah hn0 hBr.size)).trans m2;have r3:=(b3.cell (p:=⟨w.heap.size,3,none⟩) (aah hn0 hBr.size)).trans m3;have rx:=(hB3.cell (p:=⟨bx,ox+q,none⟩) (aah hbx hb0.size)).trans ((hb0.cell (p:=⟨bx,ox+q,none⟩) hbx).trans hcx);have X9:w.heap.size<w3.heap.size:=aah hn0 hB3.size;have hx3:bx<w3.heap.size:=aah hbx (aa0 X9);have hBw3:=ae hb0 hB3;have mk:∀wx,Below w3 w3 wx->(wx.cell? ⟨w.heap.size,0,none⟩=some (.int .i64 kd)/\wx.cell? ⟨w.heap.size,1,none⟩=some (.int .i64 sj)/\wx.cell? ⟨w.heap.size,2,none⟩=some (.string Ld)/\wx.cell? ⟨w.heap.size,3,none⟩=some (.slice A n c)/\wx.cell? ⟨bx,ox+q,none⟩=some (.int .i64 s)/\Below w3 w3 wx):=fun wx h=>⟨(h.cell (p:=⟨w.heap.size,0,none⟩) X9).trans r0,(h.cell (p:=⟨w.heap.size,1,none⟩) X9).trans r1,(h.cell (p:=⟨w.heap.size,2,none⟩) X9).trans r2,(h.cell (p:=⟨w.heap.size,3,none⟩) X9).trans r3,(h.cell (p:=⟨bx,ox+q,none⟩) hx3).trans rx,h⟩
     have ps:∀W,Below w3 w3 W->Calls _ _ _ W _:=fun W hW=>pS W bu u s (HV.out.below (hBw3.trans (hW.mono hBw3.size))) (hvu.below hW) hun
     have z9:=mk _ ((aac _ w3).drew);have kC:∀wx wy,(wx.cell? ⟨w.heap.size,0,none⟩=some (.int .i64 kd)/\wx.cell? ⟨w.heap.size,1,none⟩=some (.int .i64 sj)/\wx.cell? ⟨w.heap.size,2,none⟩=some (.string Ld)/\wx.cell? ⟨w.heap.size,3,none⟩=some (.slice A n c)/\wx.cell? ⟨bx,ox+q,none⟩=some (.int .i64 s)/\Below w3 w3 wx)->Below wx wx wy->(wy.cell? ⟨w.heap.size,0,none⟩=some (.int .i64 kd)/\wy.cell? ⟨w.heap.size,1,none⟩=some (.int .i64 sj)/\wy.cell? ⟨w.heap.size,2,none⟩=some (.string Ld)/\wy.cell? ⟨w.heap.size,3,none⟩=some (.slice A n c)/\wy.cell? ⟨bx,ox+q,none⟩=some (.int .i64 s)/\Below w3 w3 wy):=fun wx wy h hb=>mk _ (ae h.2.2.2.2.2 hb)
     have kD:∀wx,(wx.cell? ⟨w.heap.size,0,none⟩=some (.int .i64 kd)/\wx.cell? ⟨w.heap.size,1,none⟩=some (.int .i64 sj)/\wx.cell? ⟨w.heap.size,2,none⟩=some (.string Ld)/\wx.cell? ⟨w.heap.size,3,none⟩=some (.slice A n c)/\wx.cell? ⟨bx,ox+q,none⟩=some (.int .i64 s)/\Below w3 w3 wx)->(wx.drew.cell? ⟨w.heap.size,0,none⟩=some (.int .i64 kd)/\wx.drew.cell? ⟨w.heap.size,1,none⟩=some (.int .i64 sj)/\wx.drew.cell? ⟨w.heap.size,2,none⟩=some (.string Ld)/\wx.drew.cell? ⟨w.heap.size,3,none⟩=some (.slice A n c)/\wx.drew.cell? ⟨bx,ox+q,none⟩=some (.int .i64 s)/\Below w3 w3 wx.drew):=fun wx h=>mk _ h.2.2.2.2.2.drew
     cases hsv:SV u s with
     |error e'=>
      have HZ:Hid (R=.error e'):=by rw[Hid,HY.out,hsv];rfl
      have pq:∀wx,(wx.cell? ⟨w.heap.size,0,none⟩=some (.int .i64 kd)/\wx.cell? ⟨w.heap.size,1,none⟩=some (.int .i64 sj)/\wx.cell? ⟨w.heap.size,2,none⟩=some (.string Ld)/\wx.cell? ⟨w.heap.size,3,none⟩=some (.slice A n c)/\wx.cell? ⟨bx,ox+q,none⟩=some (.int .i64 s)/\Below w3 w3 wx)->Calls Tryz.prog 65 #[.agg #[.int .i64 kd,.int .i64 sj,.string Ld,.slice A n c],.slice (some ⟨bu,0,none⟩) n n,.int .i64 s,.int .i64 0,.bool true] wx (fun e w'=>Below wx wx w'/\e=.returned (.tuple #[.slice none 0 0,.int .i64 e'])/\e'≠0):=fun wx h=>by
       have:=ps wx h.2.2.2.2.2;unfold sP at this;rw[hsv]at this;exact this
      clear m0 m1 m2 m3 pr b3 mk ps hsv r0 r1 r2 r3 rx;go_wp2_with fail
      go_region_held3 (fun wx=>(wx.cell? ⟨w.heap.size,0,none⟩=some (.int .i64 kd)/\wx.cell? ⟨w.heap.size,1,none⟩=some (.int .i64 sj)/\wx.cell? ⟨w.heap.size,2,none⟩=some (.string Ld)/\wx.cell? ⟨w.heap.size,3,none⟩=some (.slice A n c)/\wx.cell? ⟨bx,ox+q,none⟩=some (.int .i64 s)/\Below w3 w3 wx))
       (first|assumption|exact z9|exact kC _ _ (by assumption) (by assumption)|exact kD _ (by assumption))
       (first|(go_at_call 65;refine(pq _ (by assumption)).mono ?_;rintro e wy ⟨hby,rfl,hne⟩))
      have hz:Below w3 w3 wy:=by
       have h:(wy.cell? ⟨w.heap.size,0,none⟩=some (.int .i64 kd)/\wy.cell? ⟨w.heap.size,1,none⟩=some (.int .i64 sj)/\wy.cell? ⟨w.heap.size,2,none⟩=some (.string Ld)/\wy.cell? ⟨w.heap.size,3,none⟩=some (.slice A n c)/\wy.cell? ⟨bx,ox+q,none⟩=some (.int .i64 s)/\Below w3 w3 wy):=(by assumption);exact h.2.2.2.2.2
      have t1:((e':Int)==0)=false:=(by simpa using hne);have t2:((e':Int) != 0)=true:=(by simpa using hne);have U6:=Pd hne;clear hne kC kD pq z9;go_wp2_with fail;go_returns;refine⟨ae hBw3 hz,?_⟩;rw[HZ.out];exact⟨rfl,U6.out⟩
     |ok l'=>
      have HZ:Hid (R=AL (q+1) l'):=by rw[Hid,HY.out,hsv];rfl
      have pq:∀wx,(wx.cell? ⟨w.heap.size,0,none⟩=some (.int .i64 kd)/\wx.cell? ⟨w.heap.size,1,none⟩=some (.int .i64 sj)/\wx.cell? ⟨w.heap.size,2,none⟩=some (.string Ld)/\wx.cell? ⟨w.heap.size,3,none⟩=some (.slice A n c)/\wx.cell? ⟨bx,ox+q,none⟩=some (.int .i64 s)/\Below w3 w3 wx)->Calls Tryz.prog 65 #[.agg #[.int .i64 kd,.int .i64 sj,.string Ld,.slice A n c],.slice (some ⟨bu,0,none⟩) n n,.int .i64 s,.int .i64 0,.bool true] wx (fun e w'=>Below wx wx w'/\∃b,e=.returned (.tuple #[.slice (some ⟨b,0,none⟩) n n,.int .i64 0])/\aZ w' b l'/\dK n l'):=fun wx h=>by
       have:=ps wx h.2.2.2.2.2;unfold sP at this;rw[hsv]at this;exact this.mono fun e w' ⟨h1,b,h2,h3,_,h4⟩=>⟨h1,b,h2,h3,h4⟩
      clear m0 m1 m2 m3 pr b3 mk ps hsv r0 r1 r2 r3 rx;go_wp2_with fail
      go_region_held3 (fun wx=>(wx.cell? ⟨w.heap.size,0,none⟩=some (.int .i64 kd)/\wx.cell? ⟨w.heap.size,1,none⟩=some (.int .i64 sj)/\wx.cell? ⟨w.heap.size,2,none⟩=some (.string Ld)/\wx.cell? ⟨w.heap.size,3,none⟩=some (.slice A n c)/\wx.cell? ⟨bx,ox+q,none⟩=some (.int .i64 s)/\Below w3 w3 wx))
       (first|assumption|exact z9|exact kC _ _ (by assumption) (by assumption)|exact kD _ (by assumption))
       (first|(go_at_call 65;refine(pq _ (by assumption)).mono ?_;rintro e wy ⟨hby,b',rfl,hvy,hny⟩))
      have hz:Below w3 w3 wy:=by
       have h:(wy.cell? ⟨w.heap.size,0,none⟩=some (.int .i64 kd)/\wy.cell? ⟨w.heap.size,1,none⟩=some (.int .i64 sj)/\wy.cell? ⟨w.heap.size,2,none⟩=some (.string Ld)/\wy.cell? ⟨w.heap.size,3,none⟩=some (.slice A n c)/\wy.cell? ⟨bx,ox+q,none⟩=some (.int .i64 s)/\Below w3 w3 wy):=(by assumption);exact h.2.2.2.2.2
      clear kC kD pq z9;go_wp2_with fail;go_roundw
      case rel=>exact⟨q+1,b',l',rfl,rfl,by go_num,by omega,ae hB3 hz,hvy,hny,fun _=>HZ.out,fun h=>by omega⟩
      case measure=>simp[intOf];omega
    ·obtain rfl:q=x.length:=by omega
     have HY:Hid (R=FV u):=by rw[Hid,Zm.out,HAe.out v,XD];rfl
     have d2:decide ((x.length:Int)<(x.length:Int))=false:=aai (by omega);clear HJ Zm XD;go_wp2_with fail;refine pr.mono ?_;rintro e w3 ⟨b3,bu,rfl,hvu,hun⟩;go_wp2_with fail;go_roundw
     case rel=>exact⟨x.length+1,bu,u,rfl,rfl,by go_num,by omega,ae hBr b3,hvu,hun,fun h=>by omega,fun _=>HY.out⟩
     case measure=>simp[intOf]
  ·obtain rfl:q=x.length+1:=by omega
   have HY:=Pd (HJ.out.2 rfl);have d1:(x.length:Int)<((x.length+1:Nat):Int):=by omega
   have pf:=pF wr b v (HV.out.below hBw) Vp UH;generalize FV v=rv at*;go_wp2_with fail;refine pf.mono ?_;rintro e w3 ⟨b3,hr⟩
   cases rv with
   |error e'=>
    have HZ:Hid (R=.error e'):=HY.out;obtain⟨rfl,hne⟩:=hr;go_wp2_with fail;go_returns;refine⟨ae hBw b3,?_⟩;rw[HZ.out];exact⟨rfl,hne⟩
   |ok t=>
    have HZ:Hid (R=.ok t):=HY.out;obtain⟨rfl,hne⟩:=hr;go_wp2_with fail;go_returns;refine⟨ae hBw b3,?_⟩;rw[HZ.out];exact⟨rfl,hne⟩
def MQ{w:World}{n:Nat}{o:Option ak}{e:Ending}(h:match (Except.ok o:Except Nat (Option ak)) with
 |.ok none=>e=.returned (.tuple #[.slice none 0 0,.int .i64 0])
 |.ok (some x)=>∃AS cs,e=.returned (.tuple #[.slice (some AS) n cs,.int .i64 0])/\jP w (some AS) x/\iM n x
 |.error y=>e=.returned (.tuple #[.slice none 0 0,.int .i64 y])/\y≠0):∃sv,e=.returned (.tuple #[sv,.int .i64 0])/\nH w n sv o:=by
 cases o with
 |none=>exact⟨_,h,rfl⟩
 |some x=>
  obtain⟨AS,cs,rfl,h1,h2⟩:=h;exact⟨_,rfl,AS,cs,rfl,h1,h2⟩
def K8{X:Int->ak->Prop}(UT:uT X)(m:aQ)(A AX:Option Addr)(c cx:Nat)(x:List Int)(w:World)(hV:dY w A m.states)(hl:m.states.length<=140737488355328)(Uu:m.lead.length<=9223372036854775807)(hsw:oH 9223372036854775807 m.states)(hX:ay w AX (x.map IV))(hXm:∀l,kG m true m.states (false,[])=.ok l->X m.kind l.2) :
  Calls Tryz.prog 35 #[di m A c,.slice AX x.length cx] w (qN w (qX m x)):=by
 have pV:=fun W h=>yL m A c W h hl Uu hsw
 have pW:=fun W h=>DT AX cx x W h
 have HV:=Pd hV;have HX:=Pd hX;have HD:Hid (qX m x=if bM m=true/\iY x=true then bi (qy m true) fun star=>mg m star x ((eT m).set m.start.toNat m.lead) else .error 1):=rfl;have pS:bM m=true->∀W,dY W A m.states->_:=fun hm W h=>L8 UT m A c true W hm h hXm
 have pA:bM m=true->iY x=true->∀W sv star,dY W A m.states->ay W AX (x.map IV)->nH W m.states.length sv star->_:=fun hm hw W sv star h1 h2 h3=>KN m A AX c cx x sv star W hm h1 h2 (by unfold iY at hw;simp at hw;exact hw.1) h3
 generalize qX m x=R at*;generalize qy m true=SL at*;obtain⟨AL,XR⟩:∃AL:Option ak->Except Nat Bs,AL=fun star=>mg m star x ((eT m).set m.start.toNat m.lead):=⟨_,rfl⟩
 have HD2:Hid (R=if bM m=true/\iY x=true then bi SL AL else .error 1):=by rw[XR];exact HD.out
 have pA2:bM m=true->iY x=true->∀W sv star,dY W A m.states->ay W AX (x.map IV)->nH W m.states.length sv star->Calls Tryz.prog 68 #[di m A c,.slice AX x.length cx,sv] W (qN W (AL star)):=fun hm hw W sv star h1 h2 h3=>by rw[XR];exact pA hm hw W sv star h1 h2 h3
 clear XR HD pA hV hX hsw hl Uu hXm;generalize bM m=mo at*;generalize iY x=wo at*;unfold di S at*;obtain⟨kd,st,ld,ss⟩:=m;simp only at*;generalize (⟨ld.toArray⟩:ByteArray)=Ld at*;obtain⟨n,hn⟩:∃n,n=ss.length:=⟨_,rfl⟩;rw[<-hn]at pV pS pA2 ⊢;clear hn;have z0:=az w #[.int .i64 kd,.int .i64 st,.string Ld,.slice A n c] 30 0 _ rfl;have z1:=az w #[.int .i64 kd,.int .i64 st,.string Ld,.slice A n c] 30 1 _ rfl;have z2:=az w #[.int .i64 kd,.int .i64 st,.string Ld,.slice A n c] 30 2 _ rfl;have z3:=az w #[.int .i64 kd,.int .i64 st,.string Ld,.slice A n c] 30 3 _ rfl;have hb0:Below w w (w.alloc (.cells #[.int .i64 kd,.int .i64 st,.string Ld,.slice A n c] 30)):=(aac _ _).alloc (Pe _) _;have hn0:w.heap.size<(w.alloc (.cells #[.int .i64 kd,.int .i64 st,.string Ld,.slice A n c] 30)).heap.size:=by simp
 cases mo with
 |false=>
  have HY:Hid (R=.error 1):=HD2.out.trans (aab (by simp));clear HD2 pS pA2;go_enter Tryz.func35,Tryz.ntmps35;go_wp2_with fail;refine(pV _ (HV.out.below hb0)).mono ?_;rintro e w1 ⟨rfl,b1⟩;go_wp2_with fail;go_returns;refine⟨ae hb0 b1,?_⟩;rw[HY.out];exact⟨rfl,by decide⟩
 |true=>
  cases wo with
  |false=>
   have HY:Hid (R=.error 1):=HD2.out.trans (aab (by simp));clear HD2 pS pA2;go_enter Tryz.func35,Tryz.ntmps35;go_wp2_with fail;refine(pV _ (HV.out.below hb0)).mono ?_;rintro e w1 ⟨rfl,b1⟩;have bB:=ae hb0 b1;go_wp2_with fail;refine(pW _ (HX.out.below bB)).mono ?_;rintro e w2 ⟨rfl,rfl⟩;go_wp2_with fail;go_returns;refine⟨bB,?_⟩;rw[HY.out];exact⟨rfl,by decide⟩
  |true=>
   have HY:Hid (R=bi SL AL):=HD2.out.trans (aaa (by simp));have pS2:=pS rfl;have pA3:=pA2 rfl rfl;clear HD2 pS pA2;go_enter Tryz.func35,Tryz.ntmps35;go_wp2_with fail;generalize w.alloc (.cells #[.int .i64 kd,.int .i64 st,.string Ld,.slice A n c] 30)=w0 at*;refine(pV _ (HV.out.below hb0)).mono ?_;rintro e w1 ⟨rfl,b1⟩;have bB:=ae hb0 b1;have r0:=(b1.cell (p:=⟨w.heap.size,0,none⟩) hn0).trans z0;have r1:=(b1.cell (p:=⟨w.heap.size,1,none⟩) hn0).trans z1;have r2:=(b1.cell (p:=⟨w.heap.size,2,none⟩) hn0).trans z2;have r3:=(b1.cell (p:=⟨w.heap.size,3,none⟩) hn0).trans z3;have hn1:w.heap.size<w1.heap.size:=aah hn0 b1.size;clear z0 z1 z2 z3 b1;go_wp2_with fail;refine(pW _ (HX.out.below bB)).mono ?_;rintro e w2 ⟨rfl,rfl⟩;go_wp2_with fail;refine(pS2 _ (HV.out.below bB)).mono ?_;rintro e w3 ⟨b3,hr⟩
   cases SL with
   |error y=>
    have HZ:Hid (R=.error y):=HY.out;obtain⟨rfl,hne⟩:=hr;have t1:((y:Int) != 0)=true:=by simpa using hne
    have U6:=Pd hne;clear hne;go_wp2_with fail;go_returns;refine⟨ae bB b3,?_⟩;rw[HZ.out];exact⟨rfl,U6.out⟩
   |ok o=>
    have HZ:Hid (R=AL o):=HY.out;obtain⟨sv,rfl,hsv⟩:=MQ hr;have s0:=(b3.cell (p:=⟨w.heap.size,0,none⟩) hn1).trans r0;have s1:=(b3.cell (p:=⟨w.heap.size,1,none⟩) hn1).trans r1;have s2:=(b3.cell (p:=⟨w.heap.size,2,none⟩) hn1).trans r2;have s3:=(b3.cell (p:=⟨w.heap.size,3,none⟩) hn1).trans r3;have bC:=ae bB b3;have pa:=pA3 _ sv o (HV.out.below bC) (HX.out.below bC) hsv;generalize AL o=rv at*;go_wp2_with fail;refine pa.mono ?_;rintro e w4 ⟨b4,hq⟩
    cases rv with
    |error y=>
     have HZ2:Hid (R=.error y):=HZ.out;obtain⟨rfl,hne⟩:=hq;go_wp2_with fail;go_returns;refine⟨ae bC b4,?_⟩;rw[HZ2.out];exact⟨rfl,hne⟩
    |ok t=>
     have HZ2:Hid (R=.ok t):=HZ.out;obtain⟨rfl,hne⟩:=hq;go_wp2_with fail;go_returns;refine⟨ae bC b4,?_⟩;rw[HZ2.out];exact⟨rfl,hne⟩
def sV(a:aO):Bool:=decide (a.inn=a.out)
def Ph(s:bI):Bool:=s.arcs.all sV
def E9(m:aQ):qQ m=(bM m&&m.states.all Ph):=rfl
def KJ(m:aQ)(A:Option Addr)(c:Nat)(w:World)(hV:dY w A m.states)(hl:m.states.length<=140737488355328)(Uu:m.lead.length<=9223372036854775807)(hsw:oH 9223372036854775807 m.states) :
  Calls Tryz.prog 33 #[di m A c] w fun e w'=>e=.returned (.bool (qQ m))/\Below w w w':=by
 have pV:=fun W h=>yL m A c W h hl Uu hsw
 have HD:=Pd (E9 m);have Yc:Hid (bM m=true->m.states.length<=3000/\∀s∈m.states,s.arcs.length<=30000):=fun h=>by
  obtain⟨_,h2,_,_,h5⟩:=kV.1 h;exact⟨h2.2.1,fun s hs=>aaB (xg hs) h5⟩
 have HV:=Pd hV;generalize qQ m=R at*;generalize bM m=mo at*;clear hV hl Uu hsw;unfold di S at*;obtain⟨kd,st,ld,ss⟩:=m;simp only at*;generalize (⟨ld.toArray⟩:ByteArray)=Ld at*;have z0:=az w #[.int .i64 kd,.int .i64 st,.string Ld,.slice A ss.length c] 30 0 _ rfl;have z1:=az w #[.int .i64 kd,.int .i64 st,.string Ld,.slice A ss.length c] 30 1 _ rfl;have z2:=az w #[.int .i64 kd,.int .i64 st,.string Ld,.slice A ss.length c] 30 2 _ rfl;have z3:=az w #[.int .i64 kd,.int .i64 st,.string Ld,.slice A ss.length c] 30 3 _ rfl;have hb0:Below w w (w.alloc (.cells #[.int .i64 kd,.int .i64 st,.string Ld,.slice A ss.length c] 30)):=(aac _ _).alloc (Pe _) _;have hn0:w.heap.size<(w.alloc (.cells #[.int .i64 kd,.int .i64 st,.string Ld,.slice A ss.length c] 30)).heap.size:=by simp
 cases mo with
 |false=>
  have HY:Hid (R=false):=HD.out;go_enter Tryz.func33,Tryz.ntmps33;go_wp2_with fail;refine(pV _ (HV.out.below hb0)).mono ?_;rintro e w1 ⟨rfl,b1⟩;go_wp2_with fail;go_returns;exact⟨by rw[HY.out];(try rfl),ae hb0 b1⟩
 |true=>
  have HY:Hid (R=ss.all Ph):=HD.out;have X9:=(Yc.out rfl).1;have HAl2:=Pd (Yc.out rfl).2;clear HD Yc;go_enter Tryz.func33,Tryz.ntmps33;go_wp2_with fail;generalize w.alloc (.cells #[.int .i64 kd,.int .i64 st,.string Ld,.slice A ss.length c] 30)=w0 at*;refine(pV _ (HV.out.below hb0)).mono ?_;rintro e w1 ⟨rfl,b1⟩;have bB:=ae hb0 b1;have q3:=(b1.cell (p:=⟨w.heap.size,3,none⟩) hn0).trans z3;have hn1:w.heap.size<w1.heap.size:=aah hn0 b1.size;have hsz:=bB.size;clear z0 z1 z2 z3 b1 pV;go_wp2_with fail
  go_loopw [3] (fun i wr=>∃(q:Nat),i=.int .i64 q/\q<=ss.length/\Below w1 w1 wr/\Hid (∀s∈ss.take q,Ph s=true)) (fun i _=>ss.length-(intOf i).toNat)
  case atStart=>exact⟨0,rfl,by omega,aac _ _,by simp[Hid]⟩
  case round=>
   obtain⟨q,rfl,hq,hBr,HN⟩:=hrel;have m3:=(hBr.cell (p:=⟨w.heap.size,3,none⟩) hn1).trans q3;by_cases hlt:q<ss.length
   ·obtain⟨b,o,rfl,Vb,hc0,A',c',hc1,TK⟩:=HV.out q hlt
    have VH:=Pd TK;have hal:=HAl2.out _ (aag hlt);have HF:Hid (Ph ss[q]=false->ss.all Ph=false):=p8 hlt;have HT:Hid (Ph ss[q]=true->∀s∈ss.take (q+1),Ph s=true):=allT hlt HN.out;generalize ss[q]=s at*;obtain⟨fin,arcs⟩:=s;simp only at*;have i0:(0:Int)<=(q:Int):=by omega
    have il:(q:Int)<(ss.length:Int):=(by omega);clear TK HN;go_wp2_with fail
    go_loopw [4] (fun i wr=>∃(j:Nat),i=.int .i64 j/\j<=arcs.length/\Below w1 w1 wr/\Hid (∀a∈arcs.take j,sV a=true)) (fun i _=>arcs.length-(intOf i).toNat)
    case atStart=>exact⟨0,rfl,by omega,hBr,by simp[Hid]⟩
    case round=>
     clear hBr;obtain⟨j,rfl,hj,T9,HJ⟩:=hrel;have n3:=(T9.cell (p:=⟨w.heap.size,3,none⟩) hn1).trans q3;have ns:=(T9.cell (p:=⟨b,o+q*2+1,none⟩) (aah Vb hsz)).trans ((bB.cell (p:=⟨b,o+q*2+1,none⟩) Vb).trans hc1);by_cases hjl:j<arcs.length
     ·obtain⟨b',o',rfl,TH,ha0,ha1,ha2,UJ⟩:=VH.out j hjl
      have Uw:Hid (sV arcs[j]=false->Ph ⟨fin,arcs⟩=false):=p8 hjl;have HT2:Hid (sV arcs[j]=true->∀a∈arcs.take (j+1),sV a=true):=allT hjl HJ.out;generalize arcs[j]=a at*;obtain⟨x,y,wt',tg⟩:=a;simp only at*;have u0:=(T9.cell (p:=⟨b',o'+j*4,none⟩) (aah TH hsz)).trans ((bB.cell (p:=⟨b',o'+j*4,none⟩) TH).trans ha0);have u1:=(T9.cell (p:=⟨b',o'+j*4+1,none⟩) (aah TH hsz)).trans ((bB.cell (p:=⟨b',o'+j*4+1,none⟩) TH).trans ha1);have ij0:(0:Int)<=(j:Int):=by omega
      have ijl:(j:Int)<(arcs.length:Int):=(by omega);clear ha0 ha1 ha2 UJ;by_cases hx:x=y
      ·have t1:=qY hx
       have HX:=Pd (HT2.out (aaA hx));clear hx Uw HT2 HJ;go_wp2_with fail
       go_quiet (fail)
       go_wp2_with fail;go_roundw
       case rel=>exact⟨j+1,by go_num,by omega,lh T9 _,HX.out⟩
       case measure=>simp[intOf];omega
      ·have t1:=ry hx
       have HX:=Pd (HY.out.trans (HF.out (Uw.out (aai hx))));clear hx Uw HT2 HJ;go_wp2_with fail
       go_quiet (fail)
       go_wp2_with fail;go_returns;exact⟨by rw[HX.out];(try rfl),lh (ae bB T9) _⟩
     ·obtain rfl:j=arcs.length:=by omega
      have HX:Hid (∀s∈ss.take (q+1),Ph s=true):=HT.out (by
       have:=HJ.out;rw[aaJ]at this;exact aaT.2 this)
      go_wp2_with fail;go_roundw
      case rel=>exact⟨q+1,by go_num,by omega,T9,HX.out⟩
      case measure=>simp[intOf];omega
   ·obtain rfl:q=ss.length:=by omega
    have HX:Hid (R=true):=by
     have:=HN.out;rw[aaJ]at this;rw[Hid,HY.out];exact aaT.2 this
    go_wp2_with fail;go_returns;exact⟨by rw[HX.out];(try rfl),ae bB hBr⟩
def KL{X:Int->ak->Prop}(UT:uT X)(m:aQ)(A AX:Option Addr)(c cx:Nat)(x:List Int)(w:World)(hV:dY w A m.states)(hl:m.states.length<=140737488355328)(Uu:m.lead.length<=9223372036854775807)(hsw:oH 9223372036854775807 m.states)(hX:ay w AX (x.map IV))(hXm:∀l,kG m true m.states (false,[])=.ok l->X m.kind l.2) :
  Calls Tryz.prog 16 #[di m A c,.slice AX x.length cx] w (qN w (uV m x)):=by
 have pV:=fun W h=>yL m A c W h hl Uu hsw
 have pC:=fun W h=>KJ m A c W h hl Uu hsw
 have pW:=fun W h=>DT AX cx x W h
 have pD:=fun W h h2=>K8 UT m A AX c cx x W h hl Uu hsw h2 hXm
 have HV:=Pd hV;have HX:=Pd hX;have HD:Hid (uV m x=if bM m=true/\iY x=true then (if qQ m=true then qX m x else .error 6) else .error 1):=rfl;generalize uV m x=R at*;generalize qX m x=DV at*;generalize bM m=mo at*;generalize iY x=wo at*;generalize qQ m=ao at*;clear hV hX hsw hl Uu hXm;unfold di S at*;obtain⟨kd,st,ld,ss⟩:=m;simp only at*;generalize (⟨ld.toArray⟩:ByteArray)=Ld at*;have z0:=az w #[.int .i64 kd,.int .i64 st,.string Ld,.slice A ss.length c] 30 0 _ rfl;have z1:=az w #[.int .i64 kd,.int .i64 st,.string Ld,.slice A ss.length c] 30 1 _ rfl;have z2:=az w #[.int .i64 kd,.int .i64 st,.string Ld,.slice A ss.length c] 30 2 _ rfl;have z3:=az w #[.int .i64 kd,.int .i64 st,.string Ld,.slice A ss.length c] 30 3 _ rfl;have hb0:Below w w (w.alloc (.cells #[.int .i64 kd,.int .i64 st,.string Ld,.slice A ss.length c] 30)):=(aac _ _).alloc (Pe _) _;have hn0:w.heap.size<(w.alloc (.cells #[.int .i64 kd,.int .i64 st,.string Ld,.slice A ss.length c] 30)).heap.size:=by simp
 cases mo with
 |false=>
  have HY:Hid (R=.error 1):=HD.out.trans (aab (by simp));clear HD;go_enter Tryz.func16,Tryz.ntmps16;go_wp2_with fail;refine(pV _ (HV.out.below hb0)).mono ?_;rintro e w1 ⟨rfl,b1⟩;go_wp2_with fail;go_returns;refine⟨ae hb0 b1,?_⟩;rw[HY.out];exact⟨rfl,by decide⟩
 |true=>
  cases wo with
  |false=>
   have HY:Hid (R=.error 1):=HD.out.trans (aab (by simp));clear HD;go_enter Tryz.func16,Tryz.ntmps16;go_wp2_with fail;refine(pV _ (HV.out.below hb0)).mono ?_;rintro e w1 ⟨rfl,b1⟩;have bB:=ae hb0 b1;go_wp2_with fail;refine(pW _ (HX.out.below bB)).mono ?_;rintro e w2 ⟨rfl,rfl⟩;go_wp2_with fail;go_returns;refine⟨bB,?_⟩;rw[HY.out];exact⟨rfl,by decide⟩
  |true=>
   have HY:Hid (R=if ao=true then DV else .error 6):=HD.out.trans (aaa (by simp));clear HD;go_enter Tryz.func16,Tryz.ntmps16;go_wp2_with fail;generalize w.alloc (.cells #[.int .i64 kd,.int .i64 st,.string Ld,.slice A ss.length c] 30)=w0 at*;refine(pV _ (HV.out.below hb0)).mono ?_;rintro e w1 ⟨rfl,b1⟩;have bB:=ae hb0 b1;have r0:=(b1.cell (p:=⟨w.heap.size,0,none⟩) hn0).trans z0;have r1:=(b1.cell (p:=⟨w.heap.size,1,none⟩) hn0).trans z1;have r2:=(b1.cell (p:=⟨w.heap.size,2,none⟩) hn0).trans z2;have r3:=(b1.cell (p:=⟨w.heap.size,3,none⟩) hn0).trans z3;have hn1:w.heap.size<w1.heap.size:=aah hn0 b1.size;clear z0 z1 z2 z3 b1 pV;go_wp2_with fail;refine(pW _ (HX.out.below bB)).mono ?_;rintro e w2 ⟨rfl,rfl⟩;clear pW
   cases ao with
   |false=>
    have HZ:Hid (R=.error 6):=HY.out;go_wp2_with fail;refine(pC _ (HV.out.below bB)).mono ?_;rintro e w3 ⟨rfl,b3⟩;go_wp2_with fail;go_returns;refine⟨ae bB b3,?_⟩;rw[HZ.out];exact⟨rfl,by decide⟩
   |true=>
    have HZ:Hid (R=DV):=HY.out;go_wp2_with fail;refine(pC _ (HV.out.below bB)).mono ?_;rintro e w3 ⟨rfl,b3⟩;have s0:=(b3.cell (p:=⟨w.heap.size,0,none⟩) hn1).trans r0;have s1:=(b3.cell (p:=⟨w.heap.size,1,none⟩) hn1).trans r1;have s2:=(b3.cell (p:=⟨w.heap.size,2,none⟩) hn1).trans r2;have s3:=(b3.cell (p:=⟨w.heap.size,3,none⟩) hn1).trans r3;have bC:=ae bB b3;have pd:=pD _ (HV.out.below bC) (HX.out.below bC);clear r0 r1 r2 r3 pD pC;go_wp2_with fail;refine pd.mono ?_;rintro e w4 ⟨b4,hq⟩
    cases DV with
    |error y=>
     have HZ2:Hid (R=.error y):=HZ.out;obtain⟨rfl,hne⟩:=hq;go_wp2_with fail;go_returns;refine⟨ae bC b4,?_⟩;rw[HZ2.out];exact⟨rfl,hne⟩
    |ok t=>
     have HZ2:Hid (R=.ok t):=HZ.out;obtain⟨rfl,hne⟩:=hq;go_wp2_with fail;go_returns;refine⟨ae bC b4,?_⟩;rw[HZ2.out];exact⟨rfl,hne⟩
end Go.Proofs.YtppnecgeboonbaaGreatDoor
