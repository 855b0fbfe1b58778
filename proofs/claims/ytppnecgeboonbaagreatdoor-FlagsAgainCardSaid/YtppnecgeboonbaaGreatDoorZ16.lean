/- Walks. -/
import Derived.Test.YtppnecgeboonbaaGreatDoorZ15
import Derived.Deep.CutBlock
import Derived.Deep.CutRange
namespace Go.Proofs.YtppnecgeboonbaaGreatDoor.Rat3
set_option maxRecDepth 100000
set_option linter.all false
set_option maxHeartbeats 8000000
open Go.RowKit
def aY(B g n c:Nat)(L:List Nat)(w:World):Prop:=L.length=n/\w.ownsRow B 231 1 (.slice (some ⟨g,0,none⟩) n c) n (L.map U)
def aY.cell{B g n c:Nat}{L:List Nat}{w:World}(h:aY B g n c L w){j:Nat}(hj:j<L.length):w.cell? ⟨g,j,none⟩=some (.int .u64 L[j]):=by
 have hn:j<n:=by have:=h.1;omega
 rcases h.2.2 with⟨h',_⟩|⟨g',cap',cur,h',_,hg,_,_,_,htake⟩
 ·simp at h'
 ·simp only[acU,aao,adP,acH,aeg]at h'
  obtain⟨rfl,rfl⟩:=h';rw[aap w g j cur 231 (0,0) hg];have h2:(L.map U)[j]? = some (U L[j]):=gP hj;rw[<-htake,ac2,aaa (by omega)]at h2;simp only[aeJ]at h2;exact h2
def aY.frozen{B g n c:Nat}{L:List Nat}{w:World}(h:aY B g n c L w)(j:Nat):w.frozen? ⟨g,j,none⟩=false:=aeC h.2 j
def aY.row{B g n c:Nat}{L:List Nat}{w:World}(h:aY B g n c L w):ay w (some ⟨g,0,none⟩) (L.map U):=fun hne=>by
 have hp:0<L.length:=aaM.2 (fun e=>hne (by rw[e];rfl));refine⟨g,0,rfl,ax (h.cell hp),fun j u hu=>?_⟩;rw[aaP];rcases aaz j L.length with hj|hj
 ·rw[gP hj]at hu
  injection hu with hu
  rw[<-hu];exact h.cell hj
 ·rw[aa4 (by rw[aaC];exact hj)]at hu;cases hu
def aY.store{B g n c:Nat}{L:List Nat}{w:World}(h:aY B g n c L w)(j v:Nat):aY B g n c (L.set j v) (w.setCell ⟨g,j,none⟩ (.int .u64 v)):=by
 refine⟨by rw[abh];exact h.1,?_⟩;rw[ac3];exact(ae3 h.2 j (U v)).1
def aY.drew{B g n c:Nat}{L:List Nat}{w:World}(h:aY B g n c L w):aY B g n c L w.drew:=h
def fV{w w1:World}{g:Nat}(h:w.grownBy w1 (some g))(j:Nat)(v:Value):w.grownBy (w1.setCell ⟨g,j,none⟩ v) (some g):=
 ⟨h.os,h.tape,h.output,by simpa using h.size,fun k hk hne=>by
  rw[<-h.block k hk hne];exact heap_setCell_other w1 ⟨g,j,none⟩ k v (fun e=>hne (by rw[e]))⟩
def xU{w w1:World}{g:Nat}(h:w.grownBy w1 (some g)):w.grownBy w1.drew (some g):=⟨h.os,h.tape,h.output,h.size,h.block⟩
def vL(w:World)(g:Nat):w.grownBy w (some g):=⟨rfl,rfl,rfl,Pe _,fun _ _ _=>rfl⟩
def iQ{w w1:World}{g b j:Nat}{v:Value}(h:w.grownBy w1 (some g))(hne:b≠g)(hc:w.cell? ⟨b,j,none⟩=some v):w1.cell? ⟨b,j,none⟩=some v:=by
 have hlt:b<w.heap.size:=ax hc;have e:=h.block b hlt (fun e=>hne (by injection e));unfold World.cell? at hc ⊢;rw[e];exact hc
def Gn(B g N c o n cu bv ov cv:Nat)(L V:List Nat)(w:World)(hM:aY B g N c L w)(hL:∀d∈L,d<BB)(hV:∀d∈V,d<BB)(hVc:Canon V)(hVn:V.length=n)(hn:1<=n)(hN:N<=10000)(ho:o+n+1<=N)
  (hne:bv≠g) (hrow:∀j (h:j<V.length),w.cell? ⟨bv,ov+j,none⟩=some (.int .u64 V[j])) (hlt:aa BB (L.drop o)<BB*aa BB V) :
  Calls Tryz.prog 221 #[.slice (some ⟨g,o,none⟩) (n+1) cu,.slice (some ⟨bv,ov,none⟩) n cv] w fun e w'=>e=.returned (.int .u64 (Int.ofNat (aa BB (L.drop o)/aa BB V))) ∧
   ∃L':List Nat,aY B g N c L' w'/\w.grownBy w' (some g)/\(∀d∈L',d<BB)/\L'.take o=L.take o/\aa BB (L'.drop o)=aa BB (L.drop o)%aa BB V:=by
 obtain⟨p,hp⟩:∃p,n=p+1:=⟨n-1,by omega⟩;obtain⟨m,hm⟩:∃m,n+1=m:=⟨_,rfl⟩;have hLn:=hM.1;obtain⟨T,hT⟩:∃T,L.drop o=T:=⟨_,rfl⟩;have hTl:T.length=N-o:=by rw[<-hT,aaH,hLn]
 have hTb:∀d∈T,d<BB:=fun d hd=>hL d (by rw[<-hT]at hd;exact abV hd)
 have Zt:∀j (h:o+j<L.length),L[o+j]=T.getD j 0:=fun j h=>by
  rw[<-hT,aaf,adx,aak h];rfl
 rw[hT]at hlt ⊢;have hUlt:aa BB T<BB ^ (n+1):=by
  have h1:=jN hV;rw[hVn]at h1;rw[abl,aaR];exact aah hlt (abn _ (by omega))
 obtain⟨hwin,hrest⟩:=Ot aC hUlt;have hW:=Oq hVn hn hV hTb hVc (by rw[hwin];exact hlt);rw[hwin]at hW;have hcell:∀j,j<n+1->w.cell? ⟨g,o+j,none⟩=some (.int .u64 (T.getD j 0)):=fun j hj=>by
  rw[<-Zt j (by omega)];exact hM.cell (by omega)
 have hvg:∀j (h:j<V.length),V[j]=V.getD j 0:=fun j h=>(kv h).symm
 have Vo:∀j,j<n->w.cell? ⟨bv,ov+j,none⟩=some (.int .u64 (V.getD j 0)):=fun j hj=>by
  rw[<-hvg j (by omega)];exact hrow j (by omega)
 rw[show n-1=p by omega]at hW;have HW:=Pd hW;have HTB:=Pd hTb;have Xd:=Pd hL;have HT0:=Pd hT;have HVB:=Pd hV;have ZY:=Pd hrest;have VR:=Pd hwin;have HHC:=Pd hcell;have Xc:=Pd Vo;have hun:=hcell n (by omega);have hum:=hcell p (by omega);have hv1:=Vo p (by omega);have bun:=getD_lt aC hTb n;have bum:=getD_lt aC hTb p;have bv1:=getD_lt aC hV p;have v1pos:=hW.hv;obtain⟨un,hun'⟩:∃x,T.getD n 0=x:=⟨_,rfl⟩;obtain⟨um,aCM⟩:∃x,T.getD p 0=x:=⟨_,rfl⟩;obtain⟨v1,Vh⟩:∃x,V.getD p 0=x:=⟨_,rfl⟩;obtain⟨tp,htp⟩:∃x,un*BB+um=x:=⟨_,rfl⟩;rw[hun']at hun bun;rw[aCM]at hum bum;rw[Vh]at hv1 bv1 v1pos;rw[hun',aCM,Vh,htp]at HW;have bun':un<1000000000:=bun;have bum':um<1000000000:=bum;have bv1':v1<1000000000:=bv1;have htpi:(un:Int)*1000000000+(um:Int)=(tp:Int):=by rw[<-htp];unfold BB;omega
 have btp:tp<1000000000000000000:=by omega
 obtain⟨q0,hq0⟩:∃x,tp/v1=x:=⟨_,rfl⟩;obtain⟨r0,hr0⟩:∃x,tp%v1=x:=⟨_,rfl⟩;have hq0i:(tp:Int)/(v1:Int)=(q0:Int):=by rw[<-hq0];exact(afH tp v1).symm
 have hr0i:(tp:Int)%(v1:Int)=(r0:Int):=by rw[<-hr0];exact(Int.natCast_emod tp v1).symm
 have hqr:r0+q0*v1=tp:=by rw[<-hq0,<-hr0,aaR];exact abt tp v1
 have HQ0:Hid (aa BB T/aa BB V<=q0):=by rw[Hid,<-hq0];exact HW.out.q0
 have bq0:q0<=tp:=by rw[<-hq0];exact Nat.div_le_self _ _
 have br0:r0<1000000000:=by have:=abR tp (show v1>0 by omega);omega
 have v1ne2:¬ ((v1:Int)=0):=by omega
 have v1ne3:¬ v1=0:=by omega
 have hr0t:(tp:Int).tmod (v1:Int)=(r0:Int):=by rw[afp (by omega)];exact hr0i
 have hq0t:(tp:Int).tdiv (v1:Int)=(q0:Int):=by rw[adQ (by omega)];exact hq0i
 have v1ne:((v1:Int)==0)=false:=aaN.2 (by omega);have br0t:r0<=tp:=by omega
 have wq0:IntKind.u64.wrap (q0:Int)=(q0:Int):=by rw[aa9];omega
 have wr0:IntKind.u64.wrap (r0:Int)=(r0:Int):=by rw[aa9];omega
 have HQR:=Pd hqr;have HTG:=Pd Zt;clear hcell Vo Zt hvg hrow hW hwin hrest hq0 hr0 hqr htp hT hlt bun bum bv1;have ob0:(0:Int)<=(o:Int):=by omega
 have pb0:(0:Int)<=(p:Int):=by omega
 have nb0:(0:Int)<=(n:Int):=by omega
 have nm:(n:Int)<(m:Int):=by omega
 have pm:(p:Int)<(m:Int):=by omega
 have pn:(p:Int)<(n:Int):=by omega
 have n1:(n:Int)-1=(p:Int):=by omega
 have m1:(n:Int)+1=(m:Int):=by omega
 rw[hm];have HP:=Pd hp;have HM:=Pd hm;have w1:IntKind.i64.wrap ((n:Int)-1)=(p:Int):=by rw[oF,acn _ ⟨by omega,by omega⟩];omega
 have w1':IntKind.i64.wrap (p:Int)=(p:Int):=by rw[oF,acn _ ⟨by omega,by omega⟩]
 have w2:IntKind.u64.wrap ((un:Int)*1000000000)=(un:Int)*1000000000:=by rw[aa9];omega
 have w3:IntKind.u64.wrap ((un:Int)*1000000000+(um:Int))=(tp:Int):=by rw[aa9];omega
 have w4:IntKind.u64.wrap (tp:Int)=(tp:Int):=by rw[aa9];omega
 clear hp hm;go_enter Tryz.func221,Tryz.ntmps221;go_wp2_with fail
 go_region_held3 (fun w'=>w'.cell? ⟨g,o+n,none⟩=some (.int .u64 un)/\w'.cell? ⟨g,o+p,none⟩=some (.int .u64 um)/\w'.cell? ⟨bv,ov+p,none⟩=some (.int .u64 v1)) (first|assumption|exact⟨hun,hum,hv1⟩) (fail)
 go_wp2_with fail
 go_region_held3 (fun w'=>w'.cell? ⟨g,o+n,none⟩=some (.int .u64 un)/\w'.cell? ⟨g,o+p,none⟩=some (.int .u64 um)/\w'.cell? ⟨bv,ov+p,none⟩=some (.int .u64 v1)) (first|assumption|exact⟨hun,hum,hv1⟩) (fail)
 all_goals go_upto_block 0 with(fail)
 go_cut [7] from 43 to 85 (fun qv wx=>∃q:Nat,qv=.int .u64 q/\q<1000000000/\aY B g N c L wx/\w.grownBy wx (some g)/\Hid (q*aa BB V<=aa BB T+aa BB V)/\Hid (aa BB T/aa BB V<=q))
 case first=>
  go_wp2_with fail
  go_loopw [7,8] (fun qv rv wr=>∃(q r:Nat),qv=.int .u64 q/\rv=.int .u64 r/\r<=tp/\q<=tp/\aY B g N c L wr/\w.grownBy wr (some g)/\Hid (r+q*v1=tp)/\Hid (aa BB T/aa BB V<=q)) (fun qv _ _=>(intOf qv).toNat)
  case atStart=>exact⟨q0,r0,rfl,rfl,br0t,bq0,hM,xU (xU (vL w g)),HQR,HQ0⟩
  case round=>
   obtain⟨q,r,rfl,rfl,br,bq,Ut,hgr,HR,HQ⟩:=hrel;clear hun hum hv1 hM;rcases aaz q 1000000000 with hA|hA
   ·have hAi:(q:Int)<1000000000:=by omega
    have hAd:decide ((1000000000:Int)<=(q:Int))=false:=aai (by omega);have hAn:=hA;rcases aaz 1 n with hB|hB
    ·skip
     obtain⟨p2,hp2⟩:∃x,n-2=x:=⟨_,rfl⟩;have hLr:=Ut.1;have VF:=HM.out;have hcu2:=Ut.cell (j:=o+p2) (by omega);rw[HTG.out p2 (by omega)]at hcu2;have Xx:=iQ hgr hne (Xc.out p2 (by omega));have bu2:=getD_lt aC HTB.out p2;have bv2:=getD_lt aC HVB.out p2;have ZO:Hid (∀q rest,rest+q*v1=tp->q<BB->q*V.getD p2 0<=rest*BB+T.getD p2 0->q*aa BB V<=aa BB T+aa BB V):=by
      have h:=HW.out.near hB;rw[hp2,VR.out]at h;exact h
     have ZC:Hid (∀q rest,rest+q*v1=tp->aa BB T/aa BB V<=q->rest*BB+T.getD p2 0<q*V.getD p2 0->aa BB T/aa BB V<q):=by
      have h:=HW.out.down hB;rw[hp2]at h;exact h
     generalize T.getD p2 0=u2 at*;generalize V.getD p2 0=v2 at*;have bu2':u2<1000000000:=bu2;have bv2':v2<1000000000:=bv2;obtain⟨pv,hpv⟩:∃x,q*v2=x:=⟨_,rfl⟩;have hpvi:(q:Int)*(v2:Int)=(pv:Int):=by rw[<-hpv];exact(adY q v2).symm
     have hpvb:pv<=999999999*999999999:=by rw[<-hpv];exact ab8 (by omega) (by omega)
     have n2:(n:Int)-2=(p2:Int):=(by omega);have p2b0:(0:Int)<=(p2:Int):=(by omega);have p2m:(p2:Int)<(m:Int):=(by omega);have p2n:(p2:Int)<(n:Int):=(by omega);have hBi:(1:Int)<(n:Int):=(by omega);have HPV:=Pd hpv;clear hp2 hpv VF bu2 bv2;rcases aaz r 1000000000 with hC|hC
     ·have hCi:(r:Int)<1000000000:=by omega
      rcases aaz (r*1000000000+u2) pv with hD|hD
      ·have UZ:aa BB T/aa BB V<q:=ZC.out q r HR.out HQ.out (by rw[HPV.out];exact hD)
       obtain⟨ru,hru⟩:∃x,r*1000000000+u2=x:=⟨_,rfl⟩;have hrui:(r:Int)*1000000000+(u2:Int)=(ru:Int):=by omega
       have hrub:ru<=1000000000000000000:=(by omega);have wpv:IntKind.u64.wrap (pv:Int)=(pv:Int):=by rw[aa9];omega
       have wru:IntKind.u64.wrap (ru:Int)=(ru:Int):=by rw[aa9];omega
       have wr9:IntKind.u64.wrap ((r:Int)*1000000000)=(r:Int)*1000000000:=by rw[aa9];omega
       rw[hru]at hD;have hDi:(ru:Int)<(pv:Int):=by omega
       clear hru;obtain⟨q',hq'⟩:∃x,q-1=x:=⟨_,rfl⟩;obtain⟨r',hr'⟩:∃x,r+v1=x:=⟨_,rfl⟩;have aCB:1<=q:=Nat.lt_of_le_of_lt (aaS _) UZ;have hqi:(q:Int)-1=(q':Int):=by omega
       have hri:(r:Int)+(v1:Int)=(r':Int):=by omega
       have Xg:Hid (r'+q'*v1=tp):=by
        have h:=HR.out;have e:q=q'+1:=by omega
        rw[e,abJ,acA]at h;rw[Hid,<-hr'];omega
       have Vt:Hid (aa BB T/aa BB V<=q'):=by rw[Hid,<-hq'];exact Nat.le_sub_one_of_lt UZ
       have br':r'<=tp:=by have:=Xg.out;exact aaB (afP _ _) (aeS this)
       have YX:q'<q:=(by omega);have bq':q'<=tp:=(by omega);have wrr:IntKind.u64.wrap (r':Int)=(r':Int):=by rw[aa9];omega
       have wqq:IntKind.u64.wrap (q':Int)=(q':Int):=by rw[aa9];omega
       clear hq' hr' UZ;rcases(show(1000000000<=r'/\q'<1000000000)\/r'<1000000000\/(1000000000<=r'/\1000000000<=q') by omega) with⟨b1',b2'⟩|b1'|⟨b1',b2'⟩
       ·have HX:Hid (q'*aa BB V<=aa BB T+aa BB V):=by have h:=HW.out.far q' r' Xg.out b1' b2';rw[VR.out]at h;exact h
        have b1i:(1000000000:Int)<=(r':Int):=(by omega);have b2i:(q':Int)<1000000000:=(by omega);clear b1' b2';go_wp2_with fail
        go_quiet (fail)
        have UE:=iQ hgr hne (Xc.out p (by have:=HP.out;omega));rw[Vh]at UE;go_wp2_with fail
        go_meet
        case rel=>exact⟨q',rfl,by omega,Ut,⟨hgr.os,hgr.tape,hgr.output,hgr.size,hgr.block⟩,HX,Vt⟩
       ·have b1i:(r':Int)<1000000000:=by omega
        have b1d:decide ((1000000000:Int)<=(r':Int))=false:=aai (by omega);clear b1';go_wp2_with fail
        go_quiet (fail)
        have UE:=iQ hgr hne (Xc.out p (by have:=HP.out;omega));rw[Vh]at UE;go_wp2_with fail;go_roundw
        case rel=>exact⟨q',r',rfl,rfl,br',bq',Ut,⟨hgr.os,hgr.tape,hgr.output,hgr.size,hgr.block⟩,Xg,Vt⟩
        case measure=>simp only[intOf];omega
       ·have b1i:(1000000000:Int)<=(r':Int):=by omega
        have b2i:(1000000000:Int)<=(q':Int):=(by omega);have b2d:decide ((q':Int)<1000000000)=false:=aai (by omega);clear b1' b2';go_wp2_with fail
        go_quiet (fail)
        have UE:=iQ hgr hne (Xc.out p (by have:=HP.out;omega));rw[Vh]at UE;go_wp2_with fail;go_roundw
        case rel=>exact⟨q',r',rfl,rfl,br',bq',Ut,⟨hgr.os,hgr.tape,hgr.output,hgr.size,hgr.block⟩,Xg,Vt⟩
        case measure=>simp only[intOf];omega
      ·have Vy:decide ((r:Int)*1000000000+(u2:Int)<(pv:Int))=false:=aai (by omega)
       have Vt:=HQ;have HX:Hid (q*aa BB V<=aa BB T+aa BB V):=ZO.out q r HR.out hAn (by rw[HPV.out];exact hD);go_wp2_with fail
       go_quiet (fail)
       go_wp2_with fail
       go_meet
       case rel=>exact⟨q,rfl,by omega,Ut,⟨hgr.os,hgr.tape,hgr.output,hgr.size,hgr.block⟩,HX,Vt⟩
     ·have hCd:decide ((r:Int)<1000000000)=false:=aai (by omega)
      have Vt:=HQ;have HX:Hid (q*aa BB V<=aa BB T+aa BB V):=by have h:=HW.out.far q r HR.out hC hAn;rw[VR.out]at h;exact h
      go_wp2_with fail
      go_quiet (fail)
      go_wp2_with fail
      go_meet
      case rel=>exact⟨q,rfl,by omega,Ut,⟨hgr.os,hgr.tape,hgr.output,hgr.size,hgr.block⟩,HX,Vt⟩
    ·have hBi:(n:Int)<=1:=by omega
     have hBd:decide ((1:Int)<(n:Int))=false:=aai (by omega);have hBe:decide ((n:Int)>1)=false:=aai (by omega);have Vt:=HQ;have HX:Hid (q*aa BB V<=aa BB T+aa BB V):=by have h:=HW.out.one (by omega) q r HR.out;rw[VR.out]at h;exact h
     go_wp2_with fail
     go_quiet (fail)
     go_wp2_with fail
     go_meet
     case rel=>exact⟨q,rfl,by omega,Ut,⟨hgr.os,hgr.tape,hgr.output,hgr.size,hgr.block⟩,HX,Vt⟩
   ·have hAi:(1000000000:Int)<=(q:Int):=by omega
    have UZ:aa BB T/aa BB V<q:=aah HW.out.qlt hA;clear hA;obtain⟨q',hq'⟩:∃x,q-1=x:=⟨_,rfl⟩;obtain⟨r',hr'⟩:∃x,r+v1=x:=⟨_,rfl⟩;have aCB:1<=q:=Nat.lt_of_le_of_lt (aaS _) UZ;have hqi:(q:Int)-1=(q':Int):=by omega
    have hri:(r:Int)+(v1:Int)=(r':Int):=by omega
    have Xg:Hid (r'+q'*v1=tp):=by
     have h:=HR.out;have e:q=q'+1:=by omega
     rw[e,abJ,acA]at h;rw[Hid,<-hr'];omega
    have Vt:Hid (aa BB T/aa BB V<=q'):=by rw[Hid,<-hq'];exact Nat.le_sub_one_of_lt UZ
    have br':r'<=tp:=by have:=Xg.out;exact aaB (afP _ _) (aeS this)
    have YX:q'<q:=(by omega);have bq':q'<=tp:=(by omega);have wrr:IntKind.u64.wrap (r':Int)=(r':Int):=by rw[aa9];omega
    have wqq:IntKind.u64.wrap (q':Int)=(q':Int):=by rw[aa9];omega
    clear hq' hr' UZ;rcases(show(1000000000<=r'/\q'<1000000000)\/r'<1000000000\/(1000000000<=r'/\1000000000<=q') by omega) with⟨b1',b2'⟩|b1'|⟨b1',b2'⟩
    ·have HX:Hid (q'*aa BB V<=aa BB T+aa BB V):=by have h:=HW.out.far q' r' Xg.out b1' b2';rw[VR.out]at h;exact h
     have b1i:(1000000000:Int)<=(r':Int):=(by omega);have b2i:(q':Int)<1000000000:=(by omega);clear b1' b2';go_wp2_with fail
     go_quiet (fail)
     have UE:=iQ hgr hne (Xc.out p (by have:=HP.out;omega));rw[Vh]at UE;go_wp2_with fail
     go_meet
     case rel=>exact⟨q',rfl,by omega,Ut,⟨hgr.os,hgr.tape,hgr.output,hgr.size,hgr.block⟩,HX,Vt⟩
    ·have b1i:(r':Int)<1000000000:=by omega
     have b1d:decide ((1000000000:Int)<=(r':Int))=false:=aai (by omega);clear b1';go_wp2_with fail
     go_quiet (fail)
     have UE:=iQ hgr hne (Xc.out p (by have:=HP.out;omega));rw[Vh]at UE;go_wp2_with fail;go_roundw
     case rel=>exact⟨q',r',rfl,rfl,br',bq',Ut,⟨hgr.os,hgr.tape,hgr.output,hgr.size,hgr.block⟩,Xg,Vt⟩
     case measure=>simp only[intOf];omega
    ·have b1i:(1000000000:Int)<=(r':Int):=by omega
     have b2i:(1000000000:Int)<=(q':Int):=(by omega);have b2d:decide ((q':Int)<1000000000)=false:=aai (by omega);clear b1' b2';go_wp2_with fail
     go_quiet (fail)
     have UE:=iQ hgr hne (Xc.out p (by have:=HP.out;omega));rw[Vh]at UE;go_wp2_with fail;go_roundw
     case rel=>exact⟨q',r',rfl,rfl,br',bq',Ut,⟨hgr.os,hgr.tape,hgr.output,hgr.size,hgr.block⟩,Xg,Vt⟩
     case measure=>simp only[intOf];omega
 case rest=>
  obtain⟨q,rfl,hAn,Ut,hgr,HX,Vt⟩:=hcut;clear hun hum hv1 hM;go_wp2_with fail
  go_loopw [9,10,88] (fun bo ca i wr'=>∃(k b1 c1:Nat) (L':List Nat),i=.int .i64 k/\k<=m/\bo=.int .u64 b1/\ca=.int .u64 c1/\b1<=1/\c1<1000000000/\aY B g N c L' wr'/\w.grownBy wr' (some g)/\Hid (∀d∈L',d<BB)/\Hid (L'.take o=L.take o)/\Hid ((L'.drop o).drop k=T.drop k)/\Hid (aa BB ((L'.drop o).take k)+q*aa BB (V.take k)=aa BB (T.take k)+BB ^ k*(b1+c1))/\(k=m->c1=0)) (fun _ _ i _=>m-(intOf i).toNat)
  case atStart=>exact⟨0,0,0,L,rfl,by omega,rfl,rfl,by omega,by omega,Ut,⟨hgr.os,hgr.tape,hgr.output,hgr.size,hgr.block⟩,Xd,rfl,by rw[Hid,HT0.out],by simp[Hid,aa],fun h=>rfl⟩
  case round=>
   obtain⟨k,b1,c1,L',rfl,hk,rfl,rfl,hb1,hc1,hM',hg',VO,Um,HDR,Zl,hkm⟩:=hrel;by_cases hkl:k<m
   ·have hL'n:=hM'.1
    have VF:=HM.out;have hjl:o+k<L'.length:=by omega
    have Wh:=hM'.cell hjl;have hfu:=hM'.frozen (o+k);have hbu:=VO.out _ (aag hjl);have hgd:=mI HDR.out;rw[mH hjl,hgd]at Wh hbu;obtain⟨u,hu⟩:∃x,T.getD k 0=x:=⟨_,rfl⟩;rw[hu]at Wh hbu;have WW:=getD_lt aC HVB.out k;obtain⟨vk,hvk⟩:∃x,V.getD k 0=x:=⟨_,rfl⟩;rw[hvk]at WW;have aCC:q*vk<=999999999*999999999:=ab8 (by omega) (by unfold BB at WW;omega);obtain⟨qv,U4⟩:∃x,q*vk=x:=⟨_,rfl⟩;have hqvi:(q:Int)*(vk:Int)=(qv:Int):=by rw[<-U4];exact(adY q vk).symm
    rw[U4]at aCC;obtain⟨aCG,aCH⟩:=uM (p:=c1+qv) hbu hb1;have HST:Hid (aa BB (((L'.set (o+k) ((u+BB-(c1+qv)%BB-b1)%BB)).drop o).take (k+1))+q*aa BB (V.take (k+1))=aa BB (T.take (k+1))+BB ^ (k+1)*((1-(u+BB-(c1+qv)%BB-b1)/BB)+(c1+qv)/BB)):=by
     rw[Hid,ig,nE (by rw[aaH];omega),cK BB V,cK BB T,hvk,hu];exact uN Zl.out (by rw[U4]) aCG
    have Wq:Hid ((L'.set (o+k) ((u+BB-(c1+qv)%BB-b1)%BB)).take o=L.take o):=by rw[Hid,ny];exact Um.out
    have VN:Hid (((L'.set (o+k) ((u+BB-(c1+qv)%BB-b1)%BB)).drop o).drop (k+1)=T.drop (k+1)):=by
     rw[Hid,ig,mF (by omega),<-aeh,<-aeh,HDR.out]
    have VI:=Pd (jY (j:=o+k) VO.out (abR (u+BB-(c1+qv)%BB-b1) aC));have UQ:=Pd (tH (c1:=c1) hc1 aCC);have HB2:=Pd aCH;have Wo:=fun v=>hM'.store (o+k) v
    have hbu':u<1000000000:=hbu;have kb0:(0:Int)<=(k:Int):=by omega
    have km:(k:Int)<(m:Int):=(by omega);have HR1:Hid ((((u+BB-(c1+qv)%BB-b1)%BB:Nat):Int)=((u:Int)+1000000000-((c1:Int)+(qv:Int))%1000000000-(b1:Int))%1000000000):=by unfold Hid BB;omega
    have HR2:Hid (((1-(u+BB-(c1+qv)%BB-b1)/BB:Nat):Int)=1-((u:Int)+1000000000-((c1:Int)+(qv:Int))%1000000000-(b1:Int))/1000000000):=by unfold Hid BB;omega
    have HR3:Hid ((((c1+qv)/BB:Nat):Int)=((c1:Int)+(qv:Int))/1000000000):=by unfold Hid BB;omega
    clear aCG aCH VF hgd hbu;by_cases hkn:k<n
    ·have hcv:=iQ hg' hne (Xc.out k hkn)
     rw[hvk]at hcv;have kn:(k:Int)<(n:Int):=by omega
     clear hvk hu U4;go_wp2_with fail;go_roundw
     case rel=>exact⟨k+1,1-(u+BB-(c1+qv)%BB-b1)/BB,(c1+qv)/BB,L'.set (o+k) ((u+BB-(c1+qv)%BB-b1)%BB),by go_num,by omega,by rw[HR2.out],by rw[HR3.out],HB2.out,UQ.out,by rw[<-HR1.out];exact Wo _,fV hg' _ _,VI.out,Wq.out,VN.out,HST.out,fun h=>by have:=HM.out;omega⟩
     case measure=>simp[intOf];omega
    ·have hqv0:qv=0:=by rw[<-U4,<-hvk,eB (by omega)];rfl
     subst hqv0;clear hvk hu U4;go_wp2_with fail;go_roundw
     case rel=>exact⟨k+1,1-(u+BB-(c1+0)%BB-b1)/BB,(c1+0)/BB,L'.set (o+k) ((u+BB-(c1+0)%BB-b1)%BB),by go_num,by omega,by rw[HR2.out];simp,by rw[HR3.out];simp,HB2.out,UQ.out,by have h:=Wo ((u+BB-(c1+0)%BB-b1)%BB);rw[HR1.out]at h;simpa using h,fV hg' _ _,VI.out,Wq.out,VN.out,HST.out,fun h=>by unfold BB;omega⟩
     case measure=>simp[intOf];omega
   ·obtain rfl:k=m:=by omega
    obtain rfl:=hkm rfl;have VF:=HM.out;have heq:=Zl.out;have hVt:V.take k=V:=aav (by omega);have hTt:aa BB (T.take k)=aa BB T:=by rw[<-VF];exact VR.out
    have hdz:aa BB ((L'.drop o).drop k)=0:=by rw[HDR.out,<-VF];exact ZY.out
    have hL'n:=hM'.1;have XX:aa BB (L'.drop o)=aa BB ((L'.drop o).take k):=by
     rw[jO (T:=L'.drop o) (k:=k) (by rw[aaH];omega),hdz];rfl
    rw[hVt,hTt,<-XX,abw]at heq;have ZF:=Pd heq;have HVP:=Pd HW.out.vpos;clear hVt hTt hdz XX heq;rcases(show b1=0\/b1=1 by omega)with rfl|rfl
    ·obtain⟨e1,e2⟩:=tZ HVP.out rfl Vt.out (by have:=ZF.out;rw[ado,abw]at this;exact this)
     have V5:=Pd e1;have HE2:=Pd e2;clear e1 e2 VF;go_wp2_with fail;go_returns;exact⟨kF (by have:=V5.out;show((q:Nat):Int)=((_:Nat):Int);rw[this]),L',hM',hg',VO.out,Um.out,HE2.out⟩
    ·clear hkm
     go_wp2_with fail
     go_loopw [10,129] (fun ca i wr''=>∃(k2 c2:Nat) (L2:List Nat),i=.int .i64 k2/\k2<=k/\ca=.int .u64 c2/\c2<=1/\aY B g N c L2 wr''/\w.grownBy wr'' (some g)/\Hid (∀d∈L2,d<BB)/\Hid (L2.take o=L.take o)/\Hid ((L2.drop o).drop k2=(L'.drop o).drop k2)/\Hid (aa BB ((L2.drop o).take k2)+BB ^ k2*c2=aa BB ((L'.drop o).take k2)+aa BB (V.take k2))) (fun _ i _=>k-(intOf i).toNat)
     case atStart=>exact⟨0,0,L',rfl,by omega,rfl,by omega,hM',hg',VO,Um,rfl,by simp[Hid,aa]⟩
     case round=>
      obtain⟨k2,c2,L2,rfl,hk2,rfl,hc2,hM2,hg2,HL2,Wq,VN,ZG⟩:=hrel;have hL2n:=hM2.1;by_cases hkl2:k2<k
      ·have hjl:o+k2<L2.length:=by omega
       have hjl':k2<(L'.drop o).length:=by rw[aaH];omega
       have Wh:=hM2.cell hjl;have hfu:=hM2.frozen (o+k2);have hbu:=HL2.out _ (aag hjl);have hgd:=mI VN.out;rw[mH hjl,hgd]at Wh hbu;obtain⟨u,hu⟩:∃x,(L'.drop o).getD k2 0=x:=⟨_,rfl⟩;rw[hu]at Wh hbu;have WW:=getD_lt aC HVB.out k2;obtain⟨vk,hvk⟩:∃x,V.getD k2 0=x:=⟨_,rfl⟩;rw[hvk]at WW;have hvkb':vk<1000000000:=WW;have hbu':u<1000000000:=hbu;have HST:Hid (aa BB (((L2.set (o+k2) ((u+c2+vk)%BB)).drop o).take (k2+1))+BB ^ (k2+1)*((u+c2+vk)/BB)=aa BB ((L'.drop o).take (k2+1))+aa BB (V.take (k2+1))):=by
        rw[Hid,ig,nE (by rw[aaH];omega),cK BB V,cK BB (L'.drop o),hvk,hu];exact sU ZG.out rfl
       have Z6:Hid ((L2.set (o+k2) ((u+c2+vk)%BB)).take o=L.take o):=by rw[Hid,ny];exact Wq.out
       have ZE:Hid (((L2.set (o+k2) ((u+c2+vk)%BB)).drop o).drop (k2+1)=(L'.drop o).drop (k2+1)):=by
        rw[Hid,ig,mF (by omega),<-aeh,<-aeh,VN.out]
       have VI:=Pd (jY (j:=o+k2) HL2.out (abR (u+c2+vk) aC));have Wo:=fun v=>hM2.store (o+k2) v
       have kb0:(0:Int)<=(k2:Int):=(by omega);have km2:(k2:Int)<(k:Int):=(by omega);have HR1:Hid ((((u+c2+vk)%BB:Nat):Int)=((u:Int)+(c2:Int)+(vk:Int))%1000000000):=by unfold Hid BB;omega
       have HR2:Hid ((((u+c2+vk)/BB:Nat):Int)=((u:Int)+(c2:Int)+(vk:Int))/1000000000):=by unfold Hid BB;omega
       have UQ:Hid ((u+c2+vk)/BB<=1):=by unfold Hid BB;omega
       clear hgd hbu;by_cases hkn:k2<n
       ·have hcv:=iQ hg2 hne (Xc.out k2 hkn)
        rw[hvk]at hcv;have kn:(k2:Int)<(n:Int):=by omega
        clear hvk hu;go_wp2_with fail;go_roundw
        case rel=>exact⟨k2+1,(u+c2+vk)/BB,L2.set (o+k2) ((u+c2+vk)%BB),by go_num,by omega,by rw[HR2.out],UQ.out,by rw[<-HR1.out];exact Wo _,fV hg2 _ _,VI.out,Z6.out,ZE.out,HST.out⟩
        case measure=>simp[intOf];omega
       ·obtain rfl:vk=0:=by rw[<-hvk,eB (by omega)]
        clear hvk hu;go_wp2_with fail;go_roundw
        case rel=>exact⟨k2+1,(u+c2+0)/BB,L2.set (o+k2) ((u+c2+0)%BB),by go_num,by omega,by rw[HR2.out];simp,UQ.out,by have h:=Wo ((u+c2+0)%BB);rw[HR1.out]at h;simpa using h,fV hg2 _ _,VI.out,Z6.out,ZE.out,HST.out⟩
        case measure=>simp[intOf];omega
      ·obtain rfl:k2=k:=by omega
       have VF:=HM.out;have YK:=ZG.out;have hVt:V.take k2=V:=aav (by omega);have YJ:aa BB ((L'.drop o).drop k2)=0:=by rw[HDR.out,<-VF];exact ZY.out
       have Vz:aa BB (L'.drop o)=aa BB ((L'.drop o).take k2):=by
        rw[jO (T:=L'.drop o) (k:=k2) (by rw[aaH];omega),YJ];rfl
       have aCg:aa BB ((L2.drop o).drop k2)=0:=by rw[VN.out];exact YJ
       have hX2:aa BB (L2.drop o)=aa BB ((L2.drop o).take k2):=by
        rw[jO (T:=L2.drop o) (k:=k2) (by rw[aaH];omega),aCg];rfl
       rw[hVt,<-hX2,<-Vz]at YK;have hb1:=jM aC (T:=L'.drop o) (fun d hd=>VO.out d (abV hd)) k2;have hb2:=jM aC (T:=L2.drop o) (fun d hd=>HL2.out d (abV hd)) k2;rw[<-Vz]at hb1;rw[<-hX2]at hb2;have hVE:aa BB V<=BB ^ k2:=by
        have:=jN HVB.out;have h2:BB ^ V.length<=BB ^ k2:=acj aC (by omega);omega
       obtain⟨e1,e2⟩:=uf HVP.out rfl (by have:=ZF.out;rw[acN]at this;exact this) hb1 HX.out YK hb2 hVE;have V5:=Pd e1;have HE2:=Pd e2;have hq1:1<=q:=aaB (Nat.le_add_left 1 _) (aeS e1.symm);clear e1 e2 VF YK hVt YJ Vz aCg hX2 hb1 hb2 hVE;go_wp2_with fail;go_returns;exact⟨kF (by have:=V5.out;show(q:Int)-1=((_:Nat):Int);generalize aa BB T/aa BB V=z at this ⊢;omega),L2,hM2,hg2,HL2.out,Wq.out,HE2.out⟩
section
variable {P:Program}
def Oz{ops:Array Oper}{rest:List Oper}{o:Oper}{a:Act}{Q:Exit->Act->World->Prop}{w:World}{e:TypeId}{u:Value}(hgd:o.guard=none)(s x:Operand)(t:TypeId)
  (ho:o.op=.call { callee:=.builtin .append,args:=#[s,x],argTypes:=#[t,t] })
  (B:Nat) (i:TypeInfo) (z:Value) (bytes:Nat) (ht:P.underlying t=some (.slice e)) (hi:P.info? e=some i) (hz:i.zero=some z)
  (hsize:i.size=1) (hby:i.bytes=bytes) (hzs:z.cells.size=1)
  (v:Value) (cs:List Value) (hs:a.eval s=v) (hown:Own B e v cs w) (c:Nat) (hx:a.eval x=.slice (some ⟨w.heap.size,0,none⟩) 1 c) (h1:u.oneCell'=true)
  (hb1:cs.length+1<=maxLen) (hbytes:(cs.length+1)*bytes<=140737488355328) (hB:B<=w.heap.size)
  (h:∀v' w',Own B e v' (cs++[u]) w'->w.grownBy w' v.ownBlock->Below B w w'->(v'.ownBlock=v.ownBlock\/v'.ownBlock=some (w.heap.size+1))->wpList P ops Q rest (a.put o.dst v') w'):wpList P ops Q (o::rest) a (w.alloc (.cells #[u] e)):=by
 refine wpList_append_own_at _ hgd s x t ho B e i z 1 bytes ht hi hz hsize hby hzs (by decide) v cs.length cs hs (hown.alloc _) ⟨w.heap.size,0,none⟩ 1 c [u] hx rfl ?_ ?_ hb1 hbytes (by simp;omega) ?_
 ·intro j y hy
  match j,hy with
  |0,hy=>simp at hy;subst hy;simp[Addr.add]
 ·intro y hy;simp at hy;subst hy;exact h1
 ·intro v' w' h2 h3 h4 h5
  have hg:w.grownBy w' v.ownBlock:=⟨h3.os,h3.tape,h3.output,aaB (by simp) h3.size,fun k hk hne=>(h3.block k (by simp;omega) hne).trans (aeF w _ k hk)⟩;refine h v' w' (by unfold Own;rw[aas];exact h2) hg ?_ ?_
  ·exact(aac B w).grown hg hB (fun k hk=>(hown.lt k hk).1)
  ·rcases h5 with h5|h5
   ·exact aam h5
   ·right;rw[h5];simp
end
def Own.made{B:Nat}{v:Value}{L:List Nat}{w:World}(h:Own B 231 v (L.map U) w)(hne:L≠[]):∃g c,v=.slice (some ⟨g,0,none⟩) L.length c/\B<=g/\g<w.heap.size/\L.length<=c/\aY B g L.length c L w:=by
 have h':=h;unfold Own at h';rw[aaC]at h';rcases h'.2 with⟨rfl,h0⟩|⟨g,cap,cur,rfl,hB,hg,hn,hm,hc,ht⟩
 ·exact absurd (aaQ h0) hne
 ·exact⟨g,cap,rfl,hB,(abg.1 hg).1,hn,rfl,h'⟩
def aY.own{B g n c:Nat}{L:List Nat}{w:World}(h:aY B g n c L w):Own B 231 (.slice (some ⟨g,0,none⟩) n c) (L.map U) w:=by
 unfold Own;rw[aaC,h.1];exact h.2
def aY.grown{B g n c g':Nat}{L:List Nat}{w w':World}(h:aY B g n c L w)(hg:w.grownBy w' (some g'))(hne:g≠g'):aY B g n c L w':=
 ⟨h.1,acu h.2 hg (aad (by simp[Value.ownBlock];exact hne))⟩
def aY.below{B g n c:Nat}{L:List Nat}{w w':World}(h:aY B g n c L w)(hb:Below w w w'):aY B g n c L w':=
 ⟨h.1,acu h.2 (oL hb none) (aad (by simp[Value.ownBlock]))⟩
def aY.upto{B g n c k:Nat}{L:List Nat}{w:World}(h:aY B g n c L w)(hk:k<=n):aY B g k c (L.take k) w:=by
 have h1:=h.own.upto (k:=k) (by rw[aaC,h.1];exact hk);have hl:(L.take k).length=k:=by rw[aaI,h.1];omega
 refine⟨hl,?_⟩;unfold Own at h1;rw[<-adv,aaC,hl]at h1;exact h1
def aY.kept{B g n c:Nat}{L:List Nat}{w w':World}{row:Option Nat}(h:aY B g n c L w)(hg:w.grownBy w' row)(hne:some g≠row):aY B g n c L w':=
 ⟨h.1,acu h.2 hg (aad (by simpa[Value.ownBlock]using hne))⟩
def Made.c{B g n:Nat}{L:List Nat}{w:World}(h:Made B g n L w):aY B g n n L w:=h
def At(w:World)(b:Nat)(V:List Nat):Prop:=∀j (h:j<V.length),w.cell? ⟨b,0+j,none⟩=some (.int .u64 V[j])
def At.grown{w w':World}{b g:Nat}{V:List Nat}(h:At w b V)(hg:w.grownBy w' (some g))(hne:b≠g):At w' b V:=fun j hj=>iQ hg hne (h j hj)
def At.kept{w w':World}{b:Nat}{V:List Nat}{row:Option Nat}(h:At w b V)(hg:w.grownBy w' row)(hne:some b≠row):At w' b V:=fun j hj=>by
 have hc:=h j hj;have e:=hg.block b (ax hc) hne;unfold World.cell? at hc ⊢;rw[e];exact hc
def aY.at{B g n c:Nat}{L:List Nat}{w:World}(h:aY B g n c L w):At w g L:=fun j hj=>by rw[aaP];exact h.cell hj
def EN(w:World)(q r:Nat)(e:Ending)(w':World):Prop:=
 ∃A c A' c',e=.returned (.tuple #[.slice A (blk q).length c,.slice A' (blk r).length c'])/\(blk q).length<=c/\(blk r).length<=c'/\ay w' A ((blk q).map U)/\ay w' A' ((blk r).map U)/\Below w w w'
def Gu(A B:Option Addr)(c d m n:Nat)(w:World)(hn:n≠0)(hA:ay w A ((blk m).map U))(hB:ay w B ((blk n).map U))(hm:(blk m).length<=1000)(hnl:(blk n).length<=1000)(hc:(blk m).length<=c) :
  Calls Tryz.prog 209 #[.slice A (blk m).length c,.slice B (blk n).length d] w (EN w (m/n) (m%n)):=by
 obtain⟨i0,hi,hz0,hz1,hz2⟩:=abm rZ;by_cases hlt:m<n
 ·have hcmp:=fun W h1 h2=>vo A B c d m n W h1 h2 (by omega) (by omega)
  rw[lu hlt]at hcmp;have hq:m/n=0:=acF hlt;have hr:m%n=m:=adn hlt;rw[hq,hr];clear hq hr hlt hn hi;generalize hX:(blk m).length=X at*;generalize (blk n).length=Y at*;go_enter Tryz.func209,Tryz.ntmps209;go_wp2_with fail;refine(hcmp _ hA hB).mono ?_;rintro e w1 ⟨rfl,b1⟩;go_wp2_with fail;go_returns;exact⟨none,0,A,c,by simp[zM,hX],by simp[zM],by omega,ay.nil _ _,hA.below b1,b1⟩
 ·have VF:n<=m:=by omega
  have hm0:m≠0:=by omega
  have hcmp:=fun W h1 h2=>vo A B c d m n W h1 h2 (by omega) (by omega)
  obtain⟨cc,hcc⟩:∃z,bZ m n=z:=⟨_,rfl⟩;have VD:¬ cc<0:=by rw[<-hcc];intro h;have:=(nL m n).1 h;omega
  rw[hcc]at hcmp;clear hcc hlt;obtain⟨K,hK⟩:∃z,jX n=z:=⟨_,rfl⟩;have hK1:1<=K:=by rw[<-hK];exact wE n
  have hKB:K<=BB:=by rw[<-hK];exact DZ n
  have su:=fun W h1=>DY A c m K W hKB h1 (by omega)
  have sv:=fun W h1=>DY B d n K W hKB h1 (by omega)
  have WV:=ME m n;have hvl:=MC hn;rw[hK]at WV hvl;have hYpos:=aaM.2 (nK hn);have hYX:(blk n).length<=(blk m).length:=by
   apply (iD dN _ _).2;have:=qU m;omega
  have XM:Hid (∀L:List Nat,L.length=(blk m).length+1->aa BB L=K*m->aa BB (L.drop (L.length-(blk n).length))<K*n):=by
   rw[Hid,<-hK];exact fun L h1 h2=>Gr hn VF h1 h2
  have hyl:=aCp n;have hKe:BB/((blk n).getD ((blk n).length-1) 0+1)=K:=hK;have aBX:blk (K*m)≠[]:=nK (adz (by omega) hm0);have aBY:blk (K*n)≠[]:=nK (adz (by omega) hn);have HUL:=Pd (aCp (K*m));have HVL:=Pd (aCp (K*n));have XP:=Pd (gM (K*m));have HVV:=Pd (gM (K*n));have HVC:=Pd (xw (K*n));obtain⟨bB,oB,rfl,hbB,VC⟩:=hB (by intro e;rw[aaO]at e;exact nK hn e);have Wv:ay w (some ⟨bB,oB,none⟩) ((blk n).map U):=fun _=>⟨bB,oB,rfl,hbB,VC⟩
  have htop:=VC ((blk n).length-1) _ (gP (show(blk n).length-1<(blk n).length by omega));have hyt:=hyl _ (aag (show(blk n).length-1<(blk n).length by omega));rw[kv (show(blk n).length-1<(blk n).length by omega)]at hKe;generalize (blk n)[(blk n).length-1]=yt at htop hyt hKe;have hyt':yt<1000000000:=hyt;generalize (blk m).length=X at*;generalize (blk n).length=Y at*;obtain⟨p,hp⟩:∃p,Y-1=p:=⟨_,rfl⟩;rw[hp]at htop;have hpi:(Y:Int)-1=(p:Int):=by omega
  have hp0:(0:Int)<=(p:Int):=by omega
  have hpY:(p:Int)<(Y:Int):=by omega
  have hKi:(1000000000:Int)/((yt:Int)+1)=(K:Int):=by
   have h1:((1000000000/(yt+1):Nat):Int)=(1000000000:Int)/((yt:Int)+1):=afH _ _;rw[<-h1];congr 1
  have hKt:(1000000000:Int).tdiv ((yt:Int)+1)=(K:Int):=by rw[adQ (by omega)];exact hKi
  have wyt:IntKind.u64.wrap ((yt:Int)+1)=(yt:Int)+1:=by rw[aa9];omega
  have wK:IntKind.u64.wrap (K:Int)=(K:Int):=by unfold BB at hKB;rw[aa9];omega
  have yne:¬ ((yt:Int)+1)=0:=by omega
  have HKn:Hid (0<K*n):=Nat.mul_pos hK1 (ac4 hn);clear VC hK hKe hyl hyt hp hB hn hm0;have hb0:Below w w w:=aac _ _;go_enter Tryz.func209,Tryz.ntmps209;go_wp2_with fail;refine(hcmp _ hA Wv).mono ?_;rintro e w1 ⟨rfl,b1⟩;have ht1:w1.cell? ⟨bB,oB+p,none⟩=some (.int .u64 yt):=(b1.cell (p:=⟨bB,oB+p,none⟩) hbB).trans htop;have hA1:=ae hb0 b1;clear htop;go_wp2_with fail;clear hcmp ht1 hp0 hpY hpi hKi hKt wyt yne VD;refine(su _ (hA.below b1)).mono ?_;rintro e w2 ⟨vu,rfl,hu,b2⟩;have hA2:=ae hA1 b2;go_wp2_with fail;refine(sv _ ((Wv.below b1).below b2)).mono ?_;rintro e w3 ⟨vv,rfl,hv,b3⟩;have hA3:=ae hA2 b3;obtain⟨gu,cu,rfl,hgu1,hgu2,Wh,hmu⟩:=hu.made aBX;obtain⟨gv,cv,rfl,hgv1,aCn,hcv,hmv⟩:=hv.made aBY;have WQ:=hmu.below b3;have hat:=hmv.at;clear hu hv hmu hmv su sv aBX aBY Wv hA;obtain⟨X1,hX1⟩:∃z,X+1=z:=⟨_,rfl⟩;rw[hX1]at WV;obtain⟨Y1,VY⟩:=WV;obtain⟨ku,X4⟩:∃z,(blk (K*m)).length=z:=⟨_,rfl⟩;rw[X4]at WQ Y1 VY Wh;rw[hvl]at hcv;have aCk:gu≠gv:=by omega
  have aCm:w.heap.size<=gu:=by have:=b1.size;omega
  rw[X4,hvl];have X8:aY w.heap.size gu ku cu (blk (K*m)) w3:=⟨WQ.1,by
   have h1:=(WQ.own).lower (B':=w.heap.size) b1.size;unfold Own at h1;rw[aaC,WQ.1]at h1;exact h1⟩
  clear WQ;generalize blk (K * n)=V at*;generalize blk (K * m)=U0 at*;go_wp2_with fail
  go_loopw [8] (fun u wr=>∃(k g cw:Nat) (L:List Nat),u=.slice (some ⟨g,0,none⟩) k cw/\aY w.heap.size g k cw L wr/\X<=k/\k<=X1/\k<=cw/\g≠gv/\w.heap.size<=g/\gv<wr.heap.size/\Below w w wr/\At wr gv V/\Hid (∀d∈L,d<BB)/\Hid (aa BB L=K*m)) (fun u _=>X1-sliceLen u)
  case atStart=>exact⟨ku,gu,cu,U0,rfl,X8,Y1,VY,Wh,aCk,aCm,aCn,hA3,hat,HUL,XP⟩
  case round=>
   obtain⟨k,g,cw,L,rfl,hmk,hk1,hk2,hk3,hg1,hg2,hg3,hbr,hat',HL,HV⟩:=hrel;clear X8 Y1 VY aCk aCm hgu1 hgu2 hgv1 aCn hat HUL XP X4 Wh;by_cases hk:k<=X
   ·have hLk:=hmk.1
    have TY:(L.map U).length+1<=maxLen:=by rw[aaC];unfold maxLen;omega
    have hmb:((L.map U).length+1)*8<=140737488355328:=by rw[aaC];omega
    have hown:=hmk.own;have hki:(k:Int)<=(X:Int):=by omega
    have HZ:=Pd hX1;clear hX1;go_wp2_with (at_builtin;refine Oz rfl (.tmp 40) (.tmp 41) 229 rfl w.heap.size i0 _ 8 abf hi hz0 hz1 hz2 rfl (.slice (some ⟨g,0,none⟩) k cw) (L.map U) rfl hown 1 rfl rfl TY hmb hbr.size ?_;intro v' w4 TE hgr4 hb4 aCt);go_roundw
    case rel=>
     have hown5:Own w.heap.size 231 v' ((L++[0]).map U) w4:=by rw[<-jQ];exact TE
     obtain⟨g',c',rfl,h1,h2,h3,h4⟩:=hown5.made (by simp);have hl5:(L++[0]).length=k+1:=by rw[aas,hLk];rfl
     rw[hl5]at h3 h4;have hg':g'≠gv:=by
      rcases aCt with h|h
      ·simp[Value.ownBlock]at h;rw[h];exact hg1
      ·simp[Value.ownBlock]at h;omega
     refine⟨k+1,g',c',L++[0],by rw[hl5],h4,by omega,by have:=HZ.out;omega,h3,hg',h1,by have:=hb4.size;omega,hbr.trans hb4,hat'.kept hgr4 (by simp[Value.ownBlock];exact fun e=>hg1 e.symm),?_,?_⟩
     ·intro x hx
      rcases aaG.1 hx with hx|hx
      ·exact HL.out x hx
      ·rw[aar.1 hx];exact aC
     ·rw[Hid,nD,HV.out];simp
    case measure=>
     have hl4:=TE.1;have hv4:=TE.row.to (n:=k+1) (by rw[aas,aaC,hLk];rfl);obtain⟨A',c',rfl,h1,_⟩:=hv4;have:=HZ.out;simp only[sliceLen];omega
   ·obtain rfl:k=X1:=by omega
    have hLk:=hmk.1;obtain⟨N,hN⟩:∃z,k-Y=z:=⟨_,rfl⟩;have hNi:(k:Int)-(Y:Int)=(N:Int):=by omega
    have hopen:=XM.out L (by omega) HV.out;rw[hLk,hN]at hopen;have HOP:=Pd hopen;have hki:(X:Int)<(k:Int):=by omega
    have hNk:N+Y=k:=(by omega);have hkb:k<=1001:=(by omega);obtain⟨gq,hgq⟩:∃z,wr.heap.size=z:=⟨_,rfl⟩;have hggq:g<gq:=by rw[<-hgq];exact ax (hmk.cell (j:=0) (by omega))
    clear hopen XM hk hk1 hk2 hX1 hN;go_wp2_with (at_make;refine afS _ rfl (.tmp 46) (.tmp 46) 229 rfl w.heap.size 231 i0 (.int .u64 0) 1 abf hi hz0 hz1 .i64 .i64 _ _ N rfl rfl (by omega) (by omega) (by rw[hz2];omega) (by unfold maxLen;omega) hbr.size ?_;intro w5 own5 hg5);have Us:(madeCells (Value.int .u64 0).cells (N*1)).toList=(List.replicate N 0).map U:=by
     rw[acN,ad5];exact ae5 (.int .u64 0) N
    rw[Us]at own5;have hb5:Below w w w5:=hbr.grown hg5 hbr.size (by simp);have hu5:=hmk.kept hg5 (by simp);have hv5:=hat'.kept hg5 (by simp);rw[hgq]at own5;have hq5:aY w.heap.size gq N N (List.replicate N 0) w5:=⟨by simp,own5⟩;have hgqv:gq≠gv:=by omega
    clear Us hg5 own5 hgq hmk hat' hbr hg3
    go_loopw [50] (fun i wr=>∃(i1 t:Nat) (L Q:List Nat),i=.int .i64 i1/\i1+t=N/\aY w.heap.size g k cw L wr/\aY w.heap.size gq N N Q wr/\At wr gv V/\Below w w wr/\Hid (∀d∈L,d<BB)/\Hid (∀d∈Q,d<BB)/\Hid (K*m=BB ^ t*aa BB (Q.drop t)*(K*n)+aa BB L)/\Hid (aa BB (L.drop t)<K*n)) (fun i _=>N-(intOf i).toNat)
    case atStart=>
     refine⟨0,N,L,List.replicate N 0,rfl,by omega,hu5,hq5,hv5,hb5,HL,fun x hx=>by rw[ab5 hx];exact aC,?_,HOP⟩;rw[Hid,HV.out,aet (by simp)];simp[aa]
    case round=>
     obtain⟨i1,t,L1,Q,rfl,hit,hu,hq,hv,hb,Wm,HQ,HE,HT⟩:=hrel;clear hu5 hq5 hv5 hb5 HOP HV HL;by_cases hlt:i1<N
     ·obtain⟨o,rfl⟩:∃o,t=o+1:=⟨t-1,by omega⟩
      have hL1:=hu.1;have hQ1:=hq.1;have hwin:=Gt (o:=o) (by omega) Wm.out HT.out;have hdig:=fun cuu cvv=>Gn w.heap.size g k cw o Y cuu gv 0 cvv L1 V wr hu Wm.out HVL.out HVC.out hvl (by omega) (by omega) (by omega) (fun e=>hg1 e.symm) hv (by rw[HVV.out];exact hwin)
      simp only[HVV.out]at hdig;have Z0:=Pd (fun(L':List Nat) (hl:L'.length=L1.length) ht hd=>Gs (V:=K*n) HKn.out (by omega) (by omega) hl HE.out ht hd);have HDG:=Pd (Gp hwin);generalize aa BB (L1.drop o) / (K * n)=z at*;clear hwin;have oi:(N:Int)-1-(i1:Int)=(o:Int):=by omega
      have o0:(0:Int)<=(o:Int):=(by omega);have oN:(o:Int)<(N:Int):=(by omega);have oc:(o:Int)+(Y:Int)+1<=(cw:Int):=(by omega);have oy:(o:Int)<=(o:Int)+(Y:Int)+1:=(by omega);go_wp2_with fail;rw[show o+Y+1-o=Y+1 by omega];refine(hdig _ _).mono ?_;rintro e w6 ⟨rfl,L2,Y0,Xy,hL2,htk,hdr⟩;have hq6:=hq.kept Xy (by simp;omega);have hv6:=hv.kept Xy (by simp;omega);have hb6:Below w w w6:=hb.grown Xy hb.size (fun j hj=>by injection hj with hj;omega);have HR6:=Pd (Z0.out L2 (by rw[Y0.1,hL1]) htk hdr);have hcq:=hq6.cell (j:=o) (by omega);have hfq:=hq6.frozen o;have hst:=hq6.store o z;have YQ:=fV (vL w6 gq) o (.int .u64 z);have hu7:=Y0.kept YQ (by simp;omega);have hv7:=hv6.kept YQ (by simp;omega);have Vn:Below w w (w6.setCell ⟨gq,o,none⟩ (.int .u64 z)):=hb6.setCell (p:=⟨gq,o,none⟩) (by show w.heap.size<=gq;omega) _;have VI:=Pd (jY (j:=o) HQ.out HDG.out);clear hdig Z0 htk hdr Xy hu hq hv hb Y0 hq6 hv6 YQ;go_wp2_with fail;go_roundw
      case rel=>exact⟨i1+1,o,L2,Q.set o z,by go_num,by omega,hu7,hst,hv7,Vn,hL2,VI,HR6.out.1,HR6.out.2⟩
      case measure=>simp[intOf];omega
     ·obtain rfl:i1=N:=by omega
      obtain rfl:t=0:=by omega
      have hE:=HE.out;rw[Nat.pow_zero,acA,abj]at hE;have hT:=HT.out;rw[abj]at hT;obtain⟨e1,e2⟩:=Gq hK1 hE hT;have HQT:Hid (aV Q=blk (m/n)):=by rw[Hid,qC dN HQ.out,e1];rfl
      obtain⟨R,hR⟩:∃z,(aV L1).length=z:=⟨_,rfl⟩;have hL1:=hu.1;have hQ1:=hq.1;have hRle:=nA L1;have htr:=pu (some ⟨g,0,none⟩) cw L1 wr hu.row (by omega) (by omega);rw[hL1,hR]at htr;have Y0:=hu.upto (k:=R) (by omega);have htk:L1.take R=aV L1:=by rw[<-hR];exact(oz L1).symm
      rw[htk]at Y0;have ZX:Hid (∀d∈aV L1,d<BB):=Et Wm.out;have HRV:Hid (aa BB (aV L1)=K*(m%n)):=by rw[Hid,yU,e2]
      have hRk:R<=k:=(by omega);clear hE hT e1 e2 htk hRle HE HT Wm hu hv;generalize aV L1=R0 at*;go_wp2_with (go_at_call 195;refine htr.mono ?_;rintro e wx ⟨rfl,rfl⟩)
      go_loopw [12,75] (fun lf i wr'=>∃(l0 i2 t:Nat) (L:List Nat),lf=.int .u64 l0/\i=.int .i64 i2/\i2+t=R/\l0<K/\aY w.heap.size g R cw L wr'/\aY w.heap.size gq i1 i1 Q wr'/\Below w w wr'/\Hid (∀d∈L,d<BB)/\Hid (L.take t=R0.take t)/\Hid (aa BB (R0.drop t)=K*aa BB (L.drop t)+l0)) (fun _ i _=>R-(intOf i).toNat)
      case atStart=>
       refine⟨0,0,R,R0,rfl,rfl,by omega,by omega,Y0,hq,hb,ZX,rfl,?_⟩;rw[Hid,aet (by omega)];simp[aa]
      case round=>
       obtain⟨l0,i2,t,L,rfl,rfl,hit,hl0,hu,hq',hb',HL,Um,HE⟩:=hrel;have hLR:=hu.1;clear Y0 hq hb;by_cases hlt:i2<R
       ·obtain⟨o,rfl⟩:∃o,t=o+1:=⟨t-1,by omega⟩
        have hsr:=ML (o:=o) (by omega) ZX.out (by omega) (by omega) Um.out hl0 HE.out;have hcr:=hu.cell (j:=o) (by omega);have hfr:=hu.frozen o;have hxb:=HL.out _ (aag (show o<L.length by omega));generalize L[o]=x at*;obtain⟨s,hs⟩:∃z,l0*BB+x=z:=⟨_,rfl⟩;rw[hs]at hsr;obtain⟨sd,hsd⟩:∃z,s/K=z:=⟨_,rfl⟩;obtain⟨sm,hsm⟩:∃z,s%K=z:=⟨_,rfl⟩;rw[hsd,hsm]at hsr;obtain⟨r1,r2,r3,r4⟩:=hsr;have HR3:=Pd r3;have HR4:=Pd r4;have hxb':x<1000000000:=hxb;have hKB':K<=1000000000:=hKB;have hsv:l0*1000000000+x=s:=hs;have w1:IntKind.u64.wrap ((l0:Int)*1000000000)=(l0:Int)*1000000000:=by rw[aa9];omega
        have hsi:(l0:Int)*1000000000+(x:Int)=(s:Int):=(by omega);have w2:IntKind.u64.wrap (s:Int)=(s:Int):=by rw[aa9];omega
        have d1:(s:Int)/(K:Int)=(sd:Int):=by rw[<-hsd];exact(afH s K).symm
        have d2:(s:Int)%(K:Int)=(sm:Int):=by rw[<-hsm];exact(Int.natCast_emod s K).symm
        have d3:(s:Int).tdiv (K:Int)=(sd:Int):=by rw[adQ (by omega)];exact d1
        have d4:(s:Int).tmod (K:Int)=(sm:Int):=by rw[afp (by omega)];exact d2
        have kne:¬ (K:Int)=0:=(by omega);have kne3:¬ K=0:=(by omega);have kneb:((K:Int)==0)=false:=aaN.2 (by omega);have r1':sd<1000000000:=r1;have w3:IntKind.u64.wrap (sd:Int)=(sd:Int):=by rw[aa9];omega
        have w4:IntKind.u64.wrap (sm:Int)=(sm:Int):=by rw[aa9];omega
        have oi:(R:Int)-1-(i2:Int)=(o:Int):=(by omega);have o0:(0:Int)<=(o:Int):=(by omega);have oR:(o:Int)<(R:Int):=(by omega);have hst:=hu.store o sd;have XE:aY w.heap.size g R cw (L.set o sd) (wr.drew.setCell ⟨g,o,none⟩ (.int .u64 sd)):=hst;have hqd:aY w.heap.size gq i1 i1 Q (wr.drew.setCell ⟨g,o,none⟩ (.int .u64 sd)):=hq'.kept (fV (xU (vL wr g)) o (.int .u64 sd)) (by simp;omega);have hq2:aY w.heap.size gq i1 i1 Q (wr.setCell ⟨g,o,none⟩ (.int .u64 sd)):=hq'.kept (fV (vL wr g) o (.int .u64 sd)) (by simp;omega);have hb2:Below w w (wr.setCell ⟨g,o,none⟩ (.int .u64 sd)):=hb'.setCell (p:=⟨g,o,none⟩) (by show w.heap.size<=g;omega) _;have hbd:Below w w (wr.drew.setCell ⟨g,o,none⟩ (.int .u64 sd)):=hb'.drew.setCell (p:=⟨g,o,none⟩) (by show w.heap.size<=g;omega) _;have VI:=Pd (jY (j:=o) HL.out r1);clear hs hsd hsm r3 r4 hxb r1;go_wp2_with fail
        go_region_held3 (fun w'=>w'.frozen? ⟨g,o,none⟩=false) (first|assumption|exact hfr|exact hst.frozen o) (fail)
        all_goals go_wp2_with fail
        all_goals go_roundw
        all_goals first
         |(case rel=>exact⟨sm,i2+1,o,L.set o sd,rfl,by go_num,by omega,r2,XE,hqd,hbd,VI,HR3,HR4⟩)
         |(case measure=>simp[intOf];omega)
       ·obtain rfl:i2=R:=by omega
        obtain rfl:t=0:=by omega
        have hE:=HE.out;rw[abj,abj,HRV.out]at hE;have e1:=MJ (by omega) hE hl0;have HLT2:Hid (aV L=blk (m%n)):=by rw[Hid,qC dN HL.out,e1];rfl
        have hrq:=hq'.row;have hrr:=hu.row;have t1:=pu (some ⟨gq,0,none⟩) i1 Q wr hrq (by omega) (by omega);have t2:=pu (some ⟨g,0,none⟩) cw L wr hrr (by omega) (by omega);rw[hq'.1]at t1;rw[hLR]at t2;have l1:=nA Q;have l2:=nA L;have hr1:=hrq.take (aV Q).length;have hr2:=hrr.take (aV L).length;rw[<-adv,<-oz]at hr1 hr2;rw[HQT.out]at t1 l1 hr1;rw[HLT2.out]at t2 l2 hr2;clear hE e1 HE Um hrq hrr
        go_wp2_with (first
         |(go_at_call_of 195 (Value.slice (some ⟨gq,0,none⟩) i1 i1);refine t1.mono ?_;rintro e wx ⟨rfl,rfl⟩)
         |(go_at_call_of 195 (Value.slice (some ⟨g,0,none⟩) i2 cw);refine t2.mono ?_;rintro e wx ⟨rfl,rfl⟩))
        go_returns;exact⟨_,_,_,_,rfl,by omega,by omega,hr1,hr2,hb'⟩
def oI(w:World)(r:Bs×Bs×Nat)(e:Ending)(w':World):Prop:=
 e=.returned (.tuple #[.string ⟨r.1.toArray⟩,.string ⟨r.2.1.toArray⟩,.int .i64 r.2.2])/\Below w w w'
def El{b:ByteArray}(h:b.data.toList=[48]):b=⟨#[48]⟩:=by
 cases b with
 |mk d=>cases d with
  |mk l=>simp at h;rw[h]
def Nz{b:ByteArray}(h:aj b.data.toList=true):ag b.data.toList=0↔b=⟨#[48]⟩:=by
 have hb:=((iG _).1 h).1;constructor
 ·intro e
  have e1:=jo hb;rw[e,tO]at e1;exact El e1.symm
 ·rintro rfl;rfl
def cellNat(w:World)(A:Option Addr)(j:Nat):Nat:=match A with
 |some a=>match w.cell? ⟨a.block,a.off+j,none⟩ with
  |some (.int _ x)=>x.toNat
  |_=>0
 |none=>0
def DD(w:World):Value->Nat
 |.slice A n _=>aa BB ((List.range n).map (cellNat w A))
 |_=>0
def DF{w:World}{A:Option Addr}{L:List Nat}(c:Nat)(h:ay w A (L.map U)):DD w (.slice A L.length c)=aa BB L:=by
 show aa BB ((List.range L.length).map (cellNat w A))=aa BB L;congr 1;apply adm
 ·simp
 ·intro j h1 h2
  obtain⟨b,o,rfl,hlt,hcell⟩:=h (by intro e;rw[aaO]at e;rw[e]at h2;simp at h2);simp only[acr,ad4,cellNat];rw[hcell j _ (gP h2)];simp[U]
def JF(a b:ByteArray)(w:World)(hT:bK w)(ha:a.size<=9223372036854775807)(hb:b.size<=9223372036854775807) :
  Calls Tryz.prog 196 #[.string a,.string b] w (aA w (z8 a.data.toList b.data.toList)):=by
 by_cases hok:aj a.data.toList=true/\aj b.data.toList=true
 ·obtain⟨hoa,TF⟩:=hok
  have HK:Hid (z8 a.data.toList b.data.toList=(af (Nat.gcd (ag a.data.toList) (ag b.data.toList)),0)):=by unfold Hid z8;rw[aaa ⟨hoa,TF⟩]
  have va:=fun W=>gI a W ha
  have vb:=fun W=>gI b W hb
  rw[hoa]at va;rw[TF]at vb;have ba:=fun W=>mP a W hoa
  have bb:=fun W=>mP b W TF
  have la:=mR hoa;have lb:=mR TF;generalize ag a.data.toList=m at*;generalize ag b.data.toList=n at*;clear hoa TF;have hA:Below w w w:=aac _ _;go_enter Tryz.func196,Tryz.ntmps196;go_wp2_with (first|(go_at_call_of 192 (Value.string a);refine(va _).mono ?_;rintro e w2 ⟨rfl,rfl⟩)|(go_at_call_of 192 (Value.string b);refine(vb _).mono ?_;rintro e w2 ⟨rfl,rfl⟩));refine(ba _).mono ?_;rintro e w1 ⟨A1,c1,rfl,h1,r1,b1⟩;have hA1:=ae hA b1;go_wp2_with fail;refine(bb _).mono ?_;rintro e w2 ⟨A2,c2,rfl,h2,r2,b2⟩;have hA2:=ae hA1 b2;have r1':=r1.below b2;go_wp2_with fail
  go_loopw [6,7] (fun x y wr=>∃(m1 n1 c1 c2:Nat) (A1 A2:Option Addr),x=.slice A1 (blk m1).length c1/\y=.slice A2 (blk n1).length c2/\(blk m1).length<=c1/\(blk n1).length<=c2/\ay wr A1 ((blk m1).map U)/\ay wr A2 ((blk n1).map U)/\(blk m1).length<=112/\(blk n1).length<=112/\Below w w wr/\Hid (Nat.gcd m1 n1=Nat.gcd m n)) (fun _ y W=>DD W y)
  case atStart=>exact⟨m,n,c1,c2,A1,A2,rfl,rfl,h1,h2,r1',r2,la,lb,hA2,rfl⟩
  case round=>
   obtain⟨m1,n1,d1,d2,D1,D2,rfl,rfl,h3,h4,r3,r4,l3,l4,hb,HG⟩:=hrel;clear r1' r1 r2 h1 h2 hA1 hA2 va vb ba bb;have HRV:=Pd (DF d2 r4);by_cases hn:n1=0
   ·subst hn
    have hg:=HG.out;rw[Nat.gcd_zero_right]at hg;have ht:=yT D1 d1 m1 wr (hT.below hb) r3 (by omega);have HG2:=Pd hg;have hz:(blk 0).length=0:=rfl;rw[hz];clear hg HRV r4 hz l4 h4;obtain⟨F,hF⟩:∃F:ByteArray,(⟨(af m1).toArray⟩:ByteArray)=F:=⟨_,rfl⟩;rw[hF]at ht;have HF:=Pd hF;clear hF;generalize (blk m1).length=N1 at*;go_wp2_with fail;refine ht.mono ?_;rintro e w5 ⟨rfl,b5⟩;have Vx:=ae hb b5;go_wp2_with fail;go_returns;unfold aA;rw[HK.out,<-HG2.out];show _=Ending.returned (.tuple #[.string ⟨(af m1).toArray⟩,_])/\_;rw[HF.out];exact⟨rfl,Vx⟩
   ·have hpos:=aaM.2 (nK hn)
    have hdv:=Gu D1 D2 d1 d2 m1 n1 wr hn r3 r4 (by omega) (by omega) h3;have l5:(blk (m1%n1)).length<=112:=aaB (zL (Nat.mod_le _ _)) l3;have HG2:Hid (Nat.gcd n1 (m1%n1)=Nat.gcd m n):=by rw[Hid,<-HG.out,afN n1,<-Nat.gcd_rec,afN]
    have V6:=Pd (abR m1 (ac4 hn));go_wp2_with fail;refine hdv.mono ?_;rintro e w3 ⟨A3,c3,A4,c4,rfl,h5,h6,r5,r6,b3⟩;go_wp2_with fail;go_roundw
    case rel=>exact⟨n1,m1%n1,d2,c4,D2,A4,rfl,rfl,h4,h6,r4.below b3,r6,l4,l5,ae hb b3,HG2⟩
    case measure=>
     have e1:=DF c4 r6;rw[e1,HRV.out,gM,gM];exact V6.out
 ·refine(JG a b w ha hb hok).mono ?_
  rintro e w' ⟨rfl,rfl⟩;unfold aA z8;rw[aab hok];exact⟨rfl,aac _ _⟩
end Go.Proofs.YtppnecgeboonbaaGreatDoor.Rat3
