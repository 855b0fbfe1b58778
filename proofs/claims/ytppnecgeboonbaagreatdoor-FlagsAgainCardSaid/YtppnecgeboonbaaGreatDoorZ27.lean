/- Walks. -/
import Derived.Test.YtppnecgeboonbaaGreatDoorZ26
import Derived.Lib.LazyBuf
namespace Go.Proofs.YtppnecgeboonbaaGreatDoor
set_option maxRecDepth 100000
set_option linter.all false
set_option maxHeartbeats 8000000
open Go Go.RowKit Go.Maps
def iE(l:List aH):List Value:=l.flatMap fun f=>[.int .u8 f.op.toNat,S f.feat,S f.val]
def A8(l:List aH)(f:aH):iE (l++[f])=iE l++[.int .u8 f.op.toNat,S f.feat,S f.val]:=by simp[iE]
def A9:(Tryz.prog.info? 24).map (fun i=>(i.zero,i.size,i.bytes))=some (some (.agg #[.int .u8 0,.string ⟨#[]⟩,.string ⟨#[]⟩]),3,40):=by kernel_rfl
def Ir:(Tryz.prog.info? 3).map (fun i=>(i.zero,i.size,i.bytes))=some (some (.int .i64 0),1,8):=by kernel_rfl
theorem A7:∀(l:List aH) (k:Nat) (h:k<l.length),(iE l)[k*3]? = some (.int .u8 l[k].op.toNat)/\(iE l)[k*3+1]? = some (S l[k].feat)/\(iE l)[k*3+2]? = some (S l[k].val)
 |s::r,0,h=>⟨rfl,rfl,rfl⟩
 |s::r,k+1,h=>by
  have:=A7 r k (by simpa using h);have e:iE (s::r)=[.int .u8 s.op.toNat,S s.feat,S s.val]++iE r:=rfl;rw[e,abP];refine⟨?_,?_,?_⟩
  ·rw[aaU (by simp;omega)]
   simpa[show(k+1)*3-3=k*3 by omega]using this.1
  ·rw[aaU (by simp;omega)]
   simpa[show(k+1)*3+1-3=k*3+1 by omega]using this.2.1
  ·rw[aaU (by simp;omega)]
   simpa[show(k+1)*3+2-3=k*3+2 by omega]using this.2.2
def Ba{w:World}{B:Nat}{v:Value}{l:List aH}(h:w.ownsRow B 24 3 v l.length (iE l)):∃A c,v=.slice A l.length c/\zu w A l:=by
 rcases h.2 with⟨rfl,h2⟩|⟨g,cap,cur,hv,hB,hg,hn,hm,hc,ht⟩
 ·exact⟨none,0,by rw[h2],fun k hk=>by omega⟩
 ·refine⟨some ⟨g,0,none⟩,cap,hv,fun k hk=>?_⟩
  have hcell:=h.cells (g:=g) (by rw[hv];rfl);have hadd:∀j,(⟨g,0,none⟩:Addr).add j=⟨g,0+j,none⟩:=fun j=>by unfold Addr.add;split<;>simp_all
  obtain⟨c0,c1,c2⟩:=A7 l k hk;have k0:=hcell _ _ c0;have k1:=hcell _ _ c1;have k2:=hcell _ _ c2;rw[hadd]at k0 k1 k2;exact⟨g,0,rfl,lt_of_block hg,k0,k1,k2⟩
def Iu{w:World}{B:Nat}{v:Value}{l:List Int}(h:w.ownsRow B 3 1 v l.length (l.map IV)):∃A c,v=.slice A l.length c/\ay w A (l.map IV):=by
 rcases h.2 with⟨rfl,h2⟩|⟨g,cap,cur,hv,hB,hg,hn,hm,hc,ht⟩
 ·exact⟨none,0,by rw[h2],fun hne=>by
   have:l=[]:=acW.1 h2;rw[this]at hne;exact absurd rfl hne⟩
 ·refine⟨some ⟨g,0,none⟩,cap,hv,fun _=>⟨g,0,rfl,lt_of_block hg,fun j u hj=>?_⟩⟩
  have:=h.cells (g:=g) (by rw[hv];rfl) j u hj;have hadd:(⟨g,0,none⟩:Addr).add j=⟨g,0+j,none⟩:=by unfold Addr.add;split<;>simp_all
  rwa[hadd]at this
def ET(w:World)(r:List Int×Bool)(e:Ending)(w':World):Prop:=∃A c,e=.returned (.tuple #[.slice A r.1.length c,.bool r.2])/\ay w' A (r.1.map IV)/\Below w w w'
structure nI (t:List Bs) (x:List Int) (w3 W:World) (b k:Nat) (yv lv:Value) (y:List Int) (l:List aH):Prop where
 kl:k<=x.length
 hy:y=(x.take k).filter fun s=>(dD t s).isNone
 hl:l=(x.take k).filterMap (dD t)
 ok:∀s∈x.take k,1<=s/\s<=500
 oy:W.ownsRow w3.heap.size 3 1 yv y.length (y.map IV)
 ol:W.ownsRow w3.heap.size 24 3 lv l.length (iE l)
 ne:∀g,yv.ownBlock=some g->lv.ownBlock≠some g
 bl:Below w3 w3 W
def nI.lens{t:List Bs}{x:List Int}{w3 W:World}{b k:Nat}{yv lv:Value}{y:List Int}{l:List aH}(h:nI t x w3 W b k yv lv y l):y.length<=k/\l.length<=k:=by
 constructor
 ·rw[h.hy];refine aaB (List.length_filter_le _ _) ?_;rw[aaI];omega
 ·rw[h.hl];refine aaB (afK _ _) ?_;rw[aaI];omega
def xS{B:Nat}{w3 W w5:World}{o:Obj}{v:Value}(hB:Below B w3 W)(hs:B<=w3.heap.size)(hv:∀g,v.ownBlock=some g->B<=g)(hgr:(W.alloc o).grownBy w5 v.ownBlock):Below B w3 w5:=by
 have h1:Below B W (W.alloc o):=(aac _ _).alloc (aaB hs hB.size) _;have h2:=hB.trans h1;refine h2.trans ⟨hgr.os,hgr.tape,hgr.output,hgr.size,fun b hlt=>hgr.block b (aah hlt (aaB hs h2.size)) (fun e=>?_)⟩;have:=hv b e.symm;omega
def nI.int{t:List Bs}{x:List Int}{w3 W w4 w5:World}{b k:Nat}{yv lv:Value}{y:List Int}{l:List aH}{s:Int}{o:Obj}{g cap:Nat}(h:nI t x w3 W b k yv lv y l)(hlt:k<x.length)(htk:x.take (k+1)=x.take k++[s])(hf:dD t s=none)(hok:∀s∈x.take (k+1),1<=s/\s<=500)
  (hB:Below w3 w3 w4) (hL:w4.ownsRow w3.heap.size 24 3 lv l.length (iE l)) (hO:w4.ownsRow w3.heap.size 3 1 yv y.length (y.map IV))
  (ho:w5.ownsRow w3.heap.size 3 1 (.slice (some ⟨g,0,none⟩) (y.length+1) cap) (y.length+1) (y.map IV++[.int .i64 s])) (hgr:(w4.alloc o).grownBy w5 yv.ownBlock) (hat:yv.ownBlock=some g\/g=w4.heap.size+1) :
  nI t x w3 w5 b (k+1) (.slice (some ⟨g,0,none⟩) (y.length+1) cap) lv (y++[s]) l:=by
 have c1:aB (fun b=>yv.ownBlock=some b) w4 w5:=(p9 _ w4 o).trans (aB.of_grown hgr) (fun _ _ e=>e);refine⟨hlt,?_,?_,hok,?_,eP hL c1 (fun g' hg e=>h.ne g' e hg),?_,xS hB (Pe _) (fun g' hg=>(hO.lt g' hg).1) hgr⟩
 ·rw[htk,List.filter_append,<-h.hy];simp[hf]
 ·rw[htk,adH,<-h.hl];simp[hf]
 ·rw[aas,aa3];exact ho
 ·intro g' hg e
  simp only[Value.ownBlock,aao]at hg;subst hg;rcases hat with e'|e'
  ·exact h.ne g e' e
  ·have:=(hL.lt g e).2;omega
def nI.flg{t:List Bs}{x:List Int}{w3 W w4 w5:World}{b k:Nat}{yv lv:Value}{y:List Int}{l:List aH}{s:Int}{f:aH}{o:Obj}{g cap:Nat}{news:List Value}(h:nI t x w3 W b k yv lv y l)(hlt:k<x.length)(htk:x.take (k+1)=x.take k++[s])(hf:dD t s=some f)(hok:∀s∈x.take (k+1),1<=s/\s<=500)
  (hB:Below w3 w3 w4) (hL:w4.ownsRow w3.heap.size 24 3 lv l.length (iE l)) (hO:w4.ownsRow w3.heap.size 3 1 yv y.length (y.map IV)) (hnews:news=[.int .u8 f.op.toNat,S f.feat,S f.val])
  (ho:w5.ownsRow w3.heap.size 24 3 (.slice (some ⟨g,0,none⟩) (l.length+1) cap) (l.length+1) (iE l++news)) (hgr:(w4.alloc o).grownBy w5 lv.ownBlock) (hat:lv.ownBlock=some g\/g=w4.heap.size+1) :
  nI t x w3 w5 b (k+1) yv (.slice (some ⟨g,0,none⟩) (l.length+1) cap) y (l++[f]):=by
 have c1:aB (fun b=>lv.ownBlock=some b) w4 w5:=(p9 _ w4 o).trans (aB.of_grown hgr) (fun _ _ e=>e);refine⟨hlt,?_,?_,hok,eP hO c1 (fun g' hg e=>h.ne g' hg e),?_,?_,xS hB (Pe _) (fun g' hg=>(hL.lt g' hg).1) hgr⟩
 ·rw[htk,List.filter_append,<-h.hy];simp[hf]
 ·rw[htk,adH,<-h.hl];simp[hf]
 ·rw[aas,A8,<-hnews];exact ho
 ·intro g' hg e
  simp only[Value.ownBlock,aao]at e;subst e;rcases hat with e'|e'
  ·exact h.ne g hg e'
  ·have:=(hO.lt g hg).2;omega
def ND(Ax At:Option Addr)(cx ct:Nat)(x:List Int)(t:List Bs)(w:World)(hT:fD w)(hX:ay w Ax (x.map IV))(hV:ay w At (t.map S))(hlx:x.length<=140737488355328)(hN:∀s∈x,-9223372036854775808<=s/\s<=9223372036854775807) :
  Calls Tryz.prog 23 #[.slice Ax x.length cx,.slice At t.length ct] w (ET w (stripL x t)):=by
 have HX:=Pd hX;have HV:=Pd hV;have HNN:=Pd hN;clear hX hV hN;have pT:=Er At ct t w hT.t HV.out;by_cases hl:x.length<=200
 ·have d1:(x.length:Int)<=200:=by omega
  cases htk:l7 t with
  |false=>
   have HR:Hid (stripL x t=([],false)):=by unfold Hid stripL;rw[htk,aab (by simp)]
   rw[htk]at pT;clear htk;go_enter Tryz.func23,Tryz.ntmps23;go_wp2_with fail;refine pT.mono ?_;rintro e w3 ⟨rfl,hb3⟩;go_wp2_with fail;go_returns;rw[HR.out];exact⟨none,0,rfl,fun hne=>absurd rfl hne,hb3⟩
  |true=>
   have Xb:t.length<=500:=by unfold l7 at htk;simp at htk;exact htk.1.1
   have HR:Hid (x.all (fun s=>decide (1<=s/\s<=500))=true->stripL x t=(x.filter fun s=>(dD t s).isNone,jH (x.filterMap (dD t)))):=fun h=>by unfold stripL;rw[aaa ⟨hl,htk,h⟩]
   have ZZ:Hid (∀s∈x,¬ (1<=s/\s<=500)->stripL x t=([],false)):=fun s hs h=>by
    unfold stripL;rw[aab (fun hh=>h (abp (aaT.1 hh.2.2 s hs)))]
   rw[htk]at pT;have pF:=fun W (hb:Below w w W)=>AZ At ct t W (hT.below hb) (HV.out.below hb) Xb
   obtain⟨ii,ci,ci0,ci1,ci2⟩:=abm Ir;obtain⟨jf,cf,cf0,cf1,cf2⟩:=abm A9;clear htk;go_enter Tryz.func23,Tryz.ntmps23
   go_wp2_with (first
    |(go_at_call 40;refine pT.mono ?_;rintro e w2 ⟨rfl,hb2⟩;have pF2:=pF w2 hb2)
    |(go_at_call 41;refine pF2.mono ?_;rintro e w3 ⟨b,rfl,hM,hbl,hb3⟩))
   have WF:=ae hb2 hb3;have HM:=Pd hM;clear pT pF pF2 hM
   go_loopw [4,7,24] (fun yv lv i wr=>∃(k:Nat) (y:List Int) (l:List aH),i=.int .i64 k/\nI t x w3 wr b k yv lv y l) (fun _ _ i _=>x.length-(intOf i).toNat)
   case atStart=>exact⟨0,[],[],rfl,⟨aaS _,by simp,by simp,by simp,abN _ _ _ _,abN _ _ _ _,fun g hg=>by simp[Value.ownBlock]at hg,aac _ _⟩⟩
   case round=>
    obtain⟨k,y,l,rfl,hS⟩:=hrel;have hlen:=hS.lens;have hlow:=WF.trans (hS.bl.mono WF.size);by_cases hlt:k<x.length
    ·have hlt':k<(x.map IV).length:=by simpa using hlt
     obtain⟨bx,ox,rfl,hbx,hc0⟩:=row_of HX.out hlt;have hmem:=aag hlt;have htk:=aau hlt;have hbd:=HNN.out _ hmem;have Um:=Pd htk;have ZM:=Pd hmem;have HS:=Pd hS;clear htk hmem hS;generalize x[k]=s at*;have k0:=(hlow.cell (p:=⟨bx,ox+k,none⟩) hbx).trans hc0;unfold IV at k0;clear hc0;have i0:(0:Int)<=(k:Int):=by omega
     have il:(k:Int)<(x.length:Int):=by omega
     by_cases hs1:1<=s
     ·by_cases hs2:s<=500
      ·have Ut:=HM.out.same (HS.out.bl.block b HM.out.lt)
       have TG:=xP wr b t Ut Xb s (by omega) hs2;have hok:∀s'∈x.take (k+1),1<=s'/\s'<=500:=fun s' hs'=>by
        rw[Um.out]at hs';rcases aaG.1 hs' with h|h
        ·exact HS.out.ok s' h
        ·rw[aar]at h;subst h;exact⟨hs1,hs2⟩
       have Xe:=Pd hok;clear Ut hok;obtain⟨F,V,hfc,TN,Ub⟩:=lI ((dD t s).getD dX);rw[hfc]at TG;obtain⟨r,hr⟩:∃r,dD t s=r:=⟨_,rfl⟩;rw[hr]at TG TN Ub;obtain⟨oo,Ve⟩:∃oo,(r.getD dX).op=oo:=⟨_,rfl⟩;rw[Ve]at TG;have HRR:=Pd hr;have hFD:=Pd TN;have hVD:=Pd Ub;have hOO:=Pd Ve;clear hfc hr TN Ub Ve
       cases r with
       |none=>
        simp only[adA]at TG;have bA:Below wr wr (wr.alloc (.cells #[.int .u8 oo.toNat,.string F,.string V] 24)):=(aac _ _).alloc (Pe _) _;have hO1:=eP HS.out.oy (aB.of_new (X:=fun _=>False) bA) (fun _ _ e=>e);have hB1:Below w3 w3 (wr.alloc (.cells #[.int .u8 oo.toNat,.string F,.string V] 24)):=HS.out.bl.alloc HS.out.bl.size _;have hL1:=eP HS.out.ol (aB.of_new (X:=fun _=>False) bA) (fun _ _ e=>e);have Wm:=Pd hL1;have WZ:=Pd hO1;clear hL1 hO1 bA;have hny:y.length+1<=maxLen:=by unfold maxLen;omega
        have hby:(y.length+1)*8<=140737488355328:=(by omega);obtain⟨w4,hw4⟩:∃w4,w4=wr.alloc (.cells #[.int .u8 oo.toNat,.string F,.string V] 24):=⟨_,rfl⟩;rw[<-hw4]at Wm WZ hB1;go_upto_region 13 with(fail)
        rw[<-hw4];clear hw4 k0 TG;have bA4:Below w4 w4 (w4.alloc (.cells #[.int .i64 s] 3)):=(aac _ _).alloc (Pe _) _;have hO2:=eP WZ.out (aB.of_new (X:=fun _=>False) bA4) (fun _ _ e=>e);have hnews:∀j u,(#[Value.int .i64 s]).toList[j]? = some u->(w4.alloc (.cells #[.int .i64 s] 3)).cell? ((⟨w4.heap.size,0,none⟩:Addr).add j)=some u:=abK (aaq w4 _);have hbase:w3.heap.size<=(w4.alloc (.cells #[.int .i64 s] 3)).heap.size:=aaB hB1.size bA4.size;go_wp2_with (first|(at_builtin;refine ac6 _ rfl (.tmp 45) (.tmp 47) 38 rfl w3.heap.size 3 ii _ 1 8 ab3 ci ci0 ci1 ci2 rfl (by decide) _ y.length (y.map IV) rfl hO2 ⟨w4.heap.size,0,none⟩ 1 1 [.int .i64 s] rfl rfl hnews (by simp[Value.oneCell']) (by decide) hny hby hbase (w4.heap.size+1) (by simp) ?_;intro g5 cap5 w5 YW hgr5 TW Ul));have hnext:=HS.out.int hlt (Um.out) HRR.out Xe.out hB1 Wm.out WZ.out YW hgr5 TW;have HNX:=Pd hnext;clear hnext YW hgr5 TW Ul hnews hbase hO2;go_wp2_with fail;go_roundw
        case rel=>exact⟨k+1,_,_,by go_num,HNX.out⟩
        case measure=>simp[intOf];omega
       |some f=>
        simp only[acL]at TG;have bA:Below wr wr (wr.alloc (.cells #[.int .u8 oo.toNat,.string F,.string V] 24)):=(aac _ _).alloc (Pe _) _;have hO1:=eP HS.out.oy (aB.of_new (X:=fun _=>False) bA) (fun _ _ e=>e);have hB1:Below w3 w3 (wr.alloc (.cells #[.int .u8 oo.toNat,.string F,.string V] 24)):=HS.out.bl.alloc HS.out.bl.size _;have hL1:=eP HS.out.ol (aB.of_new (X:=fun _=>False) bA) (fun _ _ e=>e);have c0:=aJ wr #[.int .u8 oo.toNat,.string F,.string V] 24 0 (.int .u8 oo.toNat) rfl;have c1:=aJ wr #[.int .u8 oo.toNat,.string F,.string V] 24 1 (.string F) rfl;have c2:=aJ wr #[.int .u8 oo.toNat,.string F,.string V] 24 2 (.string V) rfl;have Wm:=Pd hL1;have WZ:=Pd hO1;clear hL1 hO1 bA;have hny:l.length+1<=maxLen:=by unfold maxLen;omega
        have hby:(l.length+1)*40<=140737488355328:=(by omega);obtain⟨w4,hw4⟩:∃w4,w4=wr.alloc (.cells #[.int .u8 oo.toNat,.string F,.string V] 24):=⟨_,rfl⟩;rw[<-hw4]at Wm WZ hB1 c0 c1 c2;go_upto_region 12 with(fail)
        rw[<-hw4];clear hw4 k0 TG;have bA4:Below w4 w4 (w4.alloc (.cells #[.int .u8 oo.toNat,.string F,.string V] 24)):=(aac _ _).alloc (Pe _) _;have hO2:=eP Wm.out (aB.of_new (X:=fun _=>False) bA4) (fun _ _ e=>e);have hnews:∀j u,(#[Value.int .u8 oo.toNat,.string F,.string V]).toList[j]? = some u->(w4.alloc (.cells #[.int .u8 oo.toNat,.string F,.string V] 24)).cell? ((⟨w4.heap.size,0,none⟩:Addr).add j)=some u:=abK (aaq w4 _);have hbase:w3.heap.size<=(w4.alloc (.cells #[.int .u8 oo.toNat,.string F,.string V] 24)).heap.size:=aaB hB1.size bA4.size;go_wp2_with (first|(at_builtin;refine ac6 _ rfl (.tmp 41) (.tmp 43) 43 rfl w3.heap.size 24 jf _ 3 40 Tryz.underlying43 cf cf0 cf1 cf2 rfl (by decide) _ l.length (iE l) rfl hO2 ⟨w4.heap.size,0,none⟩ 1 1 [.int .u8 oo.toNat,.string F,.string V] rfl rfl hnews (by simp[Value.oneCell']) (by decide) hny hby hbase (w4.heap.size+1) (by simp) ?_;intro g5 cap5 w5 YW hgr5 TW Ul));have hnext:=HS.out.flg hlt (Um.out) HRR.out Xe.out hB1 Wm.out WZ.out (show [Value.int .u8 oo.toNat,.string F,.string V]=[.int .u8 f.op.toNat,S f.feat,S f.val] by
         have e1:=hFD.out;have e2:=hVD.out;have e3:=hOO.out;simp only[abL]at e1 e2 e3;rw[e1,e2,<-e3,eX,eX]) YW hgr5 TW
        have HNX:=Pd hnext;clear hnext YW hgr5 TW Ul hnews hbase hO2;go_wp2_with fail;go_roundw
        case rel=>exact⟨k+1,_,_,by go_num,HNX.out⟩
        case measure=>simp[intOf];omega
      ·have HQ:=Pd (ZZ.out s ZM.out (fun h=>hs2 h.2))
       have d2:(500:Int)<s:=(by omega);have d3:(1:Int)<=s:=hs1;have d4:decide (s<(1:Int))=false:=aai (by omega);go_wp2_with fail;go_returns;rw[HQ.out];exact⟨none,0,rfl,fun hne=>absurd rfl hne,hlow⟩
     ·have HQ:=Pd (ZZ.out s ZM.out (fun h=>hs1 h.1))
      have d3:s<(1:Int):=(by omega);go_wp2_with fail;go_returns;rw[HQ.out];exact⟨none,0,rfl,fun hne=>absurd rfl hne,hlow⟩
    ·obtain rfl:k=x.length:=by have:=hS.kl;omega
     have hR:=HR.out (aaT.2 fun s hs=>aaA (hS.ok s (by rw[aaJ];exact hs)));have e1:=hS.hy;have e2:=hS.hl;rw[aaJ]at e1 e2;rw[<-e1,<-e2]at hR;have HQ:=Pd hR;obtain⟨Al,cl,rfl,hfl⟩:=Ba hS.ol;obtain⟨Ay,cy,rfl,hyy⟩:=Iu hS.oy;have pL:=Bp Al cl l wr (hT.t.below hlow) hfl (by omega);have HYY:=Pd hyy;clear hR e1 e2 hS hfl hyy HR ZZ;go_wp2_with (first|(go_at_call 21;refine pL.mono ?_;rintro e w5 ⟨rfl,hb5⟩));go_returns;rw[HQ.out];exact⟨Ay,cy,rfl,HYY.out.below hb5,ae hlow hb5⟩
 ·have d1:(200:Int)<(x.length:Int):=by omega
  have HR:Hid (stripL x t=([],false)):=by unfold Hid stripL;rw[aab (fun h=>hl h.1)]
  clear pT;go_enter Tryz.func23,Tryz.ntmps23;go_wp2_with fail;go_returns;rw[HR.out];exact⟨none,0,rfl,fun hne=>absurd rfl hne,aac _ _⟩
open Go.RowKit
def Hq{k:Int}{ss:List bI}{v:Vec}{x:Bs}{q:Nat}(hq:q<ss.length)(hv:q<v.length) :
  lH k (ss.drop q) (v.drop q) x=if ss[q].fin=[] then lH k (ss.drop (q+1)) (v.drop (q+1)) x else bi (fK k [x] 0 v[q] ss[q].fin) fun l=>lH k (ss.drop (q+1)) (v.drop (q+1)) (l.headD []):=by
 rw[aat hq,aat hv]
 rfl
def Ol{l:Vec}(h:dK 1 l):∃x,l=[x]/\x.length<=802:=by
 match l,h with
 |[x],h=>exact⟨x,rfl,h.2 x aal⟩
def qN(w:World)(R:Except Nat Bs)(e:Ending)(w':World):Prop:=Below w w w'/\match R with
 |.ok x=>e=.returned (.tuple #[S x,.int .i64 0])/\x.length<=802
 |.error x=>e=.returned (.tuple #[.string ⟨#[]⟩,.int .i64 x])/\x≠0
def Lm(m:aQ)(A:Option Addr)(c bv cv:Nat)(v:Vec)(w:World)(hm:bM m=true)(hV:dY w A m.states)(hv:aZ w bv v)(UH:dK m.states.length v) :
  Calls Tryz.prog 67 #[di m A c,.slice (some ⟨bv,0,none⟩) m.states.length cv] w (qN w (lH m.kind m.states v (aF m.kind))):=by
 obtain⟨hk,⟨hn1,hn2,hs1,hs2⟩,hld,hst,har⟩:=kV.1 hm;clear har;obtain⟨R,hR⟩:∃R,lH m.kind m.states v (aF m.kind)=R:=⟨_,rfl⟩;have HR:=Pd hR.symm;rw[hR];clear hR;have HV:=Pd hV;have Ug:Hid (∀s∈m.states,aBP m.kind m.states.length s=true):=hst;unfold di S at*;obtain⟨kd,st,ld,ss⟩:=m;simp only at*;generalize (⟨ld.toArray⟩:ByteArray)=Ld at*;have hbv:=hv.lt;have Z8:=Pd hv;obtain⟨n,hn⟩:∃n,n=ss.length:=⟨_,rfl⟩;rw[<-hn]at UH hn1 hn2 Ug ⊢;have HN:=Pd hn.symm;obtain⟨zk,U5⟩:∃zk:ByteArray,(⟨(aF kd).toArray⟩:ByteArray)=zk:=⟨_,rfl⟩;have Ua:aF kd=zk.data.toList:=by rw[<-U5]
 have p0:∀W,Calls Tryz.prog 34 #[.int .i64 kd] W fun e w'=>e=.returned (.string zk)/\W=w':=fun W=>by
  have:=o9 kd W;unfold S at this;rw[U5]at this;exact this
 rw[Ua]at HR;have hzl:zk.data.toList.length<=802:=by rw[<-Ua];exact rR kd
 clear hld hm hV hst hs1 hs2 hk hn hv U5 Ua;have z0:=az w #[.int .i64 kd,.int .i64 st,.string Ld,.slice A n c] 30 0 _ rfl;have z3:=az w #[.int .i64 kd,.int .i64 st,.string Ld,.slice A n c] 30 3 _ rfl;have hb0:Below w w (w.alloc (.cells #[.int .i64 kd,.int .i64 st,.string Ld,.slice A n c] 30)):=(aac _ _).alloc (Pe _) _;have hs0:(w.alloc (.cells #[.int .i64 kd,.int .i64 st,.string Ld,.slice A n c] 30)).heap.size=w.heap.size+1:=by simp
 go_enter Tryz.func67,Tryz.ntmps67;go_wp2_with fail;generalize w.alloc (.cells #[.int .i64 kd,.int .i64 st,.string Ld,.slice A n c] 30)=w0 at*;refine(p0 _).mono ?_;rintro e w1 ⟨rfl,rfl⟩;have q0:=z0;have q3:=z3;have hv1:aZ (w0.alloc (.cells #[.string zk] 9)) (w.heap.size+1) [zk.data.toList]:=by
  have:=aaq w0 (.cells #[.string zk] 9);rw[hs0]at this;exact this
 have hB1:Below (w.heap.size+1) w0 (w0.alloc (.cells #[.string zk] 9)):=(aac _ _).alloc (by rw[hs0];exact Pe _) _;have VQ:=Pd hs0;go_wp2_with fail;clear hs0 z0 z3;generalize w0.alloc (.cells #[.string zk] 9)=w1 at*
 go_loopw [7] (fun i wr=>∃(q:Nat) (x:Bs),i=.int .i64 q/\q<=n/\Below (w.heap.size+1) w0 wr/\aZ wr (w.heap.size+1) [x]/\x.length<=802/\Hid (R=lH kd (ss.drop q) (v.drop q) x)) (fun i _=>n-(intOf i).toNat)
 case atStart=>exact⟨0,_,rfl,by omega,hB1,hv1,hzl,HR.out⟩
 case round=>
  clear hB1 hv1;obtain⟨q,x,rfl,hq,hBr,Vp,hxr,HS⟩:=hrel;have hBw:Below w w wr:=hb0.trans (hBr.mono (adU _));have m0:=(hBr.cell (p:=⟨w.heap.size,0,none⟩) (aci _)).trans q0;have m3:=(hBr.cell (p:=⟨w.heap.size,3,none⟩) (aci _)).trans q3;by_cases hlt:q<n
  ·have VX:q<ss.length:=by rw[HN.out];exact hlt
   have U4:q<v.length:=by rw[UH.1];exact hlt
   obtain⟨b,o,rfl,Vb,hc0,A',c',hc1,TK⟩:=HV.out q VX;have HD:=Pd (HS.out.trans (Hq VX U4));have hso:=Ug.out _ (aag VX);have hxl:=UH.2 _ (aag U4);have Vo:=Z8.out.cell U4;generalize ss[q]=s at*;obtain⟨fin,arcs⟩:=s;simp only at*;obtain⟨X,hX⟩:∃X:ByteArray,(⟨v[q].toArray⟩:ByteArray)=X:=⟨_,rfl⟩;have UB:v[q]=X.data.toList:=by rw[<-hX]
   unfold S at Vo;rw[hX]at Vo;rw[UB]at HD hxl;have Vm:X.size<=802:=by rw[aae];exact hxl
   obtain⟨Fn,hFn⟩:∃Fn:ByteArray,(⟨fin.toArray⟩:ByteArray)=Fn:=⟨_,rfl⟩;have Wy:fin=Fn.data.toList:=by rw[<-hFn]
   unfold S at hc0;rw[hFn]at hc0;subst Wy;have mv:=(hBw.cell (p:=⟨bv,q,none⟩) hbv).trans Vo;have mf:=(hBw.cell (p:=⟨b,o+q*2,none⟩) Vb).trans hc0;have i0:(0:Int)<=(q:Int):=by omega
   have il:(q:Int)<(n:Int):=(by omega);clear hX UB hxl hFn TK;by_cases hfn:Fn.size=0
   ·have t1:(Fn.toList != [])=false:=rf (fF hfn)
    have t1':(Fn.toList==[])=true:=iR (fF hfn);have hem:=jF hfn;have HX:=Pd (HD.out.trans (aaa (fF hfn)));clear hfn HD;go_wp2_with fail;go_roundw
    case rel=>exact⟨q+1,x,by go_num,by omega,hBr,Vp,hxr,HX.out⟩
    case measure=>simp[intOf];omega
   ·have t1:(Fn.toList != [])=true:=rq (gB hfn)
    have t1':(Fn.toList==[])=false:=iT (gB hfn);have hem:=jI hfn;have HX:=Pd (HD.out.trans (aab (gB hfn)));have Uy:Fn.size<=802:=by
     rw[aae];rcases(pg.1 hso).1 with h|h
     ·exact absurd h (gB hfn)
     ·exact wC h
    have pA:∀W,aZ W (w.heap.size+1) [x]->Calls Tryz.prog 88 #[.int .i64 kd,.slice (some ⟨w.heap.size+1,0,none⟩) 1 1,.int .i64 0,.string X,.string Fn] W (aDk W (w.heap.size+1) (fK kd [x] 0 X.data.toList Fn.data.toList)):=by
     intro W hW;exact uy kd (w.heap.size+1) 1 [x] 0 X Fn W hW (by omega) (by simp) Vm Uy hxr
    have HE:Hid (∀e,fK kd [x] 0 X.data.toList Fn.data.toList=.error e->R=.error e):=fun e he=>by rw[HX.out,xq he]
    have HK:Hid (∀l',fK kd [x] 0 X.data.toList Fn.data.toList=.ok l'->R=lH kd (ss.drop (q+1)) (v.drop (q+1)) (l'.headD [])):=fun l' he=>by rw[HX.out,xu he]
    have hx1:dK 1 [x]:=⟨rfl,fun y hy=>by rw[aar.1 hy];exact hxr⟩;clear hfn HD HX;go_wp2_with fail
    go_still_tail 13,(by kernel_rfl)
    change wpList _ _ _ _ _ wr.drew;go_wp2_with fail;have hvd:aZ wr.drew (w.heap.size+1) [x]:=Vp;refine(pA _ hvd).mono ?_;rintro e w6 ⟨hu,hr⟩;have hb6:Below (w.heap.size+1) w0 w6:=hBr.drew.trans (hu.low _ (Pe _) (aa0 Vp.lt))
    cases hadd:fK kd [x] 0 X.data.toList Fn.data.toList with
    |error e'=>
     rw[hadd]at hr;obtain⟨rfl,hne⟩:=hr;have HY:=Pd (HE.out e' hadd);have t9:((e':Int) != 0)=true:=by simpa using hne
     have U6:=Pd hne;clear hadd hne;go_wp2_with fail;go_returns;refine⟨hb0.trans (hb6.mono (adU _)),?_⟩;rw[HY.out];exact⟨rfl,U6.out⟩
    |ok l'=>
     rw[hadd]at hr;obtain⟨rfl,hv6⟩:=hr;have HY:=Pd (HK.out l' hadd);obtain⟨x',rfl,hx'⟩:=Ol (uX hx1 hadd);clear hadd;go_wp2_with fail;go_roundw
     case rel=>exact⟨q+1,x',by go_num,by omega,hb6,hv6,hx',HY.out⟩
     case measure=>simp[intOf];omega
  ·obtain rfl:q=n:=by omega
   have HX:Hid (R=.ok x):=by
    have:=HS.out;rw[abo (by rw[HN.out];exact Pe _)]at this;exact this
   have k0:wr.cell? ⟨w.heap.size+1,0,none⟩=some (.string ⟨x.toArray⟩):=Vp.cell (j:=0) (by simp);go_wp2_with fail;go_returns;refine⟨hBw,?_⟩;rw[HX.out];exact⟨rfl,hxr⟩
def jP(w:World)(A:Option Addr)(a:ak):Prop:=∀i,(h:i<a.length)->∃b o,A=some ⟨b,o,none⟩/\b<w.heap.size/\∃r c',w.cell? ⟨b,o+i,none⟩=some (.slice (some ⟨r,0,none⟩) a[i].length c')/\r<w.heap.size/\∀j,(hj:j<a[i].length)->w.cell? ⟨r,j,none⟩=some (S a[i][j])
def jP.below{w w':World}{A:Option Addr}{a:ak}(h:jP w A a)(hb:Below w w w'):jP w' A a:=by
 intro i hi;obtain⟨b,o,hA,hlt,r,c',h1,h2,h3⟩:=h i hi;exact⟨b,o,hA,aah hlt hb.size,r,c',(hb.cell (p:=⟨b,_,none⟩) hlt).trans h1,aah h2 hb.size,fun j hj=>(hb.cell (p:=⟨r,_,none⟩) h2).trans (h3 j hj)⟩
def iM(n:Nat)(a:ak):Prop:=a.length=n/\∀r∈a,dK n r
def Li{k:Int}{v l:Vec}{a:ak}{q:Nat}(hq:q<v.length)(ha:q<a.length):lU k (v.drop q) (a.drop q) l=bi (lT k v[q] (a[q].drop 0) 0 l) (lU k (v.drop (q+1)) (a.drop (q+1))):=by
 rw[aat hq,aat ha]
 rfl
def Lh{k:Int}{x:Bs}{row l:Vec}{p:Nat}(hp:p<row.length):lT k x (row.drop p) p l=if x=aF k\/row[p]=aF k then lT k x (row.drop (p+1)) (p+1) l else bi (fK k l p x row[p]) (lT k x (row.drop (p+1)) (p+1)):=by
 rw[aat hp]
 rfl
def LZ(m:aQ)(A:Option Addr)(c bv cv cs:Nat)(v:Vec)(AS:Addr)(a:ak)(w:World)(hn1:1<=m.states.length)(hn2:m.states.length<=3000)(hv:aZ w bv v)(UH:dK m.states.length v)(hS:jP w (some AS) a)(ha:iM m.states.length a) :
  Calls Tryz.prog 64 #[di m A c,.slice (some ⟨bv,0,none⟩) m.states.length cv,.slice (some AS) m.states.length cs] w (sP w m.states.length (lU m.kind v a (eT m))):=by
 have pZ:=fun W=>wu m A c W hn1 hn2
 have hzn:=wR m;obtain⟨R,hR⟩:∃R,lU m.kind v a (eT m)=R:=⟨_,rfl⟩;rw[hR];have HR:=Pd hR.symm;clear hR;generalize eT m=Z at*;unfold di S at*;obtain⟨kd,st,ld,ss⟩:=m;simp only at*;generalize (⟨ld.toArray⟩:ByteArray)=Ld at*;have hbv:=hv.lt;have Z8:=Pd hv;have HMt:=Pd hS;generalize ss.length=n at*;obtain⟨zk,U5⟩:∃zk:ByteArray,(⟨(aF kd).toArray⟩:ByteArray)=zk:=⟨_,rfl⟩;have Ua:aF kd=zk.data.toList:=by rw[<-U5]
 have p0:∀W,Calls Tryz.prog 34 #[.int .i64 kd] W fun e w'=>e=.returned (.string zk)/\w'=W:=fun W=>by
  have:=o9 kd W;unfold S at this;rw[U5]at this;exact this.mono fun e w' h=>⟨h.1,h.2.symm⟩
 have HZK:=Pd Ua;clear hv hS U5 Ua;have z0:=az w #[.int .i64 kd,.int .i64 st,.string Ld,.slice A n c] 30 0 _ rfl;have z1:=az w #[.int .i64 kd,.int .i64 st,.string Ld,.slice A n c] 30 1 _ rfl;have z2:=az w #[.int .i64 kd,.int .i64 st,.string Ld,.slice A n c] 30 2 _ rfl;have z3:=az w #[.int .i64 kd,.int .i64 st,.string Ld,.slice A n c] 30 3 _ rfl;have hb0:Below w w (w.alloc (.cells #[.int .i64 kd,.int .i64 st,.string Ld,.slice A n c] 30)):=(aac _ _).alloc (Pe _) _;have hn0:w.heap.size<(w.alloc (.cells #[.int .i64 kd,.int .i64 st,.string Ld,.slice A n c] 30)).heap.size:=by simp
 have hnil:∀W:World,(binOp .eql 108 (.slice (some AS) n cs) (.slice none 0 0)).run Tryz.prog W=.ok (.bool false) W:=fun W=>run_eql_slice_nil (P:=Tryz.prog) W 108 22 (some AS) n cs aec
 go_enter Tryz.func64,Tryz.ntmps64;go_wp2_with fail;generalize w.alloc (.cells #[.int .i64 kd,.int .i64 st,.string Ld,.slice A n c] 30)=w0 at*;refine(pZ _).mono ?_;rintro e w1 ⟨bl,rfl,Vq,hbl,hb1⟩;have q0:=(hb1.cell (p:=⟨w.heap.size,0,none⟩) hn0).trans z0;have hnb:w.heap.size<bl:=aah hn0 hbl;have hbw:=ae hb0 hb1;clear z0 z1 z2 z3 pZ;go_wp2_with fail
 go_loopw [9] (fun i wr=>∃(q:Nat) (l:Vec),i=.int .i64 q/\q<=n/\Below bl w1 wr/\aZ wr bl l/\dK n l/\Hid (R=lU kd (v.drop q) (a.drop q) l)) (fun i _=>n-(intOf i).toNat)
 case atStart=>exact⟨0,Z,rfl,by omega,aac _ _,Vq,hzn,HR.out⟩
 case round=>
  obtain⟨q,l,rfl,hq,hBr,Vp,hlr,VQ⟩:=hrel;by_cases hlt:q<n
  ·have U4:q<v.length:=by rw[UH.1];exact hlt
   have VM:q<a.length:=by rw[ha.1];exact hlt
   have HD:=Pd (VQ.out.trans (Li U4 VM));have hxl:=UH.2 _ (aag U4);have Vo:=Z8.out.cell U4;obtain⟨bs,os,Yj,hbs,br,cr,hr0,hr1,hr2⟩:=HMt.out q VM;have hrn:=ha.2 _ (aag VM);obtain rfl:=acp Yj;rw[hrn.1]at hr0;have Yf:=Pd hr2;generalize a[q]=row at*;obtain⟨X,hX⟩:∃X:ByteArray,(⟨v[q].toArray⟩:ByteArray)=X:=⟨_,rfl⟩;have UB:v[q]=X.data.toList:=by rw[<-hX]
   unfold S at Vo;rw[hX]at Vo;rw[UB]at HD hxl;have Vm:X.size<=802:=by rw[aae];exact hxl
   have i0:(0:Int)<=(q:Int):=(by omega);have il:(q:Int)<(n:Int):=(by omega);obtain⟨F,hF⟩:∃F,lU kd (v.drop (q+1)) (a.drop (q+1))=F:=⟨_,rfl⟩;have HF:=Pd hF;rw[hF]at HD;clear hX UB hxl hF hr2 Yj VQ;go_wp2_with fail
   go_loopw [10] (fun i wr=>∃(j:Nat) (l:Vec),i=.int .i64 j/\j<=n/\Below bl w1 wr/\aZ wr bl l/\dK n l/\Hid (R=bi (lT kd X.data.toList (row.drop j) j l) F)) (fun i _=>n-(intOf i).toNat)
   case atStart=>exact⟨0,l,rfl,by omega,hBr,Vp,hlr,HD.out⟩
   case round=>
    clear hlr HD hBr Vp;obtain⟨j,l,rfl,hj,T9,XG,hln,HJ⟩:=hrel;have hBw:Below w w wr:=hbw.trans (T9.mono (aa0 hnb));have m0:=(T9.cell (p:=⟨w.heap.size,0,none⟩) hnb).trans q0;have mv:=(hBw.cell (p:=⟨bv,q,none⟩) hbv).trans Vo;have ms:=(hBw.cell (p:=⟨bs,os+q,none⟩) hbs).trans hr0;by_cases hjl:j<n
    ·have hjr:j<row.length:=by rw[hrn.1];exact hjl
     have HD:=Pd (HJ.out.trans (aaw (fun z=>bi z F) (Lh hjr)));have hyl:=hrn.2 _ (aag hjr);have Wi:=Yf.out j hjr;obtain⟨Y,hY⟩:∃Y:ByteArray,(⟨row[j].toArray⟩:ByteArray)=Y:=⟨_,rfl⟩;have hYd:row[j]=Y.data.toList:=by rw[<-hY]
     unfold S at Wi;rw[hY]at Wi;rw[hYd,HZK.out]at HD;rw[hYd]at hyl;have hYs:Y.size<=802:=by rw[aae];exact hyl
     have my:=(hBw.cell (p:=⟨br,j,none⟩) hr1).trans Wi;have ij0:(0:Int)<=(j:Int):=by omega
     have ijl:(j:Int)<(n:Int):=(by omega);clear hY hYd hyl;by_cases hx:X.data.toList=zk.data.toList
     ·have t1:=str_eq hx
      have HS:Hid (R=bi (lT kd X.data.toList (row.drop (j+1)) (j+1) l) F):=(by rw[Hid,HD.out,aaa (aam hx)]);clear HD hx HJ;go_wp2_with fail
      go_quiet (first|(go_at_call 34;with_reducible exact ab1 (p0 _)))
      go_wp2_with fail;go_roundw
      case rel=>exact⟨j+1,l,by go_num,by omega,lh T9 _,XG,hln,HS.out⟩
      case measure=>simp[intOf];omega
     ·have t1:=qB hx
      by_cases hy:Y.data.toList=zk.data.toList
      ·have t2:=str_eq hy
       have HS:Hid (R=bi (lT kd X.data.toList (row.drop (j+1)) (j+1) l) F):=(by rw[Hid,HD.out,aaa (aad hy)]);clear HD hx hy HJ;go_wp2_with fail
       go_quiet (first|(go_at_call 34;with_reducible exact ab1 (p0 _)))
       go_wp2_with fail;go_roundw
       case rel=>exact⟨j+1,l,by go_num,by omega,lh T9 _,XG,hln,HS.out⟩
       case measure=>simp[intOf];omega
      ·have t2:=qB hy
       have HD2:=Pd (HD.out.trans (aaw (fun z=>bi z F) (aab (by rintro(h|h);exact hx h;exact hy h))));have pA:∀W,aZ W bl l->Calls Tryz.prog 88 #[.int .i64 kd,.slice (some ⟨bl,0,none⟩) n n,.int .i64 j,.string X,.string Y] W (aDk W bl (fK kd l j X.data.toList Y.data.toList)):=by
        intro W hW;have:=uy kd bl n l j X Y W hW (by omega) (by rw[hln.1];exact ijl) Vm hYs (hln.get _);rw[hln.1]at this;exact this
       have HE:Hid (∀e,fK kd l j X.data.toList Y.data.toList=.error e->R=.error e):=fun e he=>by rw[HD2.out,xq he];rfl
       have HK:Hid (∀l',fK kd l j X.data.toList Y.data.toList=.ok l'->R=bi (lT kd X.data.toList (row.drop (j+1)) (j+1) l') F):=fun l' he=>by rw[HD2.out,xu he]
       clear HD HD2 hx hy HJ;go_wp2_with fail
       go_quiet (first|(go_at_call 34;with_reducible exact ab1 (p0 _)))
       go_wp2_with fail;have TS:Below bl w1 (wr.drewN nq):=lh T9 _;have hv5:aZ (wr.drewN nq) bl l:=XG;have x0:(wr.drewN nq).cell? ⟨w.heap.size,0,none⟩=some (.int .i64 kd):=m0;have x1:(wr.drewN nq).cell? ⟨bv,q,none⟩=some (.string X):=mv;have x2:(wr.drewN nq).cell? ⟨bs,os+q,none⟩=some (.slice (some ⟨br,0,none⟩) n cr):=ms;have x3:(wr.drewN nq).cell? ⟨br,j,none⟩=some (.string Y):=my;clear m0 mv ms my T9 XG hBw;generalize wr.drewN nq=w5 at*
       go_still_tail 15,(by kernel_rfl)
       change wpList _ _ _ _ _ w5.drew;go_wp2_with fail;have hvd:aZ w5.drew bl l:=hv5;refine(pA _ hvd).mono ?_;rintro e w6 ⟨hu,hr⟩;have hb6:Below bl w1 w6:=TS.drew.trans (hu.low bl (Pe _) (aa0 hv5.lt))
       cases hadd:fK kd l j X.data.toList Y.data.toList with
       |error e'=>
        rw[hadd]at hr;obtain⟨rfl,hne⟩:=hr;have HX:=Pd (HE.out e' hadd);have t9:((e':Int) != 0)=true:=by simpa using hne
        have U6:=Pd hne;clear hadd hne;go_wp2_with fail;go_returns;refine⟨hbw.trans (hb6.mono (aa0 hnb)),?_⟩;rw[HX.out];exact⟨rfl,U6.out⟩
       |ok l'=>
        rw[hadd]at hr;obtain⟨rfl,hv6⟩:=hr;have HX:=Pd (HK.out l' hadd);have hl6:=uX hln hadd;clear hadd;go_wp2_with fail;go_roundw
        case rel=>exact⟨j+1,l',by go_num,by omega,hb6,hv6,hl6,HX.out⟩
        case measure=>simp[intOf];omega
    ·obtain rfl:j=n:=by omega
     have HX:Hid (R=lU kd (v.drop (q+1)) (a.drop (q+1)) l):=by
      have:=HJ.out;rw[abo (by rw[hrn.1];exact Pe _)]at this;rw[Hid,HF.out,this];rfl
     go_wp2_with fail;go_roundw
     case rel=>exact⟨q+1,l,by go_num,by omega,T9,XG,hln,HX.out⟩
     case measure=>simp[intOf];omega
  ·obtain rfl:q=n:=by omega
   have HX:Hid (R=.ok l):=by
    have:=VQ.out;rw[abo (by rw[UH.1];exact Pe _)]at this;exact this
   go_wp2_with fail;go_returns;refine⟨hbw.trans (hBr.mono (aa0 hnb)),?_⟩;rw[HX.out];exact⟨bl,rfl,Vp,aa0 hnb,hlr⟩
def LY(m:aQ)(A:Option Addr)(c bv cv:Nat)(v:Vec)(w:World)(hv:aZ w bv v)(UH:dK m.states.length v) :
  Calls Tryz.prog 64 #[di m A c,.slice (some ⟨bv,0,none⟩) m.states.length cv,.slice none 0 0] w fun e w'=>e=.returned (.tuple #[.slice (some ⟨bv,0,none⟩) m.states.length cv,.int .i64 0])/\Below w w w':=by
 unfold di S;generalize (⟨m.lead.toArray⟩:ByteArray)=Ld;generalize m.states.length=n at*;have hb0:Below w w (w.alloc (.cells #[.int .i64 m.kind,.int .i64 m.start,.string Ld,.slice A n c] 30)):=(aac _ _).alloc (Pe _) _;have hnil:∀W:World,(binOp .eql 108 (.slice none 0 0) (.slice none 0 0)).run Tryz.prog W=.ok (.bool true) W:=fun W=>run_eql_slice_nil (P:=Tryz.prog) W 108 22 none 0 0 aec
 go_enter Tryz.func64,Tryz.ntmps64;go_wp2_with fail;go_returns;exact⟨rfl,hb0⟩
def dI(w:World)(sb:Nat)(k:Int)(bad:Bool):Prop:=w.heap[sb]? = some (.cells #[.int .i64 k,.bool bad] 171)
def dI.lt{w:World}{sb:Nat}{k:Int}{bad:Bool}(h:dI w sb k bad):sb<w.heap.size:=oM h
def dI.kind{w:World}{sb:Nat}{k:Int}{bad:Bool}(h:dI w sb k bad):w.cell? ⟨sb,0,none⟩=some (.int .i64 k):=by
 rw[aap w sb 0 _ _ (0,0) h];rfl
def dI.bad{w:World}{sb:Nat}{k:Int}{bad:Bool}(h:dI w sb k bad):w.cell? ⟨sb,1,none⟩=some (.bool bad):=by
 rw[aap w sb 1 _ _ (0,0) h];rfl
def dI.free{w:World}{sb:Nat}{k:Int}{bad:Bool}(h:dI w sb k bad)(j:Nat):w.frozen? ⟨sb,j,none⟩=false:=by
 unfold World.frozen?;rw[show w.heap[sb]? = some (.cells #[.int .i64 k,.bool bad] 171) from h];simp
def dI.set{w:World}{sb:Nat}{k:Int}{bad:Bool}(h:dI w sb k bad)(x:Bool):dI (w.setCell ⟨sb,1,none⟩ (.bool x)) sb k x:=by
 unfold dI World.setCell;simp only[ab4];rw[show w.heap[sb]? = some (.cells #[.int .i64 k,.bool bad] 171) from h];simp
def dI.below{w w':World}{sb:Nat}{k:Int}{bad:Bool}(h:dI w sb k bad)(hb:Below w w w'):dI w' sb k bad:=(hb.block sb h.lt).trans h
def wW(w:World)(sb:Nat)(k:Int)(r:Bool×Bs)(e:Ending)(w':World):Prop:=e=.returned (S r.2)/\dI w' sb k r.1/\df sb w w'
def Ea(sb:Nat)(k:Int)(bad:Bool)(c:ByteArray)(w:World)(hS:dI w sb k bad):Calls Tryz.prog 162 #[.pointer (some ⟨sb,0,none⟩),.string c] w fun e w'=>e=.returned (S (if bad=true then aF k else c.data.toList))/\w=w':=by
 have p1:=fun W=>o9 k W
 have k0:=hS.kind;have k1:=hS.bad
 cases bad with
 |true=>
  go_enter Tryz.func162,Tryz.ntmps162;go_wp2_with fail;refine(p1 _).mono ?_;rintro e w1 ⟨rfl,rfl⟩;go_wp2_with fail;go_returns;exact⟨rfl,rfl⟩
 |false=>
  go_enter Tryz.func162,Tryz.ntmps162;go_wp2_with fail;go_returns;exact⟨rfl,rfl⟩
def MX(sb:Nat)(k:Int)(bad:Bool)(a b:ByteArray)(w:World)(hS:dI w sb k bad)(ha:a.size<=802)(hb:b.size<=802):Calls Tryz.prog 127 #[.pointer (some ⟨sb,0,none⟩),.string a,.string b] w (wW w sb k (jG k bad a.data.toList b.data.toList)):=by
 have p1:=fun W=>yO k a b W (by omega) (by omega)
 have HV:Hid (jG k bad a.data.toList b.data.toList=if (bad||decide ((fI k a.data.toList b.data.toList).2≠0))=true then (true,aF k) else (false,(fI k a.data.toList b.data.toList).1)):=rfl;generalize jG k bad a.data.toList b.data.toList=R at*;generalize fI k a.data.toList b.data.toList=tm at*;obtain⟨t,n⟩:=tm;unfold Rat3.aA at p1;obtain⟨T,hT⟩:∃T:ByteArray,(⟨t.toArray⟩:ByteArray)=T:=⟨_,rfl⟩;have Yt:t=T.data.toList:=by rw[<-hT]
 simp only at p1 HV;rw[hT]at p1;subst Yt;have hlt:=hS.lt;have k0:=hS.kind;have k1:=hS.bad;have f1:=hS.free 1;have HS:=Pd hS;clear hT hS;have pk:=fun W (x:Bool) (h:dI W sb k x)=>Ea sb k x T W h
 have fin:∀(x:Bool) (w2 w3:World),Below w w w2->w3=w2.setCell ⟨sb,1,none⟩ (.bool x)->dI w3 sb k x/\df sb w w3:=fun x w2 w3 hb h=>by
  subst h;exact⟨(HS.out.below hb).set x,(df.of_below hb).set 1 _⟩
 cases bad with
 |true=>
  have HX:Hid (R=(true,aF k)):=HV.out.trans (aaa rfl);clear HV;go_enter Tryz.func127,Tryz.ntmps127;go_wp2_with fail;refine(p1 _).mono ?_;rintro e w1 ⟨rfl,b1⟩;have j1:=(b1.cell (p:=⟨sb,1,none⟩) hlt).trans k1;have g1:=(b1.frozen (p:=⟨sb,1,none⟩) hlt).trans f1;obtain⟨hA,hB⟩:=fin true w1 _ b1 rfl;go_wp2_with fail;refine(pk _ true hA).mono ?_;rintro e w4 ⟨rfl,rfl⟩;go_wp2_with fail;go_returns;rw[HX.out];exact⟨rfl,hA,hB⟩
 |false=>
  by_cases hn:n=0
  ·subst hn
   have HX:Hid (R=(false,T.data.toList)):=HV.out.trans (aab (by simp));clear HV;go_enter Tryz.func127,Tryz.ntmps127;go_wp2_with fail;refine(p1 _).mono ?_;rintro e w1 ⟨rfl,b1⟩;have j1:=(b1.cell (p:=⟨sb,1,none⟩) hlt).trans k1;have g1:=(b1.frozen (p:=⟨sb,1,none⟩) hlt).trans f1;obtain⟨hA,hB⟩:=fin false w1 _ b1 rfl;go_wp2_with fail;refine(pk _ false hA).mono ?_;rintro e w4 ⟨rfl,rfl⟩;go_wp2_with fail;go_returns;rw[HX.out];exact⟨rfl,hA,hB⟩
  ·have HX:Hid (R=(true,aF k)):=HV.out.trans (aaa (by simp[hn]))
   have t1:((n:Int) != 0)=true:=(by simpa using hn);clear HV hn;go_enter Tryz.func127,Tryz.ntmps127;go_wp2_with fail;refine(p1 _).mono ?_;rintro e w1 ⟨rfl,b1⟩;have j1:=(b1.cell (p:=⟨sb,1,none⟩) hlt).trans k1;have g1:=(b1.frozen (p:=⟨sb,1,none⟩) hlt).trans f1;obtain⟨hA,hB⟩:=fin true w1 _ b1 rfl;go_wp2_with fail;refine(pk _ true hA).mono ?_;rintro e w4 ⟨rfl,rfl⟩;go_wp2_with fail;go_returns;rw[HX.out];exact⟨rfl,hA,hB⟩
def RD(sb:Nat)(k:Int)(bad:Bool)(a b:ByteArray)(w:World)(hS:dI w sb k bad)(ha:a.size<=802)(hb:b.size<=802):Calls Tryz.prog 128 #[.pointer (some ⟨sb,0,none⟩),.string a,.string b] w (wW w sb k (q9 k bad a.data.toList b.data.toList)):=by
 have p1:=fun W=>Mo k a b W (by omega) (by omega)
 have HV:Hid (q9 k bad a.data.toList b.data.toList=if (bad||decide ((iV k a.data.toList b.data.toList).2≠0))=true then (true,aF k) else (false,(iV k a.data.toList b.data.toList).1)):=rfl;generalize q9 k bad a.data.toList b.data.toList=R at*;generalize iV k a.data.toList b.data.toList=tm at*;obtain⟨t,n⟩:=tm;unfold Rat3.aA at p1;obtain⟨T,hT⟩:∃T:ByteArray,(⟨t.toArray⟩:ByteArray)=T:=⟨_,rfl⟩;have Yt:t=T.data.toList:=by rw[<-hT]
 simp only at p1 HV;rw[hT]at p1;subst Yt;have hlt:=hS.lt;have k0:=hS.kind;have k1:=hS.bad;have f1:=hS.free 1;have HS:=Pd hS;clear hT hS;have pk:=fun W (x:Bool) (h:dI W sb k x)=>Ea sb k x T W h
 have fin:∀(x:Bool) (w2 w3:World),Below w w w2->w3=w2.setCell ⟨sb,1,none⟩ (.bool x)->dI w3 sb k x/\df sb w w3:=fun x w2 w3 hb h=>by
  subst h;exact⟨(HS.out.below hb).set x,(df.of_below hb).set 1 _⟩
 cases bad with
 |true=>
  have HX:Hid (R=(true,aF k)):=HV.out.trans (aaa rfl);clear HV;go_enter Tryz.func128,Tryz.ntmps128;go_wp2_with fail;refine(p1 _).mono ?_;rintro e w1 ⟨rfl,b1⟩;have j1:=(b1.cell (p:=⟨sb,1,none⟩) hlt).trans k1;have g1:=(b1.frozen (p:=⟨sb,1,none⟩) hlt).trans f1;obtain⟨hA,hB⟩:=fin true w1 _ b1 rfl;go_wp2_with fail;refine(pk _ true hA).mono ?_;rintro e w4 ⟨rfl,rfl⟩;go_wp2_with fail;go_returns;rw[HX.out];exact⟨rfl,hA,hB⟩
 |false=>
  by_cases hn:n=0
  ·subst hn
   have HX:Hid (R=(false,T.data.toList)):=HV.out.trans (aab (by simp));clear HV;go_enter Tryz.func128,Tryz.ntmps128;go_wp2_with fail;refine(p1 _).mono ?_;rintro e w1 ⟨rfl,b1⟩;have j1:=(b1.cell (p:=⟨sb,1,none⟩) hlt).trans k1;have g1:=(b1.frozen (p:=⟨sb,1,none⟩) hlt).trans f1;obtain⟨hA,hB⟩:=fin false w1 _ b1 rfl;go_wp2_with fail;refine(pk _ false hA).mono ?_;rintro e w4 ⟨rfl,rfl⟩;go_wp2_with fail;go_returns;rw[HX.out];exact⟨rfl,hA,hB⟩
  ·have HX:Hid (R=(true,aF k)):=HV.out.trans (aaa (by simp[hn]))
   have t1:((n:Int) != 0)=true:=(by simpa using hn);clear HV hn;go_enter Tryz.func128,Tryz.ntmps128;go_wp2_with fail;refine(p1 _).mono ?_;rintro e w1 ⟨rfl,b1⟩;have j1:=(b1.cell (p:=⟨sb,1,none⟩) hlt).trans k1;have g1:=(b1.frozen (p:=⟨sb,1,none⟩) hlt).trans f1;obtain⟨hA,hB⟩:=fin true w1 _ b1 rfl;go_wp2_with fail;refine(pk _ true hA).mono ?_;rintro e w4 ⟨rfl,rfl⟩;go_wp2_with fail;go_returns;rw[HX.out];exact⟨rfl,hA,hB⟩
def M0(sb:Nat)(k:Int)(bad:Bool)(a:ByteArray)(w:World)(hS:dI w sb k bad)(ha:a.size<=802):Calls Tryz.prog 126 #[.pointer (some ⟨sb,0,none⟩),.string a] w (wW w sb k (oQ k bad a.data.toList)):=by
 have p1:=fun W=>Mm k a W (by omega)
 have HV:Hid (oQ k bad a.data.toList=if (bad||decide ((oh k a.data.toList).2≠0))=true then (true,aF k) else (false,(oh k a.data.toList).1)):=rfl;generalize oQ k bad a.data.toList=R at*;generalize oh k a.data.toList=tm at*;obtain⟨t,n⟩:=tm;unfold Rat3.aA at p1;obtain⟨T,hT⟩:∃T:ByteArray,(⟨t.toArray⟩:ByteArray)=T:=⟨_,rfl⟩;have Yt:t=T.data.toList:=by rw[<-hT]
 simp only at p1 HV;rw[hT]at p1;subst Yt;have hlt:=hS.lt;have k0:=hS.kind;have k1:=hS.bad;have f1:=hS.free 1;have HS:=Pd hS;clear hT hS;have pk:=fun W (x:Bool) (h:dI W sb k x)=>Ea sb k x T W h
 have fin:∀(x:Bool) (w2 w3:World),Below w w w2->w3=w2.setCell ⟨sb,1,none⟩ (.bool x)->dI w3 sb k x/\df sb w w3:=fun x w2 w3 hb h=>by
  subst h;exact⟨(HS.out.below hb).set x,(df.of_below hb).set 1 _⟩
 cases bad with
 |true=>
  have HX:Hid (R=(true,aF k)):=HV.out.trans (aaa rfl);clear HV;go_enter Tryz.func126,Tryz.ntmps126;go_wp2_with fail;refine(p1 _).mono ?_;rintro e w1 ⟨rfl,b1⟩;have j1:=(b1.cell (p:=⟨sb,1,none⟩) hlt).trans k1;have g1:=(b1.frozen (p:=⟨sb,1,none⟩) hlt).trans f1;obtain⟨hA,hB⟩:=fin true w1 _ b1 rfl;go_wp2_with fail;refine(pk _ true hA).mono ?_;rintro e w4 ⟨rfl,rfl⟩;go_wp2_with fail;go_returns;rw[HX.out];exact⟨rfl,hA,hB⟩
 |false=>
  by_cases hn:n=0
  ·subst hn
   have HX:Hid (R=(false,T.data.toList)):=HV.out.trans (aab (by simp));clear HV;go_enter Tryz.func126,Tryz.ntmps126;go_wp2_with fail;refine(p1 _).mono ?_;rintro e w1 ⟨rfl,b1⟩;have j1:=(b1.cell (p:=⟨sb,1,none⟩) hlt).trans k1;have g1:=(b1.frozen (p:=⟨sb,1,none⟩) hlt).trans f1;obtain⟨hA,hB⟩:=fin false w1 _ b1 rfl;go_wp2_with fail;refine(pk _ false hA).mono ?_;rintro e w4 ⟨rfl,rfl⟩;go_wp2_with fail;go_returns;rw[HX.out];exact⟨rfl,hA,hB⟩
  ·have HX:Hid (R=(true,aF k)):=HV.out.trans (aaa (by simp[hn]))
   have t1:((n:Int) != 0)=true:=(by simpa using hn);clear HV hn;go_enter Tryz.func126,Tryz.ntmps126;go_wp2_with fail;refine(p1 _).mono ?_;rintro e w1 ⟨rfl,b1⟩;have j1:=(b1.cell (p:=⟨sb,1,none⟩) hlt).trans k1;have g1:=(b1.frozen (p:=⟨sb,1,none⟩) hlt).trans f1;obtain⟨hA,hB⟩:=fin true w1 _ b1 rfl;go_wp2_with fail;refine(pk _ true hA).mono ?_;rintro e w4 ⟨rfl,rfl⟩;go_wp2_with fail;go_returns;rw[HX.out];exact⟨rfl,hA,hB⟩
def dV(w:World)(ba n:Nat)(bs:List Nat)(a:ak):Prop:=
 w.heap[ba]? = some (.cells ((bs.map fun r=>Value.slice (some ⟨r,0,none⟩) n n)++List.replicate (n-bs.length) (Value.slice none 0 0)).toArray 22)/\bs.length=a.length/\a.length<=n/\(∀i,(h:i<a.length)->∀h':i<bs.length,aZ w bs[i] a[i])/\(∀r∈a,dK n r)
def NG:(Tryz.prog.info? 22).map (fun i=>(i.zero,i.size,i.bytes))=some (some (.slice none 0 0),1,24):=by kernel_rfl
def BU(n:Nat)(hn:n<=1000000)(W:World):(Instr.makeSlice 108 (.int .i64 (n:Int)) (.int .i64 (n:Int))).run Tryz.prog W=.ok (.slice (some ⟨W.heap.size,0,none⟩) n n) (W.alloc (.cells (Array.replicate n (.slice none 0 0)) 22)):=by
 obtain⟨i0,hi,hz0,hz1,hz2⟩:=abm NG;have h:=run_make (P:=Tryz.prog) W 108 22 i0 (.slice none 0 0) aec hi hz0 .i64 .i64 (n:Int) (n:Int) (by omega) (Int.le_refl _) (by rw[hz2];omega) (by omega);rw[h,hz1];simp only[abT];rw[show(Value.slice none 0 0).cells=#[.slice none 0 0] from rfl,BI]
def I6(w:World)(n:Nat):dV (w.alloc (.cells (Array.replicate n (.slice none 0 0)) 22)) w.heap.size n [] []:=by
 refine⟨?_,rfl,aaS _,fun i h=>absurd h (abW _),fun r h=>absurd h aaK⟩;rw[aaq];simp
def dV.lt{w:World}{ba n:Nat}{bs:List Nat}{a:ak}(h:dV w ba n bs a):ba<w.heap.size:=oM h.1
def dV.row{w:World}{ba n:Nat}{bs:List Nat}{a:ak}(h:dV w ba n bs a){i:Nat}(hi:i<bs.length):w.cell? ⟨ba,i,none⟩=some (.slice (some ⟨bs[i],0,none⟩) n n):=by
 rw[aap w ba i _ _ (0,0) h.1];simp[adh,hi]
def dV.nil{w:World}{ba n:Nat}{bs:List Nat}{a:ak}(h:dV w ba n bs a){i:Nat}(hi:bs.length<=i)(hn:i<n):w.cell? ⟨ba,i,none⟩=some (.slice none 0 0):=by
 rw[aap w ba i _ _ (0,0) h.1];have h1:¬ i<bs.length:=by omega
 simp[adh,abv,h1];omega
def dV.free{w:World}{ba n:Nat}{bs:List Nat}{a:ak}(h:dV w ba n bs a)(i:Nat):w.frozen? ⟨ba,i,none⟩=false:=by
 unfold World.frozen?;rw[h.1];simp
def dV.below{w w':World}{ba n:Nat}{bs:List Nat}{a:ak}(h:dV w ba n bs a)(hb:Below w w w'):dV w' ba n bs a:=
 ⟨(hb.block ba h.lt).trans h.1,h.2.1,h.2.2.1,fun i hi hi'=>(h.2.2.2.1 i hi hi').below hb,h.2.2.2.2⟩
def dV.push{w w':World}{ba n r:Nat}{bs:List Nat}{a:ak}{row:Vec}(h:dV w ba n bs a)(hb:Below w w w')(hr:aZ w' r row)(hrn:dK n row)(hq:a.length<n)(hne:r≠ba) :
  dV (w'.setCell ⟨ba,a.length,none⟩ (.slice (some ⟨r,0,none⟩) n n)) ba n (bs++[r]) (a++[row]):=by
 have hk:∀j,j≠ba->(w'.setCell ⟨ba,a.length,none⟩ (.slice (some ⟨r,0,none⟩) n n)).heap[j]? = w'.heap[j]?:=fun j hj=>aa2 w' ⟨ba,a.length,none⟩ _ j hj
 have hne2:∀i,(hi:i<a.length)->(hi':i<bs.length)->bs[i]≠ba:=fun i hi hi' e=>by
  have h1:=h.2.2.2.1 i hi hi';rw[e]at h1;have h2:=h.1;rw[show w.heap[ba]? = some (.cells (a[i].map S).toArray 9) from h1]at h2;simp at h2
 refine⟨?_,by simp[h.2.1],by simp;omega,fun i hi hi'=>?_,fun x hx=>?_⟩
 ·unfold World.setCell
  simp only[ab4];rw[(hb.block ba h.lt).trans h.1];have hl:=h.2.1;simp only[acf,aba,adA,afl,ac0];congr 2;apply Array.ext_getElem?;intro i;rw[Array.getElem?_setIfInBounds];simp only[aeK,adh,aa3,aas,aaC,aa5,afL,aaF,abG,abA,abv,afB,ac7];rcases acT i a.length with h1|h1|h1
  ·have h2:i<bs.length:=by omega
   have h3:a.length≠i:=(by omega);have h4:i<bs.length+(0+1):=(by omega);simp[h2,h3,h4]
  ·subst h1
   have h2:¬ a.length<bs.length:=(by omega);have h4:a.length<bs.length+(0+1):=(by omega);have h5:a.length<bs.length+(n-bs.length):=(by omega);have h6:a.length-bs.length=0:=(by omega);simp[h2,h4,h5,h6]
  ·have h2:¬ i<bs.length:=by omega
   have h3:a.length≠i:=(by omega);have h4:¬ i<bs.length+(0+1):=(by omega);simp only[h2,h3,h4,ac0];by_cases h7:i<n
   ·have h8:i-bs.length<n-bs.length:=by omega
    have h9:i-(bs.length+(0+1))<n-(bs.length+(0+1)):=(by omega);simp[h8,h9]
   ·have h8:¬ i-bs.length<n-bs.length:=by omega
    have h9:¬ i-(bs.length+(0+1))<n-(bs.length+(0+1)):=(by omega);simp[h8,h9]
 ·unfold aZ
  have hlen:=h.2.1;rcases aaz i a.length with h1|h1
  ·have h2:i<bs.length:=by omega
   have e1:(bs++[r])[i]=bs[i]:=abD h2;have e2:(a++[row])[i]=a[i]:=abD h1;rw[e1,e2,hk _ (hne2 i h1 h2)];exact(h.2.2.2.1 i h1 h2).below hb
  ·have h3:i=a.length:=by
    rw[aas]at hi;simp at hi;omega
   subst h3;have e1:(bs++[r])[a.length]=r:=by
    rw[aa7 (by omega)];simp
   have e2:(a++[row])[a.length]=row:=by
    rw[aa7 (by omega)];simp
   rw[e1,e2,hk _ hne];exact hr
 ·rcases aaG.1 hx with hx|hx
  ·exact h.2.2.2.2 x hx
  ·rw[aar.1 hx];exact hrn
def dV.put{w:World}{ba n r:Nat}{bs:List Nat}{a:ak}{row:Vec}(h:dV w ba n (bs++[r]) (a++[row]))(hr:r∉bs)(t:Nat){x:Bs}(hx:x.length<=802) :
  dV (w.setCell ⟨r,t,none⟩ (S x)) ba n (bs++[r]) (a++[row.set t x]):=by
 have hl:bs.length=a.length:=by
  have:=h.2.1
  simpa using this
 have hlast:aZ w r row:=by
  have h1:=h.2.2.2.1 a.length (by simp) (by simp[hl]);have e1:(bs++[r])[a.length]'(by simp[hl])=r:=by rw[aa7 (by omega)];simp
  have e2:(a++[row])[a.length]'(by simp)=row:=by rw[aa7 (by omega)];simp
  rw[e1,e2]at h1;exact h1
 have hne:ba≠r:=fun e=>by
  have h2:=h.1;rw[e,show w.heap[r]? = some (.cells (row.map S).toArray 9) from hlast]at h2;simp at h2
 have hk:∀j,j≠r->(w.setCell ⟨r,t,none⟩ (S x)).heap[j]? = w.heap[j]?:=fun j hj=>aa2 w ⟨r,t,none⟩ _ j hj
 refine⟨(hk ba hne).trans h.1,by simp[hl],by have:=h.2.2.1;simpa using this,fun i hi hi'=>?_,fun y hy=>?_⟩
 ·rcases aaz i a.length with h1|h1
  ·have h2:i<bs.length:=by omega
   have e1:(bs++[r])[i]=bs[i]:=abD h2;have e2:(a++[row.set t x])[i]=a[i]:=abD h1;have e3:(a++[row])[i]'(by simp;omega)=a[i]:=abD h1;have h3:=h.2.2.2.1 i (by simp;omega) hi';rw[e1,e3]at h3;rw[e1,e2];unfold aZ;rw[hk _ (fun e=>hr (e ▸ aag h2))];exact h3
  ·have h3:i=a.length:=by
    rw[aas]at hi;simp at hi;omega
   subst h3;have e1:(bs++[r])[a.length]=r:=by rw[aa7 (by omega)];simp
   have e2:(a++[row.set t x])[a.length]=row.set t x:=by rw[aa7 (by omega)];simp
   rw[e1,e2];exact hlast.set t x
 ·rcases aaG.1 hy with hy|hy
  ·exact h.2.2.2.2 y (abB _ hy)
  ·rw[aar.1 hy]
   exact(h.2.2.2.2 row (ab6 _ (aar.2 rfl))).set t hx
def dV.last{w:World}{ba n r:Nat}{bs:List Nat}{a:ak}{row:Vec}(h:dV w ba n (bs++[r]) (a++[row])):aZ w r row/\dK n row:=by
 have hl:bs.length=a.length:=by
  have:=h.2.1
  simpa using this
 have h1:=h.2.2.2.1 a.length (by simp) (by simp[hl]);have e1:(bs++[r])[a.length]'(by simp[hl])=r:=by rw[aa7 (by omega)];simp
 have e2:(a++[row])[a.length]'(by simp)=row:=by rw[aa7 (by omega)];simp
 rw[e1,e2]at h1;exact⟨h1,h.2.2.2.2 row (ab6 _ (aar.2 rfl))⟩
def dV.whole{w:World}{ba n:Nat}{bs:List Nat}{a:ak}(h:dV w ba n bs a)(hn:a.length=n):jP w (some ⟨ba,0,none⟩) a/\iM n a:=by
 refine⟨fun i hi=>?_,hn,h.2.2.2.2⟩;have hi':i<bs.length:=by rw[h.2.1];exact hi
 have hr:=h.row hi';have hv:=h.2.2.2.1 i hi hi';have hlen:a[i].length=n:=(h.2.2.2.2 _ (aag hi)).1;refine⟨ba,0,rfl,h.lt,bs[i],n,?_,hv.lt,fun j hj=>hv.cell hj⟩;rw[hlen,aaP];exact hr
end Go.Proofs.YtppnecgeboonbaaGreatDoor
