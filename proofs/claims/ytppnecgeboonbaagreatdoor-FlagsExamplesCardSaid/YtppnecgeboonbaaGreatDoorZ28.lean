/- Walks of layer 22: Strip. -/
import Derived.Test.YtppnecgeboonbaaGreatDoorZ27
namespace Go.Proofs.YtppnecgeboonbaaGreatDoor
set_option maxRecDepth 100000
set_option linter.unusedVariables false
set_option maxHeartbeats 8000000
open Go Go.RowKit Go.Maps
def iE (l:List aH):List Value:=l.flatMap fun f=>[.int .u8 f.op.toNat,S f.feat,S f.val]
theorem A8 (l:List aH) (f:aH):iE (l++[f])=iE l++[.int .u8 f.op.toNat,S f.feat,S f.val]:=by simp [iE]
theorem A9:(Tryz.prog.info? 24).map (fun i=>(i.zero,i.size,i.bytes))=some (some (.agg #[.int .u8 0,.string ⟨#[]⟩,.string ⟨#[]⟩]),3,40):=by kernel_rfl
theorem Ir:(Tryz.prog.info? 3).map (fun i=>(i.zero,i.size,i.bytes))=some (some (.int .i64 0),1,8):=by kernel_rfl
theorem A7:∀ (l:List aH) (k:Nat) (h:k<l.length),(iE l)[k * 3]? = some (.int .u8 l[k].op.toNat)/\(iE l)[k * 3+1]? = some (S l[k].feat)/\(iE l)[k * 3+2]? = some (S l[k].val)
 | s::r,0,h=>⟨rfl,rfl,rfl⟩
 | s::r,k+1,h=>by
  have:=A7 r k (by simpa using h);have e:iE (s::r)=[.int .u8 s.op.toNat,S s.feat,S s.val]++iE r:=rfl;rw [e,List.getElem_cons_succ];refine⟨?_,?_,?_⟩
  ·rw [List.getElem?_append_right (by simp;omega)]
   simpa [show (k+1) * 3-3=k * 3 by omega] using this.1
  ·rw [List.getElem?_append_right (by simp;omega)]
   simpa [show (k+1) * 3+1-3=k * 3+1 by omega] using this.2.1
  ·rw [List.getElem?_append_right (by simp;omega)]
   simpa [show (k+1) * 3+2-3=k * 3+2 by omega] using this.2.2
theorem Ba {w:World} {B:Nat} {v:Value} {l:List aH} (h:w.ownsRow B 24 3 v l.length (iE l)):∃ A c,v=.slice A l.length c/\zu w A l:=by
 rcases h.2 with⟨rfl,h2⟩|⟨g,cap,cur,hv,hB,hg,hn,hm,hc,ht⟩
 ·exact⟨none,0,by rw [h2],fun k hk=>by omega⟩
 ·refine⟨some ⟨g,0,none⟩,cap,hv,fun k hk=>?_⟩
  have hcell:=h.cells (g:=g) (by rw [hv];rfl);have hadd:∀ j,(⟨g,0,none⟩:Addr).add j=⟨g,0+j,none⟩:=fun j=>by unfold Addr.add;split <;> simp_all
  obtain⟨c0,c1,c2⟩:=A7 l k hk;have k0:=hcell _ _ c0;have k1:=hcell _ _ c1;have k2:=hcell _ _ c2;rw [hadd] at k0 k1 k2;exact⟨g,0,rfl,lt_of_block hg,k0,k1,k2⟩
theorem Iu {w:World} {B:Nat} {v:Value} {l:List Int} (h:w.ownsRow B 3 1 v l.length (l.map IV)):∃ A c,v=.slice A l.length c/\ay w A (l.map IV):=by
 rcases h.2 with⟨rfl,h2⟩|⟨g,cap,cur,hv,hB,hg,hn,hm,hc,ht⟩
 ·exact⟨none,0,by rw [h2],fun hne=>by
   have:l=[]:=List.length_eq_zero_iff.1 h2;rw [this] at hne;exact absurd rfl hne⟩
 ·refine⟨some ⟨g,0,none⟩,cap,hv,fun _=>⟨g,0,rfl,lt_of_block hg,fun j u hj=>?_⟩⟩
  have:=h.cells (g:=g) (by rw [hv];rfl) j u hj;have hadd:(⟨g,0,none⟩:Addr).add j=⟨g,0+j,none⟩:=by unfold Addr.add;split <;> simp_all
  rwa [hadd] at this
def ET (w:World) (r:List Int × Bool) (e:Ending) (w':World):Prop:=∃ A c,e=.returned (.tuple #[.slice A r.1.length c,.bool r.2])/\ay w' A (r.1.map IV)/\Below w.heap.size w w'
structure nI (t:List Bs) (x:List Int) (w3 W:World) (b k:Nat) (yv lv:Value) (y:List Int) (l:List aH):Prop where
 kl:k<=x.length
 hy:y=(x.take k).filter fun s=>(dD t s).isNone
 hl:l=(x.take k).filterMap (dD t)
 ok:∀ s∈x.take k,1<=s/\s<=500
 oy:W.ownsRow w3.heap.size 3 1 yv y.length (y.map IV)
 ol:W.ownsRow w3.heap.size 24 3 lv l.length (iE l)
 ne:∀ g,yv.ownBlock=some g->lv.ownBlock≠some g
 bl:Below w3.heap.size w3 W
theorem nI.lens {t:List Bs} {x:List Int} {w3 W:World} {b k:Nat} {yv lv:Value} {y:List Int} {l:List aH} (h:nI t x w3 W b k yv lv y l):y.length<=k/\l.length<=k:=by
 constructor
 ·rw [h.hy];refine Nat.le_trans (List.length_filter_le _ _) ?_;rw [List.length_take];omega
 ·rw [h.hl];refine Nat.le_trans (List.length_filterMap_le _ _) ?_;rw [List.length_take];omega
theorem xS {B:Nat} {w3 W w5:World} {o:Obj} {v:Value} (hB:Below B w3 W) (hs:B<=w3.heap.size) (hv:∀ g,v.ownBlock=some g->B<=g) (hgr:(W.alloc o).grownBy w5 v.ownBlock):Below B w3 w5:=by
 have h1:Below B W (W.alloc o):=(Below.refl _ _).alloc (Nat.le_trans hs hB.size) _;have h2:=hB.trans h1;refine h2.trans ⟨hgr.os,hgr.tape,hgr.output,hgr.size,fun b hlt=>hgr.block b (Nat.lt_of_lt_of_le hlt (Nat.le_trans hs h2.size)) (fun e=>?_)⟩;have:=hv b e.symm;omega
theorem nI.int {t:List Bs} {x:List Int} {w3 W w4 w5:World} {b k:Nat} {yv lv:Value} {y:List Int} {l:List aH} {s:Int} {o:Obj} {g cap:Nat} (h:nI t x w3 W b k yv lv y l) (hlt:k<x.length) (htk:x.take (k+1)=x.take k++[s]) (hf:dD t s=none) (hok:∀ s∈x.take (k+1),1<=s/\s<=500)
  (hB:Below w3.heap.size w3 w4) (hL:w4.ownsRow w3.heap.size 24 3 lv l.length (iE l)) (hO:w4.ownsRow w3.heap.size 3 1 yv y.length (y.map IV))
  (ho:w5.ownsRow w3.heap.size 3 1 (.slice (some ⟨g,0,none⟩) (y.length+1) cap) (y.length+1) (y.map IV++[.int .i64 s])) (hgr:(w4.alloc o).grownBy w5 yv.ownBlock) (hat:yv.ownBlock=some g\/g=w4.heap.size+1) :
  nI t x w3 w5 b (k+1) (.slice (some ⟨g,0,none⟩) (y.length+1) cap) lv (y++[s]) l:=by
 have c1:aB (fun b=>yv.ownBlock=some b) w4 w5:=(p9 _ w4 o).trans (aB.of_grown hgr) (fun _ _ e=>e);refine⟨hlt,?_,?_,hok,?_,eP hL c1 (fun g' hg e=>h.ne g' e hg),?_,xS hB (Nat.le_refl _) (fun g' hg=>(hO.lt g' hg).1) hgr⟩
 ·rw [htk,List.filter_append,<-h.hy];simp [hf]
 ·rw [htk,List.filterMap_append,<-h.hl];simp [hf]
 ·rw [List.length_append,List.map_append];exact ho
 ·intro g' hg e
  simp only [Value.ownBlock,Option.some.injEq] at hg;subst hg;rcases hat with e'|e'
  ·exact h.ne g e' e
  ·have:=(hL.lt g e).2;omega
theorem nI.flg {t:List Bs} {x:List Int} {w3 W w4 w5:World} {b k:Nat} {yv lv:Value} {y:List Int} {l:List aH} {s:Int} {f:aH} {o:Obj} {g cap:Nat} {news:List Value} (h:nI t x w3 W b k yv lv y l) (hlt:k<x.length) (htk:x.take (k+1)=x.take k++[s]) (hf:dD t s=some f) (hok:∀ s∈x.take (k+1),1<=s/\s<=500)
  (hB:Below w3.heap.size w3 w4) (hL:w4.ownsRow w3.heap.size 24 3 lv l.length (iE l)) (hO:w4.ownsRow w3.heap.size 3 1 yv y.length (y.map IV)) (hnews:news=[.int .u8 f.op.toNat,S f.feat,S f.val])
  (ho:w5.ownsRow w3.heap.size 24 3 (.slice (some ⟨g,0,none⟩) (l.length+1) cap) (l.length+1) (iE l++news)) (hgr:(w4.alloc o).grownBy w5 lv.ownBlock) (hat:lv.ownBlock=some g\/g=w4.heap.size+1) :
  nI t x w3 w5 b (k+1) yv (.slice (some ⟨g,0,none⟩) (l.length+1) cap) y (l++[f]):=by
 have c1:aB (fun b=>lv.ownBlock=some b) w4 w5:=(p9 _ w4 o).trans (aB.of_grown hgr) (fun _ _ e=>e);refine⟨hlt,?_,?_,hok,eP hO c1 (fun g' hg e=>h.ne g' hg e),?_,?_,xS hB (Nat.le_refl _) (fun g' hg=>(hL.lt g' hg).1) hgr⟩
 ·rw [htk,List.filter_append,<-h.hy];simp [hf]
 ·rw [htk,List.filterMap_append,<-h.hl];simp [hf]
 ·rw [List.length_append,A8,<-hnews];exact ho
 ·intro g' hg e
  simp only [Value.ownBlock,Option.some.injEq] at e;subst e;rcases hat with e'|e'
  ·exact h.ne g hg e'
  ·have:=(hO.lt g hg).2;omega
theorem ND (Ax At:Option Addr) (cx ct:Nat) (x:List Int) (t:List Bs) (w:World) (hT:fD w) (hX:ay w Ax (x.map IV)) (hV:ay w At (t.map S)) (hlx:x.length<=140737488355328) (hN:∀ s∈x,-9223372036854775808<=s/\s<=9223372036854775807) :
  Calls Tryz.prog 23 #[.slice Ax x.length cx,.slice At t.length ct] w (ET w (stripL x t)):=by
 have HX:=Lib.hid hX;have HV:=Lib.hid hV;have HNN:=Lib.hid hN;clear hX hV hN;have pT:=Er At ct t w hT.t HV.out;by_cases hl:x.length<=200
 ·have d1:(x.length:Int)<=200:=by omega
  cases htk:l7 t with
  | false =>
   have HR:Hid (stripL x t=([],false)):=by unfold Hid stripL;rw [htk,if_neg (by simp)]
   rw [htk] at pT;clear htk;go_enter Tryz.func23,Tryz.ntmps23;go_wp2_with fail;refine pT.mono ?_;rintro e w3 ⟨rfl,hb3⟩;go_wp2_with fail;go_returns;rw [HR.out];exact⟨none,0,rfl,fun hne=>absurd rfl hne,hb3⟩
  | true =>
   have ht5:t.length<=500:=by unfold l7 at htk;simp at htk;exact htk.1.1
   have HR:Hid (x.all (fun s=>decide (1<=s/\s<=500))=true->stripL x t=(x.filter fun s=>(dD t s).isNone,jH (x.filterMap (dD t)))):=fun h=>by unfold stripL;rw [if_pos ⟨hl,htk,h⟩]
   have HRN:Hid (∀ s∈x,¬ (1<=s/\s<=500)->stripL x t=([],false)):=fun s hs h=>by
    unfold stripL;rw [if_neg (fun hh=>h (of_decide_eq_true (List.all_eq_true.1 hh.2.2 s hs)))]
   rw [htk] at pT;have pF:=fun W (hb:Below w.heap.size w W)=>AZ At ct t W (hT.below hb) (HV.out.below hb) ht5
   obtain⟨ii,ci,ci0,ci1,ci2⟩:=info_parts Ir;obtain⟨jf,cf,cf0,cf1,cf2⟩:=info_parts A9;clear htk;go_enter Tryz.func23,Tryz.ntmps23
   go_wp2_with (first
    | (go_at_call 40;refine pT.mono ?_;rintro e w2 ⟨rfl,hb2⟩;have pF2:=pF w2 hb2)
    | (go_at_call 41;refine pF2.mono ?_;rintro e w3 ⟨b,rfl,hM,hbl,hb3⟩))
   have hb03:=ae hb2 hb3;have HM:=Lib.hid hM;clear pT pF pF2 hM
   go_loopw [4,7,24] (fun yv lv i wr=>∃ (k:Nat) (y:List Int) (l:List aH),i=.int .i64 k/\nI t x w3 wr b k yv lv y l) (fun _ _ i _=>x.length-(intOf i).toNat)
   case atStart=>exact⟨0,[],[],rfl,⟨Nat.zero_le _,by simp,by simp,by simp,World.ownsRow_nil _ _ _ _,World.ownsRow_nil _ _ _ _,fun g hg=>by simp [Value.ownBlock] at hg,Below.refl _ _⟩⟩
   case round =>
    obtain⟨k,y,l,rfl,hS⟩:=hrel;have hlen:=hS.lens;have hlow:=hb03.trans (hS.bl.mono hb03.size);by_cases hlt:k<x.length
    ·have hlt':k<(x.map IV).length:=by simpa using hlt
     obtain⟨bx,ox,rfl,hbx,hc0⟩:=row_of HX.out hlt;have hmem:=List.getElem_mem hlt;have htk:=List.take_succ_eq_append_getElem hlt;have hbd:=HNN.out _ hmem;have HTK:=Lib.hid htk;have HMEM:=Lib.hid hmem;have HS:=Lib.hid hS;clear htk hmem hS;generalize x[k]=s at *;have k0:=(hlow.cell (p:=⟨bx,ox+k,none⟩) hbx).trans hc0;unfold IV at k0;clear hc0;have i0:(0:Int)<=(k:Int):=by omega
     have il:(k:Int)<(x.length:Int):=by omega
     by_cases hs1:1<=s
     ·by_cases hs2:s<=500
      ·have hMr:=HM.out.same (HS.out.bl.block b HM.out.lt)
       have hlook:=xP wr b t hMr ht5 s (by omega) hs2;have hok:∀ s'∈x.take (k+1),1<=s'/\s'<=500:=fun s' hs'=>by
        rw [HTK.out] at hs';rcases List.mem_append.1 hs' with h|h
        ·exact HS.out.ok s' h
        ·rw [List.mem_singleton] at h;subst h;exact⟨hs1,hs2⟩
       have HOK:=Lib.hid hok;clear hMr hok;obtain⟨F,V,hfc,hFd,hVd⟩:=lI ((dD t s).getD dX);rw [hfc] at hlook;obtain⟨r,hr⟩:∃ r,dD t s=r:=⟨_,rfl⟩;rw [hr] at hlook hFd hVd;obtain⟨oo,hoo⟩:∃ oo,(r.getD dX).op=oo:=⟨_,rfl⟩;rw [hoo] at hlook;have HRR:=Lib.hid hr;have hFD:=Lib.hid hFd;have hVD:=Lib.hid hVd;have hOO:=Lib.hid hoo;clear hfc hr hFd hVd hoo
       cases r with
       | none =>
        simp only [Option.isSome_none] at hlook;have bA:Below wr.heap.size wr (wr.alloc (.cells #[.int .u8 oo.toNat,.string F,.string V] 24)):=(Below.refl _ _).alloc (Nat.le_refl _) _;have hO1:=eP HS.out.oy (aB.of_new (X:=fun _=>False) bA) (fun _ _ e=>e);have hB1:Below w3.heap.size w3 (wr.alloc (.cells #[.int .u8 oo.toNat,.string F,.string V] 24)):=HS.out.bl.alloc HS.out.bl.size _;have hL1:=eP HS.out.ol (aB.of_new (X:=fun _=>False) bA) (fun _ _ e=>e);have HL1:=Lib.hid hL1;have HO1:=Lib.hid hO1;clear hL1 hO1 bA;have hny:y.length+1<=maxLen:=by unfold maxLen;omega
        have hby:(y.length+1) * 8<=140737488355328:=by omega
        obtain⟨w4,hw4⟩:∃ w4,w4=wr.alloc (.cells #[.int .u8 oo.toNat,.string F,.string V] 24):=⟨_,rfl⟩;rw [<-hw4] at HL1 HO1 hB1;go_upto_region 13 with (fail)
        rw [<-hw4];clear hw4 k0 hlook;have bA4:Below w4.heap.size w4 (w4.alloc (.cells #[.int .i64 s] 3)):=(Below.refl _ _).alloc (Nat.le_refl _) _;have hO2:=eP HO1.out (aB.of_new (X:=fun _=>False) bA4) (fun _ _ e=>e);have hnews:∀ j u,(#[Value.int .i64 s]).toList[j]? = some u->(w4.alloc (.cells #[.int .i64 s] 3)).cell? ((⟨w4.heap.size,0,none⟩:Addr).add j)=some u:=World.news_of_block (heap_alloc_new w4 _);have hbase:w3.heap.size<=(w4.alloc (.cells #[.int .i64 s] 3)).heap.size:=Nat.le_trans hB1.size bA4.size;go_wp2_with (first|(at_builtin;refine wpList_append_lies _ rfl (.tmp 45) (.tmp 47) 38 rfl w3.heap.size 3 ii _ 1 8 Tryz.underlying38 ci ci0 ci1 ci2 rfl (by decide) _ y.length (y.map IV) rfl hO2 ⟨w4.heap.size,0,none⟩ 1 1 [.int .i64 s] rfl rfl hnews (by simp [Value.oneCell']) (by decide) hny hby hbase (w4.heap.size+1) (by simp) ?_;intro g5 cap5 w5 ho5 hgr5 hat5 hlt5));have hnext:=HS.out.int hlt (HTK.out) HRR.out HOK.out hB1 HL1.out HO1.out ho5 hgr5 hat5;have HNX:=Lib.hid hnext;clear hnext ho5 hgr5 hat5 hlt5 hnews hbase hO2;go_wp2_with fail;go_roundw
        case rel=>exact⟨k+1,_,_,by go_num,HNX.out⟩
        case measure=>simp [intOf];omega
       | some f =>
        simp only [Option.isSome_some] at hlook;have bA:Below wr.heap.size wr (wr.alloc (.cells #[.int .u8 oo.toNat,.string F,.string V] 24)):=(Below.refl _ _).alloc (Nat.le_refl _) _;have hO1:=eP HS.out.oy (aB.of_new (X:=fun _=>False) bA) (fun _ _ e=>e);have hB1:Below w3.heap.size w3 (wr.alloc (.cells #[.int .u8 oo.toNat,.string F,.string V] 24)):=HS.out.bl.alloc HS.out.bl.size _;have hL1:=eP HS.out.ol (aB.of_new (X:=fun _=>False) bA) (fun _ _ e=>e);have c0:=aJ wr #[.int .u8 oo.toNat,.string F,.string V] 24 0 (.int .u8 oo.toNat) rfl;have c1:=aJ wr #[.int .u8 oo.toNat,.string F,.string V] 24 1 (.string F) rfl;have c2:=aJ wr #[.int .u8 oo.toNat,.string F,.string V] 24 2 (.string V) rfl;have HL1:=Lib.hid hL1;have HO1:=Lib.hid hO1;clear hL1 hO1 bA;have hny:l.length+1<=maxLen:=by unfold maxLen;omega
        have hby:(l.length+1) * 40<=140737488355328:=by omega
        obtain⟨w4,hw4⟩:∃ w4,w4=wr.alloc (.cells #[.int .u8 oo.toNat,.string F,.string V] 24):=⟨_,rfl⟩;rw [<-hw4] at HL1 HO1 hB1 c0 c1 c2;go_upto_region 12 with (fail)
        rw [<-hw4];clear hw4 k0 hlook;have bA4:Below w4.heap.size w4 (w4.alloc (.cells #[.int .u8 oo.toNat,.string F,.string V] 24)):=(Below.refl _ _).alloc (Nat.le_refl _) _;have hO2:=eP HL1.out (aB.of_new (X:=fun _=>False) bA4) (fun _ _ e=>e);have hnews:∀ j u,(#[Value.int .u8 oo.toNat,.string F,.string V]).toList[j]? = some u->(w4.alloc (.cells #[.int .u8 oo.toNat,.string F,.string V] 24)).cell? ((⟨w4.heap.size,0,none⟩:Addr).add j)=some u:=World.news_of_block (heap_alloc_new w4 _);have hbase:w3.heap.size<=(w4.alloc (.cells #[.int .u8 oo.toNat,.string F,.string V] 24)).heap.size:=Nat.le_trans hB1.size bA4.size;go_wp2_with (first|(at_builtin;refine wpList_append_lies _ rfl (.tmp 41) (.tmp 43) 43 rfl w3.heap.size 24 jf _ 3 40 Tryz.underlying43 cf cf0 cf1 cf2 rfl (by decide) _ l.length (iE l) rfl hO2 ⟨w4.heap.size,0,none⟩ 1 1 [.int .u8 oo.toNat,.string F,.string V] rfl rfl hnews (by simp [Value.oneCell']) (by decide) hny hby hbase (w4.heap.size+1) (by simp) ?_;intro g5 cap5 w5 ho5 hgr5 hat5 hlt5));have hnext:=HS.out.flg hlt (HTK.out) HRR.out HOK.out hB1 HL1.out HO1.out (show [Value.int .u8 oo.toNat,.string F,.string V]=[.int .u8 f.op.toNat,S f.feat,S f.val] by
         have e1:=hFD.out;have e2:=hVD.out;have e3:=hOO.out;simp only [Option.getD_some] at e1 e2 e3;rw [e1,e2,<-e3,eX,eX]) ho5 hgr5 hat5
        have HNX:=Lib.hid hnext;clear hnext ho5 hgr5 hat5 hlt5 hnews hbase hO2;go_wp2_with fail;go_roundw
        case rel=>exact⟨k+1,_,_,by go_num,HNX.out⟩
        case measure=>simp [intOf];omega
      ·have HQ:=Lib.hid (HRN.out s HMEM.out (fun h=>hs2 h.2))
       have d2:(500:Int)<s:=by omega
       have d3:(1:Int)<=s:=hs1;have d4:decide (s<(1:Int))=false:=decide_eq_false (by omega);go_wp2_with fail;go_returns;rw [HQ.out];exact⟨none,0,rfl,fun hne=>absurd rfl hne,hlow⟩
     ·have HQ:=Lib.hid (HRN.out s HMEM.out (fun h=>hs1 h.1))
      have d3:s<(1:Int):=by omega
      go_wp2_with fail;go_returns;rw [HQ.out];exact⟨none,0,rfl,fun hne=>absurd rfl hne,hlow⟩
    ·obtain rfl:k=x.length:=by have:=hS.kl;omega
     have hR:=HR.out (List.all_eq_true.2 fun s hs=>decide_eq_true (hS.ok s (by rw [List.take_length];exact hs)));have e1:=hS.hy;have e2:=hS.hl;rw [List.take_length] at e1 e2;rw [<-e1,<-e2] at hR;have HQ:=Lib.hid hR;obtain⟨Al,cl,rfl,hfl⟩:=Ba hS.ol;obtain⟨Ay,cy,rfl,hyy⟩:=Iu hS.oy;have pL:=Bp Al cl l wr (hT.t.below hlow) hfl (by omega);have HYY:=Lib.hid hyy;clear hR e1 e2 hS hfl hyy HR HRN;go_wp2_with (first|(go_at_call 21;refine pL.mono ?_;rintro e w5 ⟨rfl,hb5⟩));go_returns;rw [HQ.out];exact⟨Ay,cy,rfl,HYY.out.below hb5,ae hlow hb5⟩
 ·have d1:(200:Int)<(x.length:Int):=by omega
  have HR:Hid (stripL x t=([],false)):=by unfold Hid stripL;rw [if_neg (fun h=>hl h.1)]
  clear pT;go_enter Tryz.func23,Tryz.ntmps23;go_wp2_with fail;go_returns;rw [HR.out];exact⟨none,0,rfl,fun hne=>absurd rfl hne,Below.refl _ _⟩
end Go.Proofs.YtppnecgeboonbaaGreatDoor
