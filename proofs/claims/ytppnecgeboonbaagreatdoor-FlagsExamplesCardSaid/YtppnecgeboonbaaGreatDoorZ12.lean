/- Walks: a digit of a quotient, in place. -/
import Derived.Test.YtppnecgeboonbaaGreatDoorZ11
namespace Go.Proofs.YtppnecgeboonbaaGreatDoor.Rat3
set_option maxRecDepth 100000
set_option linter.unusedVariables false
set_option maxHeartbeats 8000000
open Go.RowKit
def aY (B g n c:Nat) (L:List Nat) (w:World):Prop:=L.length=n/\w.ownsRow B 231 1 (.slice (some ⟨g,0,none⟩) n c) n (L.map U)
theorem aY.cell {B g n c:Nat} {L:List Nat} {w:World} (h:aY B g n c L w) {j:Nat} (hj:j<L.length):w.cell? ⟨g,j,none⟩=some (.int .u64 L[j]):=by
 have hn:j<n:=by have:=h.1;omega
 rcases h.2.2 with⟨h',_⟩|⟨g',cap',cur,h',_,hg,_,_,_,htake⟩
 ·simp at h'
 ·simp only [Value.slice.injEq,Option.some.injEq,Addr.mk.injEq,and_true,true_and] at h'
  obtain⟨rfl,rfl⟩:=h';rw [cell_of_row w g j cur 231 (0,0) hg];have h2:(L.map U)[j]? = some (U L[j]):=gP hj;rw [<-htake,List.getElem?_take,if_pos (by omega)] at h2;simp only [Array.getElem?_toList] at h2;exact h2
theorem aY.frozen {B g n c:Nat} {L:List Nat} {w:World} (h:aY B g n c L w) (j:Nat):w.frozen? ⟨g,j,none⟩=false:=World.ownsRow.frozenAt h.2 j
theorem aY.row {B g n c:Nat} {L:List Nat} {w:World} (h:aY B g n c L w):ay w (some ⟨g,0,none⟩) (L.map U):=fun hne=>by
 have hp:0<L.length:=List.length_pos_iff.2 (fun e=>hne (by rw [e];rfl));refine⟨g,0,rfl,ax (h.cell hp),fun j u hu=>?_⟩;rw [Nat.zero_add];rcases Nat.lt_or_ge j L.length with hj|hj
 ·rw [gP hj] at hu
  injection hu with hu
  rw [<-hu];exact h.cell hj
 ·rw [List.getElem?_eq_none (by rw [List.length_map];exact hj)] at hu;cases hu
theorem aY.store {B g n c:Nat} {L:List Nat} {w:World} (h:aY B g n c L w) (j v:Nat):aY B g n c (L.set j v) (w.setCell ⟨g,j,none⟩ (.int .u64 v)):=by
 refine⟨by rw [List.length_set];exact h.1,?_⟩;rw [List.map_set];exact (World.ownsRow.stored h.2 j (U v)).1
theorem aY.drew {B g n c:Nat} {L:List Nat} {w:World} (h:aY B g n c L w):aY B g n c L w.drew:=h
theorem fV {w w1:World} {g:Nat} (h:w.grownBy w1 (some g)) (j:Nat) (v:Value):w.grownBy (w1.setCell ⟨g,j,none⟩ v) (some g) :=
 ⟨h.os,h.tape,h.output,by simpa using h.size,fun k hk hne=>by
  rw [<-h.block k hk hne];exact heap_setCell_other w1 ⟨g,j,none⟩ k v (fun e=>hne (by rw [e]))⟩
theorem xU {w w1:World} {g:Nat} (h:w.grownBy w1 (some g)):w.grownBy w1.drew (some g):=⟨h.os,h.tape,h.output,h.size,h.block⟩
theorem vL (w:World) (g:Nat):w.grownBy w (some g):=⟨rfl,rfl,rfl,Nat.le_refl _,fun _ _ _=>rfl⟩
theorem iQ {w w1:World} {g b j:Nat} {v:Value} (h:w.grownBy w1 (some g)) (hne:b≠g) (hc:w.cell? ⟨b,j,none⟩=some v):w1.cell? ⟨b,j,none⟩=some v:=by
 have hlt:b<w.heap.size:=ax hc;have e:=h.block b hlt (fun e=>hne (by injection e));unfold World.cell? at hc ⊢;rw [e];exact hc
theorem Gn (B g N c o n cu bv ov cv:Nat) (L V:List Nat) (w:World) (hM:aY B g N c L w) (hL:∀ d∈L,d<BB) (hV:∀ d∈V,d<BB) (hVc:Canon V) (hVn:V.length=n) (hn:1<=n) (hN:N<=10000) (ho:o+n+1<=N)
  (hne:bv≠g) (hrow:∀ j (h:j<V.length),w.cell? ⟨bv,ov+j,none⟩=some (.int .u64 V[j])) (hlt:aa BB (L.drop o)<BB * aa BB V) :
  Calls Tryz.prog 221 #[.slice (some ⟨g,o,none⟩) (n+1) cu,.slice (some ⟨bv,ov,none⟩) n cv] w fun e w'=>e=.returned (.int .u64 (Int.ofNat (aa BB (L.drop o) / aa BB V))) ∧
   ∃ L':List Nat,aY B g N c L' w'/\w.grownBy w' (some g)/\(∀ d∈L',d<BB)/\L'.take o=L.take o/\aa BB (L'.drop o)=aa BB (L.drop o) % aa BB V:=by
 obtain⟨p,hp⟩:∃ p,n=p+1:=⟨n-1,by omega⟩;obtain⟨m,hm⟩:∃ m,n+1=m:=⟨_,rfl⟩;have hLn:=hM.1;obtain⟨T,hT⟩:∃ T,L.drop o=T:=⟨_,rfl⟩;have hTl:T.length=N-o:=by rw [<-hT,List.length_drop,hLn]
 have hTb:∀ d∈T,d<BB:=fun d hd=>hL d (by rw [<-hT] at hd;exact List.mem_of_mem_drop hd)
 have hTg:∀ j (h:o+j<L.length),L[o+j]=T.getD j 0:=fun j h=>by
  rw [<-hT,List.getD_eq_getElem?_getD,List.getElem?_drop,List.getElem?_eq_getElem h];rfl
 rw [hT] at hlt ⊢;have hUlt:aa BB T<BB ^ (n+1):=by
  have h1:=jN hV;rw [hVn] at h1;rw [Nat.pow_succ,Nat.mul_comm];exact Nat.lt_of_lt_of_le hlt (Nat.mul_le_mul_left _ (by omega))
 obtain⟨hwin,hrest⟩:=Ot aC hUlt;have hW:=Oq hVn hn hV hTb hVc (by rw [hwin];exact hlt);rw [hwin] at hW;have hcell:∀ j,j<n+1->w.cell? ⟨g,o+j,none⟩=some (.int .u64 (T.getD j 0)):=fun j hj=>by
  rw [<-hTg j (by omega)];exact hM.cell (by omega)
 have hvg:∀ j (h:j<V.length),V[j]=V.getD j 0:=fun j h=>(kv h).symm
 have hvc:∀ j,j<n->w.cell? ⟨bv,ov+j,none⟩=some (.int .u64 (V.getD j 0)):=fun j hj=>by
  rw [<-hvg j (by omega)];exact hrow j (by omega)
 rw [show n-1=p by omega] at hW;have HW:=Lib.hid hW;have HTB:=Lib.hid hTb;have HL0:=Lib.hid hL;have HT0:=Lib.hid hT;have HVB:=Lib.hid hV;have HRES:=Lib.hid hrest;have HWIN:=Lib.hid hwin;have HHC:=Lib.hid hcell;have HHV:=Lib.hid hvc;have hun:=hcell n (by omega);have hum:=hcell p (by omega);have hv1:=hvc p (by omega);have bun:=getD_lt aC hTb n;have bum:=getD_lt aC hTb p;have bv1:=getD_lt aC hV p;have v1pos:=hW.hv;obtain⟨un,hun'⟩:∃ x,T.getD n 0=x:=⟨_,rfl⟩;obtain⟨um,hum'⟩:∃ x,T.getD p 0=x:=⟨_,rfl⟩;obtain⟨v1,hv1'⟩:∃ x,V.getD p 0=x:=⟨_,rfl⟩;obtain⟨tp,htp⟩:∃ x,un * BB+um=x:=⟨_,rfl⟩;rw [hun'] at hun bun;rw [hum'] at hum bum;rw [hv1'] at hv1 bv1 v1pos;rw [hun',hum',hv1',htp] at HW;have bun':un<1000000000:=bun;have bum':um<1000000000:=bum;have bv1':v1<1000000000:=bv1;have htpi:(un:Int) * 1000000000+(um:Int)=(tp:Int):=by rw [<-htp];unfold BB;omega
 have btp:tp<1000000000000000000:=by omega
 obtain⟨q0,hq0⟩:∃ x,tp / v1=x:=⟨_,rfl⟩;obtain⟨r0,hr0⟩:∃ x,tp % v1=x:=⟨_,rfl⟩;have hq0i:(tp:Int) / (v1:Int)=(q0:Int):=by rw [<-hq0];exact (Int.natCast_ediv tp v1).symm
 have hr0i:(tp:Int) % (v1:Int)=(r0:Int):=by rw [<-hr0];exact (Int.natCast_emod tp v1).symm
 have hqr:r0+q0 * v1=tp:=by rw [<-hq0,<-hr0,Nat.mul_comm];exact Nat.mod_add_div tp v1
 have HQ0:Hid (aa BB T / aa BB V<=q0):=by rw [Hid,<-hq0];exact HW.out.q0
 have bq0:q0<=tp:=by rw [<-hq0];exact Nat.div_le_self _ _
 have br0:r0<1000000000:=by have:=Nat.mod_lt tp (show v1 > 0 by omega);omega
 have v1ne2:¬ ((v1:Int)=0):=by omega
 have v1ne3:¬ v1=0:=by omega
 have hr0t:(tp:Int).tmod (v1:Int)=(r0:Int):=by rw [Int.tmod_eq_emod_of_nonneg (by omega)];exact hr0i
 have hq0t:(tp:Int).tdiv (v1:Int)=(q0:Int):=by rw [Int.tdiv_eq_ediv_of_nonneg (by omega)];exact hq0i
 have v1ne:((v1:Int) == 0)=false:=beq_eq_false_iff_ne.2 (by omega);have br0t:r0<=tp:=by omega
 have wq0:IntKind.u64.wrap (q0:Int)=(q0:Int):=by rw [IntKind.wrap_u64];omega
 have wr0:IntKind.u64.wrap (r0:Int)=(r0:Int):=by rw [IntKind.wrap_u64];omega
 have HQR:=Lib.hid hqr;have HTG:=Lib.hid hTg;clear hcell hvc hTg hvg hrow hW hwin hrest hq0 hr0 hqr htp hT hlt bun bum bv1;have ob0:(0:Int)<=(o:Int):=by omega
 have pb0:(0:Int)<=(p:Int):=by omega
 have nb0:(0:Int)<=(n:Int):=by omega
 have nm:(n:Int)<(m:Int):=by omega
 have pm:(p:Int)<(m:Int):=by omega
 have pn:(p:Int)<(n:Int):=by omega
 have n1:(n:Int)-1=(p:Int):=by omega
 have m1:(n:Int)+1=(m:Int):=by omega
 rw [hm];have HP:=Lib.hid hp;have HM:=Lib.hid hm;have w1:IntKind.i64.wrap ((n:Int)-1)=(p:Int):=by rw [oF,IntWalk.wrap64_in _ ⟨by omega,by omega⟩];omega
 have w1':IntKind.i64.wrap (p:Int)=(p:Int):=by rw [oF,IntWalk.wrap64_in _ ⟨by omega,by omega⟩]
 have w2:IntKind.u64.wrap ((un:Int) * 1000000000)=(un:Int) * 1000000000:=by rw [IntKind.wrap_u64];omega
 have w3:IntKind.u64.wrap ((un:Int) * 1000000000+(um:Int))=(tp:Int):=by rw [IntKind.wrap_u64];omega
 have w4:IntKind.u64.wrap (tp:Int)=(tp:Int):=by rw [IntKind.wrap_u64];omega
 clear hp hm;go_enter Tryz.func221,Tryz.ntmps221;go_wp2_with fail
 go_region_held3 (fun w'=>w'.cell? ⟨g,o+n,none⟩=some (.int .u64 un)/\w'.cell? ⟨g,o+p,none⟩=some (.int .u64 um)/\w'.cell? ⟨bv,ov+p,none⟩=some (.int .u64 v1)) (first|assumption|exact⟨hun,hum,hv1⟩) (fail)
 go_wp2_with fail
 go_region_held3 (fun w'=>w'.cell? ⟨g,o+n,none⟩=some (.int .u64 un)/\w'.cell? ⟨g,o+p,none⟩=some (.int .u64 um)/\w'.cell? ⟨bv,ov+p,none⟩=some (.int .u64 v1)) (first|assumption|exact⟨hun,hum,hv1⟩) (fail)
 all_goals go_wp2_with fail
 all_goals
  go_loopw [7,8] (fun qv rv wr=>∃ (q r:Nat),qv=.int .u64 q/\rv=.int .u64 r/\r<=tp/\q<=tp/\aY B g N c L wr/\w.grownBy wr (some g)/\Hid (r+q * v1=tp)/\Hid (aa BB T / aa BB V<=q)) (fun qv _ _=>(intOf qv).toNat)
  case atStart=>exact⟨q0,r0,rfl,rfl,br0t,bq0,hM,xU (xU (vL w g)),HQR,HQ0⟩
  case round =>
   obtain⟨q,r,rfl,rfl,br,bq,hMr,hgr,HR,HQ⟩:=hrel;clear hun hum hv1 hM;rcases Nat.lt_or_ge q 1000000000 with hA|hA
   ·have hAi:(q:Int)<1000000000:=by omega
    have hAd:decide ((1000000000:Int)<=(q:Int))=false:=decide_eq_false (by omega);have hAn:=hA;rcases Nat.lt_or_ge 1 n with hB|hB
    ·skip
     obtain⟨p2,hp2⟩:∃ x,n-2=x:=⟨_,rfl⟩;have hLr:=hMr.1;have hmn:=HM.out;have hcu2:=hMr.cell (j:=o+p2) (by omega);rw [HTG.out p2 (by omega)] at hcu2;have hcv2:=iQ hgr hne (HHV.out p2 (by omega));have bu2:=getD_lt aC HTB.out p2;have bv2:=getD_lt aC HVB.out p2;have HNEAR:Hid (∀ q rest,rest+q * v1=tp->q<BB->q * V.getD p2 0<=rest * BB+T.getD p2 0->q * aa BB V<=aa BB T+aa BB V):=by
      have h:=HW.out.near hB;rw [hp2,HWIN.out] at h;exact h
     have HDOWN:Hid (∀ q rest,rest+q * v1=tp->aa BB T / aa BB V<=q->rest * BB+T.getD p2 0<q * V.getD p2 0->aa BB T / aa BB V<q):=by
      have h:=HW.out.down hB;rw [hp2] at h;exact h
     generalize T.getD p2 0=u2 at *;generalize V.getD p2 0=v2 at *;have bu2':u2<1000000000:=bu2;have bv2':v2<1000000000:=bv2;obtain⟨pv,hpv⟩:∃ x,q * v2=x:=⟨_,rfl⟩;have hpvi:(q:Int) * (v2:Int)=(pv:Int):=by rw [<-hpv];exact (Int.natCast_mul q v2).symm
     have hpvb:pv<=999999999 * 999999999:=by rw [<-hpv];exact Nat.mul_le_mul (by omega) (by omega)
     have n2:(n:Int)-2=(p2:Int):=by omega
     have p2b0:(0:Int)<=(p2:Int):=by omega
     have p2m:(p2:Int)<(m:Int):=by omega
     have p2n:(p2:Int)<(n:Int):=by omega
     have hBi:(1:Int)<(n:Int):=by omega
     have HPV:=Lib.hid hpv;clear hp2 hpv hmn bu2 bv2;rcases Nat.lt_or_ge r 1000000000 with hC|hC
     ·have hCi:(r:Int)<1000000000:=by omega
      rcases Nat.lt_or_ge (r * 1000000000+u2) pv with hD|hD
      ·have hQlt:aa BB T / aa BB V<q:=HDOWN.out q r HR.out HQ.out (by rw [HPV.out];exact hD)
       obtain⟨ru,hru⟩:∃ x,r * 1000000000+u2=x:=⟨_,rfl⟩;have hrui:(r:Int) * 1000000000+(u2:Int)=(ru:Int):=by omega
       have hrub:ru<=1000000000000000000:=by omega
       have wpv:IntKind.u64.wrap (pv:Int)=(pv:Int):=by rw [IntKind.wrap_u64];omega
       have wru:IntKind.u64.wrap (ru:Int)=(ru:Int):=by rw [IntKind.wrap_u64];omega
       have wr9:IntKind.u64.wrap ((r:Int) * 1000000000)=(r:Int) * 1000000000:=by rw [IntKind.wrap_u64];omega
       rw [hru] at hD;have hDi:(ru:Int)<(pv:Int):=by omega
       clear hru;obtain⟨q',hq'⟩:∃ x,q-1=x:=⟨_,rfl⟩;obtain⟨r',hr'⟩:∃ x,r+v1=x:=⟨_,rfl⟩;have hqpos:1<=q:=Nat.lt_of_le_of_lt (Nat.zero_le _) hQlt;have hqi:(q:Int)-1=(q':Int):=by omega
       have hri:(r:Int)+(v1:Int)=(r':Int):=by omega
       have HR':Hid (r'+q' * v1=tp):=by
        have h:=HR.out;have e:q=q'+1:=by omega
        rw [e,Nat.add_mul,Nat.one_mul] at h;rw [Hid,<-hr'];omega
       have HQQ:Hid (aa BB T / aa BB V<=q'):=by rw [Hid,<-hq'];exact Nat.le_sub_one_of_lt hQlt
       have br':r'<=tp:=by have:=HR'.out;exact Nat.le_trans (Nat.le_add_right _ _) (Nat.le_of_eq this)
       have hql:q'<q:=by omega
       have bq':q'<=tp:=by omega
       have wrr:IntKind.u64.wrap (r':Int)=(r':Int):=by rw [IntKind.wrap_u64];omega
       have wqq:IntKind.u64.wrap (q':Int)=(q':Int):=by rw [IntKind.wrap_u64];omega
       clear hq' hr' hQlt;rcases (show (1000000000<=r'/\q'<1000000000)\/r'<1000000000\/(1000000000<=r'/\1000000000<=q') by omega) with⟨b1',b2'⟩|b1'|⟨b1',b2'⟩
       ·have HX:Hid (q' * aa BB V<=aa BB T+aa BB V):=by have h:=HW.out.far q' r' HR'.out b1' b2';rw [HWIN.out] at h;exact h
        have b1i:(1000000000:Int)<=(r':Int):=by omega
        have b2i:(q':Int)<1000000000:=by omega
        clear b1' b2';go_wp2_with fail
        go_quiet (fail)
        have hcv1:=iQ hgr hne (HHV.out p (by have:=HP.out;omega));rw [hv1'] at hcv1;go_wp2_with fail
        go_loopw [9,10,88] (fun bo ca i wr'=>∃ (k b1 c1:Nat) (L':List Nat),i=.int .i64 k/\k<=m/\bo=.int .u64 b1/\ca=.int .u64 c1/\b1<=1/\c1<1000000000/\aY B g N c L' wr'/\w.grownBy wr' (some g)/\Hid (∀ d∈L',d<BB)/\Hid (L'.take o=L.take o)/\Hid ((L'.drop o).drop k=T.drop k)/\Hid (aa BB ((L'.drop o).take k)+q' * aa BB (V.take k)=aa BB (T.take k)+BB ^ k * (b1+c1))/\(k=m->c1=0)) (fun _ _ i _=>m-(intOf i).toNat)
        case atStart=>exact⟨0,0,0,L,rfl,by omega,rfl,rfl,by omega,by omega,hMr,⟨hgr.os,hgr.tape,hgr.output,hgr.size,hgr.block⟩,HL0,rfl,by rw [Hid,HT0.out],by simp [Hid,aa],fun h=>rfl⟩
        case round =>
         obtain⟨k,b1,c1,L',rfl,hk,rfl,rfl,hb1,hc1,hM',hg',HL',HTK,HDR,HEQ,hkm⟩:=hrel;by_cases hkl:k<m
         ·have hL'n:=hM'.1
          have hmn:=HM.out;have hjl:o+k<L'.length:=by omega
          have hcu:=hM'.cell hjl;have hfu:=hM'.frozen (o+k);have hbu:=HL'.out _ (List.getElem_mem hjl);have hgd:=mI HDR.out;rw [mH hjl,hgd] at hcu hbu;obtain⟨u,hu⟩:∃ x,T.getD k 0=x:=⟨_,rfl⟩;rw [hu] at hcu hbu;have hvkb:=getD_lt aC HVB.out k;obtain⟨vk,hvk⟩:∃ x,V.getD k 0=x:=⟨_,rfl⟩;rw [hvk] at hvkb;have hqv1:q' * vk<=999999999 * 999999999:=Nat.mul_le_mul (by omega) (by unfold BB at hvkb;omega);obtain⟨qv,hqv⟩:∃ x,q' * vk=x:=⟨_,rfl⟩;have hqvi:(q':Int) * (vk:Int)=(qv:Int):=by rw [<-hqv];exact (Int.natCast_mul q' vk).symm
          rw [hqv] at hqv1;obtain⟨hsr1,hsr2⟩:=uM (p:=c1+qv) hbu hb1;have HST:Hid (aa BB (((L'.set (o+k) ((u+BB-(c1+qv) % BB-b1) % BB)).drop o).take (k+1))+q' * aa BB (V.take (k+1))=aa BB (T.take (k+1))+BB ^ (k+1) * ((1-(u+BB-(c1+qv) % BB-b1) / BB)+(c1+qv) / BB)):=by
           rw [Hid,ig,nE (by rw [List.length_drop];omega),cK BB V,cK BB T,hvk,hu];exact uN HEQ.out (by rw [hqv]) hsr1
          have HTK2:Hid ((L'.set (o+k) ((u+BB-(c1+qv) % BB-b1) % BB)).take o=L.take o):=by rw [Hid,ny];exact HTK.out
          have HDR2:Hid (((L'.set (o+k) ((u+BB-(c1+qv) % BB-b1) % BB)).drop o).drop (k+1)=T.drop (k+1)):=by
           rw [Hid,ig,mF (by omega),<-List.drop_drop,<-List.drop_drop,HDR.out]
          have HSL:=Lib.hid (jY (j:=o+k) HL'.out (Nat.mod_lt (u+BB-(c1+qv) % BB-b1) aC));have HC2:=Lib.hid (tH (c1:=c1) hc1 hqv1);have HB2:=Lib.hid hsr2;have HSTO:=fun v=>hM'.store (o+k) v
          have hbu':u<1000000000:=hbu;have kb0:(0:Int)<=(k:Int):=by omega
          have km:(k:Int)<(m:Int):=by omega
          have HR1:Hid ((((u+BB-(c1+qv) % BB-b1) % BB:Nat):Int)=((u:Int)+1000000000-((c1:Int)+(qv:Int)) % 1000000000-(b1:Int)) % 1000000000):=by unfold Hid BB;omega
          have HR2:Hid (((1-(u+BB-(c1+qv) % BB-b1) / BB:Nat):Int)=1-((u:Int)+1000000000-((c1:Int)+(qv:Int)) % 1000000000-(b1:Int)) / 1000000000):=by unfold Hid BB;omega
          have HR3:Hid ((((c1+qv) / BB:Nat):Int)=((c1:Int)+(qv:Int)) / 1000000000):=by unfold Hid BB;omega
          clear hsr1 hsr2 hmn hgd hbu;by_cases hkn:k<n
          ·have hcv:=iQ hg' hne (HHV.out k hkn)
           rw [hvk] at hcv;have kn:(k:Int)<(n:Int):=by omega
           clear hvk hu hqv;go_wp2_with fail;go_roundw
           case rel=>exact⟨k+1,1-(u+BB-(c1+qv) % BB-b1) / BB,(c1+qv) / BB,L'.set (o+k) ((u+BB-(c1+qv) % BB-b1) % BB),by go_num,by omega,by rw [HR2.out],by rw [HR3.out],HB2.out,HC2.out,by rw [<-HR1.out];exact HSTO _,fV hg' _ _,HSL.out,HTK2.out,HDR2.out,HST.out,fun h=>by have:=HM.out;omega⟩
           case measure=>simp [intOf];omega
          ·have hqv0:qv=0:=by rw [<-hqv,<-hvk,eB (by omega)];rfl
           subst hqv0;clear hvk hu hqv;go_wp2_with fail;go_roundw
           case rel=>exact⟨k+1,1-(u+BB-(c1+0) % BB-b1) / BB,(c1+0) / BB,L'.set (o+k) ((u+BB-(c1+0) % BB-b1) % BB),by go_num,by omega,by rw [HR2.out];simp,by rw [HR3.out];simp,HB2.out,HC2.out,by have h:=HSTO ((u+BB-(c1+0) % BB-b1) % BB);rw [HR1.out] at h;simpa using h,fV hg' _ _,HSL.out,HTK2.out,HDR2.out,HST.out,fun h=>by unfold BB;omega⟩
           case measure=>simp [intOf];omega
         ·obtain rfl:k=m:=by omega
          obtain rfl:=hkm rfl;have hmn:=HM.out;have heq:=HEQ.out;have hVt:V.take k=V:=List.take_of_length_le (by omega);have hTt:aa BB (T.take k)=aa BB T:=by rw [<-hmn];exact HWIN.out
          have hdz:aa BB ((L'.drop o).drop k)=0:=by rw [HDR.out,<-hmn];exact HRES.out
          have hL'n:=hM'.1;have hXall:aa BB (L'.drop o)=aa BB ((L'.drop o).take k):=by
           rw [jO (T:=L'.drop o) (k:=k) (by rw [List.length_drop];omega),hdz];rfl
          rw [hVt,hTt,<-hXall,Nat.add_zero] at heq;have HEQ2:=Lib.hid heq;have HVP:=Lib.hid HW.out.vpos;clear hVt hTt hdz hXall heq;rcases (show b1=0\/b1=1 by omega) with rfl|rfl
          ·obtain⟨e1,e2⟩:=tZ HVP.out rfl HQQ.out (by have:=HEQ2.out;rw [Nat.mul_zero,Nat.add_zero] at this;exact this)
           have HE1:=Lib.hid e1;have HE2:=Lib.hid e2;clear e1 e2 hmn;go_wp2_with fail;go_returns;exact⟨kF (by have:=HE1.out;show ((q':Nat):Int)=((_:Nat):Int);rw [this]),L',hM',hg',HL'.out,HTK.out,HE2.out⟩
          ·clear hkm
           go_wp2_with fail
           go_loopw [10,129] (fun ca i wr''=>∃ (k2 c2:Nat) (L2:List Nat),i=.int .i64 k2/\k2<=k/\ca=.int .u64 c2/\c2<=1/\aY B g N c L2 wr''/\w.grownBy wr'' (some g)/\Hid (∀ d∈L2,d<BB)/\Hid (L2.take o=L.take o)/\Hid ((L2.drop o).drop k2=(L'.drop o).drop k2)/\Hid (aa BB ((L2.drop o).take k2)+BB ^ k2 * c2=aa BB ((L'.drop o).take k2)+aa BB (V.take k2))) (fun _ i _=>k-(intOf i).toNat)
           case atStart=>exact⟨0,0,L',rfl,by omega,rfl,by omega,hM',hg',HL',HTK,rfl,by simp [Hid,aa]⟩
           case round =>
            obtain⟨k2,c2,L2,rfl,hk2,rfl,hc2,hM2,hg2,HL2,HTK2,HDR2,HEQ3⟩:=hrel;have hL2n:=hM2.1;by_cases hkl2:k2<k
            ·have hjl:o+k2<L2.length:=by omega
             have hjl':k2<(L'.drop o).length:=by rw [List.length_drop];omega
             have hcu:=hM2.cell hjl;have hfu:=hM2.frozen (o+k2);have hbu:=HL2.out _ (List.getElem_mem hjl);have hgd:=mI HDR2.out;rw [mH hjl,hgd] at hcu hbu;obtain⟨u,hu⟩:∃ x,(L'.drop o).getD k2 0=x:=⟨_,rfl⟩;rw [hu] at hcu hbu;have hvkb:=getD_lt aC HVB.out k2;obtain⟨vk,hvk⟩:∃ x,V.getD k2 0=x:=⟨_,rfl⟩;rw [hvk] at hvkb;have hvkb':vk<1000000000:=hvkb;have hbu':u<1000000000:=hbu;have HST:Hid (aa BB (((L2.set (o+k2) ((u+c2+vk) % BB)).drop o).take (k2+1))+BB ^ (k2+1) * ((u+c2+vk) / BB)=aa BB ((L'.drop o).take (k2+1))+aa BB (V.take (k2+1))):=by
              rw [Hid,ig,nE (by rw [List.length_drop];omega),cK BB V,cK BB (L'.drop o),hvk,hu];exact sU HEQ3.out rfl
             have HTK3:Hid ((L2.set (o+k2) ((u+c2+vk) % BB)).take o=L.take o):=by rw [Hid,ny];exact HTK2.out
             have HDR3:Hid (((L2.set (o+k2) ((u+c2+vk) % BB)).drop o).drop (k2+1)=(L'.drop o).drop (k2+1)):=by
              rw [Hid,ig,mF (by omega),<-List.drop_drop,<-List.drop_drop,HDR2.out]
             have HSL:=Lib.hid (jY (j:=o+k2) HL2.out (Nat.mod_lt (u+c2+vk) aC));have HSTO:=fun v=>hM2.store (o+k2) v
             have kb0:(0:Int)<=(k2:Int):=by omega
             have km2:(k2:Int)<(k:Int):=by omega
             have HR1:Hid ((((u+c2+vk) % BB:Nat):Int)=((u:Int)+(c2:Int)+(vk:Int)) % 1000000000):=by unfold Hid BB;omega
             have HR2:Hid ((((u+c2+vk) / BB:Nat):Int)=((u:Int)+(c2:Int)+(vk:Int)) / 1000000000):=by unfold Hid BB;omega
             have HC2:Hid ((u+c2+vk) / BB<=1):=by unfold Hid BB;omega
             clear hgd hbu;by_cases hkn:k2<n
             ·have hcv:=iQ hg2 hne (HHV.out k2 hkn)
              rw [hvk] at hcv;have kn:(k2:Int)<(n:Int):=by omega
              clear hvk hu;go_wp2_with fail;go_roundw
              case rel=>exact⟨k2+1,(u+c2+vk) / BB,L2.set (o+k2) ((u+c2+vk) % BB),by go_num,by omega,by rw [HR2.out],HC2.out,by rw [<-HR1.out];exact HSTO _,fV hg2 _ _,HSL.out,HTK3.out,HDR3.out,HST.out⟩
              case measure=>simp [intOf];omega
             ·obtain rfl:vk=0:=by rw [<-hvk,eB (by omega)]
              clear hvk hu;go_wp2_with fail;go_roundw
              case rel=>exact⟨k2+1,(u+c2+0) / BB,L2.set (o+k2) ((u+c2+0) % BB),by go_num,by omega,by rw [HR2.out];simp,HC2.out,by have h:=HSTO ((u+c2+0) % BB);rw [HR1.out] at h;simpa using h,fV hg2 _ _,HSL.out,HTK3.out,HDR3.out,HST.out⟩
              case measure=>simp [intOf];omega
            ·obtain rfl:k2=k:=by omega
             have hmn:=HM.out;have heq3:=HEQ3.out;have hVt:V.take k2=V:=List.take_of_length_le (by omega);have hdz':aa BB ((L'.drop o).drop k2)=0:=by rw [HDR.out,<-hmn];exact HRES.out
             have hXall':aa BB (L'.drop o)=aa BB ((L'.drop o).take k2):=by
              rw [jO (T:=L'.drop o) (k:=k2) (by rw [List.length_drop];omega),hdz'];rfl
             have hdz2:aa BB ((L2.drop o).drop k2)=0:=by rw [HDR2.out];exact hdz'
             have hX2:aa BB (L2.drop o)=aa BB ((L2.drop o).take k2):=by
              rw [jO (T:=L2.drop o) (k:=k2) (by rw [List.length_drop];omega),hdz2];rfl
             rw [hVt,<-hX2,<-hXall'] at heq3;have hb1:=jM aC (T:=L'.drop o) (fun d hd=>HL'.out d (List.mem_of_mem_drop hd)) k2;have hb2:=jM aC (T:=L2.drop o) (fun d hd=>HL2.out d (List.mem_of_mem_drop hd)) k2;rw [<-hXall'] at hb1;rw [<-hX2] at hb2;have hVE:aa BB V<=BB ^ k2:=by
              have:=jN HVB.out;have h2:BB ^ V.length<=BB ^ k2:=Nat.pow_le_pow_right aC (by omega);omega
             obtain⟨e1,e2⟩:=uf HVP.out rfl (by have:=HEQ2.out;rw [Nat.mul_one] at this;exact this) hb1 HX.out heq3 hb2 hVE;have HE1:=Lib.hid e1;have HE2:=Lib.hid e2;have hq1:1<=q':=Nat.le_trans (Nat.le_add_left 1 _) (Nat.le_of_eq e1.symm);clear e1 e2 hmn heq3 hVt hdz' hXall' hdz2 hX2 hb1 hb2 hVE;go_wp2_with fail;go_returns;exact⟨kF (by have:=HE1.out;show (q':Int)-1=((_:Nat):Int);generalize aa BB T / aa BB V=z at this ⊢;omega),L2,hM2,hg2,HL2.out,HTK2.out,HE2.out⟩
       ·have b1i:(r':Int)<1000000000:=by omega
        have b1d:decide ((1000000000:Int)<=(r':Int))=false:=decide_eq_false (by omega);clear b1';go_wp2_with fail
        go_quiet (fail)
        have hcv1:=iQ hgr hne (HHV.out p (by have:=HP.out;omega));rw [hv1'] at hcv1;go_wp2_with fail;go_roundw
        case rel=>exact⟨q',r',rfl,rfl,br',bq',hMr,⟨hgr.os,hgr.tape,hgr.output,hgr.size,hgr.block⟩,HR',HQQ⟩
        case measure=>simp only [intOf];omega
       ·have b1i:(1000000000:Int)<=(r':Int):=by omega
        have b2i:(1000000000:Int)<=(q':Int):=by omega
        have b2d:decide ((q':Int)<1000000000)=false:=decide_eq_false (by omega);clear b1' b2';go_wp2_with fail
        go_quiet (fail)
        have hcv1:=iQ hgr hne (HHV.out p (by have:=HP.out;omega));rw [hv1'] at hcv1;go_wp2_with fail;go_roundw
        case rel=>exact⟨q',r',rfl,rfl,br',bq',hMr,⟨hgr.os,hgr.tape,hgr.output,hgr.size,hgr.block⟩,HR',HQQ⟩
        case measure=>simp only [intOf];omega
      ·have hDd:decide ((r:Int) * 1000000000+(u2:Int)<(pv:Int))=false:=decide_eq_false (by omega)
       have HQQ:=HQ;have HX:Hid (q * aa BB V<=aa BB T+aa BB V):=HNEAR.out q r HR.out hAn (by rw [HPV.out];exact hD);go_wp2_with fail
       go_quiet (fail)
       go_wp2_with fail
       go_loopw [9,10,88] (fun bo ca i wr'=>∃ (k b1 c1:Nat) (L':List Nat),i=.int .i64 k/\k<=m/\bo=.int .u64 b1/\ca=.int .u64 c1/\b1<=1/\c1<1000000000/\aY B g N c L' wr'/\w.grownBy wr' (some g)/\Hid (∀ d∈L',d<BB)/\Hid (L'.take o=L.take o)/\Hid ((L'.drop o).drop k=T.drop k)/\Hid (aa BB ((L'.drop o).take k)+q * aa BB (V.take k)=aa BB (T.take k)+BB ^ k * (b1+c1))/\(k=m->c1=0)) (fun _ _ i _=>m-(intOf i).toNat)
       case atStart=>exact⟨0,0,0,L,rfl,by omega,rfl,rfl,by omega,by omega,hMr,⟨hgr.os,hgr.tape,hgr.output,hgr.size,hgr.block⟩,HL0,rfl,by rw [Hid,HT0.out],by simp [Hid,aa],fun h=>rfl⟩
       case round =>
        obtain⟨k,b1,c1,L',rfl,hk,rfl,rfl,hb1,hc1,hM',hg',HL',HTK,HDR,HEQ,hkm⟩:=hrel;by_cases hkl:k<m
        ·have hL'n:=hM'.1
         have hmn:=HM.out;have hjl:o+k<L'.length:=by omega
         have hcu:=hM'.cell hjl;have hfu:=hM'.frozen (o+k);have hbu:=HL'.out _ (List.getElem_mem hjl);have hgd:=mI HDR.out;rw [mH hjl,hgd] at hcu hbu;obtain⟨u,hu⟩:∃ x,T.getD k 0=x:=⟨_,rfl⟩;rw [hu] at hcu hbu;have hvkb:=getD_lt aC HVB.out k;obtain⟨vk,hvk⟩:∃ x,V.getD k 0=x:=⟨_,rfl⟩;rw [hvk] at hvkb;have hqv1:q * vk<=999999999 * 999999999:=Nat.mul_le_mul (by omega) (by unfold BB at hvkb;omega);obtain⟨qv,hqv⟩:∃ x,q * vk=x:=⟨_,rfl⟩;have hqvi:(q:Int) * (vk:Int)=(qv:Int):=by rw [<-hqv];exact (Int.natCast_mul q vk).symm
         rw [hqv] at hqv1;obtain⟨hsr1,hsr2⟩:=uM (p:=c1+qv) hbu hb1;have HST:Hid (aa BB (((L'.set (o+k) ((u+BB-(c1+qv) % BB-b1) % BB)).drop o).take (k+1))+q * aa BB (V.take (k+1))=aa BB (T.take (k+1))+BB ^ (k+1) * ((1-(u+BB-(c1+qv) % BB-b1) / BB)+(c1+qv) / BB)):=by
          rw [Hid,ig,nE (by rw [List.length_drop];omega),cK BB V,cK BB T,hvk,hu];exact uN HEQ.out (by rw [hqv]) hsr1
         have HTK2:Hid ((L'.set (o+k) ((u+BB-(c1+qv) % BB-b1) % BB)).take o=L.take o):=by rw [Hid,ny];exact HTK.out
         have HDR2:Hid (((L'.set (o+k) ((u+BB-(c1+qv) % BB-b1) % BB)).drop o).drop (k+1)=T.drop (k+1)):=by
          rw [Hid,ig,mF (by omega),<-List.drop_drop,<-List.drop_drop,HDR.out]
         have HSL:=Lib.hid (jY (j:=o+k) HL'.out (Nat.mod_lt (u+BB-(c1+qv) % BB-b1) aC));have HC2:=Lib.hid (tH (c1:=c1) hc1 hqv1);have HB2:=Lib.hid hsr2;have HSTO:=fun v=>hM'.store (o+k) v
         have hbu':u<1000000000:=hbu;have kb0:(0:Int)<=(k:Int):=by omega
         have km:(k:Int)<(m:Int):=by omega
         have HR1:Hid ((((u+BB-(c1+qv) % BB-b1) % BB:Nat):Int)=((u:Int)+1000000000-((c1:Int)+(qv:Int)) % 1000000000-(b1:Int)) % 1000000000):=by unfold Hid BB;omega
         have HR2:Hid (((1-(u+BB-(c1+qv) % BB-b1) / BB:Nat):Int)=1-((u:Int)+1000000000-((c1:Int)+(qv:Int)) % 1000000000-(b1:Int)) / 1000000000):=by unfold Hid BB;omega
         have HR3:Hid ((((c1+qv) / BB:Nat):Int)=((c1:Int)+(qv:Int)) / 1000000000):=by unfold Hid BB;omega
         clear hsr1 hsr2 hmn hgd hbu;by_cases hkn:k<n
         ·have hcv:=iQ hg' hne (HHV.out k hkn)
          rw [hvk] at hcv;have kn:(k:Int)<(n:Int):=by omega
          clear hvk hu hqv;go_wp2_with fail;go_roundw
          case rel=>exact⟨k+1,1-(u+BB-(c1+qv) % BB-b1) / BB,(c1+qv) / BB,L'.set (o+k) ((u+BB-(c1+qv) % BB-b1) % BB),by go_num,by omega,by rw [HR2.out],by rw [HR3.out],HB2.out,HC2.out,by rw [<-HR1.out];exact HSTO _,fV hg' _ _,HSL.out,HTK2.out,HDR2.out,HST.out,fun h=>by have:=HM.out;omega⟩
          case measure=>simp [intOf];omega
         ·have hqv0:qv=0:=by rw [<-hqv,<-hvk,eB (by omega)];rfl
          subst hqv0;clear hvk hu hqv;go_wp2_with fail;go_roundw
          case rel=>exact⟨k+1,1-(u+BB-(c1+0) % BB-b1) / BB,(c1+0) / BB,L'.set (o+k) ((u+BB-(c1+0) % BB-b1) % BB),by go_num,by omega,by rw [HR2.out];simp,by rw [HR3.out];simp,HB2.out,HC2.out,by have h:=HSTO ((u+BB-(c1+0) % BB-b1) % BB);rw [HR1.out] at h;simpa using h,fV hg' _ _,HSL.out,HTK2.out,HDR2.out,HST.out,fun h=>by unfold BB;omega⟩
          case measure=>simp [intOf];omega
        ·obtain rfl:k=m:=by omega
         obtain rfl:=hkm rfl;have hmn:=HM.out;have heq:=HEQ.out;have hVt:V.take k=V:=List.take_of_length_le (by omega);have hTt:aa BB (T.take k)=aa BB T:=by rw [<-hmn];exact HWIN.out
         have hdz:aa BB ((L'.drop o).drop k)=0:=by rw [HDR.out,<-hmn];exact HRES.out
         have hL'n:=hM'.1;have hXall:aa BB (L'.drop o)=aa BB ((L'.drop o).take k):=by
          rw [jO (T:=L'.drop o) (k:=k) (by rw [List.length_drop];omega),hdz];rfl
         rw [hVt,hTt,<-hXall,Nat.add_zero] at heq;have HEQ2:=Lib.hid heq;have HVP:=Lib.hid HW.out.vpos;clear hVt hTt hdz hXall heq;rcases (show b1=0\/b1=1 by omega) with rfl|rfl
         ·obtain⟨e1,e2⟩:=tZ HVP.out rfl HQQ.out (by have:=HEQ2.out;rw [Nat.mul_zero,Nat.add_zero] at this;exact this)
          have HE1:=Lib.hid e1;have HE2:=Lib.hid e2;clear e1 e2 hmn;go_wp2_with fail;go_returns;exact⟨kF (by have:=HE1.out;show ((q:Nat):Int)=((_:Nat):Int);rw [this]),L',hM',hg',HL'.out,HTK.out,HE2.out⟩
         ·clear hkm
          go_wp2_with fail
          go_loopw [10,129] (fun ca i wr''=>∃ (k2 c2:Nat) (L2:List Nat),i=.int .i64 k2/\k2<=k/\ca=.int .u64 c2/\c2<=1/\aY B g N c L2 wr''/\w.grownBy wr'' (some g)/\Hid (∀ d∈L2,d<BB)/\Hid (L2.take o=L.take o)/\Hid ((L2.drop o).drop k2=(L'.drop o).drop k2)/\Hid (aa BB ((L2.drop o).take k2)+BB ^ k2 * c2=aa BB ((L'.drop o).take k2)+aa BB (V.take k2))) (fun _ i _=>k-(intOf i).toNat)
          case atStart=>exact⟨0,0,L',rfl,by omega,rfl,by omega,hM',hg',HL',HTK,rfl,by simp [Hid,aa]⟩
          case round =>
           obtain⟨k2,c2,L2,rfl,hk2,rfl,hc2,hM2,hg2,HL2,HTK2,HDR2,HEQ3⟩:=hrel;have hL2n:=hM2.1;by_cases hkl2:k2<k
           ·have hjl:o+k2<L2.length:=by omega
            have hjl':k2<(L'.drop o).length:=by rw [List.length_drop];omega
            have hcu:=hM2.cell hjl;have hfu:=hM2.frozen (o+k2);have hbu:=HL2.out _ (List.getElem_mem hjl);have hgd:=mI HDR2.out;rw [mH hjl,hgd] at hcu hbu;obtain⟨u,hu⟩:∃ x,(L'.drop o).getD k2 0=x:=⟨_,rfl⟩;rw [hu] at hcu hbu;have hvkb:=getD_lt aC HVB.out k2;obtain⟨vk,hvk⟩:∃ x,V.getD k2 0=x:=⟨_,rfl⟩;rw [hvk] at hvkb;have hvkb':vk<1000000000:=hvkb;have hbu':u<1000000000:=hbu;have HST:Hid (aa BB (((L2.set (o+k2) ((u+c2+vk) % BB)).drop o).take (k2+1))+BB ^ (k2+1) * ((u+c2+vk) / BB)=aa BB ((L'.drop o).take (k2+1))+aa BB (V.take (k2+1))):=by
             rw [Hid,ig,nE (by rw [List.length_drop];omega),cK BB V,cK BB (L'.drop o),hvk,hu];exact sU HEQ3.out rfl
            have HTK3:Hid ((L2.set (o+k2) ((u+c2+vk) % BB)).take o=L.take o):=by rw [Hid,ny];exact HTK2.out
            have HDR3:Hid (((L2.set (o+k2) ((u+c2+vk) % BB)).drop o).drop (k2+1)=(L'.drop o).drop (k2+1)):=by
             rw [Hid,ig,mF (by omega),<-List.drop_drop,<-List.drop_drop,HDR2.out]
            have HSL:=Lib.hid (jY (j:=o+k2) HL2.out (Nat.mod_lt (u+c2+vk) aC));have HSTO:=fun v=>hM2.store (o+k2) v
            have kb0:(0:Int)<=(k2:Int):=by omega
            have km2:(k2:Int)<(k:Int):=by omega
            have HR1:Hid ((((u+c2+vk) % BB:Nat):Int)=((u:Int)+(c2:Int)+(vk:Int)) % 1000000000):=by unfold Hid BB;omega
            have HR2:Hid ((((u+c2+vk) / BB:Nat):Int)=((u:Int)+(c2:Int)+(vk:Int)) / 1000000000):=by unfold Hid BB;omega
            have HC2:Hid ((u+c2+vk) / BB<=1):=by unfold Hid BB;omega
            clear hgd hbu;by_cases hkn:k2<n
            ·have hcv:=iQ hg2 hne (HHV.out k2 hkn)
             rw [hvk] at hcv;have kn:(k2:Int)<(n:Int):=by omega
             clear hvk hu;go_wp2_with fail;go_roundw
             case rel=>exact⟨k2+1,(u+c2+vk) / BB,L2.set (o+k2) ((u+c2+vk) % BB),by go_num,by omega,by rw [HR2.out],HC2.out,by rw [<-HR1.out];exact HSTO _,fV hg2 _ _,HSL.out,HTK3.out,HDR3.out,HST.out⟩
             case measure=>simp [intOf];omega
            ·obtain rfl:vk=0:=by rw [<-hvk,eB (by omega)]
             clear hvk hu;go_wp2_with fail;go_roundw
             case rel=>exact⟨k2+1,(u+c2+0) / BB,L2.set (o+k2) ((u+c2+0) % BB),by go_num,by omega,by rw [HR2.out];simp,HC2.out,by have h:=HSTO ((u+c2+0) % BB);rw [HR1.out] at h;simpa using h,fV hg2 _ _,HSL.out,HTK3.out,HDR3.out,HST.out⟩
             case measure=>simp [intOf];omega
           ·obtain rfl:k2=k:=by omega
            have hmn:=HM.out;have heq3:=HEQ3.out;have hVt:V.take k2=V:=List.take_of_length_le (by omega);have hdz':aa BB ((L'.drop o).drop k2)=0:=by rw [HDR.out,<-hmn];exact HRES.out
            have hXall':aa BB (L'.drop o)=aa BB ((L'.drop o).take k2):=by
             rw [jO (T:=L'.drop o) (k:=k2) (by rw [List.length_drop];omega),hdz'];rfl
            have hdz2:aa BB ((L2.drop o).drop k2)=0:=by rw [HDR2.out];exact hdz'
            have hX2:aa BB (L2.drop o)=aa BB ((L2.drop o).take k2):=by
             rw [jO (T:=L2.drop o) (k:=k2) (by rw [List.length_drop];omega),hdz2];rfl
            rw [hVt,<-hX2,<-hXall'] at heq3;have hb1:=jM aC (T:=L'.drop o) (fun d hd=>HL'.out d (List.mem_of_mem_drop hd)) k2;have hb2:=jM aC (T:=L2.drop o) (fun d hd=>HL2.out d (List.mem_of_mem_drop hd)) k2;rw [<-hXall'] at hb1;rw [<-hX2] at hb2;have hVE:aa BB V<=BB ^ k2:=by
             have:=jN HVB.out;have h2:BB ^ V.length<=BB ^ k2:=Nat.pow_le_pow_right aC (by omega);omega
            obtain⟨e1,e2⟩:=uf HVP.out rfl (by have:=HEQ2.out;rw [Nat.mul_one] at this;exact this) hb1 HX.out heq3 hb2 hVE;have HE1:=Lib.hid e1;have HE2:=Lib.hid e2;have hq1:1<=q:=Nat.le_trans (Nat.le_add_left 1 _) (Nat.le_of_eq e1.symm);clear e1 e2 hmn heq3 hVt hdz' hXall' hdz2 hX2 hb1 hb2 hVE;go_wp2_with fail;go_returns;exact⟨kF (by have:=HE1.out;show (q:Int)-1=((_:Nat):Int);generalize aa BB T / aa BB V=z at this ⊢;omega),L2,hM2,hg2,HL2.out,HTK2.out,HE2.out⟩
     ·have hCd:decide ((r:Int)<1000000000)=false:=decide_eq_false (by omega)
      have HQQ:=HQ;have HX:Hid (q * aa BB V<=aa BB T+aa BB V):=by have h:=HW.out.far q r HR.out hC hAn;rw [HWIN.out] at h;exact h
      go_wp2_with fail
      go_quiet (fail)
      go_wp2_with fail
      go_loopw [9,10,88] (fun bo ca i wr'=>∃ (k b1 c1:Nat) (L':List Nat),i=.int .i64 k/\k<=m/\bo=.int .u64 b1/\ca=.int .u64 c1/\b1<=1/\c1<1000000000/\aY B g N c L' wr'/\w.grownBy wr' (some g)/\Hid (∀ d∈L',d<BB)/\Hid (L'.take o=L.take o)/\Hid ((L'.drop o).drop k=T.drop k)/\Hid (aa BB ((L'.drop o).take k)+q * aa BB (V.take k)=aa BB (T.take k)+BB ^ k * (b1+c1))/\(k=m->c1=0)) (fun _ _ i _=>m-(intOf i).toNat)
      case atStart=>exact⟨0,0,0,L,rfl,by omega,rfl,rfl,by omega,by omega,hMr,⟨hgr.os,hgr.tape,hgr.output,hgr.size,hgr.block⟩,HL0,rfl,by rw [Hid,HT0.out],by simp [Hid,aa],fun h=>rfl⟩
      case round =>
       obtain⟨k,b1,c1,L',rfl,hk,rfl,rfl,hb1,hc1,hM',hg',HL',HTK,HDR,HEQ,hkm⟩:=hrel;by_cases hkl:k<m
       ·have hL'n:=hM'.1
        have hmn:=HM.out;have hjl:o+k<L'.length:=by omega
        have hcu:=hM'.cell hjl;have hfu:=hM'.frozen (o+k);have hbu:=HL'.out _ (List.getElem_mem hjl);have hgd:=mI HDR.out;rw [mH hjl,hgd] at hcu hbu;obtain⟨u,hu⟩:∃ x,T.getD k 0=x:=⟨_,rfl⟩;rw [hu] at hcu hbu;have hvkb:=getD_lt aC HVB.out k;obtain⟨vk,hvk⟩:∃ x,V.getD k 0=x:=⟨_,rfl⟩;rw [hvk] at hvkb;have hqv1:q * vk<=999999999 * 999999999:=Nat.mul_le_mul (by omega) (by unfold BB at hvkb;omega);obtain⟨qv,hqv⟩:∃ x,q * vk=x:=⟨_,rfl⟩;have hqvi:(q:Int) * (vk:Int)=(qv:Int):=by rw [<-hqv];exact (Int.natCast_mul q vk).symm
        rw [hqv] at hqv1;obtain⟨hsr1,hsr2⟩:=uM (p:=c1+qv) hbu hb1;have HST:Hid (aa BB (((L'.set (o+k) ((u+BB-(c1+qv) % BB-b1) % BB)).drop o).take (k+1))+q * aa BB (V.take (k+1))=aa BB (T.take (k+1))+BB ^ (k+1) * ((1-(u+BB-(c1+qv) % BB-b1) / BB)+(c1+qv) / BB)):=by
         rw [Hid,ig,nE (by rw [List.length_drop];omega),cK BB V,cK BB T,hvk,hu];exact uN HEQ.out (by rw [hqv]) hsr1
        have HTK2:Hid ((L'.set (o+k) ((u+BB-(c1+qv) % BB-b1) % BB)).take o=L.take o):=by rw [Hid,ny];exact HTK.out
        have HDR2:Hid (((L'.set (o+k) ((u+BB-(c1+qv) % BB-b1) % BB)).drop o).drop (k+1)=T.drop (k+1)):=by
         rw [Hid,ig,mF (by omega),<-List.drop_drop,<-List.drop_drop,HDR.out]
        have HSL:=Lib.hid (jY (j:=o+k) HL'.out (Nat.mod_lt (u+BB-(c1+qv) % BB-b1) aC));have HC2:=Lib.hid (tH (c1:=c1) hc1 hqv1);have HB2:=Lib.hid hsr2;have HSTO:=fun v=>hM'.store (o+k) v
        have hbu':u<1000000000:=hbu;have kb0:(0:Int)<=(k:Int):=by omega
        have km:(k:Int)<(m:Int):=by omega
        have HR1:Hid ((((u+BB-(c1+qv) % BB-b1) % BB:Nat):Int)=((u:Int)+1000000000-((c1:Int)+(qv:Int)) % 1000000000-(b1:Int)) % 1000000000):=by unfold Hid BB;omega
        have HR2:Hid (((1-(u+BB-(c1+qv) % BB-b1) / BB:Nat):Int)=1-((u:Int)+1000000000-((c1:Int)+(qv:Int)) % 1000000000-(b1:Int)) / 1000000000):=by unfold Hid BB;omega
        have HR3:Hid ((((c1+qv) / BB:Nat):Int)=((c1:Int)+(qv:Int)) / 1000000000):=by unfold Hid BB;omega
        clear hsr1 hsr2 hmn hgd hbu;by_cases hkn:k<n
        ·have hcv:=iQ hg' hne (HHV.out k hkn)
         rw [hvk] at hcv;have kn:(k:Int)<(n:Int):=by omega
         clear hvk hu hqv;go_wp2_with fail;go_roundw
         case rel=>exact⟨k+1,1-(u+BB-(c1+qv) % BB-b1) / BB,(c1+qv) / BB,L'.set (o+k) ((u+BB-(c1+qv) % BB-b1) % BB),by go_num,by omega,by rw [HR2.out],by rw [HR3.out],HB2.out,HC2.out,by rw [<-HR1.out];exact HSTO _,fV hg' _ _,HSL.out,HTK2.out,HDR2.out,HST.out,fun h=>by have:=HM.out;omega⟩
         case measure=>simp [intOf];omega
        ·have hqv0:qv=0:=by rw [<-hqv,<-hvk,eB (by omega)];rfl
         subst hqv0;clear hvk hu hqv;go_wp2_with fail;go_roundw
         case rel=>exact⟨k+1,1-(u+BB-(c1+0) % BB-b1) / BB,(c1+0) / BB,L'.set (o+k) ((u+BB-(c1+0) % BB-b1) % BB),by go_num,by omega,by rw [HR2.out];simp,by rw [HR3.out];simp,HB2.out,HC2.out,by have h:=HSTO ((u+BB-(c1+0) % BB-b1) % BB);rw [HR1.out] at h;simpa using h,fV hg' _ _,HSL.out,HTK2.out,HDR2.out,HST.out,fun h=>by unfold BB;omega⟩
         case measure=>simp [intOf];omega
       ·obtain rfl:k=m:=by omega
        obtain rfl:=hkm rfl;have hmn:=HM.out;have heq:=HEQ.out;have hVt:V.take k=V:=List.take_of_length_le (by omega);have hTt:aa BB (T.take k)=aa BB T:=by rw [<-hmn];exact HWIN.out
        have hdz:aa BB ((L'.drop o).drop k)=0:=by rw [HDR.out,<-hmn];exact HRES.out
        have hL'n:=hM'.1;have hXall:aa BB (L'.drop o)=aa BB ((L'.drop o).take k):=by
         rw [jO (T:=L'.drop o) (k:=k) (by rw [List.length_drop];omega),hdz];rfl
        rw [hVt,hTt,<-hXall,Nat.add_zero] at heq;have HEQ2:=Lib.hid heq;have HVP:=Lib.hid HW.out.vpos;clear hVt hTt hdz hXall heq;rcases (show b1=0\/b1=1 by omega) with rfl|rfl
        ·obtain⟨e1,e2⟩:=tZ HVP.out rfl HQQ.out (by have:=HEQ2.out;rw [Nat.mul_zero,Nat.add_zero] at this;exact this)
         have HE1:=Lib.hid e1;have HE2:=Lib.hid e2;clear e1 e2 hmn;go_wp2_with fail;go_returns;exact⟨kF (by have:=HE1.out;show ((q:Nat):Int)=((_:Nat):Int);rw [this]),L',hM',hg',HL'.out,HTK.out,HE2.out⟩
        ·clear hkm
         go_wp2_with fail
         go_loopw [10,129] (fun ca i wr''=>∃ (k2 c2:Nat) (L2:List Nat),i=.int .i64 k2/\k2<=k/\ca=.int .u64 c2/\c2<=1/\aY B g N c L2 wr''/\w.grownBy wr'' (some g)/\Hid (∀ d∈L2,d<BB)/\Hid (L2.take o=L.take o)/\Hid ((L2.drop o).drop k2=(L'.drop o).drop k2)/\Hid (aa BB ((L2.drop o).take k2)+BB ^ k2 * c2=aa BB ((L'.drop o).take k2)+aa BB (V.take k2))) (fun _ i _=>k-(intOf i).toNat)
         case atStart=>exact⟨0,0,L',rfl,by omega,rfl,by omega,hM',hg',HL',HTK,rfl,by simp [Hid,aa]⟩
         case round =>
          obtain⟨k2,c2,L2,rfl,hk2,rfl,hc2,hM2,hg2,HL2,HTK2,HDR2,HEQ3⟩:=hrel;have hL2n:=hM2.1;by_cases hkl2:k2<k
          ·have hjl:o+k2<L2.length:=by omega
           have hjl':k2<(L'.drop o).length:=by rw [List.length_drop];omega
           have hcu:=hM2.cell hjl;have hfu:=hM2.frozen (o+k2);have hbu:=HL2.out _ (List.getElem_mem hjl);have hgd:=mI HDR2.out;rw [mH hjl,hgd] at hcu hbu;obtain⟨u,hu⟩:∃ x,(L'.drop o).getD k2 0=x:=⟨_,rfl⟩;rw [hu] at hcu hbu;have hvkb:=getD_lt aC HVB.out k2;obtain⟨vk,hvk⟩:∃ x,V.getD k2 0=x:=⟨_,rfl⟩;rw [hvk] at hvkb;have hvkb':vk<1000000000:=hvkb;have hbu':u<1000000000:=hbu;have HST:Hid (aa BB (((L2.set (o+k2) ((u+c2+vk) % BB)).drop o).take (k2+1))+BB ^ (k2+1) * ((u+c2+vk) / BB)=aa BB ((L'.drop o).take (k2+1))+aa BB (V.take (k2+1))):=by
            rw [Hid,ig,nE (by rw [List.length_drop];omega),cK BB V,cK BB (L'.drop o),hvk,hu];exact sU HEQ3.out rfl
           have HTK3:Hid ((L2.set (o+k2) ((u+c2+vk) % BB)).take o=L.take o):=by rw [Hid,ny];exact HTK2.out
           have HDR3:Hid (((L2.set (o+k2) ((u+c2+vk) % BB)).drop o).drop (k2+1)=(L'.drop o).drop (k2+1)):=by
            rw [Hid,ig,mF (by omega),<-List.drop_drop,<-List.drop_drop,HDR2.out]
           have HSL:=Lib.hid (jY (j:=o+k2) HL2.out (Nat.mod_lt (u+c2+vk) aC));have HSTO:=fun v=>hM2.store (o+k2) v
           have kb0:(0:Int)<=(k2:Int):=by omega
           have km2:(k2:Int)<(k:Int):=by omega
           have HR1:Hid ((((u+c2+vk) % BB:Nat):Int)=((u:Int)+(c2:Int)+(vk:Int)) % 1000000000):=by unfold Hid BB;omega
           have HR2:Hid ((((u+c2+vk) / BB:Nat):Int)=((u:Int)+(c2:Int)+(vk:Int)) / 1000000000):=by unfold Hid BB;omega
           have HC2:Hid ((u+c2+vk) / BB<=1):=by unfold Hid BB;omega
           clear hgd hbu;by_cases hkn:k2<n
           ·have hcv:=iQ hg2 hne (HHV.out k2 hkn)
            rw [hvk] at hcv;have kn:(k2:Int)<(n:Int):=by omega
            clear hvk hu;go_wp2_with fail;go_roundw
            case rel=>exact⟨k2+1,(u+c2+vk) / BB,L2.set (o+k2) ((u+c2+vk) % BB),by go_num,by omega,by rw [HR2.out],HC2.out,by rw [<-HR1.out];exact HSTO _,fV hg2 _ _,HSL.out,HTK3.out,HDR3.out,HST.out⟩
            case measure=>simp [intOf];omega
           ·obtain rfl:vk=0:=by rw [<-hvk,eB (by omega)]
            clear hvk hu;go_wp2_with fail;go_roundw
            case rel=>exact⟨k2+1,(u+c2+0) / BB,L2.set (o+k2) ((u+c2+0) % BB),by go_num,by omega,by rw [HR2.out];simp,HC2.out,by have h:=HSTO ((u+c2+0) % BB);rw [HR1.out] at h;simpa using h,fV hg2 _ _,HSL.out,HTK3.out,HDR3.out,HST.out⟩
            case measure=>simp [intOf];omega
          ·obtain rfl:k2=k:=by omega
           have hmn:=HM.out;have heq3:=HEQ3.out;have hVt:V.take k2=V:=List.take_of_length_le (by omega);have hdz':aa BB ((L'.drop o).drop k2)=0:=by rw [HDR.out,<-hmn];exact HRES.out
           have hXall':aa BB (L'.drop o)=aa BB ((L'.drop o).take k2):=by
            rw [jO (T:=L'.drop o) (k:=k2) (by rw [List.length_drop];omega),hdz'];rfl
           have hdz2:aa BB ((L2.drop o).drop k2)=0:=by rw [HDR2.out];exact hdz'
           have hX2:aa BB (L2.drop o)=aa BB ((L2.drop o).take k2):=by
            rw [jO (T:=L2.drop o) (k:=k2) (by rw [List.length_drop];omega),hdz2];rfl
           rw [hVt,<-hX2,<-hXall'] at heq3;have hb1:=jM aC (T:=L'.drop o) (fun d hd=>HL'.out d (List.mem_of_mem_drop hd)) k2;have hb2:=jM aC (T:=L2.drop o) (fun d hd=>HL2.out d (List.mem_of_mem_drop hd)) k2;rw [<-hXall'] at hb1;rw [<-hX2] at hb2;have hVE:aa BB V<=BB ^ k2:=by
            have:=jN HVB.out;have h2:BB ^ V.length<=BB ^ k2:=Nat.pow_le_pow_right aC (by omega);omega
           obtain⟨e1,e2⟩:=uf HVP.out rfl (by have:=HEQ2.out;rw [Nat.mul_one] at this;exact this) hb1 HX.out heq3 hb2 hVE;have HE1:=Lib.hid e1;have HE2:=Lib.hid e2;have hq1:1<=q:=Nat.le_trans (Nat.le_add_left 1 _) (Nat.le_of_eq e1.symm);clear e1 e2 hmn heq3 hVt hdz' hXall' hdz2 hX2 hb1 hb2 hVE;go_wp2_with fail;go_returns;exact⟨kF (by have:=HE1.out;show (q:Int)-1=((_:Nat):Int);generalize aa BB T / aa BB V=z at this ⊢;omega),L2,hM2,hg2,HL2.out,HTK2.out,HE2.out⟩
    ·have hBi:(n:Int)<=1:=by omega
     have hBd:decide ((1:Int)<(n:Int))=false:=decide_eq_false (by omega);have hBe:decide ((n:Int) > 1)=false:=decide_eq_false (by omega);have HQQ:=HQ;have HX:Hid (q * aa BB V<=aa BB T+aa BB V):=by have h:=HW.out.one (by omega) q r HR.out;rw [HWIN.out] at h;exact h
     go_wp2_with fail
     go_quiet (fail)
     go_wp2_with fail
     go_loopw [9,10,88] (fun bo ca i wr'=>∃ (k b1 c1:Nat) (L':List Nat),i=.int .i64 k/\k<=m/\bo=.int .u64 b1/\ca=.int .u64 c1/\b1<=1/\c1<1000000000/\aY B g N c L' wr'/\w.grownBy wr' (some g)/\Hid (∀ d∈L',d<BB)/\Hid (L'.take o=L.take o)/\Hid ((L'.drop o).drop k=T.drop k)/\Hid (aa BB ((L'.drop o).take k)+q * aa BB (V.take k)=aa BB (T.take k)+BB ^ k * (b1+c1))/\(k=m->c1=0)) (fun _ _ i _=>m-(intOf i).toNat)
     case atStart=>exact⟨0,0,0,L,rfl,by omega,rfl,rfl,by omega,by omega,hMr,⟨hgr.os,hgr.tape,hgr.output,hgr.size,hgr.block⟩,HL0,rfl,by rw [Hid,HT0.out],by simp [Hid,aa],fun h=>rfl⟩
     case round =>
      obtain⟨k,b1,c1,L',rfl,hk,rfl,rfl,hb1,hc1,hM',hg',HL',HTK,HDR,HEQ,hkm⟩:=hrel;by_cases hkl:k<m
      ·have hL'n:=hM'.1
       have hmn:=HM.out;have hjl:o+k<L'.length:=by omega
       have hcu:=hM'.cell hjl;have hfu:=hM'.frozen (o+k);have hbu:=HL'.out _ (List.getElem_mem hjl);have hgd:=mI HDR.out;rw [mH hjl,hgd] at hcu hbu;obtain⟨u,hu⟩:∃ x,T.getD k 0=x:=⟨_,rfl⟩;rw [hu] at hcu hbu;have hvkb:=getD_lt aC HVB.out k;obtain⟨vk,hvk⟩:∃ x,V.getD k 0=x:=⟨_,rfl⟩;rw [hvk] at hvkb;have hqv1:q * vk<=999999999 * 999999999:=Nat.mul_le_mul (by omega) (by unfold BB at hvkb;omega);obtain⟨qv,hqv⟩:∃ x,q * vk=x:=⟨_,rfl⟩;have hqvi:(q:Int) * (vk:Int)=(qv:Int):=by rw [<-hqv];exact (Int.natCast_mul q vk).symm
       rw [hqv] at hqv1;obtain⟨hsr1,hsr2⟩:=uM (p:=c1+qv) hbu hb1;have HST:Hid (aa BB (((L'.set (o+k) ((u+BB-(c1+qv) % BB-b1) % BB)).drop o).take (k+1))+q * aa BB (V.take (k+1))=aa BB (T.take (k+1))+BB ^ (k+1) * ((1-(u+BB-(c1+qv) % BB-b1) / BB)+(c1+qv) / BB)):=by
        rw [Hid,ig,nE (by rw [List.length_drop];omega),cK BB V,cK BB T,hvk,hu];exact uN HEQ.out (by rw [hqv]) hsr1
       have HTK2:Hid ((L'.set (o+k) ((u+BB-(c1+qv) % BB-b1) % BB)).take o=L.take o):=by rw [Hid,ny];exact HTK.out
       have HDR2:Hid (((L'.set (o+k) ((u+BB-(c1+qv) % BB-b1) % BB)).drop o).drop (k+1)=T.drop (k+1)):=by
        rw [Hid,ig,mF (by omega),<-List.drop_drop,<-List.drop_drop,HDR.out]
       have HSL:=Lib.hid (jY (j:=o+k) HL'.out (Nat.mod_lt (u+BB-(c1+qv) % BB-b1) aC));have HC2:=Lib.hid (tH (c1:=c1) hc1 hqv1);have HB2:=Lib.hid hsr2;have HSTO:=fun v=>hM'.store (o+k) v
       have hbu':u<1000000000:=hbu;have kb0:(0:Int)<=(k:Int):=by omega
       have km:(k:Int)<(m:Int):=by omega
       have HR1:Hid ((((u+BB-(c1+qv) % BB-b1) % BB:Nat):Int)=((u:Int)+1000000000-((c1:Int)+(qv:Int)) % 1000000000-(b1:Int)) % 1000000000):=by unfold Hid BB;omega
       have HR2:Hid (((1-(u+BB-(c1+qv) % BB-b1) / BB:Nat):Int)=1-((u:Int)+1000000000-((c1:Int)+(qv:Int)) % 1000000000-(b1:Int)) / 1000000000):=by unfold Hid BB;omega
       have HR3:Hid ((((c1+qv) / BB:Nat):Int)=((c1:Int)+(qv:Int)) / 1000000000):=by unfold Hid BB;omega
       clear hsr1 hsr2 hmn hgd hbu;by_cases hkn:k<n
       ·have hcv:=iQ hg' hne (HHV.out k hkn)
        rw [hvk] at hcv;have kn:(k:Int)<(n:Int):=by omega
        clear hvk hu hqv;go_wp2_with fail;go_roundw
        case rel=>exact⟨k+1,1-(u+BB-(c1+qv) % BB-b1) / BB,(c1+qv) / BB,L'.set (o+k) ((u+BB-(c1+qv) % BB-b1) % BB),by go_num,by omega,by rw [HR2.out],by rw [HR3.out],HB2.out,HC2.out,by rw [<-HR1.out];exact HSTO _,fV hg' _ _,HSL.out,HTK2.out,HDR2.out,HST.out,fun h=>by have:=HM.out;omega⟩
        case measure=>simp [intOf];omega
       ·have hqv0:qv=0:=by rw [<-hqv,<-hvk,eB (by omega)];rfl
        subst hqv0;clear hvk hu hqv;go_wp2_with fail;go_roundw
        case rel=>exact⟨k+1,1-(u+BB-(c1+0) % BB-b1) / BB,(c1+0) / BB,L'.set (o+k) ((u+BB-(c1+0) % BB-b1) % BB),by go_num,by omega,by rw [HR2.out];simp,by rw [HR3.out];simp,HB2.out,HC2.out,by have h:=HSTO ((u+BB-(c1+0) % BB-b1) % BB);rw [HR1.out] at h;simpa using h,fV hg' _ _,HSL.out,HTK2.out,HDR2.out,HST.out,fun h=>by unfold BB;omega⟩
        case measure=>simp [intOf];omega
      ·obtain rfl:k=m:=by omega
       obtain rfl:=hkm rfl;have hmn:=HM.out;have heq:=HEQ.out;have hVt:V.take k=V:=List.take_of_length_le (by omega);have hTt:aa BB (T.take k)=aa BB T:=by rw [<-hmn];exact HWIN.out
       have hdz:aa BB ((L'.drop o).drop k)=0:=by rw [HDR.out,<-hmn];exact HRES.out
       have hL'n:=hM'.1;have hXall:aa BB (L'.drop o)=aa BB ((L'.drop o).take k):=by
        rw [jO (T:=L'.drop o) (k:=k) (by rw [List.length_drop];omega),hdz];rfl
       rw [hVt,hTt,<-hXall,Nat.add_zero] at heq;have HEQ2:=Lib.hid heq;have HVP:=Lib.hid HW.out.vpos;clear hVt hTt hdz hXall heq;rcases (show b1=0\/b1=1 by omega) with rfl|rfl
       ·obtain⟨e1,e2⟩:=tZ HVP.out rfl HQQ.out (by have:=HEQ2.out;rw [Nat.mul_zero,Nat.add_zero] at this;exact this)
        have HE1:=Lib.hid e1;have HE2:=Lib.hid e2;clear e1 e2 hmn;go_wp2_with fail;go_returns;exact⟨kF (by have:=HE1.out;show ((q:Nat):Int)=((_:Nat):Int);rw [this]),L',hM',hg',HL'.out,HTK.out,HE2.out⟩
       ·clear hkm
        go_wp2_with fail
        go_loopw [10,129] (fun ca i wr''=>∃ (k2 c2:Nat) (L2:List Nat),i=.int .i64 k2/\k2<=k/\ca=.int .u64 c2/\c2<=1/\aY B g N c L2 wr''/\w.grownBy wr'' (some g)/\Hid (∀ d∈L2,d<BB)/\Hid (L2.take o=L.take o)/\Hid ((L2.drop o).drop k2=(L'.drop o).drop k2)/\Hid (aa BB ((L2.drop o).take k2)+BB ^ k2 * c2=aa BB ((L'.drop o).take k2)+aa BB (V.take k2))) (fun _ i _=>k-(intOf i).toNat)
        case atStart=>exact⟨0,0,L',rfl,by omega,rfl,by omega,hM',hg',HL',HTK,rfl,by simp [Hid,aa]⟩
        case round =>
         obtain⟨k2,c2,L2,rfl,hk2,rfl,hc2,hM2,hg2,HL2,HTK2,HDR2,HEQ3⟩:=hrel;have hL2n:=hM2.1;by_cases hkl2:k2<k
         ·have hjl:o+k2<L2.length:=by omega
          have hjl':k2<(L'.drop o).length:=by rw [List.length_drop];omega
          have hcu:=hM2.cell hjl;have hfu:=hM2.frozen (o+k2);have hbu:=HL2.out _ (List.getElem_mem hjl);have hgd:=mI HDR2.out;rw [mH hjl,hgd] at hcu hbu;obtain⟨u,hu⟩:∃ x,(L'.drop o).getD k2 0=x:=⟨_,rfl⟩;rw [hu] at hcu hbu;have hvkb:=getD_lt aC HVB.out k2;obtain⟨vk,hvk⟩:∃ x,V.getD k2 0=x:=⟨_,rfl⟩;rw [hvk] at hvkb;have hvkb':vk<1000000000:=hvkb;have hbu':u<1000000000:=hbu;have HST:Hid (aa BB (((L2.set (o+k2) ((u+c2+vk) % BB)).drop o).take (k2+1))+BB ^ (k2+1) * ((u+c2+vk) / BB)=aa BB ((L'.drop o).take (k2+1))+aa BB (V.take (k2+1))):=by
           rw [Hid,ig,nE (by rw [List.length_drop];omega),cK BB V,cK BB (L'.drop o),hvk,hu];exact sU HEQ3.out rfl
          have HTK3:Hid ((L2.set (o+k2) ((u+c2+vk) % BB)).take o=L.take o):=by rw [Hid,ny];exact HTK2.out
          have HDR3:Hid (((L2.set (o+k2) ((u+c2+vk) % BB)).drop o).drop (k2+1)=(L'.drop o).drop (k2+1)):=by
           rw [Hid,ig,mF (by omega),<-List.drop_drop,<-List.drop_drop,HDR2.out]
          have HSL:=Lib.hid (jY (j:=o+k2) HL2.out (Nat.mod_lt (u+c2+vk) aC));have HSTO:=fun v=>hM2.store (o+k2) v
          have kb0:(0:Int)<=(k2:Int):=by omega
          have km2:(k2:Int)<(k:Int):=by omega
          have HR1:Hid ((((u+c2+vk) % BB:Nat):Int)=((u:Int)+(c2:Int)+(vk:Int)) % 1000000000):=by unfold Hid BB;omega
          have HR2:Hid ((((u+c2+vk) / BB:Nat):Int)=((u:Int)+(c2:Int)+(vk:Int)) / 1000000000):=by unfold Hid BB;omega
          have HC2:Hid ((u+c2+vk) / BB<=1):=by unfold Hid BB;omega
          clear hgd hbu;by_cases hkn:k2<n
          ·have hcv:=iQ hg2 hne (HHV.out k2 hkn)
           rw [hvk] at hcv;have kn:(k2:Int)<(n:Int):=by omega
           clear hvk hu;go_wp2_with fail;go_roundw
           case rel=>exact⟨k2+1,(u+c2+vk) / BB,L2.set (o+k2) ((u+c2+vk) % BB),by go_num,by omega,by rw [HR2.out],HC2.out,by rw [<-HR1.out];exact HSTO _,fV hg2 _ _,HSL.out,HTK3.out,HDR3.out,HST.out⟩
           case measure=>simp [intOf];omega
          ·obtain rfl:vk=0:=by rw [<-hvk,eB (by omega)]
           clear hvk hu;go_wp2_with fail;go_roundw
           case rel=>exact⟨k2+1,(u+c2+0) / BB,L2.set (o+k2) ((u+c2+0) % BB),by go_num,by omega,by rw [HR2.out];simp,HC2.out,by have h:=HSTO ((u+c2+0) % BB);rw [HR1.out] at h;simpa using h,fV hg2 _ _,HSL.out,HTK3.out,HDR3.out,HST.out⟩
           case measure=>simp [intOf];omega
         ·obtain rfl:k2=k:=by omega
          have hmn:=HM.out;have heq3:=HEQ3.out;have hVt:V.take k2=V:=List.take_of_length_le (by omega);have hdz':aa BB ((L'.drop o).drop k2)=0:=by rw [HDR.out,<-hmn];exact HRES.out
          have hXall':aa BB (L'.drop o)=aa BB ((L'.drop o).take k2):=by
           rw [jO (T:=L'.drop o) (k:=k2) (by rw [List.length_drop];omega),hdz'];rfl
          have hdz2:aa BB ((L2.drop o).drop k2)=0:=by rw [HDR2.out];exact hdz'
          have hX2:aa BB (L2.drop o)=aa BB ((L2.drop o).take k2):=by
           rw [jO (T:=L2.drop o) (k:=k2) (by rw [List.length_drop];omega),hdz2];rfl
          rw [hVt,<-hX2,<-hXall'] at heq3;have hb1:=jM aC (T:=L'.drop o) (fun d hd=>HL'.out d (List.mem_of_mem_drop hd)) k2;have hb2:=jM aC (T:=L2.drop o) (fun d hd=>HL2.out d (List.mem_of_mem_drop hd)) k2;rw [<-hXall'] at hb1;rw [<-hX2] at hb2;have hVE:aa BB V<=BB ^ k2:=by
           have:=jN HVB.out;have h2:BB ^ V.length<=BB ^ k2:=Nat.pow_le_pow_right aC (by omega);omega
          obtain⟨e1,e2⟩:=uf HVP.out rfl (by have:=HEQ2.out;rw [Nat.mul_one] at this;exact this) hb1 HX.out heq3 hb2 hVE;have HE1:=Lib.hid e1;have HE2:=Lib.hid e2;have hq1:1<=q:=Nat.le_trans (Nat.le_add_left 1 _) (Nat.le_of_eq e1.symm);clear e1 e2 hmn heq3 hVt hdz' hXall' hdz2 hX2 hb1 hb2 hVE;go_wp2_with fail;go_returns;exact⟨kF (by have:=HE1.out;show (q:Int)-1=((_:Nat):Int);generalize aa BB T / aa BB V=z at this ⊢;omega),L2,hM2,hg2,HL2.out,HTK2.out,HE2.out⟩
   ·have hAi:(1000000000:Int)<=(q:Int):=by omega
    have hQlt:aa BB T / aa BB V<q:=Nat.lt_of_lt_of_le HW.out.qlt hA;clear hA;obtain⟨q',hq'⟩:∃ x,q-1=x:=⟨_,rfl⟩;obtain⟨r',hr'⟩:∃ x,r+v1=x:=⟨_,rfl⟩;have hqpos:1<=q:=Nat.lt_of_le_of_lt (Nat.zero_le _) hQlt;have hqi:(q:Int)-1=(q':Int):=by omega
    have hri:(r:Int)+(v1:Int)=(r':Int):=by omega
    have HR':Hid (r'+q' * v1=tp):=by
     have h:=HR.out;have e:q=q'+1:=by omega
     rw [e,Nat.add_mul,Nat.one_mul] at h;rw [Hid,<-hr'];omega
    have HQQ:Hid (aa BB T / aa BB V<=q'):=by rw [Hid,<-hq'];exact Nat.le_sub_one_of_lt hQlt
    have br':r'<=tp:=by have:=HR'.out;exact Nat.le_trans (Nat.le_add_right _ _) (Nat.le_of_eq this)
    have hql:q'<q:=by omega
    have bq':q'<=tp:=by omega
    have wrr:IntKind.u64.wrap (r':Int)=(r':Int):=by rw [IntKind.wrap_u64];omega
    have wqq:IntKind.u64.wrap (q':Int)=(q':Int):=by rw [IntKind.wrap_u64];omega
    clear hq' hr' hQlt;rcases (show (1000000000<=r'/\q'<1000000000)\/r'<1000000000\/(1000000000<=r'/\1000000000<=q') by omega) with⟨b1',b2'⟩|b1'|⟨b1',b2'⟩
    ·have HX:Hid (q' * aa BB V<=aa BB T+aa BB V):=by have h:=HW.out.far q' r' HR'.out b1' b2';rw [HWIN.out] at h;exact h
     have b1i:(1000000000:Int)<=(r':Int):=by omega
     have b2i:(q':Int)<1000000000:=by omega
     clear b1' b2';go_wp2_with fail
     go_quiet (fail)
     have hcv1:=iQ hgr hne (HHV.out p (by have:=HP.out;omega));rw [hv1'] at hcv1;go_wp2_with fail
     go_loopw [9,10,88] (fun bo ca i wr'=>∃ (k b1 c1:Nat) (L':List Nat),i=.int .i64 k/\k<=m/\bo=.int .u64 b1/\ca=.int .u64 c1/\b1<=1/\c1<1000000000/\aY B g N c L' wr'/\w.grownBy wr' (some g)/\Hid (∀ d∈L',d<BB)/\Hid (L'.take o=L.take o)/\Hid ((L'.drop o).drop k=T.drop k)/\Hid (aa BB ((L'.drop o).take k)+q' * aa BB (V.take k)=aa BB (T.take k)+BB ^ k * (b1+c1))/\(k=m->c1=0)) (fun _ _ i _=>m-(intOf i).toNat)
     case atStart=>exact⟨0,0,0,L,rfl,by omega,rfl,rfl,by omega,by omega,hMr,⟨hgr.os,hgr.tape,hgr.output,hgr.size,hgr.block⟩,HL0,rfl,by rw [Hid,HT0.out],by simp [Hid,aa],fun h=>rfl⟩
     case round =>
      obtain⟨k,b1,c1,L',rfl,hk,rfl,rfl,hb1,hc1,hM',hg',HL',HTK,HDR,HEQ,hkm⟩:=hrel;by_cases hkl:k<m
      ·have hL'n:=hM'.1
       have hmn:=HM.out;have hjl:o+k<L'.length:=by omega
       have hcu:=hM'.cell hjl;have hfu:=hM'.frozen (o+k);have hbu:=HL'.out _ (List.getElem_mem hjl);have hgd:=mI HDR.out;rw [mH hjl,hgd] at hcu hbu;obtain⟨u,hu⟩:∃ x,T.getD k 0=x:=⟨_,rfl⟩;rw [hu] at hcu hbu;have hvkb:=getD_lt aC HVB.out k;obtain⟨vk,hvk⟩:∃ x,V.getD k 0=x:=⟨_,rfl⟩;rw [hvk] at hvkb;have hqv1:q' * vk<=999999999 * 999999999:=Nat.mul_le_mul (by omega) (by unfold BB at hvkb;omega);obtain⟨qv,hqv⟩:∃ x,q' * vk=x:=⟨_,rfl⟩;have hqvi:(q':Int) * (vk:Int)=(qv:Int):=by rw [<-hqv];exact (Int.natCast_mul q' vk).symm
       rw [hqv] at hqv1;obtain⟨hsr1,hsr2⟩:=uM (p:=c1+qv) hbu hb1;have HST:Hid (aa BB (((L'.set (o+k) ((u+BB-(c1+qv) % BB-b1) % BB)).drop o).take (k+1))+q' * aa BB (V.take (k+1))=aa BB (T.take (k+1))+BB ^ (k+1) * ((1-(u+BB-(c1+qv) % BB-b1) / BB)+(c1+qv) / BB)):=by
        rw [Hid,ig,nE (by rw [List.length_drop];omega),cK BB V,cK BB T,hvk,hu];exact uN HEQ.out (by rw [hqv]) hsr1
       have HTK2:Hid ((L'.set (o+k) ((u+BB-(c1+qv) % BB-b1) % BB)).take o=L.take o):=by rw [Hid,ny];exact HTK.out
       have HDR2:Hid (((L'.set (o+k) ((u+BB-(c1+qv) % BB-b1) % BB)).drop o).drop (k+1)=T.drop (k+1)):=by
        rw [Hid,ig,mF (by omega),<-List.drop_drop,<-List.drop_drop,HDR.out]
       have HSL:=Lib.hid (jY (j:=o+k) HL'.out (Nat.mod_lt (u+BB-(c1+qv) % BB-b1) aC));have HC2:=Lib.hid (tH (c1:=c1) hc1 hqv1);have HB2:=Lib.hid hsr2;have HSTO:=fun v=>hM'.store (o+k) v
       have hbu':u<1000000000:=hbu;have kb0:(0:Int)<=(k:Int):=by omega
       have km:(k:Int)<(m:Int):=by omega
       have HR1:Hid ((((u+BB-(c1+qv) % BB-b1) % BB:Nat):Int)=((u:Int)+1000000000-((c1:Int)+(qv:Int)) % 1000000000-(b1:Int)) % 1000000000):=by unfold Hid BB;omega
       have HR2:Hid (((1-(u+BB-(c1+qv) % BB-b1) / BB:Nat):Int)=1-((u:Int)+1000000000-((c1:Int)+(qv:Int)) % 1000000000-(b1:Int)) / 1000000000):=by unfold Hid BB;omega
       have HR3:Hid ((((c1+qv) / BB:Nat):Int)=((c1:Int)+(qv:Int)) / 1000000000):=by unfold Hid BB;omega
       clear hsr1 hsr2 hmn hgd hbu;by_cases hkn:k<n
       ·have hcv:=iQ hg' hne (HHV.out k hkn)
        rw [hvk] at hcv;have kn:(k:Int)<(n:Int):=by omega
        clear hvk hu hqv;go_wp2_with fail;go_roundw
        case rel=>exact⟨k+1,1-(u+BB-(c1+qv) % BB-b1) / BB,(c1+qv) / BB,L'.set (o+k) ((u+BB-(c1+qv) % BB-b1) % BB),by go_num,by omega,by rw [HR2.out],by rw [HR3.out],HB2.out,HC2.out,by rw [<-HR1.out];exact HSTO _,fV hg' _ _,HSL.out,HTK2.out,HDR2.out,HST.out,fun h=>by have:=HM.out;omega⟩
        case measure=>simp [intOf];omega
       ·have hqv0:qv=0:=by rw [<-hqv,<-hvk,eB (by omega)];rfl
        subst hqv0;clear hvk hu hqv;go_wp2_with fail;go_roundw
        case rel=>exact⟨k+1,1-(u+BB-(c1+0) % BB-b1) / BB,(c1+0) / BB,L'.set (o+k) ((u+BB-(c1+0) % BB-b1) % BB),by go_num,by omega,by rw [HR2.out];simp,by rw [HR3.out];simp,HB2.out,HC2.out,by have h:=HSTO ((u+BB-(c1+0) % BB-b1) % BB);rw [HR1.out] at h;simpa using h,fV hg' _ _,HSL.out,HTK2.out,HDR2.out,HST.out,fun h=>by unfold BB;omega⟩
        case measure=>simp [intOf];omega
      ·obtain rfl:k=m:=by omega
       obtain rfl:=hkm rfl;have hmn:=HM.out;have heq:=HEQ.out;have hVt:V.take k=V:=List.take_of_length_le (by omega);have hTt:aa BB (T.take k)=aa BB T:=by rw [<-hmn];exact HWIN.out
       have hdz:aa BB ((L'.drop o).drop k)=0:=by rw [HDR.out,<-hmn];exact HRES.out
       have hL'n:=hM'.1;have hXall:aa BB (L'.drop o)=aa BB ((L'.drop o).take k):=by
        rw [jO (T:=L'.drop o) (k:=k) (by rw [List.length_drop];omega),hdz];rfl
       rw [hVt,hTt,<-hXall,Nat.add_zero] at heq;have HEQ2:=Lib.hid heq;have HVP:=Lib.hid HW.out.vpos;clear hVt hTt hdz hXall heq;rcases (show b1=0\/b1=1 by omega) with rfl|rfl
       ·obtain⟨e1,e2⟩:=tZ HVP.out rfl HQQ.out (by have:=HEQ2.out;rw [Nat.mul_zero,Nat.add_zero] at this;exact this)
        have HE1:=Lib.hid e1;have HE2:=Lib.hid e2;clear e1 e2 hmn;go_wp2_with fail;go_returns;exact⟨kF (by have:=HE1.out;show ((q':Nat):Int)=((_:Nat):Int);rw [this]),L',hM',hg',HL'.out,HTK.out,HE2.out⟩
       ·clear hkm
        go_wp2_with fail
        go_loopw [10,129] (fun ca i wr''=>∃ (k2 c2:Nat) (L2:List Nat),i=.int .i64 k2/\k2<=k/\ca=.int .u64 c2/\c2<=1/\aY B g N c L2 wr''/\w.grownBy wr'' (some g)/\Hid (∀ d∈L2,d<BB)/\Hid (L2.take o=L.take o)/\Hid ((L2.drop o).drop k2=(L'.drop o).drop k2)/\Hid (aa BB ((L2.drop o).take k2)+BB ^ k2 * c2=aa BB ((L'.drop o).take k2)+aa BB (V.take k2))) (fun _ i _=>k-(intOf i).toNat)
        case atStart=>exact⟨0,0,L',rfl,by omega,rfl,by omega,hM',hg',HL',HTK,rfl,by simp [Hid,aa]⟩
        case round =>
         obtain⟨k2,c2,L2,rfl,hk2,rfl,hc2,hM2,hg2,HL2,HTK2,HDR2,HEQ3⟩:=hrel;have hL2n:=hM2.1;by_cases hkl2:k2<k
         ·have hjl:o+k2<L2.length:=by omega
          have hjl':k2<(L'.drop o).length:=by rw [List.length_drop];omega
          have hcu:=hM2.cell hjl;have hfu:=hM2.frozen (o+k2);have hbu:=HL2.out _ (List.getElem_mem hjl);have hgd:=mI HDR2.out;rw [mH hjl,hgd] at hcu hbu;obtain⟨u,hu⟩:∃ x,(L'.drop o).getD k2 0=x:=⟨_,rfl⟩;rw [hu] at hcu hbu;have hvkb:=getD_lt aC HVB.out k2;obtain⟨vk,hvk⟩:∃ x,V.getD k2 0=x:=⟨_,rfl⟩;rw [hvk] at hvkb;have hvkb':vk<1000000000:=hvkb;have hbu':u<1000000000:=hbu;have HST:Hid (aa BB (((L2.set (o+k2) ((u+c2+vk) % BB)).drop o).take (k2+1))+BB ^ (k2+1) * ((u+c2+vk) / BB)=aa BB ((L'.drop o).take (k2+1))+aa BB (V.take (k2+1))):=by
           rw [Hid,ig,nE (by rw [List.length_drop];omega),cK BB V,cK BB (L'.drop o),hvk,hu];exact sU HEQ3.out rfl
          have HTK3:Hid ((L2.set (o+k2) ((u+c2+vk) % BB)).take o=L.take o):=by rw [Hid,ny];exact HTK2.out
          have HDR3:Hid (((L2.set (o+k2) ((u+c2+vk) % BB)).drop o).drop (k2+1)=(L'.drop o).drop (k2+1)):=by
           rw [Hid,ig,mF (by omega),<-List.drop_drop,<-List.drop_drop,HDR2.out]
          have HSL:=Lib.hid (jY (j:=o+k2) HL2.out (Nat.mod_lt (u+c2+vk) aC));have HSTO:=fun v=>hM2.store (o+k2) v
          have kb0:(0:Int)<=(k2:Int):=by omega
          have km2:(k2:Int)<(k:Int):=by omega
          have HR1:Hid ((((u+c2+vk) % BB:Nat):Int)=((u:Int)+(c2:Int)+(vk:Int)) % 1000000000):=by unfold Hid BB;omega
          have HR2:Hid ((((u+c2+vk) / BB:Nat):Int)=((u:Int)+(c2:Int)+(vk:Int)) / 1000000000):=by unfold Hid BB;omega
          have HC2:Hid ((u+c2+vk) / BB<=1):=by unfold Hid BB;omega
          clear hgd hbu;by_cases hkn:k2<n
          ·have hcv:=iQ hg2 hne (HHV.out k2 hkn)
           rw [hvk] at hcv;have kn:(k2:Int)<(n:Int):=by omega
           clear hvk hu;go_wp2_with fail;go_roundw
           case rel=>exact⟨k2+1,(u+c2+vk) / BB,L2.set (o+k2) ((u+c2+vk) % BB),by go_num,by omega,by rw [HR2.out],HC2.out,by rw [<-HR1.out];exact HSTO _,fV hg2 _ _,HSL.out,HTK3.out,HDR3.out,HST.out⟩
           case measure=>simp [intOf];omega
          ·obtain rfl:vk=0:=by rw [<-hvk,eB (by omega)]
           clear hvk hu;go_wp2_with fail;go_roundw
           case rel=>exact⟨k2+1,(u+c2+0) / BB,L2.set (o+k2) ((u+c2+0) % BB),by go_num,by omega,by rw [HR2.out];simp,HC2.out,by have h:=HSTO ((u+c2+0) % BB);rw [HR1.out] at h;simpa using h,fV hg2 _ _,HSL.out,HTK3.out,HDR3.out,HST.out⟩
           case measure=>simp [intOf];omega
         ·obtain rfl:k2=k:=by omega
          have hmn:=HM.out;have heq3:=HEQ3.out;have hVt:V.take k2=V:=List.take_of_length_le (by omega);have hdz':aa BB ((L'.drop o).drop k2)=0:=by rw [HDR.out,<-hmn];exact HRES.out
          have hXall':aa BB (L'.drop o)=aa BB ((L'.drop o).take k2):=by
           rw [jO (T:=L'.drop o) (k:=k2) (by rw [List.length_drop];omega),hdz'];rfl
          have hdz2:aa BB ((L2.drop o).drop k2)=0:=by rw [HDR2.out];exact hdz'
          have hX2:aa BB (L2.drop o)=aa BB ((L2.drop o).take k2):=by
           rw [jO (T:=L2.drop o) (k:=k2) (by rw [List.length_drop];omega),hdz2];rfl
          rw [hVt,<-hX2,<-hXall'] at heq3;have hb1:=jM aC (T:=L'.drop o) (fun d hd=>HL'.out d (List.mem_of_mem_drop hd)) k2;have hb2:=jM aC (T:=L2.drop o) (fun d hd=>HL2.out d (List.mem_of_mem_drop hd)) k2;rw [<-hXall'] at hb1;rw [<-hX2] at hb2;have hVE:aa BB V<=BB ^ k2:=by
           have:=jN HVB.out;have h2:BB ^ V.length<=BB ^ k2:=Nat.pow_le_pow_right aC (by omega);omega
          obtain⟨e1,e2⟩:=uf HVP.out rfl (by have:=HEQ2.out;rw [Nat.mul_one] at this;exact this) hb1 HX.out heq3 hb2 hVE;have HE1:=Lib.hid e1;have HE2:=Lib.hid e2;have hq1:1<=q':=Nat.le_trans (Nat.le_add_left 1 _) (Nat.le_of_eq e1.symm);clear e1 e2 hmn heq3 hVt hdz' hXall' hdz2 hX2 hb1 hb2 hVE;go_wp2_with fail;go_returns;exact⟨kF (by have:=HE1.out;show (q':Int)-1=((_:Nat):Int);generalize aa BB T / aa BB V=z at this ⊢;omega),L2,hM2,hg2,HL2.out,HTK2.out,HE2.out⟩
    ·have b1i:(r':Int)<1000000000:=by omega
     have b1d:decide ((1000000000:Int)<=(r':Int))=false:=decide_eq_false (by omega);clear b1';go_wp2_with fail
     go_quiet (fail)
     have hcv1:=iQ hgr hne (HHV.out p (by have:=HP.out;omega));rw [hv1'] at hcv1;go_wp2_with fail;go_roundw
     case rel=>exact⟨q',r',rfl,rfl,br',bq',hMr,⟨hgr.os,hgr.tape,hgr.output,hgr.size,hgr.block⟩,HR',HQQ⟩
     case measure=>simp only [intOf];omega
    ·have b1i:(1000000000:Int)<=(r':Int):=by omega
     have b2i:(1000000000:Int)<=(q':Int):=by omega
     have b2d:decide ((q':Int)<1000000000)=false:=decide_eq_false (by omega);clear b1' b2';go_wp2_with fail
     go_quiet (fail)
     have hcv1:=iQ hgr hne (HHV.out p (by have:=HP.out;omega));rw [hv1'] at hcv1;go_wp2_with fail;go_roundw
     case rel=>exact⟨q',r',rfl,rfl,br',bq',hMr,⟨hgr.os,hgr.tape,hgr.output,hgr.size,hgr.block⟩,HR',HQQ⟩
     case measure=>simp only [intOf];omega
end Go.Proofs.YtppnecgeboonbaaGreatDoor.Rat3
