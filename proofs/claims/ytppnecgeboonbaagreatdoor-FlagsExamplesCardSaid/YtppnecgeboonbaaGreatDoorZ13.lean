/- Walks: the division of blocks. -/
import Derived.Test.YtppnecgeboonbaaGreatDoorZ12
namespace Go.Proofs.YtppnecgeboonbaaGreatDoor.Rat3
set_option maxRecDepth 100000
set_option linter.unusedVariables false
set_option maxHeartbeats 4000000
open Go.RowKit
section
variable {P:Program}
theorem Oz {ops:Array Oper} {rest:List Oper} {o:Oper} {a:Act} {Q:Exit->Act->World->Prop} {w:World} {e:TypeId} {u:Value} (hgd:o.guard=none) (s x:Operand) (t:TypeId)
  (ho:o.op=.call { callee:=.builtin .append,args:=#[s,x],argTypes:=#[t,t] })
  (B:Nat) (i:TypeInfo) (z:Value) (bytes:Nat) (ht:P.underlying t=some (.slice e)) (hi:P.info? e=some i) (hz:i.zero=some z)
  (hsize:i.size=1) (hby:i.bytes=bytes) (hzs:z.cells.size=1)
  (v:Value) (cs:List Value) (hs:a.eval s=v) (hown:Own B e v cs w) (c:Nat) (hx:a.eval x=.slice (some ⟨w.heap.size,0,none⟩) 1 c) (h1:u.oneCell'=true)
  (hb1:cs.length+1<=maxLen) (hbytes:(cs.length+1) * bytes<=140737488355328) (hB:B<=w.heap.size)
  (h:∀ v' w',Own B e v' (cs++[u]) w'->w.grownBy w' v.ownBlock->Below B w w'->(v'.ownBlock=v.ownBlock\/v'.ownBlock=some (w.heap.size+1))->wpList P ops Q rest (a.put o.dst v') w'):wpList P ops Q (o::rest) a (w.alloc (.cells #[u] e)):=by
 refine wpList_append_own_at _ hgd s x t ho B e i z 1 bytes ht hi hz hsize hby hzs (by decide) v cs.length cs hs (hown.alloc _) ⟨w.heap.size,0,none⟩ 1 c [u] hx rfl ?_ ?_ hb1 hbytes (by simp;omega) ?_
 ·intro j y hy
  match j,hy with
  | 0,hy=>simp at hy;subst hy;simp [Addr.add]
 ·intro y hy;simp at hy;subst hy;exact h1
 ·intro v' w' h2 h3 h4 h5
  have hg:w.grownBy w' v.ownBlock:=⟨h3.os,h3.tape,h3.output,Nat.le_trans (by simp) h3.size,fun k hk hne=>(h3.block k (by simp;omega) hne).trans (Below.heap_alloc w _ k hk)⟩;refine h v' w' (by unfold Own;rw [List.length_append];exact h2) hg ?_ ?_
  ·exact (Below.refl B w).grown hg hB (fun k hk=>(hown.lt k hk).1)
  ·rcases h5 with h5|h5
   ·exact Or.inl h5
   ·right;rw [h5];simp
end
theorem Own.made {B:Nat} {v:Value} {L:List Nat} {w:World} (h:Own B 231 v (L.map U) w) (hne:L≠[]):∃ g c,v=.slice (some ⟨g,0,none⟩) L.length c/\B<=g/\g<w.heap.size/\L.length<=c/\aY B g L.length c L w:=by
 have h':=h;unfold Own at h';rw [List.length_map] at h';rcases h'.2 with⟨rfl,h0⟩|⟨g,cap,cur,rfl,hB,hg,hn,hm,hc,ht⟩
 ·exact absurd (List.eq_nil_of_length_eq_zero h0) hne
 ·exact⟨g,cap,rfl,hB,(Array.getElem?_eq_some_iff.1 hg).1,hn,rfl,h'⟩
theorem aY.own {B g n c:Nat} {L:List Nat} {w:World} (h:aY B g n c L w):Own B 231 (.slice (some ⟨g,0,none⟩) n c) (L.map U) w:=by
 unfold Own;rw [List.length_map,h.1];exact h.2
theorem aY.grown {B g n c g':Nat} {L:List Nat} {w w':World} (h:aY B g n c L w) (hg:w.grownBy w' (some g')) (hne:g≠g'):aY B g n c L w' :=
 ⟨h.1,World.ownsRow.kept h.2 hg (Or.inr (by simp [Value.ownBlock];exact hne))⟩
theorem aY.below {B g n c:Nat} {L:List Nat} {w w':World} (h:aY B g n c L w) (hb:Below w.heap.size w w'):aY B g n c L w' :=
 ⟨h.1,World.ownsRow.kept h.2 (oL hb none) (Or.inr (by simp [Value.ownBlock]))⟩
theorem aY.upto {B g n c k:Nat} {L:List Nat} {w:World} (h:aY B g n c L w) (hk:k<=n):aY B g k c (L.take k) w:=by
 have h1:=h.own.upto (k:=k) (by rw [List.length_map,h.1];exact hk);have hl:(L.take k).length=k:=by rw [List.length_take,h.1];omega
 refine⟨hl,?_⟩;unfold Own at h1;rw [<-List.map_take,List.length_map,hl] at h1;exact h1
theorem aY.kept {B g n c:Nat} {L:List Nat} {w w':World} {row:Option Nat} (h:aY B g n c L w) (hg:w.grownBy w' row) (hne:some g≠row):aY B g n c L w' :=
 ⟨h.1,World.ownsRow.kept h.2 hg (Or.inr (by simpa [Value.ownBlock] using hne))⟩
theorem Made.c {B g n:Nat} {L:List Nat} {w:World} (h:Made B g n L w):aY B g n n L w:=h
def At (w:World) (b:Nat) (V:List Nat):Prop:=∀ j (h:j<V.length),w.cell? ⟨b,0+j,none⟩=some (.int .u64 V[j])
theorem At.grown {w w':World} {b g:Nat} {V:List Nat} (h:At w b V) (hg:w.grownBy w' (some g)) (hne:b≠g):At w' b V:=fun j hj=>iQ hg hne (h j hj)
theorem At.kept {w w':World} {b:Nat} {V:List Nat} {row:Option Nat} (h:At w b V) (hg:w.grownBy w' row) (hne:some b≠row):At w' b V:=fun j hj=>by
 have hc:=h j hj;have e:=hg.block b (ax hc) hne;unfold World.cell? at hc ⊢;rw [e];exact hc
theorem aY.at {B g n c:Nat} {L:List Nat} {w:World} (h:aY B g n c L w):At w g L:=fun j hj=>by rw [Nat.zero_add];exact h.cell hj
def EN (w:World) (q r:Nat) (e:Ending) (w':World):Prop :=
 ∃ A c A' c',e=.returned (.tuple #[.slice A (blk q).length c,.slice A' (blk r).length c'])/\(blk q).length<=c/\(blk r).length<=c'/\ay w' A ((blk q).map U)/\ay w' A' ((blk r).map U)/\Below w.heap.size w w'
theorem Gu (A B:Option Addr) (c d m n:Nat) (w:World) (hn:n≠0) (hA:ay w A ((blk m).map U)) (hB:ay w B ((blk n).map U)) (hm:(blk m).length<=1000) (hnl:(blk n).length<=1000) (hc:(blk m).length<=c) :
  Calls Tryz.prog 209 #[.slice A (blk m).length c,.slice B (blk n).length d] w (EN w (m / n) (m % n)):=by
 obtain⟨i0,hi,hz0,hz1,hz2⟩:=info_parts rZ;by_cases hlt:m<n
 ·have hcmp:=fun W h1 h2=>vo A B c d m n W h1 h2 (by omega) (by omega)
  rw [lu hlt] at hcmp;have hq:m / n=0:=Nat.div_eq_of_lt hlt;have hr:m % n=m:=Nat.mod_eq_of_lt hlt;rw [hq,hr];clear hq hr hlt hn hi;generalize hX:(blk m).length=X at *;generalize (blk n).length=Y at *;go_enter Tryz.func209,Tryz.ntmps209;go_wp2_with fail;refine (hcmp _ hA hB).mono ?_;rintro e w1 ⟨rfl,b1⟩;go_wp2_with fail;go_returns;exact⟨none,0,A,c,by simp [zM,hX],by simp [zM],by omega,ay.nil _ _,hA.below b1,b1⟩
 ·have hmn:n<=m:=by omega
  have hm0:m≠0:=by omega
  have hcmp:=fun W h1 h2=>vo A B c d m n W h1 h2 (by omega) (by omega)
  obtain⟨cc,hcc⟩:∃ z,bZ m n=z:=⟨_,rfl⟩;have hcge:¬ cc<0:=by rw [<-hcc];intro h;have:=(nL m n).1 h;omega
  rw [hcc] at hcmp;clear hcc hlt;obtain⟨K,hK⟩:∃ z,jX n=z:=⟨_,rfl⟩;have hK1:1<=K:=by rw [<-hK];exact wE n
  have hKB:K<=BB:=by rw [<-hK];exact DZ n
  have su:=fun W h1=>DY A c m K W hKB h1 (by omega)
  have sv:=fun W h1=>DY B d n K W hKB h1 (by omega)
  have hul:=ME m n;have hvl:=MC hn;rw [hK] at hul hvl;have hYpos:=List.length_pos_iff.2 (nK hn);have hYX:(blk n).length<=(blk m).length:=by
   apply (iD dN _ _).2;have:=qU m;omega
  have HOPEN:Hid (∀ L:List Nat,L.length=(blk m).length+1->aa BB L=K * m->aa BB (L.drop (L.length-(blk n).length))<K * n):=by
   rw [Hid,<-hK];exact fun L h1 h2=>Gr hn hmn h1 h2
  have hyl:=ib n;have hKe:BB / ((blk n).getD ((blk n).length-1) 0+1)=K:=hK;have hUne:blk (K * m)≠[]:=nK (Nat.mul_ne_zero (by omega) hm0);have hVne:blk (K * n)≠[]:=nK (Nat.mul_ne_zero (by omega) hn);have HUL:=Lib.hid (ib (K * m));have HVL:=Lib.hid (ib (K * n));have HUV:=Lib.hid (gM (K * m));have HVV:=Lib.hid (gM (K * n));have HVC:=Lib.hid (xw (K * n));obtain⟨bB,oB,rfl,hbB,hcellB⟩:=hB (by intro e;rw [List.map_eq_nil_iff] at e;exact nK hn e);have hBrow:ay w (some ⟨bB,oB,none⟩) ((blk n).map U):=fun _=>⟨bB,oB,rfl,hbB,hcellB⟩
  have htop:=hcellB ((blk n).length-1) _ (gP (show (blk n).length-1<(blk n).length by omega));have hyt:=hyl _ (List.getElem_mem (show (blk n).length-1<(blk n).length by omega));rw [kv (show (blk n).length-1<(blk n).length by omega)] at hKe;generalize (blk n)[(blk n).length-1]=yt at htop hyt hKe;have hyt':yt<1000000000:=hyt;generalize (blk m).length=X at *;generalize (blk n).length=Y at *;obtain⟨p,hp⟩:∃ p,Y-1=p:=⟨_,rfl⟩;rw [hp] at htop;have hpi:(Y:Int)-1=(p:Int):=by omega
  have hp0:(0:Int)<=(p:Int):=by omega
  have hpY:(p:Int)<(Y:Int):=by omega
  have hKi:(1000000000:Int) / ((yt:Int)+1)=(K:Int):=by
   have h1:((1000000000 / (yt+1):Nat):Int)=(1000000000:Int) / ((yt:Int)+1):=Int.natCast_ediv _ _;rw [<-h1];congr 1
  have hKt:(1000000000:Int).tdiv ((yt:Int)+1)=(K:Int):=by rw [Int.tdiv_eq_ediv_of_nonneg (by omega)];exact hKi
  have wyt:IntKind.u64.wrap ((yt:Int)+1)=(yt:Int)+1:=by rw [IntKind.wrap_u64];omega
  have wK:IntKind.u64.wrap (K:Int)=(K:Int):=by unfold BB at hKB;rw [IntKind.wrap_u64];omega
  have yne:¬ ((yt:Int)+1)=0:=by omega
  have HKn:Hid (0<K * n):=Nat.mul_pos hK1 (Nat.pos_of_ne_zero hn);clear hcellB hK hKe hyl hyt hp hB hn hm0;have hb0:Below w.heap.size w w:=Below.refl _ _;go_enter Tryz.func209,Tryz.ntmps209;go_wp2_with fail;refine (hcmp _ hA hBrow).mono ?_;rintro e w1 ⟨rfl,b1⟩;have ht1:w1.cell? ⟨bB,oB+p,none⟩=some (.int .u64 yt):=(b1.cell (p:=⟨bB,oB+p,none⟩) hbB).trans htop;have hA1:=ae hb0 b1;clear htop;go_wp2_with fail;clear hcmp ht1 hp0 hpY hpi hKi hKt wyt yne hcge;refine (su _ (hA.below b1)).mono ?_;rintro e w2 ⟨vu,rfl,hu,b2⟩;have hA2:=ae hA1 b2;go_wp2_with fail;refine (sv _ ((hBrow.below b1).below b2)).mono ?_;rintro e w3 ⟨vv,rfl,hv,b3⟩;have hA3:=ae hA2 b3;obtain⟨gu,cu,rfl,hgu1,hgu2,hcu,hmu⟩:=hu.made hUne;obtain⟨gv,cv,rfl,hgv1,hgv2,hcv,hmv⟩:=hv.made hVne;have hmu3:=hmu.below b3;have hat:=hmv.at;clear hu hv hmu hmv su sv hUne hVne hBrow hA;obtain⟨X1,hX1⟩:∃ z,X+1=z:=⟨_,rfl⟩;rw [hX1] at hul;obtain⟨hul1,hul2⟩:=hul;obtain⟨ku,hku⟩:∃ z,(blk (K * m)).length=z:=⟨_,rfl⟩;rw [hku] at hmu3 hul1 hul2 hcu;rw [hvl] at hcv;have hgne:gu≠gv:=by omega
  have hgub:w.heap.size<=gu:=by have:=b1.size;omega
  rw [hku,hvl];have hmu3':aY w.heap.size gu ku cu (blk (K * m)) w3:=⟨hmu3.1,by
   have h1:=(hmu3.own).lower (B':=w.heap.size) b1.size;unfold Own at h1;rw [List.length_map,hmu3.1] at h1;exact h1⟩
  clear hmu3;generalize blk (K * n)=V at *;generalize blk (K * m)=U0 at *;go_wp2_with fail
  go_loopw [8] (fun u wr=>∃ (k g cw:Nat) (L:List Nat),u=.slice (some ⟨g,0,none⟩) k cw/\aY w.heap.size g k cw L wr/\X<=k/\k<=X1/\k<=cw/\g≠gv/\w.heap.size<=g/\gv<wr.heap.size/\Below w.heap.size w wr/\At wr gv V/\Hid (∀ d∈L,d<BB)/\Hid (aa BB L=K * m)) (fun u _=>X1-sliceLen u)
  case atStart=>exact⟨ku,gu,cu,U0,rfl,hmu3',hul1,hul2,hcu,hgne,hgub,hgv2,hA3,hat,HUL,HUV⟩
  case round =>
   obtain⟨k,g,cw,L,rfl,hmk,hk1,hk2,hk3,hg1,hg2,hg3,hbr,hat',HL,HV⟩:=hrel;clear hmu3' hul1 hul2 hgne hgub hgu1 hgu2 hgv1 hgv2 hat HUL HUV hku hcu;by_cases hk:k<=X
   ·have hLk:=hmk.1
    have hml:(L.map U).length+1<=maxLen:=by rw [List.length_map];unfold maxLen;omega
    have hmb:((L.map U).length+1) * 8<=140737488355328:=by rw [List.length_map];omega
    have hown:=hmk.own;have hki:(k:Int)<=(X:Int):=by omega
    have HZ:=Lib.hid hX1;clear hX1;go_wp2_with (at_builtin;refine Oz rfl (.tmp 40) (.tmp 41) 229 rfl w.heap.size i0 _ 8 Tryz.underlying229 hi hz0 hz1 hz2 rfl (.slice (some ⟨g,0,none⟩) k cw) (L.map U) rfl hown 1 rfl rfl hml hmb hbr.size ?_;intro v' w4 hown4 hgr4 hb4 hloc4);go_roundw
    case rel =>
     have hown5:Own w.heap.size 231 v' ((L++[0]).map U) w4:=by rw [<-jQ];exact hown4
     obtain⟨g',c',rfl,h1,h2,h3,h4⟩:=hown5.made (by simp);have hl5:(L++[0]).length=k+1:=by rw [List.length_append,hLk];rfl
     rw [hl5] at h3 h4;have hg':g'≠gv:=by
      rcases hloc4 with h|h
      ·simp [Value.ownBlock] at h;rw [h];exact hg1
      ·simp [Value.ownBlock] at h;omega
     refine⟨k+1,g',c',L++[0],by rw [hl5],h4,by omega,by have:=HZ.out;omega,h3,hg',h1,by have:=hb4.size;omega,hbr.trans hb4,hat'.kept hgr4 (by simp [Value.ownBlock];exact fun e=>hg1 e.symm),?_,?_⟩
     ·intro x hx
      rcases List.mem_append.1 hx with hx|hx
      ·exact HL.out x hx
      ·rw [List.mem_singleton.1 hx];exact aC
     ·rw [Hid,nD,HV.out];simp
    case measure =>
     have hl4:=hown4.1;have hv4:=hown4.row.to (n:=k+1) (by rw [List.length_append,List.length_map,hLk];rfl);obtain⟨A',c',rfl,h1,_⟩:=hv4;have:=HZ.out;simp only [sliceLen];omega
   ·obtain rfl:k=X1:=by omega
    have hLk:=hmk.1;obtain⟨N,hN⟩:∃ z,k-Y=z:=⟨_,rfl⟩;have hNi:(k:Int)-(Y:Int)=(N:Int):=by omega
    have hopen:=HOPEN.out L (by omega) HV.out;rw [hLk,hN] at hopen;have HOP:=Lib.hid hopen;have hki:(X:Int)<(k:Int):=by omega
    have hNk:N+Y=k:=by omega
    have hkb:k<=1001:=by omega
    obtain⟨gq,hgq⟩:∃ z,wr.heap.size=z:=⟨_,rfl⟩;have hggq:g<gq:=by rw [<-hgq];exact ax (hmk.cell (j:=0) (by omega))
    clear hopen HOPEN hk hk1 hk2 hX1 hN;go_wp2_with (at_make;refine wpList_make_full _ rfl (.tmp 46) (.tmp 46) 229 rfl w.heap.size 231 i0 (.int .u64 0) 1 Tryz.underlying229 hi hz0 hz1 .i64 .i64 _ _ N rfl rfl (by omega) (by omega) (by rw [hz2];omega) (by unfold maxLen;omega) hbr.size ?_;intro w5 own5 hg5);have hmade:(madeCells (Value.int .u64 0).cells (N * 1)).toList=(List.replicate N 0).map U:=by
     rw [Nat.mul_one,List.map_replicate];exact toList_madeCells_one (.int .u64 0) N
    rw [hmade] at own5;have hb5:Below w.heap.size w w5:=hbr.grown hg5 hbr.size (by simp);have hu5:=hmk.kept hg5 (by simp);have hv5:=hat'.kept hg5 (by simp);rw [hgq] at own5;have hq5:aY w.heap.size gq N N (List.replicate N 0) w5:=⟨by simp,own5⟩;have hgqv:gq≠gv:=by omega
    clear hmade hg5 own5 hgq hmk hat' hbr hg3
    go_loopw [50] (fun i wr=>∃ (i1 t:Nat) (L Q:List Nat),i=.int .i64 i1/\i1+t=N/\aY w.heap.size g k cw L wr/\aY w.heap.size gq N N Q wr/\At wr gv V/\Below w.heap.size w wr/\Hid (∀ d∈L,d<BB)/\Hid (∀ d∈Q,d<BB)/\Hid (K * m=BB ^ t * aa BB (Q.drop t) * (K * n)+aa BB L)/\Hid (aa BB (L.drop t)<K * n)) (fun i _=>N-(intOf i).toNat)
    case atStart =>
     refine⟨0,N,L,List.replicate N 0,rfl,by omega,hu5,hq5,hv5,hb5,HL,fun x hx=>by rw [List.eq_of_mem_replicate hx];exact aC,?_,HOP⟩;rw [Hid,HV.out,List.drop_eq_nil_of_le (by simp)];simp [aa]
    case round =>
     obtain⟨i1,t,L1,Q,rfl,hit,hu,hq,hv,hb,HL1,HQ,HE,HT⟩:=hrel;clear hu5 hq5 hv5 hb5 HOP HV HL;by_cases hlt:i1<N
     ·obtain⟨o,rfl⟩:∃ o,t=o+1:=⟨t-1,by omega⟩
      have hL1:=hu.1;have hQ1:=hq.1;have hwin:=Gt (o:=o) (by omega) HL1.out HT.out;have hdig:=fun cuu cvv=>Gn w.heap.size g k cw o Y cuu gv 0 cvv L1 V wr hu HL1.out HVL.out HVC.out hvl (by omega) (by omega) (by omega) (fun e=>hg1 e.symm) hv (by rw [HVV.out];exact hwin)
      simp only [HVV.out] at hdig;have HRND:=Lib.hid (fun (L':List Nat) (hl:L'.length=L1.length) ht hd=>Gs (V:=K * n) HKn.out (by omega) (by omega) hl HE.out ht hd);have HDG:=Lib.hid (Gp hwin);generalize aa BB (L1.drop o) / (K * n)=z at *;clear hwin;have oi:(N:Int)-1-(i1:Int)=(o:Int):=by omega
      have o0:(0:Int)<=(o:Int):=by omega
      have oN:(o:Int)<(N:Int):=by omega
      have oc:(o:Int)+(Y:Int)+1<=(cw:Int):=by omega
      have oy:(o:Int)<=(o:Int)+(Y:Int)+1:=by omega
      go_wp2_with fail;rw [show o+Y+1-o=Y+1 by omega];refine (hdig _ _).mono ?_;rintro e w6 ⟨rfl,L2,hu6,hgr6,hL2,htk,hdr⟩;have hq6:=hq.kept hgr6 (by simp;omega);have hv6:=hv.kept hgr6 (by simp;omega);have hb6:Below w.heap.size w w6:=hb.grown hgr6 hb.size (fun j hj=>by injection hj with hj;omega);have HR6:=Lib.hid (HRND.out L2 (by rw [hu6.1,hL1]) htk hdr);have hcq:=hq6.cell (j:=o) (by omega);have hfq:=hq6.frozen o;have hst:=hq6.store o z;have hgst:=fV (vL w6 gq) o (.int .u64 z);have hu7:=hu6.kept hgst (by simp;omega);have hv7:=hv6.kept hgst (by simp;omega);have hb7:Below w.heap.size w (w6.setCell ⟨gq,o,none⟩ (.int .u64 z)):=hb6.setCell (p:=⟨gq,o,none⟩) (by show w.heap.size<=gq;omega) _;have HSL:=Lib.hid (jY (j:=o) HQ.out HDG.out);clear hdig HRND htk hdr hgr6 hu hq hv hb hu6 hq6 hv6 hgst;go_wp2_with fail;go_roundw
      case rel=>exact⟨i1+1,o,L2,Q.set o z,by go_num,by omega,hu7,hst,hv7,hb7,hL2,HSL,HR6.out.1,HR6.out.2⟩
      case measure=>simp [intOf];omega
     ·obtain rfl:i1=N:=by omega
      obtain rfl:t=0:=by omega
      have hE:=HE.out;rw [Nat.pow_zero,Nat.one_mul,List.drop_zero] at hE;have hT:=HT.out;rw [List.drop_zero] at hT;obtain⟨e1,e2⟩:=Gq hK1 hE hT;have HQT:Hid (aV Q=blk (m / n)):=by rw [Hid,qC dN HQ.out,e1];rfl
      obtain⟨R,hR⟩:∃ z,(aV L1).length=z:=⟨_,rfl⟩;have hL1:=hu.1;have hQ1:=hq.1;have hRle:=nA L1;have htr:=pu (some ⟨g,0,none⟩) cw L1 wr hu.row (by omega) (by omega);rw [hL1,hR] at htr;have hu6:=hu.upto (k:=R) (by omega);have htk:L1.take R=aV L1:=by rw [<-hR];exact (oz L1).symm
      rw [htk] at hu6;have HR0:Hid (∀ d∈aV L1,d<BB):=Et HL1.out;have HRV:Hid (aa BB (aV L1)=K * (m % n)):=by rw [Hid,yU,e2]
      have hRk:R<=k:=by omega
      clear hE hT e1 e2 htk hRle HE HT HL1 hu hv;generalize aV L1=R0 at *;go_wp2_with (go_at_call 195;refine htr.mono ?_;rintro e wx ⟨rfl,rfl⟩)
      go_loopw [12,75] (fun lf i wr'=>∃ (l0 i2 t:Nat) (L:List Nat),lf=.int .u64 l0/\i=.int .i64 i2/\i2+t=R/\l0<K/\aY w.heap.size g R cw L wr'/\aY w.heap.size gq i1 i1 Q wr'/\Below w.heap.size w wr'/\Hid (∀ d∈L,d<BB)/\Hid (L.take t=R0.take t)/\Hid (aa BB (R0.drop t)=K * aa BB (L.drop t)+l0)) (fun _ i _=>R-(intOf i).toNat)
      case atStart =>
       refine⟨0,0,R,R0,rfl,rfl,by omega,by omega,hu6,hq,hb,HR0,rfl,?_⟩;rw [Hid,List.drop_eq_nil_of_le (by omega)];simp [aa]
      case round =>
       obtain⟨l0,i2,t,L,rfl,rfl,hit,hl0,hu,hq',hb',HL,HTK,HE⟩:=hrel;have hLR:=hu.1;clear hu6 hq hb;by_cases hlt:i2<R
       ·obtain⟨o,rfl⟩:∃ o,t=o+1:=⟨t-1,by omega⟩
        have hsr:=ML (o:=o) (by omega) HR0.out (by omega) (by omega) HTK.out hl0 HE.out;have hcr:=hu.cell (j:=o) (by omega);have hfr:=hu.frozen o;have hxb:=HL.out _ (List.getElem_mem (show o<L.length by omega));generalize L[o]=x at *;obtain⟨s,hs⟩:∃ z,l0 * BB+x=z:=⟨_,rfl⟩;rw [hs] at hsr;obtain⟨sd,hsd⟩:∃ z,s / K=z:=⟨_,rfl⟩;obtain⟨sm,hsm⟩:∃ z,s % K=z:=⟨_,rfl⟩;rw [hsd,hsm] at hsr;obtain⟨r1,r2,r3,r4⟩:=hsr;have HR3:=Lib.hid r3;have HR4:=Lib.hid r4;have hxb':x<1000000000:=hxb;have hKB':K<=1000000000:=hKB;have hsv:l0 * 1000000000+x=s:=hs;have w1:IntKind.u64.wrap ((l0:Int) * 1000000000)=(l0:Int) * 1000000000:=by rw [IntKind.wrap_u64];omega
        have hsi:(l0:Int) * 1000000000+(x:Int)=(s:Int):=by omega
        have w2:IntKind.u64.wrap (s:Int)=(s:Int):=by rw [IntKind.wrap_u64];omega
        have d1:(s:Int) / (K:Int)=(sd:Int):=by rw [<-hsd];exact (Int.natCast_ediv s K).symm
        have d2:(s:Int) % (K:Int)=(sm:Int):=by rw [<-hsm];exact (Int.natCast_emod s K).symm
        have d3:(s:Int).tdiv (K:Int)=(sd:Int):=by rw [Int.tdiv_eq_ediv_of_nonneg (by omega)];exact d1
        have d4:(s:Int).tmod (K:Int)=(sm:Int):=by rw [Int.tmod_eq_emod_of_nonneg (by omega)];exact d2
        have kne:¬ (K:Int)=0:=by omega
        have kne3:¬ K=0:=by omega
        have kneb:((K:Int) == 0)=false:=beq_eq_false_iff_ne.2 (by omega);have r1':sd<1000000000:=r1;have w3:IntKind.u64.wrap (sd:Int)=(sd:Int):=by rw [IntKind.wrap_u64];omega
        have w4:IntKind.u64.wrap (sm:Int)=(sm:Int):=by rw [IntKind.wrap_u64];omega
        have oi:(R:Int)-1-(i2:Int)=(o:Int):=by omega
        have o0:(0:Int)<=(o:Int):=by omega
        have oR:(o:Int)<(R:Int):=by omega
        have hst:=hu.store o sd;have hstd:aY w.heap.size g R cw (L.set o sd) (wr.drew.setCell ⟨g,o,none⟩ (.int .u64 sd)):=hst;have hqd:aY w.heap.size gq i1 i1 Q (wr.drew.setCell ⟨g,o,none⟩ (.int .u64 sd)):=hq'.kept (fV (xU (vL wr g)) o (.int .u64 sd)) (by simp;omega);have hq2:aY w.heap.size gq i1 i1 Q (wr.setCell ⟨g,o,none⟩ (.int .u64 sd)):=hq'.kept (fV (vL wr g) o (.int .u64 sd)) (by simp;omega);have hb2:Below w.heap.size w (wr.setCell ⟨g,o,none⟩ (.int .u64 sd)):=hb'.setCell (p:=⟨g,o,none⟩) (by show w.heap.size<=g;omega) _;have hbd:Below w.heap.size w (wr.drew.setCell ⟨g,o,none⟩ (.int .u64 sd)):=hb'.drew.setCell (p:=⟨g,o,none⟩) (by show w.heap.size<=g;omega) _;have HSL:=Lib.hid (jY (j:=o) HL.out r1);clear hs hsd hsm r3 r4 hxb r1;go_wp2_with fail
        go_region_held3 (fun w'=>w'.frozen? ⟨g,o,none⟩=false) (first|assumption|exact hfr|exact hst.frozen o) (fail)
        all_goals go_wp2_with fail
        all_goals go_roundw
        all_goals first
         | (case rel=>exact⟨sm,i2+1,o,L.set o sd,rfl,by go_num,by omega,r2,hstd,hqd,hbd,HSL,HR3,HR4⟩)
         | (case measure=>simp [intOf];omega)
       ·obtain rfl:i2=R:=by omega
        obtain rfl:t=0:=by omega
        have hE:=HE.out;rw [List.drop_zero,List.drop_zero,HRV.out] at hE;have e1:=MJ (by omega) hE hl0;have HLT2:Hid (aV L=blk (m % n)):=by rw [Hid,qC dN HL.out,e1];rfl
        have hrq:=hq'.row;have hrr:=hu.row;have t1:=pu (some ⟨gq,0,none⟩) i1 Q wr hrq (by omega) (by omega);have t2:=pu (some ⟨g,0,none⟩) cw L wr hrr (by omega) (by omega);rw [hq'.1] at t1;rw [hLR] at t2;have l1:=nA Q;have l2:=nA L;have hr1:=hrq.take (aV Q).length;have hr2:=hrr.take (aV L).length;rw [<-List.map_take,<-oz] at hr1 hr2;rw [HQT.out] at t1 l1 hr1;rw [HLT2.out] at t2 l2 hr2;clear hE e1 HE HTK hrq hrr
        go_wp2_with (first
         | (go_at_call_of 195 (Value.slice (some ⟨gq,0,none⟩) i1 i1);refine t1.mono ?_;rintro e wx ⟨rfl,rfl⟩)
         | (go_at_call_of 195 (Value.slice (some ⟨g,0,none⟩) i2 cw);refine t2.mono ?_;rintro e wx ⟨rfl,rfl⟩))
        go_returns;exact⟨_,_,_,_,rfl,by omega,by omega,hr1,hr2,hb'⟩
def oI (w:World) (r:Bs × Bs × Nat) (e:Ending) (w':World):Prop :=
 e=.returned (.tuple #[.string ⟨r.1.toArray⟩,.string ⟨r.2.1.toArray⟩,.int .i64 r.2.2])/\Below w.heap.size w w'
theorem El {b:ByteArray} (h:b.data.toList=[48]):b=⟨#[48]⟩:=by
 cases b with
 | mk d=>cases d with
  | mk l=>simp at h;rw [h]
theorem Nz {b:ByteArray} (h:aj b.data.toList=true):ag b.data.toList=0 ↔ b=⟨#[48]⟩:=by
 have hb:=((iG _).1 h).1;constructor
 ·intro e
  have e1:=jo hb;rw [e,tO] at e1;exact El e1.symm
 ·rintro rfl;rfl
def cellNat (w:World) (A:Option Addr) (j:Nat):Nat:=match A with
 | some a=>match w.cell? ⟨a.block,a.off+j,none⟩ with
  | some (.int _ x)=>x.toNat
  | _=>0
 | none=>0
def DD (w:World):Value->Nat
 | .slice A n _=>aa BB ((List.range n).map (cellNat w A))
 | _=>0
theorem DF {w:World} {A:Option Addr} {L:List Nat} (c:Nat) (h:ay w A (L.map U)):DD w (.slice A L.length c)=aa BB L:=by
 show aa BB ((List.range L.length).map (cellNat w A))=aa BB L;congr 1;apply List.ext_getElem
 ·simp
 ·intro j h1 h2
  obtain⟨b,o,rfl,hlt,hcell⟩:=h (by intro e;rw [List.map_eq_nil_iff] at e;rw [e] at h2;simp at h2);simp only [List.getElem_map,List.getElem_range,cellNat];rw [hcell j _ (gP h2)];simp [U]
theorem JF (a b:ByteArray) (w:World) (hT:bK w) (ha:a.size<=9223372036854775807) (hb:b.size<=9223372036854775807) :
  Calls Tryz.prog 196 #[.string a,.string b] w (aA w (gH a.data.toList b.data.toList)):=by
 by_cases hok:aj a.data.toList=true/\aj b.data.toList=true
 ·obtain⟨hoa,hob⟩:=hok
  have HK:Hid (gH a.data.toList b.data.toList=(af (Nat.gcd (ag a.data.toList) (ag b.data.toList)),0)):=by unfold Hid gH;rw [if_pos ⟨hoa,hob⟩]
  have va:=fun W=>gI a W ha
  have vb:=fun W=>gI b W hb
  rw [hoa] at va;rw [hob] at vb;have ba:=fun W=>mP a W hoa
  have bb:=fun W=>mP b W hob
  have la:=mR hoa;have lb:=mR hob;generalize ag a.data.toList=m at *;generalize ag b.data.toList=n at *;clear hoa hob;have hA:Below w.heap.size w w:=Below.refl _ _;go_enter Tryz.func196,Tryz.ntmps196;go_wp2_with (first|(go_at_call_of 192 (Value.string a);refine (va _).mono ?_;rintro e w2 ⟨rfl,rfl⟩)|(go_at_call_of 192 (Value.string b);refine (vb _).mono ?_;rintro e w2 ⟨rfl,rfl⟩));refine (ba _).mono ?_;rintro e w1 ⟨A1,c1,rfl,h1,r1,b1⟩;have hA1:=ae hA b1;go_wp2_with fail;refine (bb _).mono ?_;rintro e w2 ⟨A2,c2,rfl,h2,r2,b2⟩;have hA2:=ae hA1 b2;have r1':=r1.below b2;go_wp2_with fail
  go_loopw [6,7] (fun x y wr=>∃ (m1 n1 c1 c2:Nat) (A1 A2:Option Addr),x=.slice A1 (blk m1).length c1/\y=.slice A2 (blk n1).length c2/\(blk m1).length<=c1/\(blk n1).length<=c2/\ay wr A1 ((blk m1).map U)/\ay wr A2 ((blk n1).map U)/\(blk m1).length<=112/\(blk n1).length<=112/\Below w.heap.size w wr/\Hid (Nat.gcd m1 n1=Nat.gcd m n)) (fun _ y W=>DD W y)
  case atStart=>exact⟨m,n,c1,c2,A1,A2,rfl,rfl,h1,h2,r1',r2,la,lb,hA2,rfl⟩
  case round =>
   obtain⟨m1,n1,d1,d2,D1,D2,rfl,rfl,h3,h4,r3,r4,l3,l4,hb,HG⟩:=hrel;clear r1' r1 r2 h1 h2 hA1 hA2 va vb ba bb;have HRV:=Lib.hid (DF d2 r4);by_cases hn:n1=0
   ·subst hn
    have hg:=HG.out;rw [Nat.gcd_zero_right] at hg;have ht:=yT D1 d1 m1 wr (hT.below hb) r3 (by omega);have HG2:=Lib.hid hg;have hz:(blk 0).length=0:=rfl;rw [hz];clear hg HRV r4 hz l4 h4;obtain⟨F,hF⟩:∃ F:ByteArray,(⟨(af m1).toArray⟩:ByteArray)=F:=⟨_,rfl⟩;rw [hF] at ht;have HF:=Lib.hid hF;clear hF;generalize (blk m1).length=N1 at *;go_wp2_with fail;refine ht.mono ?_;rintro e w5 ⟨rfl,b5⟩;have hA5:=ae hb b5;go_wp2_with fail;go_returns;unfold aA;rw [HK.out,<-HG2.out];show _=Ending.returned (.tuple #[.string ⟨(af m1).toArray⟩,_])/\_;rw [HF.out];exact⟨rfl,hA5⟩
   ·have hpos:=List.length_pos_iff.2 (nK hn)
    have hdv:=Gu D1 D2 d1 d2 m1 n1 wr hn r3 r4 (by omega) (by omega) h3;have l5:(blk (m1 % n1)).length<=112:=Nat.le_trans (zL (Nat.mod_le _ _)) l3;have HG2:Hid (Nat.gcd n1 (m1 % n1)=Nat.gcd m n):=by rw [Hid,<-HG.out,Nat.gcd_comm n1,<-Nat.gcd_rec,Nat.gcd_comm]
    have HLT:=Lib.hid (Nat.mod_lt m1 (Nat.pos_of_ne_zero hn));go_wp2_with fail;refine hdv.mono ?_;rintro e w3 ⟨A3,c3,A4,c4,rfl,h5,h6,r5,r6,b3⟩;go_wp2_with fail;go_roundw
    case rel=>exact⟨n1,m1 % n1,d2,c4,D2,A4,rfl,rfl,h4,h6,r4.below b3,r6,l4,l5,ae hb b3,HG2⟩
    case measure =>
     have e1:=DF c4 r6;rw [e1,HRV.out,gM,gM];exact HLT.out
 ·refine (JG a b w ha hb hok).mono ?_
  rintro e w' ⟨rfl,rfl⟩;unfold aA gH;rw [if_neg hok];exact⟨rfl,Below.refl _ _⟩
def yR:Value->Nat | .string s=>ag s.data.toList|_=>0
theorem Cx {s:ByteArray} {n:Nat} (h:s.data.toList=af n):iH s.data.toList:=by rw [h];exact oW n
theorem qW {s:ByteArray} {n:Nat} (h:s.data.toList=af n):ag s.data.toList=n:=by rw [h,fq]
theorem qA {s:ByteArray} {n:Nat} (h:s.data.toList=af n):(s.toList == [48])=decide (n=0):=by
 rw [Lib.toList_data,h];by_cases h0:n=0
 ·subst h0;rfl
 ·have:af n≠[48]:=fun e=>h0 (by rw [<-fq n,e];rfl)
  rw [beq_eq_false_iff_ne.2 this];simp [h0]
theorem xZ {s:ByteArray} {n k:Nat} (h:s.data.toList=af n) (hn:n<10 ^ k) (hk:1<=k):s.size<=k:=by rw [Lib.size_eq,h];exact F8 hn hk
theorem qa {s:ByteArray} {l:Bs} (h:s.data.toList=l):(⟨l.toArray⟩:ByteArray)=s:=by
 cases s with
 | mk d=>cases d with
  | mk m=>simp at h;rw [h]
theorem Dv (a b:ByteArray) (w:World) (ha:a.size<=9223372036854775807) (hb:b.size<=9223372036854775807) :
  Calls Tryz.prog 160 #[.string a,.string b] w (oI w (oV a.data.toList b.data.toList)):=by
 by_cases hok:aj a.data.toList=true/\aj b.data.toList=true
 ·obtain⟨hoa,hob⟩:=hok
  obtain⟨i0,hi,hz0,hz1,hz2⟩:=info_parts zN;have HK:Hid (oV a.data.toList b.data.toList=if ag b.data.toList=0 then ([],[],4) else (af (ag a.data.toList / ag b.data.toList),af (ag a.data.toList % ag b.data.toList),0)):=by unfold Hid oV;rw [if_pos ⟨hoa,hob⟩]
  have va:=fun W=>eG a W ha
  have vb:=fun W=>eG b W hb
  rw [hoa] at va;rw [hob] at vb;have sa:=kz hoa;have sb:=kz hob;have ta:=((iG _).1 hoa).1;have tb:=((iG _).1 hob).1;have hz:=Nz hob;have hA:Below w.heap.size w w:=Below.refl _ _;by_cases hn:ag b.data.toList=0
  ·have hbe:=hz.1 hn
   subst hbe;have HK2:Hid (oV a.data.toList (⟨#[48]⟩:ByteArray).data.toList=([],[],4)):=by rw [Hid,HK.out,if_pos hn]
   clear hz hn HK ta tb;go_enter Tryz.func160,Tryz.ntmps160;go_wp2_with (first|(go_at_call_of 159 (Value.string a);refine (va _).mono ?_;rintro e w2 ⟨rfl,rfl⟩)|(go_at_call_of 159 (Value.string ⟨#[48]⟩);refine (vb _).mono ?_;rintro e w2 ⟨rfl,rfl⟩));go_returns;unfold oI;rw [HK2.out];exact⟨rfl,hA⟩
  ·have hbne:¬ b=⟨#[48]⟩:=fun e=>hn (hz.2 e)
   have hbeq:(b.toList == [48])=false:=beq_eq_false_iff_ne.2 (fun e=>hbne (El (by rw [<-Lib.toList_data];exact e)));have hnb:=tQ tb.2.1;obtain⟨LB,hLB⟩:∃ z,b.data.toList.length=z:=⟨_,rfl⟩;have hLB1:LB<=1000:=by rw [<-hLB,<-Lib.size_eq];omega
   rw [hLB] at hnb;have hylt:=lV tb.2.1;have ybd:∀ W,Calls Tryz.prog 179 #[.string b] W (wS W (aS b.data.toList)):=fun W=>nY b W (kW hob) (by omega)
   have HNB:=Lib.hid hnb;have HTB:=Lib.hid tb;have HTA:=Lib.hid ta;have HYL:=Lib.hid hylt;have HN0:=Lib.hid (Nat.pos_of_ne_zero hn);have hcm:=fun (S:ByteArray) W h1 h2=>yG S b W h1 tb h2 (by omega)
   have HK2:Hid (oV a.data.toList b.data.toList=(af (ag a.data.toList / ag b.data.toList),af (ag a.data.toList % ag b.data.toList),0)):=by rw [Hid,HK.out,if_neg hn]
   have HLS:=Lib.hid (fun (S:Bs) (h:iH S) hle=>Br h tb hle);clear hz hn HK hnb hLB hylt ta tb hoa hob;generalize ag b.data.toList=n at *;go_enter Tryz.func160,Tryz.ntmps160;go_wp2_with (first|(go_at_call_of 159 (Value.string a);refine (va _).mono ?_;rintro e w2 ⟨rfl,rfl⟩)|(go_at_call_of 159 (Value.string b);refine (vb _).mono ?_;rintro e w2 ⟨rfl,rfl⟩));clear va vb
   go_loopw [7,8,9] (fun qv rv i wr=>∃ (k0:Nat) (Q:Bs) (R:ByteArray),i=.int .i64 k0/\k0<=a.size/\rv=.string R/\Hid (R.data.toList=af (ag (a.data.toList.take k0) % n))/\Own w.heap.size 5 qv (Lib.byteCells Q) wr/\Q.length=k0/\Hid (∀ c∈Q,cz c=true)/\Hid (ag Q=ag (a.data.toList.take k0) / n)/\Below w.heap.size w wr) (fun _ _ i _=>a.size-(intOf i).toNat)
   case atStart=>exact⟨0,[],⟨#[48]⟩,rfl,by omega,rfl,by rw [Hid,List.take_zero,tT,Nat.zero_mod];rfl,Own.nil _ _ _,rfl,by simp [Hid],by rw [Hid,List.take_zero,tT,Nat.zero_div],hA⟩
   case round =>
    obtain⟨k0,Q,R,rfl,hk0,rfl,HR,hown,hQ,HQ,HQV,hbr⟩:=hrel;by_cases hlt:k0<a.size
    ·have hdg:=tY HTA.out.2.1 hlt
     have HP:=Lib.hid (NL (l:=a.data.toList) (k:=k0) (by rw [<-Lib.size_eq];exact hlt));have hget:a.data.toList[k0]'(by rw [<-Lib.size_eq];exact hlt)=a[k0]:=rfl;rw [hget] at HP;have hsub:(a.extract k0 (k0+1)).data.toList=[a[k0]]:=by
      rw [eH,drop_byte a k0 hlt,Nat.add_sub_cancel_left];rfl
     have HM:=Lib.hid (Le (V:=ag (a.data.toList.take k0) % n) hdg);have HDG:=Lib.hid hdg;have h48:=qA HR.out;have HSUB:=Lib.hid hsub;generalize a[k0]=c at *;generalize ag (a.data.toList.take k0)=P0 at *;clear hget hsub hdg;have hT:10 * (P0 % n)+dv c<10 * n:=by have:=Nat.mod_lt P0 HN0.out;have:=qc HDG.out;omega
     have HTT:Hid (∀ x,x<=10 * (P0 % n)+dv c->x<10 ^ (LB+1)):=fun x hx=>by
      have h1:=HNB.out;have h2:(10:Nat) ^ (LB+1)=10 * 10 ^ LB:=by rw [Nat.pow_succ,Nat.mul_comm]
      rw [h2];omega
     have HQD:=Lib.hid (fun k R h1 h2=>KF (P:=P0) (k:=k) (R:=R) HN0.out (qc HDG.out) h1 h2);have HQM:=Lib.hid (fun k R h1 h2=>KG (P:=P0) (x:=dv c) (k:=k) (R:=R) HN0.out h1 h2);have ki1:(k0:Int)<(a.size:Int):=by omega
     have ki0:(0:Int)<=(k0:Int):=by omega
     have ki2:(k0:Int)+1<=(a.size:Int):=by omega
     have ki3:(k0:Int)<=(k0:Int)+1:=by omega
     clear hT;by_cases hz:P0 % n=0
     ·rw [hz,decide_eq_true rfl] at h48
      have HM2:Hid ((a.extract k0 (k0+1)).data.toList=af (10 * (P0 % n)+dv c)):=by rw [Hid,HSUB.out,<-HM.out,if_pos hz]
      clear hz;go_wp2_with fail;generalize (a.extract k0 (k0+1))=R1 at HM2 ⊢;obtain⟨W,hW⟩:∃ W,W=wr:=⟨_,rfl⟩;subst hW
      go_loopw [8,10] (fun rv d wr'=>∃ (k Rw:Nat) (S:ByteArray),rv=.string S/\d=.int .u8 (48+(k:Int))/\k<=9/\Hid (S.data.toList=af Rw)/\Hid (k * n+Rw=10 * (P0 % n)+dv c)/\Below W.heap.size W wr') (fun rv _ _=>yR rv)
      case atStart=>exact⟨0,_,R1,rfl,rfl,by omega,HM2,by simp [Hid],Below.refl _ _⟩
      case round =>
       obtain⟨k,Rw,S,rfl,rfl,hk,HS,HE,hb⟩:=hrel;have hSt:=Cx HS.out;have hSv:=qW HS.out;have hSs:S.size<=1001:=Nat.le_trans (xZ HS.out (HTT.out Rw (by have:=HE.out;omega)) (by omega)) (by omega);have hc:=fun W=>hcm S W hSt (by omega)
       rw [hSv] at hc;by_cases hge:n<=Rw
       ·obtain⟨cc,hcc⟩:∃ z,bZ Rw n=z:=⟨_,rfl⟩
        have hc0:0<=cc:=by
         rw [<-hcc];apply Int.not_lt.1;intro h;have:=(nL Rw n).1 h;omega
        rw [hcc] at hc;have dS:=fun W=>nY S W hSt.2.1 (by omega)
        have hxl:=lV hSt.2.1;have hxn:(aS S.data.toList).length<=1001:=by rw [mZ,<-Lib.size_eq];omega
        obtain⟨l1,l2,l3⟩:=HLS.out S.data.toList hSt (by rw [hSv];exact hge);rw [hSv] at l1;have hls:=jb bJ (aS S.data.toList) (aS b.data.toList) (aS S.data.toList).length;have le:=fun A B c d W h1 h2=>yK A B c d (aS S.data.toList) (aS b.data.toList) W hxl HYL.out h1 h2 (by omega)
        have HSV:=Lib.hid hSv;clear hSv hSt hcc;generalize aS S.data.toList=x at *;obtain⟨y,hy⟩:∃ y,aS b.data.toList=y:=⟨_,rfl⟩;have yb':=ybd;rw [hy] at yb' l1 l2 l3 hls le;clear hy;obtain⟨z,hz⟩:∃ z,(ah bJ x y x.length).1=z:=⟨_,rfl⟩;rw [hz] at l1 l2 l3 hls le;have hzn:z.length<=1001:=by omega
        have tx:=fun A c W h=>uI A c z W l2 h (by omega) l3
        rw [l1] at tx;obtain⟨F,hF⟩:∃ F:ByteArray,(⟨(af (Rw-n)).toArray⟩:ByteArray)=F:=⟨_,rfl⟩;rw [hF] at tx;have HF:Hid (F.data.toList=af (Rw-n)):=by rw [Hid,<-hF]
        have HE2:Hid ((k+1) * n+(Rw-n)=10 * (P0 % n)+dv c):=by
         have:=HE.out;rw [Hid,Nat.add_mul,Nat.one_mul];omega
        have hk9:=HQD.out k Rw HE.out hge;have HLT:Hid (Rw-n<Rw):=by have:=HN0.out;unfold Hid;omega
        have w8:IntKind.u8.wrap (48+(k:Int)+1)=48+(k:Int)+1:=by rw [IntKind.wrap_u8];omega
        clear hz hF l1 l2 l3 hls hxl hxn HE hge;go_wp2_with (go_at_call 183;refine (hc _).mono ?_;rintro e w1 ⟨rfl,b1⟩;have hb1:=hb.trans (b1.mono hb.size));refine (dS _).mono ?_;rintro e w2 ⟨A1,c1,rfl,h1,r1,b2⟩;have hb2:=ae hb1 b2;go_wp2_with fail;refine (yb' _).mono ?_;rintro e w3 ⟨A2,c2,rfl,h2,r2,b3⟩;have hb3:=ae hb2 b3;go_wp2_with fail;refine (le _ _ _ _ _ (r1.below b3) r2).mono ?_;rintro e w4 ⟨A3,c3,rfl,h3,r3,b4⟩;have hb4:=ae hb3 b4;go_wp2_with fail;refine (tx _ _ _ r3).mono ?_;rintro e w5 ⟨rfl,b5⟩;have hb5:=ae hb4 b5;go_wp2_with fail;go_roundw
        case rel=>exact⟨k+1,Rw-n,F,rfl,by go_num,by omega,HF,HE2,hb5⟩
        case measure =>
         show ag F.data.toList<ag S.data.toList;rw [qW HF.out,HSV.out];exact HLT.out
       ·have hc0:bZ Rw n<0:=(nL Rw n).2 (by omega)
        obtain⟨cc,hcc⟩:∃ z,bZ Rw n=z:=⟨_,rfl⟩;rw [hcc] at hc hc0;obtain⟨q1,q2⟩:=HQM.out k Rw HE.out (by omega);have HQ1:=Lib.hid q1;have HQ2:=Lib.hid q2;have hown2:=hown.below hb;have hbr2:Below w.heap.size w wr:=ae hbr hb;have hml:(Lib.byteCells Q).length+1<=maxLen:=by rw [Lib.byteCells_length];unfold maxLen;omega
        have hmb:((Lib.byteCells Q).length+1) * 1<=140737488355328:=by rw [Lib.byteCells_length];omega
        have HDK:=Lib.hid (oJ (d:=k) (by omega));have HDK2:=Lib.hid (xV (d:=k) (by omega));have HDK3:=Lib.hid (xK (d:=k) (by omega));clear q1 q2 hcc hSv hSt hown;go_wp2_with (first|(go_at_call 183;refine (hc _).mono ?_;rintro e w1 ⟨rfl,b1⟩;have hb1:=hbr2.trans (b1.mono hbr2.size);have hown3:=hown2.below b1)|(at_builtin;refine fJ rfl (.tmp 54) (.tmp 56) 127 rfl w.heap.size i0 _ 1 Tryz.underlying127 hi hz0 hz1 hz2 rfl _ (Lib.byteCells Q) rfl hown3 1 rfl rfl hml hmb hb1.size ?_;intro v' w3 hown4 _ hb4));go_roundw
        case rel =>
         refine⟨k0+1,Q++[dc k],S,by go_num,by omega,rfl,?_,?_,by rw [List.length_append,hQ];rfl,?_,?_,hb1.trans hb4⟩
         ·rw [Hid,HP.out,HQ2.out];exact HS.out
         ·rw [<-tF,HDK.out]
          have e:((48+k:Nat):Int)=48+(k:Int):=by omega
          rw [e];exact hown4
         ·intro x hx
          rcases List.mem_append.1 hx with hx|hx
          ·exact HQ.out x hx
          ·rw [List.mem_singleton.1 hx];exact HDK2.out
         ·rw [Hid,tV,HP.out,HQ1.out,HQV.out,HDK3.out]
        case measure=>simp [intOf];omega
     ·rw [decide_eq_false hz] at h48
      have hRs:R.size<=1001:=Nat.le_trans (xZ HR.out (HTT.out (P0 % n) (by omega)) (by omega)) (by omega);have hcat:¬ 9223372036854775807<R.size+(min (k0+1) a.size-k0):=by omega
      have HM2:Hid ((R++a.extract k0 (k0+1)).data.toList=af (10 * (P0 % n)+dv c)):=by rw [Hid,Joins.data_append,HSUB.out,<-HM.out,if_neg hz,HR.out]
      clear hz;go_wp2_with fail;generalize (R++a.extract k0 (k0+1))=R1 at HM2 ⊢;obtain⟨W,hW⟩:∃ W,W=wr:=⟨_,rfl⟩;subst hW
      go_loopw [8,10] (fun rv d wr'=>∃ (k Rw:Nat) (S:ByteArray),rv=.string S/\d=.int .u8 (48+(k:Int))/\k<=9/\Hid (S.data.toList=af Rw)/\Hid (k * n+Rw=10 * (P0 % n)+dv c)/\Below W.heap.size W wr') (fun rv _ _=>yR rv)
      case atStart=>exact⟨0,_,R1,rfl,rfl,by omega,HM2,by simp [Hid],Below.refl _ _⟩
      case round =>
       obtain⟨k,Rw,S,rfl,rfl,hk,HS,HE,hb⟩:=hrel;have hSt:=Cx HS.out;have hSv:=qW HS.out;have hSs:S.size<=1001:=Nat.le_trans (xZ HS.out (HTT.out Rw (by have:=HE.out;omega)) (by omega)) (by omega);have hc:=fun W=>hcm S W hSt (by omega)
       rw [hSv] at hc;by_cases hge:n<=Rw
       ·obtain⟨cc,hcc⟩:∃ z,bZ Rw n=z:=⟨_,rfl⟩
        have hc0:0<=cc:=by
         rw [<-hcc];apply Int.not_lt.1;intro h;have:=(nL Rw n).1 h;omega
        rw [hcc] at hc;have dS:=fun W=>nY S W hSt.2.1 (by omega)
        have hxl:=lV hSt.2.1;have hxn:(aS S.data.toList).length<=1001:=by rw [mZ,<-Lib.size_eq];omega
        obtain⟨l1,l2,l3⟩:=HLS.out S.data.toList hSt (by rw [hSv];exact hge);rw [hSv] at l1;have hls:=jb bJ (aS S.data.toList) (aS b.data.toList) (aS S.data.toList).length;have le:=fun A B c d W h1 h2=>yK A B c d (aS S.data.toList) (aS b.data.toList) W hxl HYL.out h1 h2 (by omega)
        have HSV:=Lib.hid hSv;clear hSv hSt hcc;generalize aS S.data.toList=x at *;obtain⟨y,hy⟩:∃ y,aS b.data.toList=y:=⟨_,rfl⟩;have yb':=ybd;rw [hy] at yb' l1 l2 l3 hls le;clear hy;obtain⟨z,hz⟩:∃ z,(ah bJ x y x.length).1=z:=⟨_,rfl⟩;rw [hz] at l1 l2 l3 hls le;have hzn:z.length<=1001:=by omega
        have tx:=fun A c W h=>uI A c z W l2 h (by omega) l3
        rw [l1] at tx;obtain⟨F,hF⟩:∃ F:ByteArray,(⟨(af (Rw-n)).toArray⟩:ByteArray)=F:=⟨_,rfl⟩;rw [hF] at tx;have HF:Hid (F.data.toList=af (Rw-n)):=by rw [Hid,<-hF]
        have HE2:Hid ((k+1) * n+(Rw-n)=10 * (P0 % n)+dv c):=by
         have:=HE.out;rw [Hid,Nat.add_mul,Nat.one_mul];omega
        have hk9:=HQD.out k Rw HE.out hge;have HLT:Hid (Rw-n<Rw):=by have:=HN0.out;unfold Hid;omega
        have w8:IntKind.u8.wrap (48+(k:Int)+1)=48+(k:Int)+1:=by rw [IntKind.wrap_u8];omega
        clear hz hF l1 l2 l3 hls hxl hxn HE hge;go_wp2_with (go_at_call 183;refine (hc _).mono ?_;rintro e w1 ⟨rfl,b1⟩;have hb1:=hb.trans (b1.mono hb.size));refine (dS _).mono ?_;rintro e w2 ⟨A1,c1,rfl,h1,r1,b2⟩;have hb2:=ae hb1 b2;go_wp2_with fail;refine (yb' _).mono ?_;rintro e w3 ⟨A2,c2,rfl,h2,r2,b3⟩;have hb3:=ae hb2 b3;go_wp2_with fail;refine (le _ _ _ _ _ (r1.below b3) r2).mono ?_;rintro e w4 ⟨A3,c3,rfl,h3,r3,b4⟩;have hb4:=ae hb3 b4;go_wp2_with fail;refine (tx _ _ _ r3).mono ?_;rintro e w5 ⟨rfl,b5⟩;have hb5:=ae hb4 b5;go_wp2_with fail;go_roundw
        case rel=>exact⟨k+1,Rw-n,F,rfl,by go_num,by omega,HF,HE2,hb5⟩
        case measure =>
         show ag F.data.toList<ag S.data.toList;rw [qW HF.out,HSV.out];exact HLT.out
       ·have hc0:bZ Rw n<0:=(nL Rw n).2 (by omega)
        obtain⟨cc,hcc⟩:∃ z,bZ Rw n=z:=⟨_,rfl⟩;rw [hcc] at hc hc0;obtain⟨q1,q2⟩:=HQM.out k Rw HE.out (by omega);have HQ1:=Lib.hid q1;have HQ2:=Lib.hid q2;have hown2:=hown.below hb;have hbr2:Below w.heap.size w wr:=ae hbr hb;have hml:(Lib.byteCells Q).length+1<=maxLen:=by rw [Lib.byteCells_length];unfold maxLen;omega
        have hmb:((Lib.byteCells Q).length+1) * 1<=140737488355328:=by rw [Lib.byteCells_length];omega
        have HDK:=Lib.hid (oJ (d:=k) (by omega));have HDK2:=Lib.hid (xV (d:=k) (by omega));have HDK3:=Lib.hid (xK (d:=k) (by omega));clear q1 q2 hcc hSv hSt hown;go_wp2_with (first|(go_at_call 183;refine (hc _).mono ?_;rintro e w1 ⟨rfl,b1⟩;have hb1:=hbr2.trans (b1.mono hbr2.size);have hown3:=hown2.below b1)|(at_builtin;refine fJ rfl (.tmp 54) (.tmp 56) 127 rfl w.heap.size i0 _ 1 Tryz.underlying127 hi hz0 hz1 hz2 rfl _ (Lib.byteCells Q) rfl hown3 1 rfl rfl hml hmb hb1.size ?_;intro v' w3 hown4 _ hb4));go_roundw
        case rel =>
         refine⟨k0+1,Q++[dc k],S,by go_num,by omega,rfl,?_,?_,by rw [List.length_append,hQ];rfl,?_,?_,hb1.trans hb4⟩
         ·rw [Hid,HP.out,HQ2.out];exact HS.out
         ·rw [<-tF,HDK.out]
          have e:((48+k:Nat):Int)=48+(k:Int):=by omega
          rw [e];exact hown4
         ·intro x hx
          rcases List.mem_append.1 hx with hx|hx
          ·exact HQ.out x hx
          ·rw [List.mem_singleton.1 hx];exact HDK2.out
         ·rw [Hid,tV,HP.out,HQ1.out,HQV.out,HDK3.out]
        case measure=>simp [intOf];omega
    ·obtain rfl:k0=a.size:=by omega
     have hfull:a.data.toList.take a.size=a.data.toList:=List.take_of_length_le (by rw [<-Lib.size_eq];omega);have hR1:=HR.out;rw [hfull] at hR1;have hQ1:=HQV.out;rw [hfull] at hQ1;have HR1:=Lib.hid hR1;have HQ1:=Lib.hid hQ1;have hapos:0<a.size:=by rw [Lib.size_eq];exact List.length_pos_iff.2 HTA.out.1
     obtain⟨A',c',rfl,hc',hrow⟩:=hown.row.to (n:=a.size) (by rw [Lib.byteCells_length,hQ]);obtain⟨g,o,rfl,hg,hcell⟩:=hrow (by intro e;have:=congrArg List.length e;rw [Lib.byteCells_length,hQ,List.length_nil] at this;omega);have hcl:∀ j (h:j<Q.length),wr.cell? ⟨g,o+j,none⟩=some (.int .u8 (Q[j].toNat:Int)):=fun j h=>hcell j _ (by simp [Lib.byteCells,h])
     have HCL:=Lib.hid hcl;obtain⟨W,hW⟩:∃ W,W=wr:=⟨_,rfl⟩;subst hW;clear hcl hcell hrow hown hR1 hQ1 hfull HR HQV hcm ybd HLS;go_wp2_with fail
     go_loopw [11] (fun i wr'=>∃ (k:Nat),i=.int .i64 k/\k<a.size/\W=wr'/\Hid (ag (Q.drop k)=ag Q)) (fun i _=>a.size-(intOf i).toNat)
     case atStart=>exact⟨0,rfl,hapos,rfl,by rw [Hid,List.drop_zero]⟩
     case round =>
      obtain⟨k,rfl,hk,rfl,HD⟩:=hrel;have hkQ:k<Q.length:=by omega
      have hck:=HCL.out k hkQ;have HST:=Lib.hid (NF hkQ);have HEN:=Lib.hid (NE HQ.out hkQ);have k0i:(0:Int)<=(k:Int):=by omega
      have k1i:(k:Int)<(a.size:Int):=by omega
      have k2i:(k:Int)<=(a.size:Int):=by omega
      have hconv:=run_convert_bytes_back (P:=Tryz.prog) W 127 9 5 ⟨g,o+k,none⟩ (c'-k) (Q.drop k) Tryz.underlying127 Tryz.underlying5 Tryz.underlying9 (fun j hj=>by
       rw [List.getElem_drop];have e:(⟨g,o+k,none⟩:Addr).add j=⟨g,o+(k+j),none⟩:=by unfold Addr.add;split <;> simp_all [Nat.add_assoc]
       rw [e];exact HCL.out (k+j) (by rw [List.length_drop] at hj;omega))
      have hdl:(Q.drop k).length=a.size-k:=by rw [List.length_drop,hQ]
      rw [hdl] at hconv;by_cases hgo:k+1<a.size/\Q[k]=48
      ·obtain⟨g1,g2⟩:=hgo
       have HD2:Hid (ag (Q.drop (k+1))=ag Q):=by rw [Hid,HST.out g2,HD.out]
       have hc48:W.cell? ⟨g,o+k,none⟩=some (.int .u8 48):=by rw [hck,g2];rfl
       have k3i:(k:Int)<(a.size:Int)-1:=by omega
       clear hck g2 hconv;go_wp2_with fail;go_roundw
       case rel=>exact⟨k+1,by go_num,by omega,trivial,HD2⟩
       case measure=>simp [intOf];omega
      ·have HSE:Hid (Q.drop k=af (ag a.data.toList / n)):=by
        rw [Hid,HEN.out ?_,HD.out,HQ1.out];by_cases h1:k+1<a.size
        ·right;intro e;exact hgo ⟨h1,e⟩
        ·left;omega
       rcases Nat.lt_or_ge (k+1) a.size with h1|h1
       ·have hx48:¬ Q[k]=48:=fun e=>hgo ⟨h1,e⟩
        have hx:¬ Q[k].toNat=48:=fun e=>hx48 (UInt8.toNat_inj.1 e)
        obtain⟨x,hxx⟩:∃ x,Q[k].toNat=x:=⟨_,rfl⟩;rw [hxx] at hck hx;have hxi:((x:Int) == 48)=false:=beq_eq_false_iff_ne.2 (by omega);have k3i:(k:Int)<(a.size:Int)-1:=by omega
        clear hx48 hxx hgo;go_wp2_with fail;go_returns;unfold oI;rw [HK2.out];refine⟨?_,hbr⟩;show _=Ending.returned (.tuple #[.string ⟨(af (ag a.data.toList / n)).toArray⟩,.string ⟨(af (ag a.data.toList % n)).toArray⟩,_]);rw [<-HSE.out,qa HR1.out]
        rfl
       ·have k3i:decide ((k:Int)<(a.size:Int)-1)=false:=decide_eq_false (by omega)
        have k4i:(a.size:Int)-1<=(k:Int):=by omega
        clear hgo;go_wp2_with fail;go_returns;unfold oI;rw [HK2.out];refine⟨?_,hbr⟩;show _=Ending.returned (.tuple #[.string ⟨(af (ag a.data.toList / n)).toArray⟩,.string ⟨(af (ag a.data.toList % n)).toArray⟩,_]);rw [<-HSE.out,qa HR1.out]
        rfl
 ·refine (K7 a b w ha hb hok).mono ?_
  rintro e w' ⟨rfl,rfl⟩;unfold oI oV;rw [if_neg hok];exact⟨rfl,Below.refl _ _⟩
theorem jV {n:Nat} (h:(af n).length<=1000):aj (af n)=true:=(iG _).2 ⟨oW n,h⟩
theorem Ce {l k:Bs} {m n:Nat} (hl:l=af m) (hk:k=af n) (h1:l.length<=1000) (h2:k.length<=1000) (hn:n≠0):oV l k=(af (m / n),af (m % n),0):=by
 subst hl hk;unfold oV;rw [if_pos ⟨jV h1,jV h2⟩,fq,fq,if_neg hn]
theorem rO (a b:ByteArray) (w:World) (ha:a.size<=9223372036854775807) (hb:b.size<=9223372036854775807) :
  Calls Tryz.prog 152 #[.string a,.string b] w (aA w (gH a.data.toList b.data.toList)):=by
 by_cases hok:aj a.data.toList=true/\aj b.data.toList=true
 ·obtain⟨hoa,hob⟩:=hok
  have HK:Hid (gH a.data.toList b.data.toList=(af (Nat.gcd (ag a.data.toList) (ag b.data.toList)),0)):=by unfold Hid gH;rw [if_pos ⟨hoa,hob⟩]
  have va:=fun W=>eG a W ha
  have vb:=fun W=>eG b W hb
  rw [hoa] at va;rw [hob] at vb;have sa:=kz hoa;have sb:=kz hob;have HTA:=Lib.hid (jo ((iG _).1 hoa).1);have HTB:=Lib.hid (jo ((iG _).1 hob).1);generalize ag a.data.toList=m at *;generalize ag b.data.toList=n at *;clear hoa hob;have hA:Below w.heap.size w w:=Below.refl _ _;go_enter Tryz.func152,Tryz.ntmps152;go_wp2_with (first|(go_at_call_of 159 (Value.string a);refine (va _).mono ?_;rintro e w2 ⟨rfl,rfl⟩)|(go_at_call_of 159 (Value.string b);refine (vb _).mono ?_;rintro e w2 ⟨rfl,rfl⟩));clear va vb
  go_loopw [0,1] (fun x y wr=>∃ (X Y:ByteArray) (m1 n1:Nat),x=.string X/\y=.string Y/\Hid (X.data.toList=af m1)/\Hid (Y.data.toList=af n1)/\X.size<=1000/\Y.size<=1000/\Below w.heap.size w wr/\Hid (Nat.gcd m1 n1=Nat.gcd m n)) (fun _ y _=>yR y)
  case atStart=>exact⟨a,b,m,n,rfl,rfl,HTA.out.symm,HTB.out.symm,sa,sb,hA,rfl⟩
  case round =>
   obtain⟨X,Y,m1,n1,rfl,rfl,HX,HY,sX,sY,hbr,HG⟩:=hrel;have h48:=qA HY.out;by_cases hn:n1=0
   ·rw [decide_eq_true hn] at h48
    have hg:=HG.out;rw [hn,Nat.gcd_zero_right] at hg;have HR:Hid ((⟨(af (Nat.gcd m n)).toArray⟩:ByteArray)=X):=qa (by rw [HX.out,hg]);clear hg hn;go_wp2_with fail;go_returns;unfold aA;rw [HK.out];show _=Ending.returned (.tuple #[.string ⟨(af (Nat.gcd m n)).toArray⟩,_])/\_;rw [HR.out];exact⟨rfl,hbr⟩
   ·rw [decide_eq_false hn] at h48
    have hd:=Dv X Y wr (by omega) (by omega);rw [Ce HX.out HY.out (by rw [<-Lib.size_eq];exact sX) (by rw [<-Lib.size_eq];exact sY) hn] at hd;have HG2:Hid (Nat.gcd n1 (m1 % n1)=Nat.gcd m n):=by rw [Hid,<-HG.out,Nat.gcd_comm n1,<-Nat.gcd_rec,Nat.gcd_comm]
    have hlt:=Nat.mod_lt m1 (Nat.pos_of_ne_zero hn);obtain⟨Z,hZ⟩:∃ Z:ByteArray,(⟨(af (m1 % n1)).toArray⟩:ByteArray)=Z:=⟨_,rfl⟩;have hZd:Z.data.toList=af (m1 % n1):=by rw [<-hZ]
    have sZ:Z.size<=1000:=by
     rw [Lib.size_eq,hZd];refine Nat.le_trans (tN (Nat.le_of_lt hlt)) ?_;rw [<-HY.out,<-Lib.size_eq];exact sY
    have HZ:=Lib.hid hZd;have HLT:=Lib.hid hlt;unfold oI at hd;simp only [] at hd;rw [hZ] at hd;clear hZ hZd hlt hn;go_wp2_with (go_at_call 160;refine hd.mono ?_;rintro e w3 ⟨rfl,b3⟩;have hb3:=ae hbr b3);go_roundw
    case rel=>exact⟨Y,Z,n1,m1 % n1,rfl,rfl,HY,HZ,sY,sZ,hb3,HG2⟩
    case measure =>
     show ag Z.data.toList<ag Y.data.toList;rw [qW HZ.out,qW HY.out];exact HLT.out
 ·refine (Lp a b w ha hb hok).mono ?_
  rintro e w' ⟨rfl,rfl⟩;unfold aA gH;rw [if_neg hok];exact⟨rfl,Below.refl _ _⟩
end Go.Proofs.YtppnecgeboonbaaGreatDoor.Rat3
