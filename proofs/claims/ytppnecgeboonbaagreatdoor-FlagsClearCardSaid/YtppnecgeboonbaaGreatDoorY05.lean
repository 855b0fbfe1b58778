/- The plain words of layer 22 (flags): the names of flags, and which flags are legal one after the other. No program in sight. -/
import Derived.Test.YtppnecgeboonbaaGreatDoorY02
import Derived.Test.YtppnecgeboonbaaGreatDoorZ45
namespace Go.Proofs.YtppnecgeboonbaaGreatDoor
set_option maxRecDepth 100000
set_option linter.unusedVariables false
set_option maxHeartbeats 8000000
theorem aAV:∀ (a b:List aH) (m:dz),jL m (a++b)=(jL m a).bind fun m'=>jL m' b
 | [],b,m=>rfl
 | f::a,b,m=>by
  rw [List.cons_append,jL,jL]
  cases fT m f with
  | none=>rfl
  | some m'=>exact aAV a b m'
theorem aAW:∀ (l:List aH) (m k:dz),(∀ g,aP m g=aP k g)->(jL m l).isSome=(jL k l).isSome
 | [],_,_,_=>rfl
 | f::l,m,k,h=>by
  rw [jL,jL];unfold fT;rw [h f.feat]
  cases jZ (aP k f.feat) f.op f.val with
  | none=>rfl
  | some x =>
   refine aAW l _ _ fun g=>?_
   rw [vK,vK,h g]
def aAd:Bs:=[102]
def asF (f:aH):aH:={ f with feat:=aAd }
def aAt:aH:=⟨67,aAd,[]⟩
theorem aBa:aN aAt=true:=by decide +kernel
theorem aAX:∀ (l:List aH) (m m':dz) (g:Bs),g≠aAd->(∀ f∈l,f.feat=aAd)->jL m l=some m'->aP m' g=aP m g
 | [],m,m',g,_,_,h=>by
  simp only [jL,Option.some.injEq] at h;rw [h]
 | f::l,m,m',g,hg,hl,h=>by
  rw [jL] at h
  cases hs:fT m f with
  | none=>rw [hs] at h;cases h
  | some m1 =>
   rw [hs] at h;rw [aAX l m1 m' g hg (fun x hx=>hl x (List.mem_cons_of_mem _ hx)) h];unfold fT at hs
   cases hx:jZ (aP m f.feat) f.op f.val with
   | none=>rw [hx] at hs;cases hs
   | some x =>
    rw [hx] at hs;simp only [Option.map_some,Option.some.injEq] at hs;rw [<-hs,vK,if_neg (fun e=>hg (e.symm.trans (hl f List.mem_cons_self)))]
theorem aA9 (a b:List aH) (ha:jH (a.map asF)=true):jH (a.map asF++[aAt]++b.map asF)=jH (b.map asF):=by
 unfold jH at ha ⊢;rw [Bool.and_eq_true] at ha;obtain⟨h1,h2⟩:=ha
 cases hr:jL [] (a.map asF) with
 | none=>rw [hr] at h2;cases h2
 | some m =>
  rw [List.all_append,List.all_append,h1,List.append_assoc,aAV,hr];have hc:[aAt].all aN=true:=by rw [List.all_cons,aBa];rfl
  rw [hc,Bool.true_and,Bool.true_and];congr 1;show (jL m (aAt::b.map asF)).isSome=_;have e1:fT m aAt=some (iW m aAd iF):=rfl;rw [jL,e1];refine aAW _ _ _ fun g=>?_
  rw [vK];by_cases hg:aAd=g
  ·rw [if_pos hg];rfl
  ·rw [if_neg hg,aAX _ _ _ g (fun e=>hg e.symm) (fun f hf=>by obtain⟨x,_,rfl⟩:=List.mem_map.1 hf;rfl) hr]
open Go Go.RowKit Go.Maps
theorem aAS {T:TypeId} {w4 w5:World} {base:Nat} {lv aAf:Value} {m n:Nat} {ys:List Value} {o:Obj} {g cap:Nat} (hO:w4.ownsRow base T 3 aAf m ys) (ne:∀ g,lv.ownBlock=some g->aAf.ownBlock≠some g) (hgr:(w4.alloc o).grownBy w5 lv.ownBlock) (hat:lv.ownBlock=some g\/g=w4.heap.size+1) :
  w5.ownsRow base T 3 aAf m ys/\∀ g',(Value.slice (some ⟨g,0,none⟩) n cap).ownBlock=some g'->aAf.ownBlock≠some g':=by
 have c1:aB (fun b=>lv.ownBlock=some b) w4 w5:=(p9 _ w4 o).trans (aB.of_grown hgr) (fun _ _ e=>e);refine⟨eP hO c1 (fun g' hg e=>ne g' e hg),fun g' hg e=>?_⟩;simp only [Value.ownBlock,Option.some.injEq] at hg;subst hg;rcases hat with e'|e'
 ·exact ne g e' e
 ·have:=(hO.lt g e).2;omega
structure aA1 (w W:World) (lv aAf:Value) (y z:List aH):Prop where
 oy:W.ownsRow w.heap.size 24 3 lv y.length (iE y)
 aAg:W.ownsRow w.heap.size 24 3 aAf z.length (iE z)
 ne:∀ g,lv.ownBlock=some g->aAf.ownBlock≠some g
 bl:Below w.heap.size w W
def aAe (f:aH):List Value:=[.int .u8 f.op.toNat,.string ⟨#[102]⟩,S f.val]
theorem aAG (y:List aH) (f:aH):iE (y++[asF f])=iE y++aAe f:=by rw [A8];rfl
theorem map_take {a:List aH} {k:Nat} (hk:k<a.length):(a.take (k+1)).map asF=(a.take k).map asF++[asF a[k]]:=by rw [List.take_succ_eq_append_getElem hk,List.map_append];rfl
theorem aA8 (A:Option Addr) (c:Nat) (a:List aH) (B:Option Addr) (d:Nat) (b:List aH) (w:World) (hT:fD w) (hca:a.length<=c) (hA:zu w A a) (hcb:b.length<=d) (hB:zu w B b) :
  Calls Tryz.prog 6 #[.slice A a.length c,.slice B b.length d] w fun e w'=>e=.returned (.bool true)/\Below w.heap.size w w':=by
 have HA:=Lib.hid hA;have HB:=Lib.hid hB;have pK:=tq w hT;clear hA hB;by_cases q1:40<a.length
 ·have d1:(40:Int)<(a.length:Int):=by omega
  clear q1;go_enter Tryz.func6,Tryz.ntmps6;go_wp2_with (first|(go_at_call 17;refine pK.mono ?_;rintro e w1 ⟨rfl,hb1⟩));go_returns;exact⟨rfl,hb1⟩
 have d1:(a.length:Int)<=40:=by omega
 by_cases q2:40<b.length
 ·have d2:(40:Int)<(b.length:Int):=by omega
  clear q1 q2;go_enter Tryz.func6,Tryz.ntmps6;go_wp2_with (first|(go_at_call 17;refine pK.mono ?_;rintro e w1 ⟨rfl,hb1⟩));go_returns;exact⟨rfl,hb1⟩
 have d2:(b.length:Int)<=40:=by omega
 clear q1 q2 pK;obtain⟨jf,cf,cf0,cf1,cf2⟩:=info_parts A9;go_enter Tryz.func6,Tryz.ntmps6;go_wp2_with fail
 go_loopw [5,7] (fun v i wr=>∃ (k:Nat),i=.int .i64 k/\k<=a.length/\wr.ownsRow w.heap.size 24 3 v ((a.take k).map asF).length (iE ((a.take k).map asF))/\Below w.heap.size w wr) (fun _ i _=>a.length-(intOf i).toNat)
 case atStart=>exact⟨0,rfl,by omega,by simpa [iE] using World.ownsRow_nil w w.heap.size 24 3,Below.refl _ _⟩
 case round =>
  obtain⟨k,rfl,hk,hO,hB⟩:=hrel;by_cases hlt:k<a.length
  ·obtain⟨bx,ox,rfl,hbl,hc0,hc1,hc2⟩:=HA.out k hlt
   have htk:=map_take hlt;have hlk:((a.take k).map asF).length=k:=by rw [List.length_map,List.length_take];omega
   generalize (a.take k).map asF=y at *;generalize a[k]=cc at *;have hfc:=aAG y cc;unfold aAe at hfc;obtain⟨F,hF⟩:∃ F:ByteArray,(⟨cc.feat.toArray⟩:ByteArray)=F:=⟨_,rfl⟩;obtain⟨V,hVv⟩:∃ V:ByteArray,(⟨cc.val.toArray⟩:ByteArray)=V:=⟨_,rfl⟩;have k0:wr.cell? ⟨bx,ox+k * 3,none⟩=some (.int .u8 cc.op.toNat):=(hB.cell (p:=⟨bx,ox+k * 3,none⟩) hbl).trans hc0;have k1:wr.cell? ⟨bx,ox+k * 3+1,none⟩=some (.string F):=(hB.cell (p:=⟨bx,ox+k * 3+1,none⟩) hbl).trans (by rw [hc1,S,hF]);have k2:wr.cell? ⟨bx,ox+k * 3+2,none⟩=some (.string V):=(hB.cell (p:=⟨bx,ox+k * 3+2,none⟩) hbl).trans (by rw [hc2,S,hVv]);rw [show S cc.val=.string V by rw [S,hVv]] at hfc;generalize cc.op=op at *;have HTK:=Lib.hid htk;have HFC:=Lib.hid hfc;have HO:=Lib.hid hO;have HLK:=Lib.hid hlk;have hyl:y.length<=40:=by omega
   have i0:(0:Int)<=(k:Int):=by omega
   have il:(k:Int)<(a.length:Int):=by omega
   clear htk hfc hO hlk hF hVv hc0 hc1 hc2;go_upto_region 9 with (fail)
   have bA:Below wr.heap.size wr (wr.alloc (.cells #[.int .u8 op.toNat,.string ⟨#[102]⟩,.string V] 24)):=(Below.refl _ _).alloc (Nat.le_refl _) _;have hO1:=eP HO.out (aB.of_new (X:=fun _=>False) bA) (fun _ _ e=>e);have hB1:Below w.heap.size w (wr.alloc (.cells #[.int .u8 op.toNat,.string ⟨#[102]⟩,.string V] 24)):=hB.alloc hB.size _;have c0:=aJ wr #[.int .u8 op.toNat,.string ⟨#[102]⟩,.string V] 24 0 (.int .u8 op.toNat) rfl;have c1:=aJ wr #[.int .u8 op.toNat,.string ⟨#[102]⟩,.string V] 24 1 (.string ⟨#[102]⟩) rfl;have c2:=aJ wr #[.int .u8 op.toNat,.string ⟨#[102]⟩,.string V] 24 2 (.string V) rfl;obtain⟨w2,hw2⟩:∃ w2,w2=wr.alloc (.cells #[.int .u8 op.toNat,.string ⟨#[102]⟩,.string V] 24):=⟨_,rfl⟩;rw [<-hw2] at hO1 hB1 c0 c1 c2;rw [<-hw2];clear hw2 bA k0 k1 k2 hB;have bB:Below w2.heap.size w2 (w2.alloc (.cells #[.int .u8 op.toNat,.string ⟨#[102]⟩,.string V] 24)):=(Below.refl _ _).alloc (Nat.le_refl _) _;have hO2:=eP hO1 (aB.of_new (X:=fun _=>False) bB) (fun _ _ e=>e);have hnews:∀ j u,(#[Value.int .u8 op.toNat,.string ⟨#[102]⟩,.string V]).toList[j]? = some u->(w2.alloc (.cells #[.int .u8 op.toNat,.string ⟨#[102]⟩,.string V] 24)).cell? ((⟨w2.heap.size,0,none⟩:Addr).add j)=some u:=World.news_of_block (heap_alloc_new w2 _);have hbase:w.heap.size<=(w2.alloc (.cells #[.int .u8 op.toNat,.string ⟨#[102]⟩,.string V] 24)).heap.size:=Nat.le_trans hB1.size bB.size;have hny:y.length+1<=maxLen:=by unfold maxLen;omega
   have hby:(y.length+1) * 40<=140737488355328:=by omega
   clear bB hO1;go_wp2_with (first|(at_builtin;refine wpList_append_lies _ rfl (.tmp 31) (.tmp 33) 43 rfl w.heap.size 24 jf _ 3 40 Tryz.underlying43 cf cf0 cf1 cf2 rfl (by decide) _ y.length (iE y) rfl hO2 ⟨w2.heap.size,0,none⟩ 1 1 [.int .u8 op.toNat,.string ⟨#[102]⟩,.string V] rfl rfl hnews (by simp [Value.oneCell']) (by decide) hny hby hbase (w2.heap.size+1) (by simp) ?_;intro g5 cap5 w5 ho5 hgr5 hat5 hlt5));have hB5:=xS hB1 (Nat.le_refl _) (fun g hg=>(hO2.lt g hg).1) hgr5;go_roundw
   case rel=>exact⟨k+1,by go_num,by omega,by rw [HTK.out,List.length_append,HFC.out];exact ho5,hB5⟩
   case measure=>simp [intOf];omega
  ·obtain rfl:k=a.length:=by omega
   rw [List.take_length] at hO;have hla:(a.map asF).length<=40:=by rw [List.length_map];omega
   have HCS:Hid (∀ b:List aH,jH (a.map asF)=true->jH (a.map asF++[aAt]++b.map asF)=jH (b.map asF)):=fun b h=>aA9 a b h
   generalize a.map asF=y at *;obtain⟨Al,cl,rfl,hfl⟩:=Ba hO;have HO:=Lib.hid hO;have pL:=Bp Al cl y wr (hT.t.below hB) hfl (by omega);obtain⟨L,hL⟩:∃ L,jH y=L:=⟨_,rfl⟩;rw [hL] at pL;have HL:=Lib.hid hL;clear hO hfl hL
   rename World=>w1
   cases L with
   | false =>
    clear HCS HO HL
    go_wp2_with (first
     | (go_at_call 21;refine pL.mono ?_;rintro e w2 ⟨rfl,hb2⟩;have pK:=tq w2 (hT.below (ae hB hb2)))
     | (go_at_call 17;refine pK.mono ?_;rintro e w3 ⟨rfl,hb3⟩))
    go_returns;exact⟨rfl,ae (ae hB hb2) hb3⟩
   | true =>
    have HCS':Hid (∀ b:List aH,jH (y++[aAt]++b.map asF)=jH (b.map asF)):=fun b=>HCS.out b HL.out
    clear HCS HL;go_upto_region 12 with (first|(go_at_call 21;refine pL.mono ?_;rintro e w2 ⟨rfl,hb2⟩))
    have hB2:=ae hB hb2;have hO1:=eP HO.out (aB.of_new (X:=fun _=>False) hb2) (fun _ _ e=>e);clear pL HO hB hb2;have bB:Below w2.heap.size w2 (w2.alloc (.cells #[.int .u8 67,.string ⟨#[102]⟩,.string ⟨#[]⟩] 24)):=(Below.refl _ _).alloc (Nat.le_refl _) _;have hO2:=eP hO1 (aB.of_new (X:=fun _=>False) bB) (fun _ _ e=>e);have hnews:∀ j u,(#[Value.int .u8 67,.string ⟨#[102]⟩,.string ⟨#[]⟩]).toList[j]? = some u->(w2.alloc (.cells #[.int .u8 67,.string ⟨#[102]⟩,.string ⟨#[]⟩] 24)).cell? ((⟨w2.heap.size,0,none⟩:Addr).add j)=some u:=World.news_of_block (heap_alloc_new w2 _);have hbase:w.heap.size<=(w2.alloc (.cells #[.int .u8 67,.string ⟨#[102]⟩,.string ⟨#[]⟩] 24)).heap.size:=Nat.le_trans hB2.size bB.size;have hny:y.length+1<=maxLen:=by unfold maxLen;omega
    have hby:(y.length+1) * 40<=140737488355328:=by omega
    clear bB hO1;go_wp2_with (first|(at_builtin;refine wpList_append_lies _ rfl (.tmp 39) (.tmp 41) 43 rfl w.heap.size 24 jf _ 3 40 Tryz.underlying43 cf cf0 cf1 cf2 rfl (by decide) _ y.length (iE y) rfl hO2 ⟨w2.heap.size,0,none⟩ 1 1 [.int .u8 67,.string ⟨#[102]⟩,.string ⟨#[]⟩] rfl rfl hnews (by simp [Value.oneCell']) (by decide) hny hby hbase (w2.heap.size+1) (by simp) ?_;intro g5 cap5 w5 ho5 hgr5 hat5 hlt5));have hB5:=xS hB2 (Nat.le_refl _) (fun g hg=>(hO2.lt g hg).1) hgr5;have hO5:w5.ownsRow w.heap.size 24 3 (.slice (some ⟨g5,0,none⟩) (y.length+1) cap5) (y++[aAt]++([]:List aH).map asF).length (iE (y++[aAt]++([]:List aH).map asF)):=by
     rw [List.map_nil,List.append_nil,A8,List.length_append];exact ho5
    clear ho5 hgr5 hat5 hlt5 hnews hbase hny hby hO2 hB2
    go_loopw [5,6,9] (fun v u i wr=>∃ (k:Nat),i=.int .i64 k/\k<=b.length/\aA1 w wr v u (y++[aAt]++(b.take k).map asF) ((b.take k).map asF)) (fun _ _ i _=>b.length-(intOf i).toNat)
    case atStart=>exact⟨0,rfl,by omega,hO5,by simpa [iE] using World.ownsRow_nil w5 w.heap.size 24 3,fun g _ e=>by simp [Value.ownBlock] at e,hB5⟩
    case round =>
     obtain⟨k,rfl,hk,hC⟩:=hrel;have hB:=hC.bl;by_cases hlt:k<b.length
     ·obtain⟨bx,ox,rfl,hbl,hc0,hc1,hc2⟩:=HB.out k hlt
      have htk:=map_take hlt;have hlz:((b.take k).map asF).length=k:=by rw [List.length_map,List.length_take];omega
      have hly:(y++[aAt]++(b.take k).map asF).length<=81:=by rw [List.length_append,List.length_append,hlz];simp;omega
      have hty:y++[aAt]++(b.take (k+1)).map asF=(y++[aAt]++(b.take k).map asF)++[asF b[k]]:=by rw [htk,List.append_assoc _ _ [_]]
      generalize y++[aAt]++(b.take k).map asF=y1 at *;generalize (b.take k).map asF=z at *;generalize b[k]=cc at *;have hfy:=aAG y1 cc;have hfz:=aAG z cc;unfold aAe at hfy hfz;obtain⟨F,hF⟩:∃ F:ByteArray,(⟨cc.feat.toArray⟩:ByteArray)=F:=⟨_,rfl⟩;obtain⟨V,hVv⟩:∃ V:ByteArray,(⟨cc.val.toArray⟩:ByteArray)=V:=⟨_,rfl⟩;have k0:wr.cell? ⟨bx,ox+k * 3,none⟩=some (.int .u8 cc.op.toNat):=(hB.cell (p:=⟨bx,ox+k * 3,none⟩) hbl).trans hc0;have k1:wr.cell? ⟨bx,ox+k * 3+1,none⟩=some (.string F):=(hB.cell (p:=⟨bx,ox+k * 3+1,none⟩) hbl).trans (by rw [hc1,S,hF]);have k2:wr.cell? ⟨bx,ox+k * 3+2,none⟩=some (.string V):=(hB.cell (p:=⟨bx,ox+k * 3+2,none⟩) hbl).trans (by rw [hc2,S,hVv]);rw [show S cc.val=.string V by rw [S,hVv]] at hfy hfz;generalize cc.op=op at *;have HTK:=Lib.hid htk;have HTY:=Lib.hid hty;have HFY:=Lib.hid hfy;have HFZ:=Lib.hid hfz;have HC:=Lib.hid hC;have hzl:z.length<=40:=by omega
      have i0:(0:Int)<=(k:Int):=by omega
      have il:(k:Int)<(b.length:Int):=by omega
      clear htk hty hfy hfz hC hlz hF hVv hc0 hc1 hc2;go_upto_region 18 with (fail)
      have bA:Below wr.heap.size wr (wr.alloc (.cells #[.int .u8 op.toNat,.string ⟨#[102]⟩,.string V] 24)):=(Below.refl _ _).alloc (Nat.le_refl _) _;have hO1:=eP HC.out.oy (aB.of_new (X:=fun _=>False) bA) (fun _ _ e=>e);have hZ1:=eP HC.out.aAg (aB.of_new (X:=fun _=>False) bA) (fun _ _ e=>e);have hB1:Below w.heap.size w (wr.alloc (.cells #[.int .u8 op.toNat,.string ⟨#[102]⟩,.string V] 24)):=hB.alloc hB.size _;have g2:=heap_alloc_new wr (.cells #[.int .u8 op.toNat,.string ⟨#[102]⟩,.string V] 24);obtain⟨w2,hw2⟩:∃ w2,w2=wr.alloc (.cells #[.int .u8 op.toNat,.string ⟨#[102]⟩,.string V] 24):=⟨_,rfl⟩;obtain⟨b2,hb2⟩:∃ b2,b2=wr.heap.size:=⟨_,rfl⟩;rw [<-hw2] at hO1 hZ1 hB1 g2;rw [<-hb2] at g2;rw [<-hw2,<-hb2];have h2ge:w.heap.size<=b2:=by rw [hb2];exact hB.size
      have HNO:Hid (∀ g,u5.ownBlock=some g->g≠b2):=fun g hg e=>by have:=(HC.out.oy.lt g hg).2;omega
      clear hw2 bA k0 k1 k2 hB hb2;obtain⟨c0,c1,c2⟩:=cells3 g2;have bB:Below w2.heap.size w2 (w2.alloc (.cells #[.int .u8 op.toNat,.string ⟨#[102]⟩,.string V] 24)):=(Below.refl _ _).alloc (Nat.le_refl _) _;have hO2:=eP hO1 (aB.of_new (X:=fun _=>False) bB) (fun _ _ e=>e);have hnews:∀ j u,(#[Value.int .u8 op.toNat,.string ⟨#[102]⟩,.string V]).toList[j]? = some u->(w2.alloc (.cells #[.int .u8 op.toNat,.string ⟨#[102]⟩,.string V] 24)).cell? ((⟨w2.heap.size,0,none⟩:Addr).add j)=some u:=World.news_of_block (heap_alloc_new w2 _);have hbase:w.heap.size<=(w2.alloc (.cells #[.int .u8 op.toNat,.string ⟨#[102]⟩,.string V] 24)).heap.size:=Nat.le_trans hB1.size bB.size;have hny:y1.length+1<=maxLen:=by unfold maxLen;omega
      have hby:(y1.length+1) * 40<=140737488355328:=by omega
      clear bB hO1;go_upto_region 19 with (first|(at_builtin;refine wpList_append_lies _ rfl (.tmp 54) (.tmp 56) 43 rfl w.heap.size 24 jf _ 3 40 Tryz.underlying43 cf cf0 cf1 cf2 rfl (by decide) _ y1.length (iE y1) rfl hO2 ⟨w2.heap.size,0,none⟩ 1 1 [.int .u8 op.toNat,.string ⟨#[102]⟩,.string V] rfl rfl hnews (by simp [Value.oneCell']) (by decide) hny hby hbase (w2.heap.size+1) (by simp) ?_;intro g5 cap5 w5 ho5 hgr5 hat5 hlt5))
      have hB5:=xS hB1 (Nat.le_refl _) (fun g hg=>(hO2.lt g hg).1) hgr5;obtain⟨hZ5,hne5⟩:=aAS (n:=y1.length+1) (cap:=cap5) hZ1 HC.out.ne hgr5 hat5;have g5':w5.heap[b2]? = some (.cells #[.int .u8 op.toNat,.string ⟨#[102]⟩,.string V] 24 (0,0)):=((p9 _ w2 _).trans (aB.of_grown hgr5) (fun _ _ e=>e)).block b2 (lt_of_block g2) (fun e=>HNO.out b2 e rfl) |>.trans g2
      clear c0 c1 c2 g2 hnews hbase hny hby hO2 hZ1 hgr5 hat5 hlt5 hB1;obtain⟨c0,c1,c2⟩:=cells3 g5';have bB:Below w5.heap.size w5 (w5.alloc (.cells #[.int .u8 op.toNat,.string ⟨#[102]⟩,.string V] 24)):=(Below.refl _ _).alloc (Nat.le_refl _) _;have hZ6:=eP hZ5 (aB.of_new (X:=fun _=>False) bB) (fun _ _ e=>e);have hnews:∀ j u,(#[Value.int .u8 op.toNat,.string ⟨#[102]⟩,.string V]).toList[j]? = some u->(w5.alloc (.cells #[.int .u8 op.toNat,.string ⟨#[102]⟩,.string V] 24)).cell? ((⟨w5.heap.size,0,none⟩:Addr).add j)=some u:=World.news_of_block (heap_alloc_new w5 _);have hbase:w.heap.size<=(w5.alloc (.cells #[.int .u8 op.toNat,.string ⟨#[102]⟩,.string V] 24)).heap.size:=Nat.le_trans hB5.size bB.size;have hny:z.length+1<=maxLen:=by unfold maxLen;omega
      have hby:(z.length+1) * 40<=140737488355328:=by omega
      have HO5:=Lib.hid ho5;clear bB g5' ho5 hZ5;go_wp2_with (first|(at_builtin;refine wpList_append_lies _ rfl (.tmp 58) (.tmp 60) 43 rfl w.heap.size 24 jf _ 3 40 Tryz.underlying43 cf cf0 cf1 cf2 rfl (by decide) _ z.length (iE z) rfl hZ6 ⟨w5.heap.size,0,none⟩ 1 1 [.int .u8 op.toNat,.string ⟨#[102]⟩,.string V] rfl rfl hnews (by simp [Value.oneCell']) (by decide) hny hby hbase (w5.heap.size+1) (by simp) ?_;intro g7 cap7 w7 ho7 hgr7 hat7 hlt7));have hB7:=xS hB5 (Nat.le_refl _) (fun g hg=>(hZ6.lt g hg).1) hgr7;obtain⟨hO7,hne7⟩:=aAS (n:=z.length+1) (cap:=cap7) HO5.out (fun g h1 h2=>hne5 g h2 h1) hgr7 hat7;go_roundw
      case rel=>exact⟨k+1,by go_num,by omega,by rw [HTY.out,List.length_append,HFY.out];exact hO7,by rw [HTK.out,List.length_append,HFZ.out];exact ho7,fun g h1 h2=>hne7 g h2 h1,hB7⟩
      case measure=>simp [intOf];omega
     ·obtain rfl:k=b.length:=by omega
      have hO:=hC.oy;have hZ:=hC.aAg;rw [List.take_length] at hO hZ;have hlz:(b.map asF).length<=40:=by rw [List.length_map];omega
      have hCS:=HCS'.out b;have hly:(y++[aAt]++b.map asF).length<=81:=by rw [List.length_append,List.length_append];simp at hlz ⊢;omega
      generalize y++[aAt]++b.map asF=y1 at *;generalize b.map asF=z at *;obtain⟨Al,cl,rfl,hfl⟩:=Ba hO;obtain⟨aAa,aAc,rfl,hfz⟩:=Ba hZ;have pL:=Bp Al cl y1 wr (hT.t.below hB) hfl (by omega);have pZ:=fun W (h:Below wr.heap.size wr W)=>Bp aAa aAc z W (hT.t.below (ae hB h)) (zu.below hfz h) (by omega)
      rw [hCS] at pL;obtain⟨L,hL⟩:∃ L,jH z=L:=⟨_,rfl⟩;rw [hL] at pL pZ;clear hL hCS hO hZ hfl hfz hC HCS'
      cases L
      all_goals go_wp2_with (first
       | (go_at_call 17;refine pK.mono ?_;rintro e w4 ⟨rfl,hb4⟩)
       | (go_at_call 21;refine pZ2.mono ?_;rintro e w3 ⟨rfl,hb3⟩;have pK:=tq w3 (hT.below (ae hB (ae hb2 hb3))))
       | (go_at_call 21;refine pL.mono ?_;rintro e w2 ⟨rfl,hb2⟩;have pZ2:=pZ w2 hb2))
      all_goals go_returns
      all_goals exact⟨rfl,ae (ae hB (ae hb2 hb3)) hb4⟩
end Go.Proofs.YtppnecgeboonbaaGreatDoor
