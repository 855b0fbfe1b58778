/- Walks. -/
import Derived.Test.YtppnecgeboonbaaGreatDoorZ27
namespace Go.Proofs.YtppnecgeboonbaaGreatDoor
set_option maxRecDepth 100000
set_option linter.all false
set_option maxHeartbeats 16000000
open Go
section
variable {P:Program} {ops:Array Oper} {Q:Exit->Act->World->Prop} {md:Region.Mode} {R:World->Prop} {k:Nat}
def wpAnyS(P:Program)(md:Region.Mode)(ops:Array Oper)(Q:Exit->Act->World->Prop)(k:Nat)(R:World->Prop):Nat->Array Bool->Act->World->Prop
 |0,listed,a,w=>Region.ready md ops listed=[]/\Q .normal a w
 |fuel+1,listed,a,w=>
  (Region.ready md ops listed=[]->Q .normal a w) ∧
  ∀i∈Region.ready md ops listed,wpOp P ops Q i (fun a' w'=>((listed.setIfInBounds i true).getD k true=false->R w')/\wpAnyS P md ops Q k R fuel (listed.setIfInBounds i true) a' w') a w
theorem zg:∀(fuel:Nat) (listed:Array Bool) (a:Act) (w:World),wpAnyS P md ops Q k R fuel listed a w->wpAny P md ops Q fuel listed a w
 |0,_,_,_,h=>h
 |fuel+1,_,_,_,h=>⟨h.1,fun i hi=>wpOp_mono (fun a' w' h'=>zg fuel _ a' w' h'.2) (h.2 i hi)⟩
def Closed(md:Region.Mode)(ops:Array Oper)(s:Array Bool):Prop:=∀(j:Nat) (o:Oper),ops[j]? = some o->s.getD j true=true->∀e∈o.after,Region.binds md e=true->s.getD e.on false=true
def zW(md:Region.Mode)(ops:Array Oper)(s:Array Bool):Bool:=(List.range ops.size).all fun j=>match ops[j]? with
 |some o=>!s.getD j true||o.after.toList.all fun e=>!Region.binds md e||s.getD e.on false
 |none=>true
def FX{s:Array Bool}(h:zW md ops s=true):Closed md ops s:=by
 intro j o ho hj e he hb;have hlt:j<ops.size:=(abg.1 ho).1;have h1:=aaT.1 h j (afc.2 hlt);rw[ho]at h1;simp only[hj,Bool.not_true,af8]at h1;have h2:=aaT.1 h1 e (by simpa using he)
 simpa[hb]using h2
def Closed.set{s:Array Bool}{i:Nat}(h:Closed md ops s)(hi:i∈Region.ready md ops s):Closed md ops (s.setIfInBounds i true):=by
 intro j o ho hj e he hb;by_cases hji:i=j
 ·subst hji
  obtain⟨_,o',ho',hall⟩:=aee.1 hi;rw[ho]at ho'
  cases ho'
  exact getD_set_true (hall e he hb)
 ·rw[afk true hji]at hj
  exact getD_set_true (h j o ho hj e he hb)
def uP(md:Region.Mode)(ops:Array Oper):Nat->Nat->Nat->Bool
 |0,_,_=>false
 |f+1,k,i=>match ops[k]? with
  |some o=>o.after.toList.any fun e=>Region.binds md e&&(e.on==i||uP md ops f e.on i)
  |none=>false
theorem EE{s:Array Bool}(hc:Closed md ops s):∀(f k i:Nat),(∀o,ops[k]? = some o->∀e∈o.after,Region.binds md e=true->s.getD e.on false=true)->uP md ops f k i=true->s.getD i false=true
 |0,k,i,_,h=>by cases h
 |f+1,k,i,hk,h=>by
  unfold uP at h
  cases ho:ops[k]? with
  |none=>rw[ho]at h;cases h
  |some o=>
   rw[ho]at h;obtain⟨e,he,hb⟩:=List.any_eq_true.1 h;have he:e∈o.after:=by simpa using he
   simp only[aaE,aca,beq_iff_eq]at hb;have hl:=hk o ho e he hb.1;rcases hb.2 with e1|e1
   ·rw[<-e1];exact hl
   ·refine EE hc f e.on i (fun o' ho' e' he' hb'=>hc e.on o' ho' ?_ e' he' hb') e1
    have hlt:e.on<s.size:=by
     rcases aaz e.on s.size with h'|h'
     ·exact h'
     ·simp[abY h']at hl
    simp[hlt]at hl ⊢;exact hl
def wpAnyS_first{i:Nat}{oi:Oper}{v:Value}(hi:ops[i]? = some oi)(hsel:∀(j:Nat) (o:Oper) cs b,ops[j]? = some o->o.op ≠ .select cs b)
  (hQ:∀c a w,Q (.panic c) (a.put oi.dst v) w->Q (.panic c) a w) (hik:i≠k) {f:Nat} (hn:uP md ops f k i=true) :
  ∀(fuel:Nat) (listed:Array Bool) (a:Act) (w:World),Closed md ops listed->listed.getD k true=false ->
   (∀j oj,ops[j]? = some oj->j≠i->listed.getD j true=false->(∀e∈oj.after,Region.binds md e=true->e.on≠i)->oi.apart ops oj=true) ->
   i∈Region.ready md ops listed->YieldsIf P ops R oi v a->R w ->
   wpAnyS P md ops Q k R fuel (listed.setIfInBounds i true) (a.put oi.dst v) w->wpAnyS P md ops Q k R (fuel+1) listed a w:=by
 have hind:∀s:Array Bool,(s.setIfInBounds i true).getD k true=s.getD k true:=fun s=>afk true hik
 intro fuel
 induction fuel with
 |zero=>
  intro listed a w _ _ _ hr hy hS H;refine⟨fun h=>(by rw[h]at hr;cases hr),fun j hj=>?_⟩;by_cases hji:j=i
  ·subst hji;exact hy.wpOp hi hS ⟨fun _=>hS,H⟩
  ·have:=ae4 hj hji
   rw[H.1]at this
   cases this
 |succ fuel ih=>
  intro listed a w hc hk0 hfree hr hy hS H;refine⟨fun h=>(by rw[h]at hr;cases hr),fun j hj=>?_⟩;by_cases hji:j=i
  ·subst hji;exact hy.wpOp hi hS ⟨fun _=>hS,H⟩
  ·have h1:=H.2 j (ae4 hj hji)
   obtain⟨hjun,oj,hoj,hall⟩:=aee.1 hj;have hnot:∀e∈oj.after,Region.binds md e=true->e.on≠i:=fun e he hb heq=>by
    have h1:=hall e he hb;have h0:=(aee.1 hr).1;rw[heq]at h1;rcases aaz i listed.size with h'|h'
    ·simp[h']at h0 h1;rw[h0]at h1;cases h1
    ·simp[abY h']at h1
   have h2:=wpOp_putIf hoj (hfree j oj hoj hji hjun hnot) (fun cs b=>hsel i oi cs b hi) (fun cs b=>hsel j oj cs b hoj) hQ hy h1;have hfree':∀m om,ops[m]? = some om->m≠i->(listed.setIfInBounds j true).getD m true=false ->
     (∀e∈om.after,Region.binds md e=true->e.on≠i)->oi.apart ops om=true:=fun m om hom hmi hun hno=>by
    refine hfree m om hom hmi ?_ hno;by_cases hjm:j=m
    ·subst hjm;exact hjun
    ·rw[afk true hjm]at hun;exact hun
   have hjk:j≠k:=by
    rintro rfl;have:=EE hc f j i (fun o ho e he hb=>by
     rw[hoj]at ho
     cases ho
     exact hall e he hb) hn
    rw[getD_both (aee.1 hr).1]at this
    cases this
   have hk:(listed.setIfInBounds j true).getD k true=false:=by rw[afk true hjk];exact hk0
   refine wpOp_mono (fun a' w' h3=>?_) h2;obtain⟨y,r,z⟩:=h3;have hR:R w':=r (by rw[ad3 _ _ (acx hji),hind];exact hk);refine⟨fun _=>hR,ih (listed.setIfInBounds j true) a' w' (hc.set hj) hk hfree' (ae4 hr (acx hji)) y hR ?_⟩;rw[ad3 _ _ hji];exact z
def l8{listed:Array Bool}{a:Act}{w:World}(hr:Region.ready md ops listed=[])(h:Q .normal a w):∀fuel,wpAnyS P md ops Q k R fuel listed a w
 |0=>⟨hr,h⟩
 |_+1=>⟨fun _=>h,by rw[hr];simp⟩
def bS(P:Program)(md:Region.Mode)(ops:Array Oper)(Q:Exit->Act->World->Prop)(k:Nat)(R:World->Prop)(fuel:Nat)(listed:Array Bool)(a:Act)(w:World)(rs:List Nat):Prop:=
 ∀i∈rs,wpOp P ops Q i (fun a' w'=>((listed.setIfInBounds i true).getD k true=false->R w')/\wpAnyS P md ops Q k R fuel (listed.setIfInBounds i true) a' w') a w
def bS.nil{fuel:Nat}{listed:Array Bool}{a:Act}{w:World}:bS P md ops Q k R fuel listed a w []:=fun _ h=>by cases h
def dw{fuel:Nat}{listed:Array Bool}{a:Act}{w:World}(rs:List Nat)(hr:Region.ready md ops listed=rs)(hne:rs≠[])(h:bS P md ops Q k R fuel listed a w rs):wpAnyS P md ops Q k R (fuel+1) listed a w:=
 ⟨fun h0=>absurd (hr ▸ h0) hne,hr ▸ h⟩
end
section
variable {P:Program} {l r:List Oper} {o:Oper} {Q:Exit->Act->World->Prop} {R:World->Prop} {k:Nat} {fuel:Nat} {listed:Array Bool} {a:Act} {w:World}
def xh{i:Nat}(hd:l.drop i=o::r):l.toArray[i]? = some o:=by
 have:=aaw List.head? hd;rw[afW]at this
 simpa using this
def bV(i:Nat)(hd:l.drop i=o::r){v:Value}(hs:Region.noSelect l.toArray=true)(hf:Region.free .any l.toArray listed i=true)(hr:(Region.ready .any l.toArray listed).contains i=true)(f:Nat)(hn:uP .any l.toArray f k i=true)(hc:zW .any l.toArray listed=true)(hk:listed.getD k true=false)(hik:i≠k)
  (hQ:∀c a w,Q (.panic c) (a.put o.dst v) w->Q (.panic c) a w) (hg:Region.wanted o (yielded l.toArray a.tmps)=true) (hy:∀w,R w->(execOp a.eval o).run P w=.ok (.value v) w) (hS:R w)
  (h:wpAnyS P .any l.toArray Q k R fuel (listed.setIfInBounds i true) (a.put o.dst v) w):wpAnyS P .any l.toArray Q k R (fuel+1) listed a w:=
 wpAnyS_first (xh hd) (Region.noSelect_spec hs) hQ hik hn fuel listed a w (FX hc) hk (Region.free_spec (xh hd) hf) (by simpa using hr) (aam ⟨hg,hy⟩) hS h
def takeB(i:Nat){v:Value}
  (h:wpAnyS P .any l.toArray Q k R fuel (listed.setIfInBounds i true) (a.put o.dst v) w)
  (hd:l.drop i=o::r:=by rfl) (hs:Region.noSelect l.toArray=true:=by kernel_rfl) (hf:Region.free .any l.toArray listed i=true:=by kernel_rfl) (hr:(Region.ready .any l.toArray listed).contains i=true:=by kernel_rfl) (hn:uP .any l.toArray 30 k i=true:=by kernel_rfl) (hc:zW .any l.toArray listed=true:=by kernel_rfl) (hk:listed.getD k true=false:=by rfl) (hik:i≠k:=by decide)
  (hQ:∀c a w,Q (.panic c) (a.put o.dst v) w->Q (.panic c) a w:=by exact fun c a w h=>h) (hy:∀w,R w->(execOp a.eval o).run P w=.ok (.value v) w:=by intro w hSw;(try dsimp only at hSw);go_simp;try with_reducible rfl) (hg:Region.wanted o (yielded l.toArray a.tmps)=true:=by rfl) (hS:R w:=by assumption):wpAnyS P .any l.toArray Q k R (fuel+1) listed a w:=
 bV i hd hs hf hr 30 hn hc hk hik hQ hg hy hS h
def takeC(i:Nat){v:Value}
  (h:wpAnyS P .any l.toArray Q k R fuel (listed.setIfInBounds i true) (a.put o.dst v) w)
  (hd:l.drop i=o::r:=by rfl) (hs:Region.noSelect l.toArray=true:=by kernel_rfl) (hf:Region.free .any l.toArray listed i=true:=by kernel_rfl) (hr:(Region.ready .any l.toArray listed).contains i=true:=by kernel_rfl) (hn:uP .any l.toArray 30 k i=true:=by kernel_rfl) (hc:zW .any l.toArray listed=true:=by kernel_rfl) (hk:listed.getD k true=false:=by rfl) (hik:i≠k:=by decide)
  (hQ:∀c a w,Q (.panic c) (a.put o.dst v) w->Q (.panic c) a w:=by exact fun c a w h=>h) (hy:∀w,R w->(execOp a.eval o).run P w=.ok (.value v) w:=by intro w hSw;(try dsimp only at hSw);(repeat (obtain⟨hq,hSw⟩:=hSw));go_simp;try with_reducible rfl) (hg:Region.wanted o (yielded l.toArray a.tmps)=true:=by rfl) (hS:R w:=by assumption):wpAnyS P .any l.toArray Q k R (fuel+1) listed a w:=
 bV i hd hs hf hr 30 hn hc hk hik hQ hg hy hS h
def qO:(∀(a:Act) (d:Option Tmp) (v:Value),a.put d v=match d with|some t=>{ a with tmps:=a.tmps.setIfInBounds t v }|none=>a)/\(∀(l:List Value) (i:Nat) (v:Value),l.toArray.setIfInBounds i v=(l.set i v).toArray)/\(∀(x v:Value) (l:List Value),(x::l).set 0 v=v::l)/\∀(x v:Value) (l:List Value) (n:Nat),(x::l).set (n+1) v=x::l.set n v:=
 ⟨fun a d v=>by cases d<;>rfl,fun l i v=>afq l i v,fun x v l=>rfl,fun x v l n=>rfl⟩
def bL{rs:List Nat}(i:Nat)(hd:l.drop i=o::r)
  (h:∀K':Act->World->Prop,Shut (∀a w,((listed.setIfInBounds i true).getD k true=false->R w)->wpAnyS P .any l.toArray Q k R fuel (listed.setIfInBounds i true) a w->K' a w)->if Region.wanted o (yielded l.toArray a.tmps)=true then Oper.wp P o a w K' Q else K' (a.put o.dst undef) w)
  (hs:bS P .any l.toArray Q k R fuel listed a w rs):bS P .any l.toArray Q k R fuel listed a w (i::rs):=fun j hj=>by
 rcases aay.1 hj with rfl|hj
 ·exact wpOp_step (xh hd) (fun K' hK=>h K' (fun a w hS hW=>hK a w ⟨hS,hW⟩))
 ·exact hs j hj
def zh{id:Nat}(k:Nat)(R:World->Prop)(hm:P.follows .mixedOrders=true)(h:wpAnyS P .any l.toArray Q k R l.toArray.size (Array.replicate l.toArray.size false) a w.drew):(Code.region id l.toArray true).wp P Q a w:=
 wp_region_any hm (zg _ _ _ _ h)
def Oy{id n m:Nat}(k:Nat)(R:World->Prop)(hm:P.follows .mixedOrders=true)(hd:∀(i:Nat) (o:Oper) c,l.toArray[i]? = some o->o.op ≠ .defer c)(hQ:¬ LetsOut Q)
  (h:wpAnyS P .any l.toArray Q k R l.toArray.size (Array.replicate l.toArray.size false) a w.drew):(Code.region id l.toArray true).wpIn (Fence.wide.inRound m) n P Q a w:=
 wpIn_region_any hm (uY hd hQ _ _ _ _ (zg _ _ _ _ h))
end
open Go Go.RowKit Go.Maps
def OP.nil(W:World)(B:Nat):OP W B (.slice none 0 0) (.slice none 0 0) [] [] []:=
 ⟨abN _ _ _ _,abN _ _ _ _,rfl,fun i h=>absurd h (by simp),(fun g h=>by simp[Value.ownBlock]at h),(fun u h=>by cases h),fun i j h=>absurd h (by simp)⟩
def RF{w:World}{B:Nat}{v:Value}{l:List Bs}(h:w.ownsRow B 9 1 v l.length (l.map S)):∃A c,v=.slice A l.length c/\ay w A (l.map S):=by
 rcases h.2 with⟨rfl,h2⟩|⟨g,cap,cur,hv,hB,hg,hn,hm,hc,ht⟩
 ·exact⟨none,0,by rw[h2],fun hne=>by
   have:l=[]:=acW.1 h2;rw[this]at hne;exact absurd rfl hne⟩
 ·refine⟨some ⟨g,0,none⟩,cap,hv,fun _=>⟨g,0,rfl,lt_of_block hg,fun j u hj=>?_⟩⟩
  have:=h.cells (g:=g) (by rw[hv];rfl) j u hj;have hadd:(⟨g,0,none⟩:Addr).add j=⟨g,0+j,none⟩:=by unfold Addr.add;split<;>simp_all
  rwa[hadd]at this
def Qt{w:World}{B:Nat}{E:TypeId}{v:Value}{n:Nat}{xs:List Value}(h:w.ownsRow B E 1 v n xs):∃A c,v=.slice A n c:=by
 rcases h.2 with⟨rfl,h2⟩|⟨g,cap,cur,hv,hB,hg,hn,hm,hc,ht⟩
 ·exact⟨none,0,by rw[h2]⟩
 ·exact⟨some ⟨g,0,none⟩,cap,hv⟩
def RQ{w:World}{B:Nat}{v:Value}{us:List Value}(h:w.ownsRow B 22 1 v us.length us){k:Nat}(hk:k<us.length):∃g c,v=.slice (some ⟨g,0,none⟩) us.length c/\w.cell? ⟨g,k,none⟩=some us[k]/\w.frozen? ⟨g,k,none⟩=false:=by
 rcases h.2 with⟨rfl,h2⟩|⟨g,cap,cur,hv,hB,hg,hn,hm,hc,ht⟩
 ·omega
 ·refine⟨g,cap,hv,?_,?_⟩
  ·have:=h.cells (g:=g) (by rw[hv];rfl) k us[k] (aak hk)
   have hadd:(⟨g,0,none⟩:Addr).add k=⟨g,k,none⟩:=by unfold Addr.add;split<;>simp_all
   rwa[hadd]at this
  ·subst hv
   exact h.frozenAt k
def Pf(fs:List Bs)(f:Bs)(k:Nat)(z:Int):Prop:=(z=-1/\∀x∈fs.take k,x≠f)\/∃i:Nat,z=(i:Int)/\∃h:i<fs.length,fs[i]=f
def Pf.step_yes{fs:List Bs}{f:Bs}{k:Nat}(hk:k<fs.length)(h:fs[k]=f):Pf fs f (k+1) (k:Int):=aad ⟨k,rfl,hk,h⟩
def Pf.step_no{fs:List Bs}{f:Bs}{k:Nat}{z:Int}(h:Pf fs f k z)(hk:k<fs.length)(hne:fs[k]≠f):Pf fs f (k+1) z:=by
 rcases h with⟨h1,h2⟩|h
 ·refine aam ⟨h1,fun x hx=>?_⟩
  rw[aau hk]at hx;rcases aaG.1 hx with hx|hx
  ·exact h2 x hx
  ·rw[aar]at hx;subst hx;exact hne
 ·exact aad h
def Pk(l:wF)(f v:Bs)(l2:wF)(k:Nat):Prop:=∃h:k<l2.length,l2[k].1=f/\wV l f v=l2.set k (f,if v=[]\/v∈l2[k].2 then l2[k].2 else l2[k].2++[v])
def R4{l:wF}{f v:Bs}{k:Nat}(hn:(l.map Prod.fst).Nodup)(hk:k<(l.map Prod.fst).length)(h:(l.map Prod.fst)[k]=f):Pk l f v l k:=by
 obtain⟨hi,e⟩:=Qi (v:=v) (Q4 hn hk h);exact⟨hi,by simpa using h,e⟩
def R3{l:wF}{f v:Bs}(h:∀x∈l.map Prod.fst,x≠f):Pk l f v (l++[(f,[])]) l.length:=by
 refine⟨by simp,by simp,?_⟩;rw[Qh (Q5 h),aeM _ _ (Pe _),abx];simp only[aa7 (Pe _),abx];simp only[acy,aaK,acI,afm,abH]
def Pk.known{l l2:wF}{f v:Bs}{k:Nat}(h:Pk l f v l2 k)(hv:∀hk:k<l2.length,v=[]\/v∈l2[k].2):wV l f v=l2:=by
 obtain⟨hk,h1,h2⟩:=h;rw[h2,aaa (hv hk),<-h1];exact List.set_getElem_self hk
def Pk.unknown{l l2:wF}{f v:Bs}{k:Nat}(h:Pk l f v l2 k)(hv:∀hk:k<l2.length,¬ (v=[]\/v∈l2[k].2)):(wV l f v).map Prod.fst=l2.map Prod.fst/\∃hk:k<(l2.map Prod.snd).length,(wV l f v).map Prod.snd=(l2.map Prod.snd).set k ((l2.map Prod.snd)[k]++[v]):=by
 obtain⟨hk,h1,h2⟩:=h;rw[h2,aab (hv hk),ac3,ac3];refine⟨?_,by simpa using hk,by simp⟩;simp only;rw[<-h1,show l2[k].1=(l2.map Prod.fst)[k]'(by simpa using hk) by simp,List.set_getElem_self]
def O5(v:Bs)(vs:List Bs):Bool:=decide (v=[]\/v∈vs)
def Sn{v:Bs}{vs:List Bs}{i:Nat}(hi:i<vs.length):O5 v (vs.take (i+1))=(O5 v (vs.take i)||decide (vs[i]=v)):=by
 unfold O5;rw[aau hi];rw[aeN,aca,aax,aax,aax,aaG,aar];constructor
 ·rintro(h|h|h)
  ·exact aam (aam h)
  ·exact aam (aad h)
  ·exact aad h.symm
 ·rintro((h|h)|h)
  ·exact aam h
  ·exact aad (aam h)
  ·exact aad (aad h.symm)
def Sq{v:ByteArray}:O5 v.data.toList []=v.toList.isEmpty:=by
 unfold O5;rw[aan]
 cases v.data.toList<;>simp
def Sz{l:wF}{k i:Nat}(hi:i<l.length)(hk:k<=30000):OW 30000 (l.drop i) k=OW 30000 (l.drop (i+1)) (k*(2*l[i].2.length+1)):=by
 rw[aat hi,OW,aaa hk]
def Ri{l:wF}{k i:Nat}(h:¬ k<=30000\/l.length<=i):OW 30000 (l.drop i) k=k:=by
 rcases aaz i l.length with hi|hi
 ·rw[aat hi,OW,aab (by omega)]
 ·rw[aet hi];rfl
abbrev PR(gv k b11:Nat)(u:Value)(V:ByteArray)(w:World):Prop:=w.cell? ⟨gv,k,none⟩=some u/\w.cell? ⟨b11,2,none⟩=some (.string V)
def SX(m:aQ)(A At:Option Addr)(c ct:Nat)(t:List Bs)(w:World)(hV:dY w A m.states)(hT:ay w At (t.map S))(ht:t.length<=1000000)(hm:m.states.length<=100)(ha:∀s∈m.states,s.arcs.length<=1000/\∀a∈s.arcs,PK a.inn/\PK a.out) :
  Calls Tryz.prog 58 #[di m A c,.slice At t.length ct,.int .i64 30000] w fun e w'=>e=.returned (.int .i64 (O1 m t:Nat))/\Below w w w':=by
 have HV:=Pd hV;have HT:=Pd hT;have HA:=Pd ha;have HD:Hid (O1 m t=OW 30000 (OL t m.states []) 1):=rfl;generalize O1 m t=R at*;clear hV hT ha;unfold di S at*;obtain⟨kd,st,ld,ss⟩:=m;simp only at*;generalize (⟨ld.toArray⟩:ByteArray)=Ld at*;have z3:=az w #[.int .i64 kd,.int .i64 st,.string Ld,.slice A ss.length c] 30 3 _ rfl;have hb0:Below w w (w.alloc (.cells #[.int .i64 kd,.int .i64 st,.string Ld,.slice A ss.length c] 30)):=(aac _ _).alloc (Pe _) _;have hn0:w.heap.size<(w.alloc (.cells #[.int .i64 kd,.int .i64 st,.string Ld,.slice A ss.length c] 30)).heap.size:=by simp
 obtain⟨si,sc,sz0,sz1,sz2⟩:=abm rW;obtain⟨vi,vc,vz0,vz1,vz2⟩:=abm NG;go_enter Tryz.func58,Tryz.ntmps58;go_wp2_with fail;generalize w.alloc (.cells #[.int .i64 kd,.int .i64 st,.string Ld,.slice A ss.length c] 30)=w0 at*
 go_loopw [7,8,9] (fun fv vv i wr=>∃(q n:Nat) (us:List Value) (l:wF),i=.int .i64 q/\q<=ss.length/\OP wr w0.heap.size fv vv us (l.map Prod.fst) (l.map Prod.snd)/\Below w0 w0 wr/\Hid ((l.map Prod.fst).Nodup/\O0 n l)/\n<=q*1000/\Hid (OL t ss []=OL t (ss.drop q) l)) (fun _ _ i _=>ss.length-(intOf i).toNat)
 case atStart=>exact⟨0,0,[],[],rfl,by omega,OP.nil _ _,aac _ _,⟨abq,by simp[O0]⟩,by omega,rfl⟩
 case round=>
  obtain⟨q,n,us,l,rfl,hq,hF,hB,HN,hn,HJ⟩:=hrel;have m3:=(hB.cell (p:=⟨w.heap.size,3,none⟩) hn0).trans z3;by_cases hlt:q<ss.length
  ·obtain⟨b,o,rfl,Vb,hc0,A',c',hc1,TK⟩:=HV.out q hlt
   have hal:=HA.out _ (aag hlt);have HS:Hid (OL t (ss.drop q) l=OL t (ss.drop (q+1)) (OT t ss[q].arcs l)):=by rw[Hid,aat hlt];rfl
   have hc1':=(hb0.cell (p:=⟨b,o+q*2+1,none⟩) Vb).trans hc1;have hbo':b<w0.heap.size:=aah Vb hb0.size;have VH:=Pd (TK.below hb0);generalize ss[q]=s at*;obtain⟨fin,arcs⟩:=s;simp only at*;obtain⟨hal1,aB2⟩:=hal;have HAL:=Pd aB2;have i0:(0:Int)<=(q:Int):=by omega
   have il:(q:Int)<(ss.length:Int):=(by omega);have HJ2:Hid (OL t ss []=OL t (ss.drop (q+1)) (OT t (arcs.drop 0) l)):=by rw[Hid,HJ.out,HS.out];rfl
   clear TK hc0 hc1 aB2 HJ HS;go_wp2_with fail
   go_loopw [7,8,10] (fun fv vv i wr=>∃(j n:Nat) (us:List Value) (l:wF),i=.int .i64 j/\j<=arcs.length/\OP wr w0.heap.size fv vv us (l.map Prod.fst) (l.map Prod.snd)/\Below w0 w0 wr/\Hid ((l.map Prod.fst).Nodup/\O0 n l)/\n<=q*1000+j/\Hid (OL t ss []=OL t (ss.drop (q+1)) (OT t (arcs.drop j) l))) (fun _ _ i _=>arcs.length-(intOf i).toNat)
   case atStart=>exact⟨0,n,us,l,rfl,by omega,hF,hB,HN,by omega,HJ2⟩
   case round=>
    clear hF hB HN hn HJ2 m3;clear us l n;obtain⟨j,n,us,l,rfl,hj,hF,hB,HN,hn,HJ⟩:=hrel;have m3:=(hB.cell (p:=⟨w.heap.size,3,none⟩) hn0).trans z3;have ns:=(hB.cell (p:=⟨b,o+q*2+1,none⟩) hbo').trans hc1';by_cases hjl:j<arcs.length
    ·obtain⟨b',o',rfl,TH,ha0,ha1,ha2,UJ⟩:=VH.out j hjl
     have hbd:=HAL.out _ (aag hjl);have HS:Hid (OT t (arcs.drop j) l=OT t (arcs.drop (j+1)) (match eO t arcs[j] with|some f=>wV l f.feat f.val|none=>l)):=by rw[Hid,aat hjl];exact Sd _ _ _ _
     have pO:=SY At ct t arcs[j] wr (HT.out.below (hb0.trans (hB.mono (aa0 hn0)))) ht hbd.1 hbd.2;generalize arcs[j]=a at*;have u0:=(hB.cell (p:=⟨b',o'+j*4,none⟩) TH).trans ha0;have u1:=(hB.cell (p:=⟨b',o'+j*4+1,none⟩) TH).trans ha1;have u2:=(hB.cell (p:=⟨b',o'+j*4+2,none⟩) TH).trans ha2;have u3:=(hB.cell (p:=⟨b',o'+j*4+3,none⟩) TH).trans UJ;obtain⟨r,hr⟩:∃r,eO t a=r:=⟨_,rfl⟩;rw[hr]at pO HS;obtain⟨x,y,wt,tg⟩:=a;unfold qR at pO;simp only at u0 u1 u2 u3 pO;unfold S at u2 pO;generalize (⟨wt.toArray⟩:ByteArray)=Wt at*;unfold ma at pO;obtain⟨F,V,hf,TN,Ub⟩:=lI (r.getD dX);rw[hf]at pO;generalize Ve:(r.getD dX).op=oo at*;have ij0:(0:Int)<=(j:Int):=by omega
     have ijl:(j:Int)<(arcs.length:Int):=(by omega);clear ha0 ha1 ha2 UJ hr hf hbd Ve
     cases r with
     |none=>
      simp only[adA]at pO;go_wp2_with (first|(go_at_call 59;refine pO.mono ?_;rintro e w3 ⟨rfl,hb3⟩));have hb4:=hb3.alloc hb3.size (.cells #[.int .u8 oo.toNat,.string F,.string V] 24);go_roundw
      case rel=>exact⟨j+1,n,us,l,by go_num,by omega,hF.below hb4,hB.trans (hb4.mono hB.size),HN,by omega,by rw[Hid,HJ.out,HS.out]⟩
      case measure=>simp[intOf];omega
     |some f=>
      simp only[acL,abL]at pO TN Ub;simp only at HS;have HFd:=Pd TN;have HVd:=Pd Ub;clear TN Ub;go_upto_region 11 with(first|(go_at_call 59;refine pO.mono ?_;rintro e w3 ⟨rfl,hb3⟩))
      have hb4:=hb3.alloc hb3.size (.cells #[.int .u8 oo.toNat,.string F,.string V] 24);have g11:=aaq w3 (.cells #[.int .u8 oo.toNat,.string F,.string V] 24);have Xk:=hF.below hb4;have hB4:=hB.trans (hb4.mono hB.size);have VA:w0.heap.size<=w3.heap.size:=aaB hB.size hb3.size;have VL:∀u (m:Nat) ys E,wr.ownsRow w0.heap.size E 1 u m ys->u.ownBlock≠some w3.heap.size:=fun u m ys E h e=>by have:=(h.lt _ e).2;have:=hb3.size;omega
      have UY:Hid (u7.ownBlock≠some w3.heap.size/\u8.ownBlock≠some w3.heap.size/\∀u∈us,u.ownBlock≠some w3.heap.size):=⟨VL _ _ _ _ hF.of,VL _ _ _ _ hF.ov,fun u hu=>by
       obtain⟨i,hi,rfl⟩:=abr hu;exact VL _ _ _ _ (hF.ow i hi (by rw[<-hF.ul];exact hi))⟩
      obtain⟨W4,Yw⟩:∃W4,W4=w3.alloc (.cells #[.int .u8 oo.toNat,.string F,.string V] 24):=⟨_,rfl⟩;obtain⟨b11,WH⟩:∃b11,b11=w3.heap.size:=⟨_,rfl⟩;rw[<-Yw]at g11 Xk hB4;rw[<-WH]at g11 UY VA;rw[<-Yw,<-WH];clear Yw WH hb3 hb4 VL hF hB m3 ns u0 u1 u2 u3 pO;obtain⟨d0,d1,d2⟩:=aAN g11;obtain⟨Af,cf,rfl,hRf⟩:=RF Xk.of;obtain⟨AV,cV,rfl⟩:=Qt Xk.ov;obtain⟨fs,hfs⟩:∃fs,l.map Prod.fst=fs:=⟨_,rfl⟩;rw[hfs]at Xk hRf UY;rw[hfs];have hfl:fs.length<=1000000:=by
       have h1:=HN.out.2.1;have h2:l.length=fs.length:=by rw[<-hfs];simp
       omega
      have Wj:=Pd hfs;have XY:b11<W4.heap.size:=lt_of_block g11;clear hfs d0 d2;go_wp2_with fail
      go_loopw [13,14] (fun z i wr=>∃(i':Nat) (z':Int),i=.int .i64 i'/\z=.int .i64 z'/\i'<=fs.length/\Below W4 W4 wr/\Hid (Pf fs F.data.toList i' z')) (fun _ i _=>fs.length-(intOf i).toNat)
      case atStart=>exact⟨0,-1,rfl,rfl,by omega,aac _ _,aam ⟨rfl,by simp⟩⟩
      case round=>
       obtain⟨i',z',rfl,rfl,hi',hBl,HP⟩:=hrel;by_cases hil:i'<fs.length
       ·obtain⟨bf,of_,rfl,hbf,hcf⟩:=DI hRf hil
        have HY:Hid (fs[i']=F.data.toList->Pf fs F.data.toList (i'+1) (i':Int)):=fun h=>Pf.step_yes hil h
        have WY:Hid (fs[i']≠F.data.toList->Pf fs F.data.toList (i'+1) z'):=fun h=>HP.out.step_no hil h
        generalize fs[i']=X at*;obtain⟨XB,hX⟩:∃V:ByteArray,(⟨X.toArray⟩:ByteArray)=V:=⟨_,rfl⟩;have UB:X=XB.data.toList:=by rw[<-hX]
        have k0:=(hBl.cell (p:=⟨bf,of_+i',none⟩) hbf).trans (hcf.trans (by rw[S,hX]));subst UB;have k1:=(hBl.cell (p:=⟨b11,1,none⟩) XY).trans d1;have i0:(0:Int)<=(i':Int):=by omega
        have il:(i':Int)<(fs.length:Int):=(by omega);clear hcf hX HP;by_cases he:XB.data.toList=F.data.toList
        ·have t1:(XB.toList==F.toList)=true:=by rw[aan,aan,he,ack]
         have HX:=Pd (HY.out he);clear he HY WY;go_wp2_with fail
         go_quiet (fail)
         go_wp2_with fail;go_roundw
         case rel=>exact⟨i'+1,i',by go_num,rfl,by omega,lh hBl _,HX.out⟩
         case measure=>simp[intOf];omega
        ·have t1:(XB.toList==F.toList)=false:=by rw[aan,aan];simpa using he
         have HX:=Pd (WY.out he);clear he HY WY;go_wp2_with fail
         go_quiet (fail)
         go_wp2_with fail;go_roundw
         case rel=>exact⟨i'+1,z',by go_num,rfl,by omega,lh hBl _,HX.out⟩
         case measure=>simp[intOf];omega
       ·obtain rfl:fs.length=i':=by omega
        rename World=>W6
        have Zo:=Xk.below hBl;have TV:=hB4.trans (hBl.mono hB4.size);have g6:=(hBl.block _ XY).trans g11;have XN:=HP.out;have hll:l.length=fs.length:=by rw[<-Wj.out];simp
        have WV:us.length=l.length:=by have:=Zo.ul;simpa using this
        have hus:us.length<=1000000:=(by omega);have HLL:=Pd hll;clear WV hll;clear HP Xk hB4 hBl g11 d1 hRf hil;go_upto_region 17 with(fail)
        go_upto_if 68 with(fail)
        go_cut [7,8,13] from 69 to 78 (fun a b z wx=>∃(k:Nat) (us2:List Value) (l2:wF),z=.int .i64 k/\OP wx w0.heap.size a b us2 (l2.map Prod.fst) (l2.map Prod.snd)/\Below w0 w0 wx/\wx.heap[b11]? = some (.cells #[.int .u8 oo.toNat,.string F,.string V] 24 (0,0))/\Hid (Pk l f.feat f.val l2 k)/\Hid (a.ownBlock≠some b11/\b.ownBlock≠some b11/\∀u∈us2,u.ownBlock≠some b11)/\Hid ((l2.map Prod.fst).Nodup/\l2.length<=l.length+1/\∀x∈l2,x.2.length<=n))
        case first=>
         rcases XN with⟨rfl,hno⟩|⟨k,rfl,hk,he⟩
         ·rw[aaJ]at hno
          obtain⟨e0,e1,e2⟩:=aAN g6;have bA:Below W6 W6 (W6.alloc (.cells #[.string F] 9)):=(aac _ _).alloc (Pe _) _;have hO2:=eP Zo.of (aB.of_new (X:=fun _=>False) bA) (fun _ _ e=>e);have hnews:∀j u,(#[Value.string F]).toList[j]? = some u->(W6.alloc (.cells #[.string F] 9)).cell? ((⟨W6.heap.size,0,none⟩:Addr).add j)=some u:=abK (aaq W6 _);have hbase:w0.heap.size<=(W6.alloc (.cells #[.string F] 9)).heap.size:=aaB TV.size bA.size;have hny:fs.length+1<=maxLen:=by unfold maxLen;omega
          have hby:(fs.length+1)*16<=140737488355328:=by omega
          go_upto_region 20 with(first|(at_builtin;refine ac6 _ rfl (.tmp 71) (.tmp 74) 22 rfl w0.heap.size 9 si _ 1 16 abU sc sz0 sz1 sz2 rfl (by decide) _ fs.length (fs.map S) rfl hO2 ⟨W6.heap.size,0,none⟩ 1 1 [.string F] rfl rfl hnews (by simp[Value.oneCell']) (by decide) hny hby hbase (W6.heap.size+1) (by simp) ?_;intro g7 cap7 w7 ho7 Xz Yx hlt7))
          have hF7:=Zo.feat (f:=F.data.toList) (aB.refl _ _) (by rw[eX];exact ho7) Xz Yx;have Vl:=xS TV (Pe _) (fun g hg=>(hO2.lt g hg).1) Xz;have c7:aB (fun b=>(Value.slice Af fs.length cf).ownBlock=some b) W6 w7:=(p9 _ W6 _).trans (aB.of_grown Xz) (fun _ _ e=>e);have gg7:=(c7.block b11 (lt_of_block g6) (fun e=>UY.out.1 e)).trans g6;have aCj:∀g,(Value.slice (some ⟨g7,0,none⟩) (fs.length+1) cap7).ownBlock=some g->g≠b11:=fun g hg e=>by
           simp only[Value.ownBlock,aao]at hg;rcases Yx with h|h
           ·exact UY.out.1 ((show(Value.slice Af fs.length cf).ownBlock=some g7 from h).trans (by rw[hg,e]))
           ·have:=lt_of_block g6;omega
          have HN7:=Pd aCj;clear ho7 Xz Yx hlt7 hnews hbase hny hby hO2 bA c7 e0 e1 e2 aCj Zo;have bB:Below w7 w7 (w7.alloc (.cells #[.slice none 0 0] 22)):=(aac _ _).alloc (Pe _) _;have hO2:=eP hF7.ov (aB.of_new (X:=fun _=>False) bB) (fun _ _ e=>e);have hnews:∀j u,(#[Value.slice none 0 0]).toList[j]? = some u->(w7.alloc (.cells #[.slice none 0 0] 22)).cell? ((⟨w7.heap.size,0,none⟩:Addr).add j)=some u:=abK (aaq w7 _);have hbase:w0.heap.size<=(w7.alloc (.cells #[.slice none 0 0] 22)).heap.size:=aaB Vl.size bB.size;have hny:us.length+1<=maxLen:=by unfold maxLen;omega
          have hby:(us.length+1)*24<=140737488355328:=(by omega);go_wp2_with (first|(at_builtin;refine ac6 _ rfl (.tmp 76) (.tmp 77) 108 rfl w0.heap.size 22 vi _ 1 24 aec vc vz0 vz1 vz2 rfl (by decide) _ us.length us rfl hO2 ⟨w7.heap.size,0,none⟩ 1 1 [.slice none 0 0] rfl rfl hnews (by simp[Value.oneCell']) (by decide) hny hby hbase (w7.heap.size+1) (by simp) ?_;intro g9 cap9 w9 ho9 VE Xq hlt9));have Yl:=hF7.vals (aB.refl _ _) ho9 VE Xq;have V8:=xS Vl (Pe _) (fun g hg=>(hO2.lt g hg).1) VE;have c9:aB (fun b=>(Value.slice AV us.length cV).ownBlock=some b) w7 w9:=(p9 _ w7 _).trans (aB.of_grown VE) (fun _ _ e=>e);have gg9:=(c9.block b11 (lt_of_block gg7) (fun e=>UY.out.2.1 e)).trans gg7;have hms:(l++[(F.data.toList,([]:List Bs))]).map Prod.fst=fs++[F.data.toList]/\(l++[(F.data.toList,([]:List Bs))]).map Prod.snd=l.map Prod.snd++[[]]:=by rw[aa3,aa3,Wj.out];exact⟨rfl,rfl⟩
          go_meet
          refine⟨l.length,us++[.slice none 0 0],l++[(F.data.toList,[])],by rw[HLL.out],by rw[hms.1,hms.2];exact Yl,V8,gg9,?_,⟨fun e=>HN7.out b11 e rfl,fun e=>?_,fun u hu=>?_⟩,?_⟩
          ·rw[<-Wj.out]at hno
           rw[HFd.out];exact R3 hno
          ·simp only[Value.ownBlock,aao]at e
           rcases Xq with h|h
           ·exact UY.out.2.1 ((show(Value.slice AV us.length cV).ownBlock=some g9 from h).trans (by rw[e]))
           ·have:=lt_of_block gg7;omega
          ·rcases aaG.1 hu with hu|hu
           ·exact UY.out.2.2 u hu
           ·rw[aar]at hu;subst hu;simp[Value.ownBlock]
          ·refine⟨?_,by simp,fun x hx=>?_⟩
           ·rw[hms.1,adD]
            refine⟨by rw[<-Wj.out];exact HN.out.1,by simp,fun a ha b hb=>by rw[aar]at hb;subst hb;exact hno a ha⟩
           ·rcases aaG.1 hx with hx|hx
            ·exact HN.out.2.2 x hx
            ·rw[aar]at hx;subst hx;exact aaS _
         ·have i0:(0:Int)<=(k:Int):=by omega
          have dk:decide ((k:Int)<0)=false:=aai (by omega);go_wp2_with fail
          go_meet
          refine⟨k,us,l,rfl,by rw[Wj.out];exact Zo,TV,g6,?_,UY.out,HN.out.1,adU _,HN.out.2.2⟩;rw[HFd.out];have hk':k<(l.map Prod.fst).length:=by rw[Wj.out];exact hk
          exact R4 HN.out.1 hk' (by simp only[Wj.out];exact he)
        case rest=>
         clear XN Zo TV g6 UY;obtain⟨k,us2,l2,rfl,hF,hB,g11,HAF,HNB,HL2⟩:=hcut;obtain⟨hk2,hk2f,-⟩:=HAF.out;have VY:us2.length=l2.length:=by have:=hF.ul;simpa using this
         have X4:k<us2.length:=(by omega);have HUL:=Pd VY;clear VY;have hfa:us2[k]∈us2:=aag _;obtain⟨gv,cv,hv,hcell,hfrz⟩:=RQ hF.ov X4;subst hv;obtain⟨Au,cu,hu,hRu⟩:=RF (l:=(l2.map Prod.snd)[k]'(by simpa using hk2)) (hF.ow k X4 (by simpa using hk2));have hvs:(l2.map Prod.snd)[k]'(by simpa using hk2)=l2[k].2:=by simp
         rw[hu]at hcell;have HU:=Pd hu;rw[hvs]at hcell hRu;have UH:l2[k].2.length<=n:=HL2.out.2.2 _ (aag hk2);have HKN:Hid (O5 V.data.toList l2[k].2=true->wV l f.feat f.val=l2):=fun h=>HAF.out.known (fun hk=>by
          have:=abp h;rw[<-HVd.out]at this;exact this)
         have HUN:Hid (O5 V.data.toList l2[k].2=false->(wV l f.feat f.val).map Prod.fst=l2.map Prod.fst/\∃hk:k<(l2.map Prod.snd).length,(wV l f.feat f.val).map Prod.snd=(l2.map Prod.snd).set k ((l2.map Prod.snd)[k]++[f.val])):=fun h=>HAF.out.unknown (fun hk=>by
          have:=of_decide_eq_false h;rw[<-HVd.out]at this;exact this)
         have Z7:=Pd hvs;generalize l2[k].2=vs at*
         rename World=>W7
         have hgvW:gv<W7.heap.size:=ax hcell;obtain⟨e0,e1,e2⟩:=aAN g11;have Yy:b11<W7.heap.size:=lt_of_block g11;have kk0:(0:Int)<=(k:Int):=by omega
         have kkl:(k:Int)<(us2.length:Int):=(by omega);clear e0 e1 hfrz;go_wp2_with fail
         go_loopw [15,16] (fun kn i wr=>∃(i':Nat),i=.int .i64 i'/\kn=.bool (O5 V.data.toList (vs.take i'))/\i'<=vs.length/\Below W7 W7 wr) (fun _ i _=>vs.length-(intOf i).toNat)
         case atStart=>exact⟨0,rfl,by rw[ab7,Sq],by omega,aac _ _⟩
         case round=>
          obtain⟨i',rfl,rfl,hi',hBl⟩:=hrel;have c1:=(hBl.cell (p:=⟨gv,k,none⟩) hgvW).trans hcell;have c2:=(hBl.cell (p:=⟨b11,2,none⟩) Yy).trans e2;by_cases hil:i'<vs.length
          ·obtain⟨bu,ou,rfl,hbu,Wh⟩:=DI hRu hil
           have hst:=Sn (v:=V.data.toList) hil;generalize vs[i']=X at*;obtain⟨XB,hX⟩:∃V:ByteArray,(⟨X.toArray⟩:ByteArray)=V:=⟨_,rfl⟩;have UB:X=XB.data.toList:=by rw[<-hX]
           have c3:=(hBl.cell (p:=⟨bu,ou+i',none⟩) hbu).trans (Wh.trans (by rw[S,hX]));subst UB;generalize O5 V.data.toList (vs.take i')=kb at*;have i0:(0:Int)<=(i':Int):=by omega
           have il:(i':Int)<(vs.length:Int):=(by omega);clear Wh hX
           cases kb with
           |true=>
            have HX:Hid (O5 V.data.toList (vs.take (i'+1))=true):=hst;clear hst;go_wp2_with fail
            go_quiet (fail)
            go_wp2_with fail;go_roundw
            case rel=>exact⟨i'+1,by go_num,by rw[HX.out],by omega,lh hBl _⟩
            case measure=>simp[intOf];omega
           |false=>
            by_cases he:XB.data.toList=V.data.toList
            ·have t1:(XB.toList==V.toList)=true:=by rw[aan,aan,he,ack]
             have HX:Hid (O5 V.data.toList (vs.take (i'+1))=true):=by rw[Hid,hst,aaA he];rfl
             clear he hst;go_wp2_with fail
             go_quiet (fail)
             go_wp2_with fail;go_roundw
             case rel=>exact⟨i'+1,by go_num,by rw[HX.out],by omega,lh hBl _⟩
             case measure=>simp[intOf];omega
            ·have t1:(XB.toList==V.toList)=false:=by rw[aan,aan];simpa using he
             have HX:Hid (O5 V.data.toList (vs.take (i'+1))=false):=by rw[Hid,hst,aai he];rfl
             clear he hst;go_wp2_with fail
             go_quiet (fail)
             go_wp2_with fail;go_roundw
             case rel=>exact⟨i'+1,by go_num,by rw[HX.out],by omega,lh hBl _⟩
             case measure=>simp[intOf];omega
          ·obtain rfl:vs.length=i':=by omega
           rw[aaJ];have hFl:=hF.below hBl;have hBB:=hB.trans (hBl.mono hB.size);have HPN:Hid (((wV l f.feat f.val).map Prod.fst).Nodup/\O0 (n+1) (wV l f.feat f.val)):=⟨Si HN.out.1,QV HN.out.2⟩;have HJS:Hid (OL t ss []=OL t (ss.drop (q+1)) (OT t (arcs.drop (j+1)) (wV l f.feat f.val))):=by rw[Hid,HJ.out,HS.out]
           generalize hkb:O5 V.data.toList vs=kb at*
           cases kb with
           |true=>
            have HE:=Pd (HKN.out rfl);clear HKN HUN hkb hF hB hBl;go_wp2_with fail;go_roundw
            case rel=>exact⟨j+1,n+1,us2,l2,by go_num,by omega,hFl,hBB,by rw[<-HE.out];exact HPN.out,by omega,by rw[Hid,HJS.out,HE.out]⟩
            case measure=>simp[intOf];omega
           |false=>
            obtain⟨hu1,aCr,hu2⟩:=HUN.out rfl;have HU1:=Pd hu1;have HU2:=Pd hu2;clear HKN HUN hkb hF hB hBl hu1 hu2;have XP:Hid (us2[k]=.slice Au vs.length cu):=by rw[Hid,HU.out,Z7.out]
            have TJ:PR gv k b11 (.slice Au vs.length cu) V wr.drew:=⟨c1,c2⟩;have TN:=hFl.below ((aac _ wr).drew);have hBd:=hBB.trans ((aac _ wr).drew.mono hBB.size);have hgvB:=(TN.ov.lt gv rfl).1;clear hFl hBB;go_wp2_with fail;clear c1 c2;refine zh 11 (PR gv k b11 (.slice Au vs.length cu) V) (by kernel_rfl) ?_;generalize wr.drew=w8 at*;refine takeC 0 ?_
            try simp only[qO]
            refine takeC 1 ?_
            try simp only[qO]
            refine takeC 2 ?_
            try simp only[qO]
            refine takeC 3 ?_
            try simp only[qO]
            refine takeC 4 ?_
            try simp only[qO]
            refine takeC 5 ?_
            try simp only[qO]
            refine takeC 6 ?_
            try simp only[qO]
            refine takeC 7 ?_
            try simp only[qO]
            refine dw [8] (by kernel_rfl) (by simp) ?_;refine bL 8 rfl (fun K hK=>?_) bS.nil;rw[aaa (by rfl)]
            go_simp
            have bA:Below w8 w8 (w8.alloc (.cells #[.string V] 9)):=(aac _ _).alloc (Pe _) _;have hLdA:PR gv k b11 (.slice Au vs.length cu) V (w8.alloc (.cells #[.string V] 9)):=⟨(bA.cell (ax TJ.1)).trans TJ.1,(bA.cell (ax TJ.2)).trans TJ.2⟩;refine hK.out _ _ (fun _=>hLdA) ?_;clear hK K
            try simp only[qO]
            refine dw [9] (by kernel_rfl) (by simp) ?_;refine bL 9 rfl (fun K hK=>?_) bS.nil;have hO:(w8.alloc (.cells #[.string V] 9)).ownsRow w0.heap.size 9 1 (.slice Au vs.length cu) vs.length (vs.map S):=by
             have:=eP (TN.ow k X4 aCr) (aB.of_new (X:=fun _=>False) bA) (fun _ _ e=>e);rw[XP.out]at this;simp only[Z7.out]at this;exact this
            have hnews:∀j u,(#[Value.string V]).toList[j]? = some u->(w8.alloc (.cells #[.string V] 9)).cell? ((⟨w8.heap.size,0,none⟩:Addr).add j)=some u:=abK (aaq w8 _);have hbase:w0.heap.size<=(w8.alloc (.cells #[.string V] 9)).heap.size:=aaB hBd.size bA.size;have hny:vs.length+1<=maxLen:=by unfold maxLen;omega
            have hby:(vs.length+1)*16<=140737488355328:=(by omega);refine adO _ (by rfl) (.tmp 111) (.tmp 114) 22 (by rfl) w0.heap.size 9 si _ 1 16 abU sc sz0 sz1 sz2 (by rfl) (by decide) _ vs.length (vs.map S) (by rfl) hO ⟨w8.heap.size,0,none⟩ 1 1 [.string V] (by rfl) rfl hnews (by simp[Value.oneCell']) (by decide) hny hby hbase (w8.heap.size+1) (by simp) ?_;intro g9 cap9 w9 ho9 VE Xq hlt9;have c9:aB (fun b=>(Value.slice Au vs.length cu).ownBlock=some b) w8 w9:=(p9 _ w8 _).trans (aB.of_grown VE) (fun _ _ e=>e);have hm2:us2[k]∈us2:=aag _;have ne1:(Value.slice Au vs.length cu).ownBlock≠some gv:=fun e=>(TN.n2 _ hm2 gv (by rw[XP.out];exact e)).2 rfl
            have ne2:(Value.slice Au vs.length cu).ownBlock≠some b11:=fun e=>HNB.out.2.2 _ hm2 (by rw[XP.out];exact e)
            have aBJ:PR gv k b11 (.slice Au vs.length cu) V w9:=⟨(lm (c9.block gv (ax TJ.1) ne1)).trans TJ.1,(lm (c9.block b11 (ax TJ.2) ne2)).trans TJ.2⟩;have hfz:w9.frozen? ⟨gv,k,none⟩=false:=(eP TN.ov c9 (fun g hg e=>ne1 (by rw[e];exact hg.symm))).frozenAt k;refine hK.out _ _ (fun _=>aBJ) ?_;clear hK K
            try simp only[qO]
            refine takeC 10 ?_
            try simp only[qO]
            refine dw [11] (by kernel_rfl) (by simp) ?_;refine bL 11 rfl (fun K hK=>?_) bS.nil;rw[aaa (by rfl)];have hq1:=aBJ.1
            go_simp
            refine hK.out _ _ (fun h=>by cases h) ?_;clear hK K;refine l8 (by kernel_rfl) ?_ _;have Yl:=TN.push (f:=V.data.toList) (aB.refl _ _) X4 aCr (by rw[eX];simp only[Z7.out];exact ho9) (by rw[XP.out];exact VE) (by rw[XP.out];exact Xq);simp only[Z7.out]at Yl;have hF10:OP (w9.setCell ⟨gv,k,none⟩ (.slice (some ⟨g9,0,none⟩) (vs.length+1) cap9)) w0.heap.size u7 (.slice (some ⟨gv,0,none⟩) us2.length cv) (us2.set k (.slice (some ⟨g9,0,none⟩) (vs.length+1) cap9)) ((wV l f.feat f.val).map Prod.fst) ((wV l f.feat f.val).map Prod.snd):=by
             rw[HU1.out,HU2.out,HVd.out];simp only[Z7.out];exact Yl
            have U8:=(xS hBd (Pe _) (fun g hg=>(hO.lt g hg).1) VE).setCell (p:=⟨gv,k,none⟩) hgvB (.slice (some ⟨g9,0,none⟩) (vs.length+1) cap9)
            try dsimp only
            go_wp2_with fail;go_roundw
            case rel=>exact⟨j+1,n+1,_,wV l f.feat f.val,by go_num,by omega,hF10,U8,HPN.out,by omega,HJS.out⟩
            case measure=>simp[intOf];omega
    ·obtain rfl:j=arcs.length:=by omega
     have HX:Hid (OL t ss []=OL t (ss.drop (q+1)) l):=by rw[Hid,HJ.out,acZ];rfl
     go_wp2_with fail;go_roundw
     case rel=>exact⟨q+1,n,us,l,by go_num,by omega,hF,hB,HN,by omega,HX⟩
     case measure=>simp[intOf];omega
  ·obtain rfl:q=ss.length:=by omega
   have HX:Hid (R=OW 30000 (l.drop 0) 1):=by
    have:=HJ.out;rw[acZ]at this;rw[Hid,HD.out,this]
    rfl
   have WV:us.length=l.length:=by have:=hF.ul;simpa using this
   have hFn:=HN.out.2;have hln:l.length<=100000:=by have:=hFn.1;omega
   have HLN:Hid (∀x∈l,x.2.length<=100000):=fun x hx=>by have:=hFn.2 x hx;omega
   obtain⟨AV,cV,rfl⟩:=Qt hF.ov;have HFF:=Pd hF;clear hF hFn HJ HN HD
   rename World=>W5
   go_wp2_with fail
   go_loopw [17,18] (fun k i wr=>∃(i' K:Nat),i=.int .i64 i'/\k=.int .i64 K/\i'<=l.length/\K<=30000*200001/\W5=wr/\Hid (R=OW 30000 (l.drop i') K)) (fun _ i _=>l.length-(intOf i).toNat)
   case atStart=>exact⟨0,1,rfl,rfl,by omega,by omega,rfl,HX⟩
   case round=>
    obtain⟨i',K,rfl,rfl,hi',hK,rfl,HM⟩:=hrel;have j0:(0:Int)<=(K:Int):=by omega
    have jk:(K:Int)<=6000030000:=by omega
    by_cases hil:i'<l.length
    ·have i0:(0:Int)<=(i':Int):=by omega
     have il:(i':Int)<(us.length:Int):=by omega
     by_cases hk:K<=30000
     ·obtain⟨g,cv,hv,hcell,-⟩:=RQ HFF.out.ov (k:=i') (by omega)
      injection hv with hv1 _ hv2
      subst hv1 hv2;obtain⟨Au,cu,hu⟩:=Qt (HFF.out.ow i' (by omega) (by simpa using hil));rw[hu]at hcell;have hlen:(l.map Prod.snd)[i']'(by simpa using hil)=l[i'].2:=by simp
      rw[hlen]at hcell;have hxl:=HLN.out _ (aag hil);have Z9:Hid (R=OW 30000 (l.drop (i'+1)) (K*(2*l[i'].2.length+1))):=by rw[Hid,HM.out,Sz hil hk]
      generalize l[i'].2.length=N at*;have dk:(K:Int)<=30000:=by omega
      have hmul:K*(2*N+1)<=30000*200001:=ab8 hk (by omega);have e1:(K:Int)*(2*(N:Int)+1)=((K*(2*N+1):Nat):Int):=by push_cast;rfl
      have n0:(0:Int)<=2*(N:Int):=(by omega);have n1:2*(N:Int)+1<=200001:=(by omega);have n2:(0:Int)<=(K:Int)*(2*(N:Int)+1):=by rw[e1];omega
      have n3:(K:Int)*(2*(N:Int)+1)<=6000030000:=by rw[e1];omega
      have V5:=Pd e1;clear e1 hu hlen hxl;go_wp2_with fail;go_roundw
      case rel=>exact⟨i'+1,K*(2*N+1),by go_num,by first|rw[V5.out]|(congr 1;exact V5.out),by omega,hmul,by first|rfl|trivial,Z9.out⟩
      case measure=>simp[intOf];omega
     ·have Z9:Hid (R=K):=by rw[Hid,HM.out,Ri (aam hk)]
      have dk:decide ((K:Int)<=30000)=false:=aai (by omega);have dk2:(30000:Int)<(K:Int):=by omega
      clear hk;go_wp2_with fail;go_returns;rw[Z9.out];exact⟨rfl,ae hb0 hB⟩
    ·have Z9:Hid (R=K):=by rw[Hid,HM.out,Ri (aad (by omega))]
     have dl:decide ((i':Int)<(us.length:Int))=false:=aai (by omega);have dl2:(us.length:Int)<=(i':Int):=by omega
     clear hil;go_wp2_with fail;go_returns;rw[Z9.out];exact⟨rfl,ae hb0 hB⟩
def O3(m:aQ)(t:List Bs):Bool:=decide (5<m.states.length)||(decide (20<dh m.states)||decide (30<t.length))
def Sr(m:aQ)(A At:Option Addr)(c ct:Nat)(t:List Bs)(w:World)(hV:dY w A m.states)(hb:∀s∈m.states,s.arcs.length<=140737488355328) :
  Calls Tryz.prog 26 #[di m A c,.slice At t.length ct] w fun e w'=>e=.returned (.bool (O3 m t))/\Below w w w':=by
 have pa:m.states.length<=5->∀W,Below w w W->Calls Tryz.prog 53 #[di m A c] W fun e w'=>e=.returned (.int .i64 (dh m.states))/\Below W W w':=fun h W hB=>Rk m A c W (hV.below hB) (by omega) hb
 have HD:Hid (O3 m t=(decide (5<m.states.length)||(decide (20<dh m.states)||decide (30<t.length)))):=rfl;generalize O3 m t=R at*;clear hV hb;unfold di S at*;obtain⟨kd,st,ld,ss⟩:=m;simp only at*;generalize (⟨ld.toArray⟩:ByteArray)=Ld at*;generalize dh ss=N at*;have g0:=aaq w (.cells #[.int .i64 kd,.int .i64 st,.string Ld,.slice A ss.length c] 30);have hb0:Below w w (w.alloc (.cells #[.int .i64 kd,.int .i64 st,.string Ld,.slice A ss.length c] 30)):=(aac _ _).alloc (Pe _) _;obtain⟨W1,hW1⟩:∃W1,W1=w.alloc (.cells #[.int .i64 kd,.int .i64 st,.string Ld,.slice A ss.length c] 30):=⟨_,rfl⟩;rw[<-hW1]at g0 hb0;obtain⟨q0,q1,q2,q3⟩:=OO g0;go_enter Tryz.func26,Tryz.ntmps26;go_upto_region 1 with(fail)
 rw[<-hW1];clear hW1;by_cases h5:5<ss.length
 ·have d5:decide ((5:Int)<(ss.length:Int))=true:=aaA (by omega)
  have HR:Hid (R=true):=by rw[Hid,HD.out,aaA h5];rfl
  clear HD;go_wp2_with fail;go_returns;rw[HR.out];exact⟨rfl,hb0⟩
 ·have d5:decide ((5:Int)<(ss.length:Int))=false:=aai (by omega)
  have pA:=pa (by omega) W1 hb0;clear pa;by_cases h20:20<N
  ·have d20:decide ((20:Int)<(N:Int))=true:=aaA (by omega)
   have HR:Hid (R=true):=by rw[Hid,HD.out,aaA h20];simp
   clear HD;go_wp2_with (first|(go_at_call 53;refine pA.mono ?_;rintro e w3 ⟨rfl,hb3⟩));go_returns;rw[HR.out];exact⟨rfl,ae hb0 hb3⟩
  ·have d20:decide ((20:Int)<(N:Int))=false:=aai (by omega)
   have HR:Hid (R=decide ((30:Int)<(t.length:Int))):=by
    rw[Hid,HD.out,aai h5,aai h20];simp;omega
   clear HD;go_wp2_with (first|(go_at_call 53;refine pA.mono ?_;rintro e w3 ⟨rfl,hb3⟩));go_returns;rw[HR.out];exact⟨by first|rfl|simp,ae hb0 hb3⟩
end Go.Proofs.YtppnecgeboonbaaGreatDoor
