/- From the row's list and the world's shape to what the walks of chapter 22 ask of the package-level variables; a flag by value, opened and shut; the wrap that keeps the shape. -/
import Derived.Test.YtppnecgeboonbaaGreatDoorCards
import Derived.Test.YtppnecgeboonbaaGreatDoorZ09
import Derived.Lib.LaidTab
import Derived.Lib.LaidU8
import Derived.Deep.Strs
import Derived.LaidLaws
import Derived.LaidMore
import Derived.OpenShut
import Derived.Shelf.Vars
import Derived.Handed
import Derived.ShutString
namespace Go.Proofs.YtppnecgeboonbaaGreatDoor
set_option maxRecDepth 100000
set_option linter.unusedVariables false
set_option maxHeartbeats 1000000
open Go.RowKit Go.ChangeShapes Go.Lib
theorem N8:Pinned.utf8First=firstData:=by kernel_rfl
theorem Fa:(Rows.laid_unicode_utf8_acceptRanges:DataW Unit)=acceptData:=by kernel_rfl
theorem VarReads.lt {P:Program} {w:World} {n:String} {d:DataW Unit} {g:Nat} (h:VarReads P w n d) (hg:P.globalNamed n=some g):g<w.heap.size:=by
 obtain⟨g',t,cs,fuel,p,hg',hty,hvar,hd⟩:=h;obtain rfl:=Option.some.inj (hg.symm.trans hg');rcases Nat.lt_or_ge g w.heap.size with h'|h'
 ·exact h'
 ·unfold World.var? at hvar
  rw [hg',Option.bind_some,Array.getElem?_eq_none h'] at hvar
  cases hvar
theorem Kz:(Rows.laid_internal_strconv_uint64pow10:DataW Unit)=tabData .u64 pow10Tab:=by kernel_rfl
theorem NK {w:World} (h:laidMetH Tryz.prog Rows.flagsNamesRow.laid w) (hsh:w.ShapedOpen Tryz.prog):fD w:=by
 rw [MakeChecks.laidMetH_plain _ _ _ (by kernel_rfl)] at h;have m:∀ n (d:DataW Unit),(n,d)∈(Rows.flagsNamesRow.laid:List (String × DataW Unit))->VarReads Tryz.prog w n d:=fun n d hm=>laidMet.reads h hm
 have r1:=m "unicode/utf8.first" Pinned.utf8First (by simp [Rows.flagsNamesRow,Rows.laid_unicode_utf8_first]);have r2:=m "unicode/utf8.acceptRanges" Rows.laid_unicode_utf8_acceptRanges (by simp [Rows.flagsNamesRow]);rw [N8] at r1;rw [Fa] at r2;have hlt:6<=w.heap.size:=VarReads.lt (m "math/bits.deBruijn64tab" Rows.laid_math_bits_deBruijn64tab (by simp [Rows.flagsNamesRow])) (show Tryz.prog.globalNamed "math/bits.deBruijn64tab" = some 5 by kernel_rfl);refine⟨⟨?_,hlt⟩,?_,?_⟩
 ·exact utf8Tabs_of_reads (ρ:=Tryz.lays197_ren) { Tryz.lays197 with } ⟨by kernel_rfl,by kernel_rfl,by kernel_rfl,by kernel_rfl,by kernel_rfl,by kernel_rfl,by kernel_rfl⟩ r1 r2
 ·have r:=m "internal/strconv.uint64pow10" Rows.laid_internal_strconv_uint64pow10 (by simp [Rows.flagsNamesRow])
  rw [Kz] at r;obtain⟨g,t,cs,fuel,p,hg,hty,hvar,hd⟩:=r;obtain rfl:=Option.some.inj ((show Tryz.prog.globalNamed "internal/strconv.uint64pow10" = some 3 by kernel_rfl).symm.trans hg);obtain rfl:=Option.some.inj ((show (Tryz.prog.globals[3]?).map (·.type)=some 265 by kernel_rfl).symm.trans hty);unfold Lib.TabIs;rw [hvar,<-cells_of_tab Tryz.underlying265 Tryz.underlying231 (by kernel_rfl) (by kernel_rfl) hd]
 ·exact Go.Proofs.cell_of_shapedOpen_int (zero:=#[.int .i64 0]) (t:=3) hsh (of_decide_eq_true (by kernel_rfl)) (by kernel_rfl) rfl (by kernel_rfl) (by kernel_rfl) Tryz.underlying3
theorem N7 {n:Int} (h:(Lit.int .u8 n).wf=true):∃ c:UInt8,n=(c.toNat:Int):=by
 have h':0<=n/\n<256:=by
  have:=h;simp [Lit.wf] at this;have e1:IntKind.u8.min=0:=by decide
  have e2:IntKind.u8.max=255:=by decide
  omega
 refine⟨UInt8.ofNat n.toNat,?_⟩;rw [UInt8.toNat_ofNat'];omega
section
variable {H:Type} {enc:TypeId × Value->H} {W:World} {base:Nat} {spare:Nat->Bool} {held:Bool}
theorem JZ {r:Reach} {b0:Nat} {v:Value} {d:DataW H} {p:List MemPlace} (hv:Value.okWide Tryz.prog W r b0 24 v) (h:DataW.Trod enc Tryz.prog W base spare held 24 v d p) :
  ∃ (c:UInt8) (F V:ByteArray),v=.agg #[.int .u8 c.toNat,.string F,.string V]/\d=.agg [.lit (.int .u8 c.toNat),.lit (.string F.data.toList),.lit (.string V.data.toList)]/\p=[]/\(Lit.int .u8 c.toNat).wf=true/\F.size<=maxLen/\V.size<=maxLen:=by
 obtain⟨c0,c1,c2,y0,y1,y2,m,rfl,rfl,rfl,hy0,hy1,hy2⟩:=Go.Joins.open_agg3 Tryz.underlying24 (by kernel_rfl) (by kernel_rfl) hv h;obtain⟨x,e0,rfl,wx⟩:=DataW.trod_int (k:=.u8) (by kernel_rfl) hy0;obtain⟨F,e1,rfl,wF⟩:=DataW.trod_string (by kernel_rfl) hy1;obtain⟨V,e2,rfl,wV⟩:=DataW.trod_string (by kernel_rfl) hy2;simp only [List.cons.injEq,and_true] at e0 e1 e2;subst e0 e1 e2;obtain⟨c,rfl⟩:=N7 wx;exact⟨c,F,V,rfl,rfl,rfl,wx,wF,wV⟩
theorem MN {c:UInt8} {F V:ByteArray} (hc:(Lit.int .u8 c.toNat).wf=true) (hF:F.size<=maxLen) (hV:V.size<=maxLen) :
  DataW.Trod enc Tryz.prog W base spare held 24 (.agg #[.int .u8 c.toNat,.string F,.string V]) (.agg [.lit (.int .u8 c.toNat),.lit (.string F.data.toList),.lit (.string V.data.toList)]) []:=by
 have k0:∃ n,DataW.trod enc Tryz.prog W base spare held n 5 [.int .u8 c.toNat]=some (.lit (.int .u8 c.toNat),[]):=shut_int (k:=.u8) (by kernel_rfl) hc;have k1:∃ n,DataW.trod enc Tryz.prog W base spare held n 9 [.string F]=some (.lit (.string F.data.toList),[]):=Go.ChangeMaps.shut_string Tryz.underlying9 hF;have k2:∃ n,DataW.trod enc Tryz.prog W base spare held n 9 [.string V]=some (.lit (.string V.data.toList),[]):=Go.ChangeMaps.shut_string Tryz.underlying9 hV;have:=Go.Joins.shut_agg3 (t:=24) Tryz.underlying24 (by kernel_rfl) (by kernel_rfl) k0 k1 k2;exact this
end
theorem Il {H:Type} {enc:TypeId × Value->H} {a:Assume} {C:Checked} {os:Os} {f:FuncId} {fn:Func} {s:ChangeSpec} {conds:List PathCond} {apart fresh handsOn again:Bool} {X:World->Array Value->Prop}
  (hX:∀ (w w':World) (args:Array Value),w.heap=w'.heap->X w args->X w' args)
  (own:ownKnob C.prog.godebug=none) (started:os.Started) (noInit:C.prog.inits.idxOf? f=none) (hfn:C.prog.funcs[f]? = some fn)
  (witness:∃ (w:World) (tape:Tape) (i:Input),w.os=os/\(w.forCall tape i).Shaped C.prog/\i.vars=[]/\Input.okWide C.prog (w.forCall tape i) .any w.heap.size f i ∧
   ((s.pre enc C.prog fn conds apart (w.forCall tape i).memory i.args/\X (w.forCall tape i).memory i.args)/\sizedMet enc C.prog fn (OpenSpec.ofChange s) apart (w.forCall tape i).memory i.args)/\a.holds C.prog (lone (Frame.enter C.prog f i.args .normal) [] (w.forCall tape i)))
  (contract:∀ (W:World) (base:Nat) (args:Array Value) (ds gs:List (DataW H)) (before:List MemPlace),
   (∀ (j:Nat) t v,fn.params[j]? = some t->args[j]? = some v->Value.okWide C.prog W .any base t v) ->
   DataW.Whole enc C.prog fn.params.toList s.vars apart W args.toList ds gs before->X W args->W.ShapedOpen C.prog ->
   Calls C.prog f args W fun e W'=>∃ v,e=.returned v/\s.post enc C.prog fn apart fresh handsOn again W args v W') :
  ReturnsInHanded a C os f .any (fun w args=>(s.pre enc C.prog fn conds apart w args/\X w args)/\sizedMet enc C.prog fn (OpenSpec.ofChange s) apart w args) (s.post enc C.prog fn apart fresh handsOn again):=by
 refine returnsInHanded_of_calls own started noInit witness (fun w tape i _ hsh _ hok hpre _=>?_);obtain⟨_,_,_,g,hg,_,_,_,_,hval⟩:=hok;obtain rfl:g=fn:=Option.some.inj (hg.symm.trans hfn);obtain⟨⟨⟨ds,gs,before,hw,_⟩,hx⟩,_⟩:=hpre;refine (contract (w.forCall tape i) w.heap.size i.args ds gs before hval (DataW.Whole.of_heap (by rfl) hw) (hX _ _ _ (by rfl) hx) hsh).mono ?_;rintro e W' ⟨v,rfl,hp⟩;exact ChangeSpec.post_blind hp
end Go.Proofs.YtppnecgeboonbaaGreatDoor
namespace Go.Proofs.YtppnecgeboonbaaGreatDoor.Rat3
set_option maxRecDepth 100000
set_option linter.unusedVariables false
set_option maxHeartbeats 1000000
open Go.RowKit
theorem Ct {s:ByteArray} (h:s.size=0):aj s.data.toList=false:=by rw [fF h];rfl
theorem Cv {l:Bs} (h:1000<l.length):aj l=false:=by
 cases hh:aj l with
 | false=>rfl
 | true=>have:=((iG l).1 hh).2;omega
theorem Cw {s:ByteArray} (h:1<s.size) (h0:s[0]'(by omega)=48):aj s.data.toList=false:=by
 cases hh:aj s.data.toList with
 | false=>rfl
 | true =>
  obtain⟨⟨h1,h2,h3⟩,h4⟩:=(iG _).1 hh;exfalso;apply h3 (by rw [<-Lib.size_eq];exact h);have:=drop_byte s 0 (by omega);rw [List.drop_zero] at this;rw [this,List.head?_cons,h0]
theorem Cs {s:ByteArray} {k:Nat} (hk:k<s.size) (h:cz s[k]=false):aj s.data.toList=false:=by
 cases hh:aj s.data.toList with
 | false=>rfl
 | true =>
  obtain⟨⟨h1,h2,h3⟩,h4⟩:=(iG _).1 hh;have:=h2 s[k] (by
   have:=drop_byte s k hk;exact List.mem_of_mem_drop (i:=k) (by rw [this];exact List.mem_cons_self))
  rw [h] at this;cases this
theorem Cu {s:ByteArray} (h0:0<s.size) (h1:s.size<=1000) (h2:s.size<=1\/s[0]'h0≠48) (h3:∀ c∈s.data.toList,cz c=true):aj s.data.toList=true:=by
 rw [iG];have hs:=Lib.size_eq s;have hne:s.data.toList≠[]:=by
  intro e;have:s.data.toList.length=0:=by rw [e];rfl
  omega
 refine⟨⟨hne,h3,fun hl=>?_⟩,by omega⟩;have:=drop_byte s 0 (by omega);rw [List.drop_zero] at this;rw [this,List.head?_cons];intro e;injection e with e
 rcases h2 with h2|h2
 ·omega
 ·exact h2 e
theorem Az {s:ByteArray} {k:Nat} (hk:k<s.size) (h:∀ c∈s.data.toList.take k,cz c=true) (hd:cz s[k]=true):∀ c∈s.data.toList.take (k+1),cz c=true:=by
 intro c hc;have hlt:k<s.data.toList.length:=by rw [<-Lib.size_eq];exact hk
 rw [List.take_succ_eq_append_getElem hlt] at hc;rcases List.mem_append.1 hc with hc|hc
 ·exact h c hc
 ·rw [List.mem_singleton.1 hc];exact hd
theorem gI (s:ByteArray) (w:World) (hs:s.size<=9223372036854775807) :
  Calls Tryz.prog 192 #[.string s] w fun e w'=>e=.returned (.bool (aj s.data.toList))/\w=w':=by
 by_cases h0:s.size=0
 ·have hemp:=jF h0
  have HK:=Lib.hid (Ct h0);go_enter Tryz.func192,Tryz.ntmps192;go_wp2_with fail;go_returns;exact⟨by rw [HK.out];rfl,rfl⟩
 have hemp:=jI h0;rcases Nat.lt_or_ge 1000 s.size with h1|h1
 ·have HK:=Lib.hid (Cv (l:=s.data.toList) (by rw [<-Lib.size_eq];exact h1))
  go_enter Tryz.func192,Tryz.ntmps192;go_wp2_with fail;go_returns;exact⟨by rw [HK.out];rfl,rfl⟩
 have hx0:0<s.size:=by omega
 by_cases h2:1<s.size/\s[0]=48
 ·obtain⟨h2,h3⟩:=h2
  have HK:=Lib.hid (Cw h2 h3);have f0:(((s[0].toNat:Nat):Int) == 48)=true:=by rw [h3];rfl
  clear h3;go_enter Tryz.func192,Tryz.ntmps192;go_wp2_with fail;go_returns;exact⟨by rw [HK.out];rfl,rfl⟩
 have HG:Hid ((∀ c∈s.data.toList,cz c=true)->aj s.data.toList=true):=fun h3=>Cu hx0 h1 (by
  rcases Nat.lt_or_ge 1 s.size with h|h
  ·exact Or.inr fun e=>h2 ⟨h,e⟩
  ·exact Or.inl h) h3
 have hc:(s.size=1/\(((s[0].toNat:Nat):Int) == 48)=true)\/(s.size=1/\(((s[0].toNat:Nat):Int) == 48)=false)\/1<s.size/\(((s[0].toNat:Nat):Int) == 48)=false:=by
  by_cases e:s[0]=48
  ·exact Or.inl ⟨by rcases Nat.lt_or_ge 1 s.size with h|h;exact absurd ⟨h,e⟩ h2;omega,by rw [e];rfl⟩
  ·have:s[0].toNat≠48:=fun hh=>e (UInt8.toNat_inj.1 hh)
   have hf:(((s[0].toNat:Nat):Int) == 48)=false:=by simp;omega
   rcases Nat.lt_or_ge 1 s.size with h|h
   ·exact Or.inr (Or.inr ⟨h,hf⟩)
   ·exact Or.inr (Or.inl ⟨by omega,hf⟩)
 clear h2;rcases hc with⟨hc,f0⟩|⟨hc,f0⟩|⟨hc,f0⟩
 all_goals
  go_enter Tryz.func192,Tryz.ntmps192;go_wp2_with fail
  go_loopw [2,23] (fun _ i wr=>∃ (k:Nat),i=.int .i64 k/\k<=s.size/\wr=w/\Hid (∀ c∈s.data.toList.take k,cz c=true)) (fun _ i _=>s.size-(intOf i).toNat)
  case atStart=>exact⟨0,rfl,by omega,rfl,by simp [Hid]⟩
  case round =>
   obtain⟨k,rfl,hk,rfl,H⟩:=hrel;by_cases hlt:k<s.size
   ·obtain⟨n,hn⟩:∃ n,s[k].toNat=n:=⟨_,rfl⟩
    have hx:=s[k].toNat_lt;by_cases hd:cz s[k]=true
    ·have HN:=Lib.hid (Az hlt H.out hd)
     rw [lJ,hn] at hd;obtain⟨d1,d2⟩:=hd;go_wp2_with fail;go_roundw
     case rel=>exact⟨k+1,by go_num,by omega,trivial,HN⟩
     case measure=>simp [intOf];omega
    ·have hd':cz s[k]=false:=by simpa using hd
     have HK:=Lib.hid (Cs hlt hd');rw [lJ,hn] at hd;have hdd:n<48\/57<n:=by omega
     clear hd hd';rcases hdd with hd|hd
     all_goals
      go_wp2_with fail;go_returns;exact⟨by rw [HK.out];rfl,rfl⟩
   ·obtain rfl:k=s.size:=by omega
    have HK:Hid (aj s.data.toList=true):=HG.out (by
     have:=H.out;rwa [List.take_of_length_le (by rw [<-Lib.size_eq];exact Nat.le_refl _)] at this)
    go_wp2_with fail;go_returns;exact⟨by rw [HK.out];rfl,rfl⟩
theorem eG (s:ByteArray) (w:World) (hs:s.size<=9223372036854775807) :
  Calls Tryz.prog 159 #[.string s] w fun e w'=>e=.returned (.bool (aj s.data.toList))/\w=w':=by
 by_cases h0:s.size=0
 ·have hemp:=jF h0
  have HK:=Lib.hid (Ct h0);go_enter Tryz.func159,Tryz.ntmps159;go_wp2_with fail;go_returns;exact⟨by rw [HK.out];rfl,rfl⟩
 have hemp:=jI h0;rcases Nat.lt_or_ge 1000 s.size with h1|h1
 ·have HK:=Lib.hid (Cv (l:=s.data.toList) (by rw [<-Lib.size_eq];exact h1))
  go_enter Tryz.func159,Tryz.ntmps159;go_wp2_with fail;go_returns;exact⟨by rw [HK.out];rfl,rfl⟩
 have hx0:0<s.size:=by omega
 by_cases h2:1<s.size/\s[0]=48
 ·obtain⟨h2,h3⟩:=h2
  have HK:=Lib.hid (Cw h2 h3);have f0:(((s[0].toNat:Nat):Int) == 48)=true:=by rw [h3];rfl
  clear h3;go_enter Tryz.func159,Tryz.ntmps159;go_wp2_with fail;go_returns;exact⟨by rw [HK.out];rfl,rfl⟩
 have HG:Hid ((∀ c∈s.data.toList,cz c=true)->aj s.data.toList=true):=fun h3=>Cu hx0 h1 (by
  rcases Nat.lt_or_ge 1 s.size with h|h
  ·exact Or.inr fun e=>h2 ⟨h,e⟩
  ·exact Or.inl h) h3
 have hc:(s.size=1/\(((s[0].toNat:Nat):Int) == 48)=true)\/(s.size=1/\(((s[0].toNat:Nat):Int) == 48)=false)\/1<s.size/\(((s[0].toNat:Nat):Int) == 48)=false:=by
  by_cases e:s[0]=48
  ·exact Or.inl ⟨by rcases Nat.lt_or_ge 1 s.size with h|h;exact absurd ⟨h,e⟩ h2;omega,by rw [e];rfl⟩
  ·have:s[0].toNat≠48:=fun hh=>e (UInt8.toNat_inj.1 hh)
   have hf:(((s[0].toNat:Nat):Int) == 48)=false:=by simp;omega
   rcases Nat.lt_or_ge 1 s.size with h|h
   ·exact Or.inr (Or.inr ⟨h,hf⟩)
   ·exact Or.inr (Or.inl ⟨by omega,hf⟩)
 clear h2;rcases hc with⟨hc,f0⟩|⟨hc,f0⟩|⟨hc,f0⟩
 all_goals
  go_enter Tryz.func159,Tryz.ntmps159;go_wp2_with fail
  go_loopw [2,3] (fun _ i wr=>∃ (k:Nat),i=.int .i64 k/\k<=s.size/\wr=w/\Hid (∀ c∈s.data.toList.take k,cz c=true)) (fun _ i _=>s.size-(intOf i).toNat)
  case atStart=>exact⟨0,rfl,by omega,rfl,by simp [Hid]⟩
  case round =>
   obtain⟨k,rfl,hk,rfl,H⟩:=hrel;by_cases hlt:k<s.size
   ·obtain⟨n,hn⟩:∃ n,s[k].toNat=n:=⟨_,rfl⟩
    have hx:=s[k].toNat_lt;by_cases hd:cz s[k]=true
    ·have HN:=Lib.hid (Az hlt H.out hd)
     rw [lJ,hn] at hd;obtain⟨d1,d2⟩:=hd;go_wp2_with fail;go_roundw
     case rel=>exact⟨k+1,by go_num,by omega,trivial,HN⟩
     case measure=>simp [intOf];omega
    ·have hd':cz s[k]=false:=by simpa using hd
     have HK:=Lib.hid (Cs hlt hd');rw [lJ,hn] at hd;have hdd:n<48\/57<n:=by omega
     clear hd hd';rcases hdd with hd|hd
     all_goals
      go_wp2_with fail;go_returns;exact⟨by rw [HK.out];rfl,rfl⟩
   ·obtain rfl:k=s.size:=by omega
    have HK:Hid (aj s.data.toList=true):=HG.out (by
     have:=H.out;rwa [List.take_of_length_le (by rw [<-Lib.size_eq];exact Nat.le_refl _)] at this)
    go_wp2_with fail;go_returns;exact⟨by rw [HK.out];rfl,rfl⟩
def aA (w:World) (r:Bs × Nat) (e:Ending) (w':World):Prop :=
 e=.returned (.tuple #[.string ⟨r.1.toArray⟩,.int .i64 r.2])/\Below w.heap.size w w'
theorem kz {s:ByteArray} (h:aj s.data.toList=true):s.size<=1000:=by rw [Lib.size_eq];exact ((iG _).1 h).2
theorem kW {s:ByteArray} (h:aj s.data.toList=true):∀ c∈s.data.toList,cz c=true:=((iG _).1 h).1.2.1
theorem mP (s:ByteArray) (w:World) (h:aj s.data.toList=true) :
  Calls Tryz.prog 193 #[.string s] w (sw w (blk (ag s.data.toList))) :=
 FM s w (kW h) (by have:=kz h;omega)
theorem Bu (A:Option Addr) (c n:Nat) (w:World) (hT:bK w) (hA:ay w A ((blk n).map U)) (hm:(blk n).length<=10000) :
  Calls Tryz.prog 194 #[.slice A (blk n).length c] w (aA w (jv n)):=by
 have ht:=yT A c n w hT hA hm;have hlen:(af n).length<=9 * (blk n).length+1:=by
  have h1:=(iD dN n (blk n).length).1 (Nat.le_refl _);rw [zo] at h1;exact (kg n _ (by omega)).2 (Nat.lt_of_lt_of_le h1 (Nat.pow_le_pow_right (by omega) (by omega)))
 obtain⟨F,hF⟩:∃ F:ByteArray,(⟨(af n).toArray⟩:ByteArray)=F:=⟨_,rfl⟩;have hFs:F.size=(af n).length:=by rw [<-hF,Lib.size_eq]
 rw [hF] at ht;have HF:=Lib.hid hF;generalize (blk n).length=N at *;by_cases hl:1000<(af n).length
 ·have HK:Hid (jv n=([],2)):=by unfold Hid jv;rw [if_pos hl]
  rw [<-hFs] at hl;clear hF hFs hlen;go_enter Tryz.func194,Tryz.ntmps194;go_wp2_with (first|(go_at_call 207;refine ht.mono ?_;rintro e w2 ⟨rfl,hb2⟩));go_returns;unfold aA;rw [HK.out];exact⟨rfl,hb2⟩
 ·have HK:Hid (jv n=(af n,0)):=by unfold Hid jv;rw [if_neg hl]
  rw [<-hFs] at hl;clear hF hFs hlen;go_enter Tryz.func194,Tryz.ntmps194;go_wp2_with (first|(go_at_call 207;refine ht.mono ?_;rintro e w2 ⟨rfl,hb2⟩));go_returns;unfold aA;rw [HK.out,<-HF.out];exact⟨rfl,hb2⟩
theorem zL {m n:Nat} (h:m<=n):(blk m).length<=(blk n).length:=by
 have h1:=(iD dN n (blk n).length).1 (Nat.le_refl _);exact (iD dN m _).2 (by omega)
theorem FI {m n k:Nat} (hm:(blk m).length<=k) (hn:(blk n).length<=k):(blk (m+n)).length<=k+1:=by
 have h1:=(iD dN m k).1 hm;have h2:=(iD dN n k).1 hn;apply (iD dN (m+n) (k+1)).2;rw [Nat.pow_succ];have:=Nat.mul_le_mul_left (BB ^ k) dN;omega
theorem FJ {m n i j:Nat} (hm:(blk m).length<=i) (hn:(blk n).length<=j):(blk (m * n)).length<=i+j:=by
 have h1:=(iD dN m i).1 hm;have h2:=(iD dN n j).1 hn;apply (iD dN (m * n) (i+j)).2;rw [Nat.pow_add];exact Nat.mul_lt_mul'' h1 h2
theorem Jt (a b:ByteArray) (w:World) (ha:a.size<=9223372036854775807) (hb:b.size<=9223372036854775807) (h:¬ (aj a.data.toList=true/\aj b.data.toList=true)) :
  Calls Tryz.prog 189 #[.string a,.string b] w fun e w'=>e=.returned (.tuple #[.string ⟨#[]⟩,.int .i64 1])/\w=w':=by
 have va:=fun W=>gI a W ha
 have vb:=fun W=>gI b W hb
 cases hoa:aj a.data.toList with
 | false =>
  rw [hoa] at va;clear h hoa;go_enter Tryz.func189,Tryz.ntmps189;go_wp2_with (first|(go_at_call_of 192 (Value.string a);refine (va _).mono ?_;rintro e w2 ⟨rfl,rfl⟩));go_returns;exact⟨rfl,rfl⟩
 | true =>
  cases hob:aj b.data.toList with
  | false =>
   rw [hoa] at va;rw [hob] at vb;clear h hoa hob;go_enter Tryz.func189,Tryz.ntmps189;go_wp2_with (first|(go_at_call_of 192 (Value.string a);refine (va _).mono ?_;rintro e w2 ⟨rfl,rfl⟩)|(go_at_call_of 192 (Value.string b);refine (vb _).mono ?_;rintro e w2 ⟨rfl,rfl⟩));go_returns;exact⟨rfl,rfl⟩
  | true=>exact absurd ⟨hoa,hob⟩ h
theorem JK (a b:ByteArray) (w:World) (ha:a.size<=9223372036854775807) (hb:b.size<=9223372036854775807) (h:¬ (aj a.data.toList=true/\aj b.data.toList=true)) :
  Calls Tryz.prog 191 #[.string a,.string b] w fun e w'=>e=.returned (.tuple #[.string ⟨#[]⟩,.int .i64 1])/\w=w':=by
 have va:=fun W=>gI a W ha
 have vb:=fun W=>gI b W hb
 cases hoa:aj a.data.toList with
 | false =>
  rw [hoa] at va;clear h hoa;go_enter Tryz.func191,Tryz.ntmps191;go_wp2_with (first|(go_at_call_of 192 (Value.string a);refine (va _).mono ?_;rintro e w2 ⟨rfl,rfl⟩));go_returns;exact⟨rfl,rfl⟩
 | true =>
  cases hob:aj b.data.toList with
  | false =>
   rw [hoa] at va;rw [hob] at vb;clear h hoa hob;go_enter Tryz.func191,Tryz.ntmps191;go_wp2_with (first|(go_at_call_of 192 (Value.string a);refine (va _).mono ?_;rintro e w2 ⟨rfl,rfl⟩)|(go_at_call_of 192 (Value.string b);refine (vb _).mono ?_;rintro e w2 ⟨rfl,rfl⟩));go_returns;exact⟨rfl,rfl⟩
  | true=>exact absurd ⟨hoa,hob⟩ h
theorem JI (a b:ByteArray) (w:World) (ha:a.size<=9223372036854775807) (hb:b.size<=9223372036854775807) (h:¬ (aj a.data.toList=true/\aj b.data.toList=true)) :
  Calls Tryz.prog 172 #[.string a,.string b] w fun e w'=>e=.returned (.tuple #[.string ⟨#[]⟩,.int .i64 1])/\w=w':=by
 have va:=fun W=>gI a W ha
 have vb:=fun W=>gI b W hb
 cases hoa:aj a.data.toList with
 | false =>
  rw [hoa] at va;clear h hoa;go_enter Tryz.func172,Tryz.ntmps172;go_wp2_with (first|(go_at_call_of 192 (Value.string a);refine (va _).mono ?_;rintro e w2 ⟨rfl,rfl⟩));go_returns;exact⟨rfl,rfl⟩
 | true =>
  cases hob:aj b.data.toList with
  | false =>
   rw [hoa] at va;rw [hob] at vb;clear h hoa hob;go_enter Tryz.func172,Tryz.ntmps172;go_wp2_with (first|(go_at_call_of 192 (Value.string a);refine (va _).mono ?_;rintro e w2 ⟨rfl,rfl⟩)|(go_at_call_of 192 (Value.string b);refine (vb _).mono ?_;rintro e w2 ⟨rfl,rfl⟩));go_returns;exact⟨rfl,rfl⟩
  | true=>exact absurd ⟨hoa,hob⟩ h
theorem JG (a b:ByteArray) (w:World) (ha:a.size<=9223372036854775807) (hb:b.size<=9223372036854775807) (h:¬ (aj a.data.toList=true/\aj b.data.toList=true)) :
  Calls Tryz.prog 196 #[.string a,.string b] w fun e w'=>e=.returned (.tuple #[.string ⟨#[]⟩,.int .i64 1])/\w=w':=by
 have va:=fun W=>gI a W ha
 have vb:=fun W=>gI b W hb
 cases hoa:aj a.data.toList with
 | false =>
  rw [hoa] at va;clear h hoa;go_enter Tryz.func196,Tryz.ntmps196;go_wp2_with (first|(go_at_call_of 192 (Value.string a);refine (va _).mono ?_;rintro e w2 ⟨rfl,rfl⟩));go_returns;exact⟨rfl,rfl⟩
 | true =>
  cases hob:aj b.data.toList with
  | false =>
   rw [hoa] at va;rw [hob] at vb;clear h hoa hob;go_enter Tryz.func196,Tryz.ntmps196;go_wp2_with (first|(go_at_call_of 192 (Value.string a);refine (va _).mono ?_;rintro e w2 ⟨rfl,rfl⟩)|(go_at_call_of 192 (Value.string b);refine (vb _).mono ?_;rintro e w2 ⟨rfl,rfl⟩));go_returns;exact⟨rfl,rfl⟩
  | true=>exact absurd ⟨hoa,hob⟩ h
theorem JD (a b:ByteArray) (w:World) (ha:a.size<=9223372036854775807) (hb:b.size<=9223372036854775807) (h:¬ (aj a.data.toList=true/\aj b.data.toList=true)) :
  Calls Tryz.prog 190 #[.string a,.string b] w fun e w'=>e=.returned (.int .i64 0)/\w=w':=by
 have va:=fun W=>gI a W ha
 have vb:=fun W=>gI b W hb
 cases hoa:aj a.data.toList with
 | false =>
  rw [hoa] at va;clear h hoa;go_enter Tryz.func190,Tryz.ntmps190;go_wp2_with (first|(go_at_call_of 192 (Value.string a);refine (va _).mono ?_;rintro e w2 ⟨rfl,rfl⟩));go_returns;exact⟨rfl,rfl⟩
 | true =>
  cases hob:aj b.data.toList with
  | false =>
   rw [hoa] at va;rw [hob] at vb;clear h hoa hob;go_enter Tryz.func190,Tryz.ntmps190;go_wp2_with (first|(go_at_call_of 192 (Value.string a);refine (va _).mono ?_;rintro e w2 ⟨rfl,rfl⟩)|(go_at_call_of 192 (Value.string b);refine (vb _).mono ?_;rintro e w2 ⟨rfl,rfl⟩));go_returns;exact⟨rfl,rfl⟩
  | true=>exact absurd ⟨hoa,hob⟩ h
theorem KM (a b:ByteArray) (w:World) (ha:a.size<=9223372036854775807) (hb:b.size<=9223372036854775807) (h:¬ (aj a.data.toList=true/\aj b.data.toList=true)) :
  Calls Tryz.prog 153 #[.string a,.string b] w fun e w'=>e=.returned (.tuple #[.string ⟨#[]⟩,.int .i64 1])/\w=w':=by
 have va:=fun W=>eG a W ha
 have vb:=fun W=>eG b W hb
 cases hoa:aj a.data.toList with
 | false =>
  rw [hoa] at va;clear h hoa;go_enter Tryz.func153,Tryz.ntmps153;go_wp2_with (first|(go_at_call_of 159 (Value.string a);refine (va _).mono ?_;rintro e w2 ⟨rfl,rfl⟩));go_returns;exact⟨rfl,rfl⟩
 | true =>
  cases hob:aj b.data.toList with
  | false =>
   rw [hoa] at va;rw [hob] at vb;clear h hoa hob;go_enter Tryz.func153,Tryz.ntmps153;go_wp2_with (first|(go_at_call_of 159 (Value.string a);refine (va _).mono ?_;rintro e w2 ⟨rfl,rfl⟩)|(go_at_call_of 159 (Value.string b);refine (vb _).mono ?_;rintro e w2 ⟨rfl,rfl⟩));go_returns;exact⟨rfl,rfl⟩
  | true=>exact absurd ⟨hoa,hob⟩ h
theorem Mf (a b:ByteArray) (w:World) (ha:a.size<=9223372036854775807) (hb:b.size<=9223372036854775807) (h:¬ (aj a.data.toList=true/\aj b.data.toList=true)) :
  Calls Tryz.prog 155 #[.string a,.string b] w fun e w'=>e=.returned (.tuple #[.string ⟨#[]⟩,.int .i64 1])/\w=w':=by
 have va:=fun W=>eG a W ha
 have vb:=fun W=>eG b W hb
 cases hoa:aj a.data.toList with
 | false =>
  rw [hoa] at va;clear h hoa;go_enter Tryz.func155,Tryz.ntmps155;go_wp2_with (first|(go_at_call_of 159 (Value.string a);refine (va _).mono ?_;rintro e w2 ⟨rfl,rfl⟩));go_returns;exact⟨rfl,rfl⟩
 | true =>
  cases hob:aj b.data.toList with
  | false =>
   rw [hoa] at va;rw [hob] at vb;clear h hoa hob;go_enter Tryz.func155,Tryz.ntmps155;go_wp2_with (first|(go_at_call_of 159 (Value.string a);refine (va _).mono ?_;rintro e w2 ⟨rfl,rfl⟩)|(go_at_call_of 159 (Value.string b);refine (vb _).mono ?_;rintro e w2 ⟨rfl,rfl⟩));go_returns;exact⟨rfl,rfl⟩
  | true=>exact absurd ⟨hoa,hob⟩ h
theorem LG (a b:ByteArray) (w:World) (ha:a.size<=9223372036854775807) (hb:b.size<=9223372036854775807) (h:¬ (aj a.data.toList=true/\aj b.data.toList=true)) :
  Calls Tryz.prog 156 #[.string a,.string b] w fun e w'=>e=.returned (.tuple #[.string ⟨#[]⟩,.int .i64 1])/\w=w':=by
 have va:=fun W=>eG a W ha
 have vb:=fun W=>eG b W hb
 cases hoa:aj a.data.toList with
 | false =>
  rw [hoa] at va;clear h hoa;go_enter Tryz.func156,Tryz.ntmps156;go_wp2_with (first|(go_at_call_of 159 (Value.string a);refine (va _).mono ?_;rintro e w2 ⟨rfl,rfl⟩));go_returns;exact⟨rfl,rfl⟩
 | true =>
  cases hob:aj b.data.toList with
  | false =>
   rw [hoa] at va;rw [hob] at vb;clear h hoa hob;go_enter Tryz.func156,Tryz.ntmps156;go_wp2_with (first|(go_at_call_of 159 (Value.string a);refine (va _).mono ?_;rintro e w2 ⟨rfl,rfl⟩)|(go_at_call_of 159 (Value.string b);refine (vb _).mono ?_;rintro e w2 ⟨rfl,rfl⟩));go_returns;exact⟨rfl,rfl⟩
  | true=>exact absurd ⟨hoa,hob⟩ h
theorem Lp (a b:ByteArray) (w:World) (ha:a.size<=9223372036854775807) (hb:b.size<=9223372036854775807) (h:¬ (aj a.data.toList=true/\aj b.data.toList=true)) :
  Calls Tryz.prog 152 #[.string a,.string b] w fun e w'=>e=.returned (.tuple #[.string ⟨#[]⟩,.int .i64 1])/\w=w':=by
 have va:=fun W=>eG a W ha
 have vb:=fun W=>eG b W hb
 cases hoa:aj a.data.toList with
 | false =>
  rw [hoa] at va;clear h hoa;go_enter Tryz.func152,Tryz.ntmps152;go_wp2_with (first|(go_at_call_of 159 (Value.string a);refine (va _).mono ?_;rintro e w2 ⟨rfl,rfl⟩));go_returns;exact⟨rfl,rfl⟩
 | true =>
  cases hob:aj b.data.toList with
  | false =>
   rw [hoa] at va;rw [hob] at vb;clear h hoa hob;go_enter Tryz.func152,Tryz.ntmps152;go_wp2_with (first|(go_at_call_of 159 (Value.string a);refine (va _).mono ?_;rintro e w2 ⟨rfl,rfl⟩)|(go_at_call_of 159 (Value.string b);refine (vb _).mono ?_;rintro e w2 ⟨rfl,rfl⟩));go_returns;exact⟨rfl,rfl⟩
  | true=>exact absurd ⟨hoa,hob⟩ h
theorem K7 (a b:ByteArray) (w:World) (ha:a.size<=9223372036854775807) (hb:b.size<=9223372036854775807) (h:¬ (aj a.data.toList=true/\aj b.data.toList=true)) :
  Calls Tryz.prog 160 #[.string a,.string b] w fun e w'=>e=.returned (.tuple #[.string ⟨#[]⟩,.string ⟨#[]⟩,.int .i64 1])/\w=w':=by
 have va:=fun W=>eG a W ha
 have vb:=fun W=>eG b W hb
 cases hoa:aj a.data.toList with
 | false =>
  rw [hoa] at va;clear h hoa;go_enter Tryz.func160,Tryz.ntmps160;go_wp2_with (first|(go_at_call_of 159 (Value.string a);refine (va _).mono ?_;rintro e w2 ⟨rfl,rfl⟩));go_returns;exact⟨rfl,rfl⟩
 | true =>
  cases hob:aj b.data.toList with
  | false =>
   rw [hoa] at va;rw [hob] at vb;clear h hoa hob;go_enter Tryz.func160,Tryz.ntmps160;go_wp2_with (first|(go_at_call_of 159 (Value.string a);refine (va _).mono ?_;rintro e w2 ⟨rfl,rfl⟩)|(go_at_call_of 159 (Value.string b);refine (vb _).mono ?_;rintro e w2 ⟨rfl,rfl⟩));go_returns;exact⟨rfl,rfl⟩
  | true=>exact absurd ⟨hoa,hob⟩ h
theorem K6 (a b:ByteArray) (w:World) (ha:a.size<=9223372036854775807) (hb:b.size<=9223372036854775807) (h:¬ (aj a.data.toList=true/\aj b.data.toList=true)) :
  Calls Tryz.prog 154 #[.string a,.string b] w fun e w'=>e=.returned (.int .i64 0)/\w=w':=by
 have va:=fun W=>eG a W ha
 have vb:=fun W=>eG b W hb
 cases hoa:aj a.data.toList with
 | false =>
  rw [hoa] at va;clear h hoa;go_enter Tryz.func154,Tryz.ntmps154;go_wp2_with (first|(go_at_call_of 159 (Value.string a);refine (va _).mono ?_;rintro e w2 ⟨rfl,rfl⟩));go_returns;exact⟨rfl,rfl⟩
 | true =>
  cases hob:aj b.data.toList with
  | false =>
   rw [hoa] at va;rw [hob] at vb;clear h hoa hob;go_enter Tryz.func154,Tryz.ntmps154;go_wp2_with (first|(go_at_call_of 159 (Value.string a);refine (va _).mono ?_;rintro e w2 ⟨rfl,rfl⟩)|(go_at_call_of 159 (Value.string b);refine (vb _).mono ?_;rintro e w2 ⟨rfl,rfl⟩));go_returns;exact⟨rfl,rfl⟩
  | true=>exact absurd ⟨hoa,hob⟩ h
theorem Js (a b:ByteArray) (w:World) (hT:bK w) (ha:a.size<=9223372036854775807) (hb:b.size<=9223372036854775807) :
  Calls Tryz.prog 189 #[.string a,.string b] w (aA w (mK a.data.toList b.data.toList)):=by
 by_cases hok:aj a.data.toList=true/\aj b.data.toList=true
 ·obtain⟨hoa,hob⟩:=hok
  have HK:Hid (mK a.data.toList b.data.toList=jv (ag a.data.toList+ag b.data.toList)):=by unfold Hid mK;rw [if_pos ⟨hoa,hob⟩]
  have va:=fun W=>gI a W ha
  have vb:=fun W=>gI b W hb
  rw [hoa] at va;rw [hob] at vb;have ba:=fun W=>mP a W hoa
  have bb:=fun W=>mP b W hob
  have la:=mR hoa;have lb:=mR hob;generalize ag a.data.toList=m at *;generalize ag b.data.toList=n at *;clear hoa hob;have hA:Below w.heap.size w w:=Below.refl _ _;go_enter Tryz.func189,Tryz.ntmps189;go_wp2_with (first|(go_at_call_of 192 (Value.string a);refine (va _).mono ?_;rintro e w2 ⟨rfl,rfl⟩)|(go_at_call_of 192 (Value.string b);refine (vb _).mono ?_;rintro e w2 ⟨rfl,rfl⟩));refine (ba _).mono ?_;rintro e w1 ⟨A1,c1,rfl,h1,r1,b1⟩;have hA1:=ae hA b1;go_wp2_with fail;refine (bb _).mono ?_;rintro e w2 ⟨A2,c2,rfl,h2,r2,b2⟩;have hA2:=ae hA1 b2;go_wp2_with fail;refine (Km A1 A2 c1 c2 m n _ (r1.below b2) r2 (by omega) (by omega)).mono ?_;rintro e w3 ⟨A3,c3,rfl,h3,r3,b3⟩;have hA3:=ae hA2 b3;have l3:=FI la lb;go_wp2_with fail;refine (Bu A3 c3 (m+n) _ (hT.below hA3) r3 (by omega)).mono ?_;rintro e w4 ⟨rfl,b4⟩;have hA4:=ae hA3 b4;go_wp2_with fail;go_returns;unfold aA;rw [HK.out];exact⟨rfl,hA4⟩
 ·refine (Jt a b w ha hb hok).mono ?_
  rintro e w' ⟨rfl,rfl⟩;unfold aA mK;rw [if_neg hok];exact⟨rfl,Below.refl _ _⟩
theorem JC (a b:ByteArray) (w:World) (ha:a.size<=9223372036854775807) (hb:b.size<=9223372036854775807) :
  Calls Tryz.prog 190 #[.string a,.string b] w fun e w'=>e=.returned (.int .i64 (mM a.data.toList b.data.toList))/\Below w.heap.size w w':=by
 by_cases hok:aj a.data.toList=true/\aj b.data.toList=true
 ·obtain⟨hoa,hob⟩:=hok
  have HK:Hid (mM a.data.toList b.data.toList=bZ (ag a.data.toList) (ag b.data.toList)):=by unfold Hid mM;rw [if_pos ⟨hoa,hob⟩]
  have va:=fun W=>gI a W ha
  have vb:=fun W=>gI b W hb
  rw [hoa] at va;rw [hob] at vb;have ba:=fun W=>mP a W hoa
  have bb:=fun W=>mP b W hob
  have la:=mR hoa;have lb:=mR hob;generalize ag a.data.toList=m at *;generalize ag b.data.toList=n at *;clear hoa hob;have hA:Below w.heap.size w w:=Below.refl _ _;go_enter Tryz.func190,Tryz.ntmps190;go_wp2_with (first|(go_at_call_of 192 (Value.string a);refine (va _).mono ?_;rintro e w2 ⟨rfl,rfl⟩)|(go_at_call_of 192 (Value.string b);refine (vb _).mono ?_;rintro e w2 ⟨rfl,rfl⟩));refine (ba _).mono ?_;rintro e w1 ⟨A1,c1,rfl,h1,r1,b1⟩;have hA1:=ae hA b1;go_wp2_with fail;refine (bb _).mono ?_;rintro e w2 ⟨A2,c2,rfl,h2,r2,b2⟩;have hA2:=ae hA1 b2;go_wp2_with fail;refine (vo A1 A2 c1 c2 m n _ (r1.below b2) r2 (by omega) (by omega)).mono ?_;rintro e w3 ⟨rfl,b3⟩;have hA3:=ae hA2 b3;go_wp2_with fail;go_returns;exact⟨by rw [HK.out];rfl,hA3⟩
 ·refine (JD a b w ha hb hok).mono ?_
  rintro e w' ⟨rfl,rfl⟩;unfold mM;rw [if_neg hok];exact⟨rfl,Below.refl _ _⟩
theorem Ci (a b:ByteArray) (w:World) (hT:bK w) (ha:a.size<=9223372036854775807) (hb:b.size<=9223372036854775807) :
  Calls Tryz.prog 191 #[.string a,.string b] w (aA w (jT a.data.toList b.data.toList)):=by
 by_cases hok:aj a.data.toList=true/\aj b.data.toList=true
 ·obtain⟨hoa,hob⟩:=hok
  have HK:Hid (jT a.data.toList b.data.toList=if ag a.data.toList<ag b.data.toList then ([],4) else (af (ag a.data.toList-ag b.data.toList),0)):=by unfold Hid jT;rw [if_pos ⟨hoa,hob⟩]
  have va:=fun W=>gI a W ha
  have vb:=fun W=>gI b W hb
  rw [hoa] at va;rw [hob] at vb;have ba:=fun W=>mP a W hoa
  have bb:=fun W=>mP b W hob
  have la:=mR hoa;have lb:=mR hob;generalize ag a.data.toList=m at *;generalize ag b.data.toList=n at *;clear hoa hob;have hA:Below w.heap.size w w:=Below.refl _ _;go_enter Tryz.func191,Tryz.ntmps191;go_wp2_with (first|(go_at_call_of 192 (Value.string a);refine (va _).mono ?_;rintro e w2 ⟨rfl,rfl⟩)|(go_at_call_of 192 (Value.string b);refine (vb _).mono ?_;rintro e w2 ⟨rfl,rfl⟩));refine (ba _).mono ?_;rintro e w1 ⟨A1,c1,rfl,h1,r1,b1⟩;have hA1:=ae hA b1;go_wp2_with fail;refine (bb _).mono ?_;rintro e w2 ⟨A2,c2,rfl,h2,r2,b2⟩;have hA2:=ae hA1 b2;go_wp2_with fail;refine (vo A1 A2 c1 c2 m n _ (r1.below b2) r2 (by omega) (by omega)).mono ?_;rintro e w3 ⟨rfl,b3⟩;have hA3:=ae hA2 b3;by_cases hlt:m<n
  ·have HK2:Hid (jT a.data.toList b.data.toList=([],4)):=by rw [Hid,HK.out,if_pos hlt]
   rw [lu hlt];clear hlt HK;go_wp2_with fail;go_returns;unfold aA;rw [HK2.out];exact⟨rfl,hA3⟩
  ·have HK2:Hid (jT a.data.toList b.data.toList=(af (m-n),0)):=by rw [Hid,HK.out,if_neg hlt]
   have hge:¬ bZ m n<0:=by rw [nL];exact hlt
   obtain⟨cc,hcc⟩:∃ cc,bZ m n=cc:=⟨_,rfl⟩;rw [hcc] at hge ⊢;have hge0:0<=cc:=by omega
   have hmn:n<=m:=by omega
   have l3:(blk (m-n)).length<=112:=Nat.le_trans (zL (Nat.sub_le _ _)) la;clear hlt HK hcc hge;go_wp2_with fail;refine (Jd A1 A2 c1 c2 m n _ hmn ((r1.below b2).below b3) (r2.below b3) (by omega) (by omega)).mono ?_;rintro e w4 ⟨A4,c4,rfl,h4,r4,b4⟩;have hA4:=ae hA3 b4;go_wp2_with fail;refine (yT A4 c4 (m-n) _ (hT.below hA4) r4 (by omega)).mono ?_;rintro e w5 ⟨rfl,b5⟩;have hA5:=ae hA4 b5;go_wp2_with fail;go_returns;unfold aA;rw [HK2.out];exact⟨rfl,hA5⟩
 ·refine (JK a b w ha hb hok).mono ?_
  rintro e w' ⟨rfl,rfl⟩;unfold aA jT;rw [if_neg hok];exact⟨rfl,Below.refl _ _⟩
end Go.Proofs.YtppnecgeboonbaaGreatDoor.Rat3
