/- If no symbol of the table is a flag, Eliminate returns a machine with the same relation; so it does for the machine that it returned. Conditions: the listed package-level variables hold what the row lists (tied to the program's text by the card). -/
import Derived.Test.YtppnecgeboonbaaGreatDoorTie
import Derived.Test.YtppnecgeboonbaaGreatDoorZ45
import Derived.ChangeOld
import Derived.Below
import Derived.Lay
import Derived.SevenTiedAt
import Derived.Stop.Joined
namespace Go.Proofs.YtppnecgeboonbaaGreatDoor
set_option maxRecDepth 100000
set_option linter.all false
set_option maxHeartbeats 1000000
namespace wrapFlagsAgain
open Go Go.ChangeShapes Go.WideShapes Go.ChangeAt Go.RowKit
open Go.ChangeMaps (open_string shut_string)
theorem own:ownKnob Tryz.prog.godebug=none:=by kernel_rfl
theorem laidOut:laidOutB Tryz.prog=true:=by kernel_rfl
theorem lifted(os:Os)(started:os.Started)(H:Type)(enc:TypeId×Value->H) :
  ReturnsInHanded {} Tryz.checked os 10 .any (fun w args=>(Rows.flagsAgainSpec.pre enc Tryz.prog Tryz.f10 Rows.flagsAgainRow.domain false w args/\laidMetH Tryz.prog Rows.flagsAgainRow.laid w)/\sizedMet enc Tryz.prog Tryz.f10 (OpenSpec.ofChange Rows.flagsAgainSpec) false w args)
   (Rows.flagsAgainSpec.post enc Tryz.prog Tryz.f10 false true false false):=by
 refine Sl (C:=Tryz.checked) (X:=fun w _=>laidMetH Tryz.prog Rows.flagsAgainRow.laid w) (fun _ _ _ hh h=>h.of_heap hh) own started (by kernel_rfl) afh
  (ChangeSpec.witness_shaped (enc:=enc) (C:=Tryz.checked) (os:=os) (X:=fun w _=>laidMetH Tryz.prog Rows.flagsAgainRow.laid w) false (World.laidAll Tryz.prog os Rows.flagsAgainRow.laid) #[.agg #[.int .i64 0,.int .i64 0,.string ByteArray.empty,.slice none 0 0],.slice none 0 0,.slice none 0 0,.slice none 0 0] 8 (World.laidAll_os _ _ _)
   (World.shaped_of_ZipB (by kernel_rfl) (by kernel_rfl)) (by kernel_rfl) (by kernel_rfl) (by kernel_rfl)
   (by rw[afG _ _ _ (by kernel_rfl)];exact laidMet_laidAll _ (by kernel_rfl) (by kernel_rfl))) ?_
 intro W base args ds gs before hval0 hW hwt hL hsh;have hval:∀(j:Nat) t v,Tryz.f10.params[j]? = some t->args[j]? = some v->Value.okWide Tryz.prog W .any base t v:=hval0;have hW':=hW;obtain⟨p,q,hA0,hV,rfl,_,_⟩:=hW;have hA:DataW.TrodAll enc Tryz.prog W 0 (fun _=>true) true Tryz.f10.params.toList args.toList ds p:=hA0;rw[Tryz.params10]at hA hval hwt;obtain⟨v0,vs0,d0,ds0,p0,q0,hargs,rfl,rfl,h0,r0⟩:=trodAll_cons hA;obtain⟨v1,vs1,d1,ds1,p1,q1,rfl,rfl,rfl,h1,r1⟩:=trodAll_cons r0;obtain⟨v2,vs2,d2,ds2,p2,q2,rfl,rfl,rfl,h2,r2⟩:=trodAll_cons r1;obtain⟨v3,vs3,d3,ds3,p3,q3,rfl,rfl,rfl,h3,r3⟩:=trodAll_cons r2;obtain⟨rfl,rfl,rfl⟩:=trodAll_nil r3;obtain rfl:args=#[v0,v1,v2,v3]:=by cases args;simp_all
 obtain⟨rfl,rfl⟩:=trodVars_none hV;have k0:=h0;have lt0:∀x∈p0,x.block<W.heap.size:=by obtain⟨m,hm⟩:=k0;exact afo m _ _ _ hm
 obtain⟨l0,A0,c0,rfl,hV0,hl0,hw0,hh0⟩:=SE (hval 0 30 v0 rfl rfl) h0 (O9 hwt).1;obtain⟨a1,len1,cap1,rfl⟩:=okWide_slice abU (hval 1 22 v1 rfl rfl);have k1:=h1;have lt1:∀x∈p1,x.block<W.heap.size:=by obtain⟨m,hm⟩:=k1;exact afo m _ _ _ hm
 obtain⟨l1,e1,x1⟩:∃l:List Bs,len1=l.length/\aAK W a1 cap1 l:=by
  obtain⟨fuel,hf⟩:=h1;exact open_row abU aaV (by kernel_rfl) hf
 subst e1;obtain⟨a2,len2,cap2,rfl⟩:=okWide_slice ab3 (hval 2 38 v2 rfl rfl);have k2:=h2;have lt2:∀x∈p2,x.block<W.heap.size:=by obtain⟨m,hm⟩:=k2;exact afo m _ _ _ hm
 obtain⟨l2,e2,x2,y2⟩:∃l:List Int,len2=l.length/\ay W a2 (l.map IV)/\∀s∈l,-9223372036854775808<=s/\s<=9223372036854775807:=by
  obtain⟨fuel,hf⟩:=h2;exact aBn hf
 subst e2;obtain⟨a3,len3,cap3,rfl⟩:=okWide_slice ab3 (hval 3 38 v3 rfl rfl);have k3:=h3;have lt3:∀x∈p3,x.block<W.heap.size:=by obtain⟨m,hm⟩:=k3;exact afo m _ _ _ hm
 obtain⟨l3,e3,x3,y3⟩:∃l:List Int,len3=l.length/\ay W a3 (l.map IV)/\∀s∈l,-9223372036854775808<=s/\s<=9223372036854775807:=by
  obtain⟨fuel,hf⟩:=h3;exact aBn hf
 subst e3;clear hA0 hval0;simp only[acb]at hW';refine(aEC l0 A0 c0 a1 cap1 l1 a2 cap2 l2 a3 cap3 l3 W (NK hL hsh) hV0 hl0 hw0 hh0 x1.2.2.1 x2 y2 x3 y3).mono fun e W' ⟨he,bel⟩=>?_
 subst he;exact⟨_,rfl,_,_,_,[],_,[],hW',trodAll_mk1 (shut_bool abQ _),(ae6 (Below.trod laidOut (by kernel_rfl) (abp (by kernel_rfl)) k0 bel lt0) (ae6 (Below.trod laidOut (by kernel_rfl) (abp (by kernel_rfl)) k1 bel lt1) (ae6 (Below.trod laidOut (by kernel_rfl) (abp (by kernel_rfl)) k2 bel lt2) (ae6 (Below.trod laidOut (by kernel_rfl) (abp (by kernel_rfl)) k3 bel lt3) trodAll_mk0)))),rfl,bel.frame _,fun h=>by cases h⟩
theorem said:Rows.FlagsAgainSaid:=
 OpenClaim.holds_of_wide 10 Tryz.f10 rfl rfl rfl rfl rfl rfl rfl ⟨rfl,rfl,rfl,rfl,rfl⟩ rfl rfl rfl rfl rfl (by kernel_rfl) afh (by kernel_rfl)
  (abp (by kernel_rfl)) (by unfold Func.isWrapper;first|(rw[aaa (by decide +kernel)];kernel_rfl)|(rw[aab (by decide +kernel)];exact⟨rfl,rfl⟩))
  (fun os started H enc _=>lifted os started H enc)
theorem plain(f:FuncId)(fn:Func)(hf:Tryz.pinned.checked.prog.funcNamed "abugida/abugidalaw22.FlagsAgain" = some f)(hfn:Tryz.pinned.checked.prog.funcs[f]? = some fn) :
  true=Tryz.pinned.checked.prog.looks []/\∀(j:Nat) t,fn.params[j]? = some t->Tryz.pinned.checked.prog.wantsStandIn t=false:=by
 obtain rfl:f=10:=acp ((show Tryz.prog.funcNamed "abugida/abugidalaw22.FlagsAgain" = some 10 by kernel_rfl).symm.trans hf) |>.symm
 obtain rfl:fn=Tryz.f10:=(acp (afh.symm.trans hfn)).symm;refine⟨by kernel_rfl,fun j t ht=>?_⟩;rw[Tryz.params10]at ht;have hm:t∈[30,22,38,38]:=by simpa using Array.mem_of_getElem? ht
 have hall:([30,22,38,38].all fun u=>!Tryz.prog.wantsStandIn u)=true:=by kernel_rfl
 exact(show Tryz.prog.wantsStandIn t=false by simpa using aaT.1 hall t hm)
end wrapFlagsAgain
theorem flagsAgain_card:Rows.FlagsAgainCardSaid:=
 Claim7.holds_tied_plain_at .later [] _ _ _ _ wrapFlagsAgain.said (fun _ h=>by cases h) (by kernel_rfl) (fun _ h=>by cases h) flagsAgain_row_tie rfl ⟨rfl,rfl⟩ (by kernel_rfl) rfl wrapFlagsAgain.plain (by kernel_rfl)
end Go.Proofs.YtppnecgeboonbaaGreatDoor
