/-
 SnapDoes, tied: whatever the input, the law returns true, and each argument reads behind the call as it read before; the listed variables are as the program's text lays them. No further condition.
-/
import Derived.Test.YtglmbboafmmnpaaGreatDoorRows
import Derived.Test.YtglmbboafmmnpaaGreatDoorSnapJ1
import Derived.Test.YtglmbboafmmnpaaGreatDoorCards
import Derived.Test.YtglmbboafmmnpaaGreatDoorTie
import Derived.Test.YtglmbboafmmnpaaGreatDoorPart2
import Derived.Test.YtglmbboafmmnpaaGreatDoorPart9
import Derived.SevenTiedAt
set_option maxRecDepth 100000
set_option maxHeartbeats 2000000
set_option linter.unusedSimpArgs false
set_option linter.unusedVariables false
namespace Go.Proofs.YtglmbboafmmnpaaGreatDoor
open Go Go.Aw Go.RowKit Go.ChangeShapes Go.WideShapes
theorem Tryz.own:ownKnob Tryz.prog.godebug=none:=by kernel_rfl
theorem Tryz.laidOut:laidOutB Tryz.prog=true:=by kernel_rfl
theorem zld (xss:List (List D)) (h:DTys Tryz.prog [33,9,53,3] xss):ACall Tryz.prog 6 0 (zgi Tryz.prog [33,9,53,3] xss) [] (fun r _=>r= .d (.bool true)):=by
 obtain ⟨x1,r1,rfl,h1,x2,r2,rfl,h2,x3,r3,rfl,h3,x4,r4,rfl,h4,h7⟩:=h
 simp only [DTys] at h7
 subst h7
 obtain ⟨X,q1,rfl⟩:=zui h1
 obtain ⟨n,rfl,hn⟩:=zjD h2
 obtain ⟨i,rfl,hi0,hi1⟩:=zup h3
 obtain ⟨g,rfl,_⟩:=ze8 h4
 simp only [zgi,zuj,zul,zuq,zuk]
 exact zk7 X n i g q1.ok hn hi0 hi1
theorem SnapDoes_lifted (os:Os) (started:os.Started) (H:Type) (enc:TypeId×Value→H):
  ReturnsInHanded {} Tryz.checked os 6 .any (fun w args=>(Rows.snapDoesSpec.pre enc Tryz.prog Tryz.f6 Rows.snapDoesRow.domain false w args∧laidMetH Tryz.prog Rows.snapDoesRow.laid w)∧sizedMet enc Tryz.prog Tryz.f6 (OpenSpec.ofChange Rows.snapDoesSpec) false w args) (Rows.snapDoesSpec.post enc Tryz.prog Tryz.f6 false true false false):=
 zgZ (C:=Tryz.checked) (tb:=4) (by kernel_rfl) Tryz.own started (by kernel_rfl) Tryz.func6
  (ChangeSpec.witness_shaped (enc:=enc) (C:=Tryz.checked) (os:=os) (X:=fun w _=>laidMetH Tryz.prog Rows.snapDoesRow.laid w) false (World.laidAll Tryz.prog os Rows.snapDoesRow.laid) #[.agg #[.string ⟨#[]⟩,.slice none 0 0,.int .i64 0,.bool false,.slice none 0 0,.int .i64 0,.int .i64 0,.int .u64 0,.int .i64 0,.slice none 0 0,.bool false],.string ⟨#[]⟩,.int .u32 0,.int .i64 0] 8 (World.laidAll_os _ _ _)
   (World.shaped_of_ZipB (by kernel_rfl) (by kernel_rfl)) (by kernel_rfl) (by kernel_rfl) (by kernel_rfl)
   (by rw [MakeChecks.laidMetH_plain _ _ _ (by kernel_rfl)];exact laidMet_laidAll _ (by kernel_rfl) (by kernel_rfl)))
  rfl (fun ds hd=>by rw [Tryz.params6] at hd;match ds,hd with| [_,_,_,_],_=>rfl) (by kernel_rfl) (by show (ty Tryz.prog 4).td=_;rw [ty4])
  Tryz.laidOut (by kernel_rfl) (by kernel_rfl) (fun xss h=>by rw [Tryz.params6] at h ⊢;exact zld xss h)
theorem snapDoes_named:Tryz.pinned.checked.prog.funcNamed Rows.snapDoesRow.func=some 6:=by kernel_rfl
theorem zjE:Tryz.f6.isInstance Tryz.pinned.checked.prog Rows.snapDoesRow.origin Rows.snapDoesRow.targs:=of_decide_eq_true (by kernel_rfl)
theorem zjF:Tryz.f6.isWrapper Tryz.pinned.checked.prog Rows.snapDoesRow.wrapper Rows.snapDoesRow.mainSum:=by
 unfold Func.isWrapper
 first|(rw [if_pos (by decide+kernel)];kernel_rfl)|(rw [if_neg (by decide+kernel)];exact ⟨rfl,rfl⟩)
theorem SnapDoes_holds:Rows.SnapDoesSaid:=
 OpenClaim.holds_of_wide 6 Tryz.f6 rfl rfl rfl rfl rfl rfl rfl ⟨rfl,rfl,rfl,rfl,rfl⟩ rfl rfl rfl rfl rfl snapDoes_named Tryz.func6 zhR zjE zjF
  (fun os started H enc _=>SnapDoes_lifted os started H enc)
theorem zle:Rows.snapDoesRow.wfByText (OpenSpec.ofChange Rows.snapDoesSpec)=true:=by kernel_rfl
theorem zjG:Tryz.pinned.checked.prog.mainIs=some (true,("cfccd9adfd2ae58e22b1ad6c79ac29eda84e62a5738a21c17bbdd7d9014f2097" :String).toList):=by kernel_rfl
theorem zh8:false=Tryz.pinned.checked.prog.looks []:=by kernel_rfl
theorem zjH:false=Rows.snapDoesRow.goesBy Tryz.pinned.checked.prog:=by kernel_rfl
theorem zh9:([33,9,53,3].all fun u=> !Tryz.prog.wantsStandIn u)=true:=by kernel_rfl
theorem SnapDoesCard_holds:Rows.SnapDoesCardSaid:=
 Claim7.holds_tied_plain_at .later [] [.data,.pinned] true (true, "cfccd9adfd2ae58e22b1ad6c79ac29eda84e62a5738a21c17bbdd7d9014f2097") false
  SnapDoes_holds (fun _ h=>by cases h) zle (fun _ h=>by cases h) snapDoes_row_tie rfl ⟨rfl,rfl⟩ zjG rfl
  (fun f fn hf hfn=>by
   obtain rfl:f=6:=Option.some.inj (snapDoes_named.symm.trans hf) |>.symm
   obtain rfl:fn=Tryz.f6:=(Option.some.inj (Tryz.func6.symm.trans hfn)).symm
   exact ⟨zh8,fun j t ht=>by
    rw [Tryz.params6] at ht
    have hm:t∈ [33,9,53,3]:=by simpa using Array.mem_of_getElem? ht
    exact (show Tryz.prog.wantsStandIn t=false by simpa using List.all_eq_true.1 zh9 t hm)⟩)
  zjH
end Go.Proofs.YtglmbboafmmnpaaGreatDoor
