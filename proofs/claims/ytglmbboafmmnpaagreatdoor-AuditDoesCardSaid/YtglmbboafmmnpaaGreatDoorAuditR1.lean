/-
 AuditDoes, tied: whatever the input, the law returns true, and each argument reads behind the call as it read before; the listed variables are as the program's text lays them. No further condition.
-/
import Derived.Test.YtglmbboafmmnpaaGreatDoorRows
import Derived.Test.YtglmbboafmmnpaaGreatDoorAuditK2
import Derived.Test.YtglmbboafmmnpaaGreatDoorCards
import Derived.Test.YtglmbboafmmnpaaGreatDoorTie
import Derived.Test.YtglmbboafmmnpaaGreatDoorPart2
import Derived.Test.YtglmbboafmmnpaaGreatDoorPart8
import Derived.SevenTiedAt
set_option maxRecDepth 100000
set_option maxHeartbeats 2000000
set_option linter.unusedSimpArgs false
set_option linter.unusedVariables false
namespace Go.Proofs.YtglmbboafmmnpaaGreatDoor
open Go Go.Aw Go.RowKit Go.ChangeShapes Go.WideShapes
theorem Tryz.own:ownKnob Tryz.prog.godebug=none:=by kernel_rfl
theorem Tryz.laidOut:laidOutB Tryz.prog=true:=by kernel_rfl
theorem zi6 (xss:List (List D)) (h:DTys Tryz.prog [33] xss):ACall Tryz.prog 3 0 (zfG Tryz.prog [33] xss) [] (fun r _=>r= .d (.bool true)):=by
 obtain ⟨x1,r1,rfl,h1,h7⟩:=h
 simp only [DTys] at h7
 subst h7
 obtain ⟨X,q1,rfl⟩:=ztm h1
 simp only [zfG,ztn,zto]
 exact zi5 X q1.ok
theorem AuditDoes_lifted (os:Os) (started:os.Started) (H:Type) (enc:TypeId×Value→H):
  ReturnsInHanded {} Tryz.checked os 3 .any (fun w args=>(Rows.auditDoesSpec.pre enc Tryz.prog Tryz.f3 Rows.auditDoesRow.domain false w args∧laidMetH Tryz.prog Rows.auditDoesRow.laid w)∧sizedMet enc Tryz.prog Tryz.f3 (OpenSpec.ofChange Rows.auditDoesSpec) false w args) (Rows.auditDoesSpec.post enc Tryz.prog Tryz.f3 false true false false):=
 zgo (C:=Tryz.checked) (tb:=4) (by kernel_rfl) Tryz.own started (by kernel_rfl) Tryz.func3
  (ChangeSpec.witness_shaped (enc:=enc) (C:=Tryz.checked) (os:=os) (X:=fun w _=>laidMetH Tryz.prog Rows.auditDoesRow.laid w) false (World.laidAll Tryz.prog os Rows.auditDoesRow.laid) #[.agg #[.string ⟨#[]⟩,.slice none 0 0,.int .i64 0,.bool false,.slice none 0 0,.int .i64 0,.int .i64 0,.int .u64 0,.int .i64 0,.slice none 0 0,.bool false]] 8 (World.laidAll_os _ _ _)
   (World.shaped_of_ZipB (by kernel_rfl) (by kernel_rfl)) (by kernel_rfl) (by kernel_rfl) (by kernel_rfl)
   (by rw [MakeChecks.laidMetH_plain _ _ _ (by kernel_rfl)];exact laidMet_laidAll _ (by kernel_rfl) (by kernel_rfl)))
  rfl (fun ds hd=>by rw [Tryz.params3] at hd;match ds,hd with| [_],_=>rfl) (by kernel_rfl) (by show (ty Tryz.prog 4).td=_;rw [ty4])
  Tryz.laidOut (by kernel_rfl) (by kernel_rfl) (fun xss h=>by rw [Tryz.params3] at h ⊢;exact zi6 xss h)
theorem auditDoes_named:Tryz.pinned.checked.prog.funcNamed Rows.auditDoesRow.func=some 3:=by kernel_rfl
theorem zhv:Tryz.f3.isInstance Tryz.pinned.checked.prog Rows.auditDoesRow.origin Rows.auditDoesRow.targs:=of_decide_eq_true (by kernel_rfl)
theorem zhw:Tryz.f3.isWrapper Tryz.pinned.checked.prog Rows.auditDoesRow.wrapper Rows.auditDoesRow.mainSum:=by
 unfold Func.isWrapper
 first|(rw [if_pos (by decide+kernel)];kernel_rfl)|(rw [if_neg (by decide+kernel)];exact ⟨rfl,rfl⟩)
theorem AuditDoes_holds:Rows.AuditDoesSaid:=
 OpenClaim.holds_of_wide 3 Tryz.f3 rfl rfl rfl rfl rfl rfl rfl ⟨rfl,rfl,rfl,rfl,rfl⟩ rfl rfl rfl rfl rfl auditDoes_named Tryz.func3 zfW zhv zhw
  (fun os started H enc _=>AuditDoes_lifted os started H enc)
theorem zjb:Rows.auditDoesRow.wfByText (OpenSpec.ofChange Rows.auditDoesSpec)=true:=by kernel_rfl
theorem zhx:Tryz.pinned.checked.prog.mainIs=some (true,("cfccd9adfd2ae58e22b1ad6c79ac29eda84e62a5738a21c17bbdd7d9014f2097" :String).toList):=by kernel_rfl
theorem zhc:false=Tryz.pinned.checked.prog.looks []:=by kernel_rfl
theorem zhy:false=Rows.auditDoesRow.goesBy Tryz.pinned.checked.prog:=by kernel_rfl
theorem zhd:([33].all fun u=> !Tryz.prog.wantsStandIn u)=true:=by kernel_rfl
theorem AuditDoesCard_holds:Rows.AuditDoesCardSaid:=
 Claim7.holds_tied_plain_at .later [] [.data,.pinned] true (true, "cfccd9adfd2ae58e22b1ad6c79ac29eda84e62a5738a21c17bbdd7d9014f2097") false
  AuditDoes_holds (fun _ h=>by cases h) zjb (fun _ h=>by cases h) auditDoes_row_tie rfl ⟨rfl,rfl⟩ zhx rfl
  (fun f fn hf hfn=>by
   obtain rfl:f=3:=Option.some.inj (auditDoes_named.symm.trans hf) |>.symm
   obtain rfl:fn=Tryz.f3:=(Option.some.inj (Tryz.func3.symm.trans hfn)).symm
   exact ⟨zhc,fun j t ht=>by
    rw [Tryz.params3] at ht
    have hm:t∈ [33]:=by simpa using Array.mem_of_getElem? ht
    exact (show Tryz.prog.wantsStandIn t=false by simpa using List.all_eq_true.1 zhd t hm)⟩)
  zhy
end Go.Proofs.YtglmbboafmmnpaaGreatDoor
