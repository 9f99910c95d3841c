/-
 AuditFinds, tied: whatever the input, the law returns true, and each argument reads behind the call as it read before; the listed variables are as the program's text lays them. No further condition.
-/
import Derived.Test.YtglmbboafmmnpaaGreatDoorRows
import Derived.Test.YtglmbboafmmnpaaGreatDoorAuditJ3
import Derived.Test.YtglmbboafmmnpaaGreatDoorCards
import Derived.Test.YtglmbboafmmnpaaGreatDoorTie
import Derived.Test.YtglmbboafmmnpaaGreatDoorPart2
import Derived.Test.YtglmbboafmmnpaaGreatDoorPart8
import Derived.SevenTiedAt
set_option maxRecDepth 100000
set_option maxHeartbeats 2000000
set_option linter.unusedSimpArgs false
set_option linter.unusedVariables false
namespace Go.Proofs.YtglmbboafmmnpaaGreatDoor
open Go Go.Aw Go.RowKit Go.ChangeShapes Go.WideShapes
theorem Tryz.own:ownKnob Tryz.prog.godebug=none:=by kernel_rfl
theorem Tryz.laidOut:laidOutB Tryz.prog=true:=by kernel_rfl
theorem zhY (xss:List (List D)) (h:DTys Tryz.prog [33] xss):ACall Tryz.prog 5 0 (zet Tryz.prog [33] xss) [] (fun r _=>r= .d (.bool true)):=by
 obtain ⟨x1,r1,rfl,h1,h7⟩:=h
 simp only [DTys] at h7
 subst h7
 obtain ⟨X,q1,rfl⟩:=zrh h1
 simp only [zet,zri,zrj]
 exact zhN X q1.ok
theorem AuditFinds_lifted (os:Os) (started:os.Started) (H:Type) (enc:TypeId×Value→H):
  ReturnsInHanded {} Tryz.checked os 5 .any (fun w args=>(Rows.auditFindsSpec.pre enc Tryz.prog Tryz.f5 Rows.auditFindsRow.domain false w args∧laidMetH Tryz.prog Rows.auditFindsRow.laid w)∧sizedMet enc Tryz.prog Tryz.f5 (OpenSpec.ofChange Rows.auditFindsSpec) false w args) (Rows.auditFindsSpec.post enc Tryz.prog Tryz.f5 false true false false):=
 zdV (C:=Tryz.checked) (tb:=4) (by kernel_rfl) Tryz.own started (by kernel_rfl) Tryz.func5
  (ChangeSpec.witness_shaped (enc:=enc) (C:=Tryz.checked) (os:=os) (X:=fun w _=>laidMetH Tryz.prog Rows.auditFindsRow.laid w) false (World.laidAll Tryz.prog os Rows.auditFindsRow.laid) #[.agg #[.string ⟨#[]⟩,.slice none 0 0,.int .i64 0,.bool false,.slice none 0 0,.int .i64 0,.int .i64 0,.int .u64 0,.int .i64 0,.slice none 0 0,.bool false]] 8 (World.laidAll_os _ _ _)
   (World.shaped_of_ZipB (by kernel_rfl) (by kernel_rfl)) (by kernel_rfl) (by kernel_rfl) (by kernel_rfl)
   (by rw [MakeChecks.laidMetH_plain _ _ _ (by kernel_rfl)];exact laidMet_laidAll _ (by kernel_rfl) (by kernel_rfl)))
  rfl (fun ds hd=>by rw [Tryz.params5] at hd;match ds,hd with| [_],_=>rfl) (by kernel_rfl) (by show (ty Tryz.prog 4).td=_;rw [ty4])
  Tryz.laidOut (by kernel_rfl) (by kernel_rfl) (fun xss h=>by rw [Tryz.params5] at h ⊢;exact zhY xss h)
theorem auditFinds_named:Tryz.pinned.checked.prog.funcNamed Rows.auditFindsRow.func=some 5:=by kernel_rfl
theorem zhs:Tryz.f5.isInstance Tryz.pinned.checked.prog Rows.auditFindsRow.origin Rows.auditFindsRow.targs:=of_decide_eq_true (by kernel_rfl)
theorem zht:Tryz.f5.isWrapper Tryz.pinned.checked.prog Rows.auditFindsRow.wrapper Rows.auditFindsRow.mainSum:=by
 unfold Func.isWrapper
 first|(rw [if_pos (by decide+kernel)];kernel_rfl)|(rw [if_neg (by decide+kernel)];exact ⟨rfl,rfl⟩)
theorem AuditFinds_holds:Rows.AuditFindsSaid:=
 OpenClaim.holds_of_wide 5 Tryz.f5 rfl rfl rfl rfl rfl rfl rfl ⟨rfl,rfl,rfl,rfl,rfl⟩ rfl rfl rfl rfl rfl auditFinds_named Tryz.func5 zfL zhs zht
  (fun os started H enc _=>AuditFinds_lifted os started H enc)
theorem zhZ:Rows.auditFindsRow.wfByText (OpenSpec.ofChange Rows.auditFindsSpec)=true:=by kernel_rfl
theorem zhu:Tryz.pinned.checked.prog.mainIs=some (true,("cfccd9adfd2ae58e22b1ad6c79ac29eda84e62a5738a21c17bbdd7d9014f2097" :String).toList):=by kernel_rfl
theorem zf8:false=Tryz.pinned.checked.prog.looks []:=by kernel_rfl
theorem zhv:false=Rows.auditFindsRow.goesBy Tryz.pinned.checked.prog:=by kernel_rfl
theorem zf9:([33].all fun u=> !Tryz.prog.wantsStandIn u)=true:=by kernel_rfl
theorem AuditFindsCard_holds:Rows.AuditFindsCardSaid:=
 Claim7.holds_tied_plain_at .later [] [.data,.pinned] true (true, "cfccd9adfd2ae58e22b1ad6c79ac29eda84e62a5738a21c17bbdd7d9014f2097") false
  AuditFinds_holds (fun _ h=>by cases h) zhZ (fun _ h=>by cases h) auditFinds_row_tie rfl ⟨rfl,rfl⟩ zhu rfl
  (fun f fn hf hfn=>by
   obtain rfl:f=5:=Option.some.inj (auditFinds_named.symm.trans hf) |>.symm
   obtain rfl:fn=Tryz.f5:=(Option.some.inj (Tryz.func5.symm.trans hfn)).symm
   exact ⟨zf8,fun j t ht=>by
    rw [Tryz.params5] at ht
    have hm:t∈ [33]:=by simpa using Array.mem_of_getElem? ht
    exact (show Tryz.prog.wantsStandIn t=false by simpa using List.all_eq_true.1 zf9 t hm)⟩)
  zhv
end Go.Proofs.YtglmbboafmmnpaaGreatDoor
