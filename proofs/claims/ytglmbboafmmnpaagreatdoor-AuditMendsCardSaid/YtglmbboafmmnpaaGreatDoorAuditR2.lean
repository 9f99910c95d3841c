/-
 AuditMends, tied: whatever the input, the law returns true, and each argument reads behind the call as it read before; the listed variables are as the program's text lays them. No further condition.
-/
import Derived.Test.YtglmbboafmmnpaaGreatDoorRows
import Derived.Test.YtglmbboafmmnpaaGreatDoorAuditJ2
import Derived.Test.YtglmbboafmmnpaaGreatDoorCards
import Derived.Test.YtglmbboafmmnpaaGreatDoorTie
import Derived.Test.YtglmbboafmmnpaaGreatDoorPart2
import Derived.Test.YtglmbboafmmnpaaGreatDoorPart8
import Derived.SevenTiedAt
set_option maxRecDepth 100000
set_option maxHeartbeats 2000000
set_option linter.unusedSimpArgs false
set_option linter.unusedVariables false
namespace Go.Proofs.YtglmbboafmmnpaaGreatDoor
open Go Go.Aw Go.RowKit Go.ChangeShapes Go.WideShapes
theorem Tryz.own:ownKnob Tryz.prog.godebug=none:=by kernel_rfl
theorem Tryz.laidOut:laidOutB Tryz.prog=true:=by kernel_rfl
theorem zhS (xss:List (List D)) (h:DTys Tryz.prog [33,3] xss):ACall Tryz.prog 4 0 (zet Tryz.prog [33,3] xss) [] (fun r _=>r= .d (.bool true)):=by
 obtain ⟨x1,r1,rfl,h1,x2,r2,rfl,h2,h7⟩:=h
 simp only [DTys] at h7
 subst h7
 obtain ⟨X,q1,rfl⟩:=zrh h1
 obtain ⟨a,rfl,_⟩:=zeL h2
 simp only [zet,zri,zrj]
 exact zhM X a q1.ok
theorem AuditMends_lifted (os:Os) (started:os.Started) (H:Type) (enc:TypeId×Value→H):
  ReturnsInHanded {} Tryz.checked os 4 .any (fun w args=>(Rows.auditMendsSpec.pre enc Tryz.prog Tryz.f4 Rows.auditMendsRow.domain false w args∧laidMetH Tryz.prog Rows.auditMendsRow.laid w)∧sizedMet enc Tryz.prog Tryz.f4 (OpenSpec.ofChange Rows.auditMendsSpec) false w args) (Rows.auditMendsSpec.post enc Tryz.prog Tryz.f4 false true false false):=
 zdV (C:=Tryz.checked) (tb:=4) (by kernel_rfl) Tryz.own started (by kernel_rfl) Tryz.func4
  (ChangeSpec.witness_shaped (enc:=enc) (C:=Tryz.checked) (os:=os) (X:=fun w _=>laidMetH Tryz.prog Rows.auditMendsRow.laid w) false (World.laidAll Tryz.prog os Rows.auditMendsRow.laid) #[.agg #[.string ⟨#[]⟩,.slice none 0 0,.int .i64 0,.bool false,.slice none 0 0,.int .i64 0,.int .i64 0,.int .u64 0,.int .i64 0,.slice none 0 0,.bool false],.int .i64 0] 8 (World.laidAll_os _ _ _)
   (World.shaped_of_ZipB (by kernel_rfl) (by kernel_rfl)) (by kernel_rfl) (by kernel_rfl) (by kernel_rfl)
   (by rw [MakeChecks.laidMetH_plain _ _ _ (by kernel_rfl)];exact laidMet_laidAll _ (by kernel_rfl) (by kernel_rfl)))
  rfl (fun ds hd=>by rw [Tryz.params4] at hd;match ds,hd with| [_,_],_=>rfl) (by kernel_rfl) (by show (ty Tryz.prog 4).td=_;rw [ty4])
  Tryz.laidOut (by kernel_rfl) (by kernel_rfl) (fun xss h=>by rw [Tryz.params4] at h ⊢;exact zhS xss h)
theorem auditMends_named:Tryz.pinned.checked.prog.funcNamed Rows.auditMendsRow.func=some 4:=by kernel_rfl
theorem zho:Tryz.f4.isInstance Tryz.pinned.checked.prog Rows.auditMendsRow.origin Rows.auditMendsRow.targs:=of_decide_eq_true (by kernel_rfl)
theorem zhp:Tryz.f4.isWrapper Tryz.pinned.checked.prog Rows.auditMendsRow.wrapper Rows.auditMendsRow.mainSum:=by
 unfold Func.isWrapper
 first|(rw [if_pos (by decide+kernel)];kernel_rfl)|(rw [if_neg (by decide+kernel)];exact ⟨rfl,rfl⟩)
theorem AuditMends_holds:Rows.AuditMendsSaid:=
 OpenClaim.holds_of_wide 4 Tryz.f4 rfl rfl rfl rfl rfl rfl rfl ⟨rfl,rfl,rfl,rfl,rfl⟩ rfl rfl rfl rfl rfl auditMends_named Tryz.func4 zfK zho zhp
  (fun os started H enc _=>AuditMends_lifted os started H enc)
theorem zhT:Rows.auditMendsRow.wfByText (OpenSpec.ofChange Rows.auditMendsSpec)=true:=by kernel_rfl
theorem zhq:Tryz.pinned.checked.prog.mainIs=some (true,("cfccd9adfd2ae58e22b1ad6c79ac29eda84e62a5738a21c17bbdd7d9014f2097" :String).toList):=by kernel_rfl
theorem zf6:false=Tryz.pinned.checked.prog.looks []:=by kernel_rfl
theorem zhr:false=Rows.auditMendsRow.goesBy Tryz.pinned.checked.prog:=by kernel_rfl
theorem zf7:([33,3].all fun u=> !Tryz.prog.wantsStandIn u)=true:=by kernel_rfl
theorem AuditMendsCard_holds:Rows.AuditMendsCardSaid:=
 Claim7.holds_tied_plain_at .later [] [.data,.pinned] true (true, "cfccd9adfd2ae58e22b1ad6c79ac29eda84e62a5738a21c17bbdd7d9014f2097") false
  AuditMends_holds (fun _ h=>by cases h) zhT (fun _ h=>by cases h) auditMends_row_tie rfl ⟨rfl,rfl⟩ zhq rfl
  (fun f fn hf hfn=>by
   obtain rfl:f=4:=Option.some.inj (auditMends_named.symm.trans hf) |>.symm
   obtain rfl:fn=Tryz.f4:=(Option.some.inj (Tryz.func4.symm.trans hfn)).symm
   exact ⟨zf6,fun j t ht=>by
    rw [Tryz.params4] at ht
    have hm:t∈ [33,3]:=by simpa using Array.mem_of_getElem? ht
    exact (show Tryz.prog.wantsStandIn t=false by simpa using List.all_eq_true.1 zf7 t hm)⟩)
  zhr
end Go.Proofs.YtglmbboafmmnpaaGreatDoor
