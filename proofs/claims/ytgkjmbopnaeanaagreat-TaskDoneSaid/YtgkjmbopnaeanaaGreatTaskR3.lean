/-
 TaskDone: whatever the input, the law returns true, and each argument reads behind the call as it read before. No further condition.
-/
import Derived.Test.YtgkjmbopnaeanaaGreatRows
import Derived.Test.YtgkjmbopnaeanaaGreatTaskJ3
import Derived.Test.YtgkjmbopnaeanaaGreatPart45
set_option maxRecDepth 100000
set_option maxHeartbeats 2000000
set_option linter.unusedSimpArgs false
set_option linter.unusedVariables false
namespace Go.Proofs.YtgkjmbopnaeanaaGreat
open Go Go.Aw Go.RowKit Go.ChangeShapes Go.WideShapes
theorem Tryz.own:ownKnob Tryz.prog.godebug=none:=by kernel_rfl
theorem Tryz.laidOut:laidOutB Tryz.prog=true:=by kernel_rfl
theorem zmK (xss:List (List D)) (h:DTys Tryz.prog [33,36] xss):ACall Tryz.prog 4 0 (zeT Tryz.prog [33,36] xss) [] (fun r _=>r= .d (.bool true)):=by
 obtain ⟨x1,r1,rfl,h1,x2,r2,rfl,h2,h7⟩:=h
 simp only [DTys] at h7
 subst h7
 obtain ⟨X,q1,rfl⟩:=znU h1
 obtain ⟨q,q2,rfl⟩:=ztu h2
 simp only [zeT,znV,ztv]
 exact zmJ X q q1.ok q2
theorem TaskDone_lifted (os:Os) (started:os.Started) (H:Type) (enc:TypeId×Value→H):
  ReturnsInHanded {} Tryz.checked os 4 .any (Rows.taskDoneSpec.pre6 enc Tryz.prog Tryz.f4 Rows.taskDoneRow.domain false) (Rows.taskDoneSpec.post enc Tryz.prog Tryz.f4 false true false false):=
 law_lifted (C:=Tryz.checked) (tb:=4) Tryz.own started (by kernel_rfl) Tryz.func4
  (ChangeSpec.witness6 (enc:=enc) (C:=Tryz.checked) false ⟨#[],#[.agg #[.string ⟨#[]⟩,.slice none 0 0,.int .i64 0,.bool false,.slice none 0 0,.int .i64 0,.int .i64 0,.int .u64 0,.int .i64 0,.slice none 0 0,.bool false],.agg #[.int .i64 0,.int .i64 0,.int .u64 0,.int .u64 0,.int .u32 0,.string ⟨#[]⟩]],[]⟩ 8 (by kernel_rfl) (by kernel_rfl) (by kernel_rfl) (by kernel_rfl))
  rfl (fun ds hd=>by rw [Tryz.params4] at hd;match ds,hd with| [_,_],_=>rfl) (by kernel_rfl) (by show (ty Tryz.prog 4).td=_;rw [ty4])
  Tryz.laidOut (by kernel_rfl) (by kernel_rfl) (fun xss h=>by rw [Tryz.params4] at h ⊢;exact zmK xss h)
theorem TaskDone_holds:Rows.TaskDoneSaid:=
 OpenClaim.holds_of_wide 4 Tryz.f4 rfl rfl rfl rfl rfl rfl rfl ⟨rfl,rfl,rfl,rfl,rfl⟩ rfl rfl rfl rfl rfl (by kernel_rfl) Tryz.func4 ziM
  (of_decide_eq_true (by kernel_rfl)) (by unfold Func.isWrapper;first|(rw [if_pos (by decide+kernel)];kernel_rfl)|(rw [if_neg (by decide+kernel)];exact ⟨rfl,rfl⟩))
  (fun os started H enc _=>TaskDone_lifted os started H enc)
end Go.Proofs.YtgkjmbopnaeanaaGreat
