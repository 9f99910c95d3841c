/-
 WordBegins: whatever the input, the law returns true, and each argument reads behind the call as it read before. No further condition.
-/
import Derived.Test.YtgldbfelccddbaaGreatRows
import Derived.Test.YtgldbfelccddbaaGreatBegJ1
import Derived.Test.YtgldbfelccddbaaGreatBeg45
set_option maxRecDepth 100000
set_option maxHeartbeats 2000000
set_option linter.unusedSimpArgs false
set_option linter.unusedVariables false
namespace Go.Proofs.YtgldbfelccddbaaGreat
open Go Go.Aw Go.RowKit Go.ChangeShapes Go.WideShapes
theorem Tryz.own:ownKnob Tryz.prog.godebug=none:=by kernel_rfl
theorem Tryz.laidOut:laidOutB Tryz.prog=true:=by kernel_rfl
theorem zfl (xss:List (List D)) (h:DTys Tryz.prog [25,9,9,3] xss):ACall Tryz.prog 3 0 (zdS Tryz.prog [25,9,9,3] xss) [] (fun r _=>r= .d (.bool true)):=by
 obtain ⟨x1,r1,rfl,h1,x2,r2,rfl,h2,x3,r3,rfl,h3,x4,r4,rfl,h4,h5⟩:=h
 simp only [DTys] at h5
 subst h5
 obtain ⟨X,q1,q2,q3,rfl⟩:=zqG h1
 obtain ⟨a,q4,rfl⟩:=zen h2
 obtain ⟨b,q5,rfl⟩:=zen h3
 obtain ⟨c,rfl⟩:=zoz h4
 simp only [zdS,zqH,zoA,zoB]
 exact zfk X a b c q1 q2 q3 q4 q5
theorem WordBegins_lifted (os:Os) (started:os.Started) (H:Type) (enc:TypeId×Value→H):
  ReturnsInHanded {} Tryz.checked os 3 .any (Rows.wordBeginsSpec.pre6 enc Tryz.prog Tryz.f3 Rows.wordBeginsRow.domain false) (Rows.wordBeginsSpec.post enc Tryz.prog Tryz.f3 false true false false):=
 law_lifted (C:=Tryz.checked) (tb:=4) Tryz.own started (by kernel_rfl) Tryz.func3
  (ChangeSpec.witness6 (enc:=enc) (C:=Tryz.checked) false ⟨#[],#[.agg #[.int .u64 0,.slice none 0 0],.string ⟨#[]⟩,.string ⟨#[]⟩,.int .i64 0],[]⟩ 8 (by kernel_rfl) (by kernel_rfl) (by kernel_rfl) (by kernel_rfl))
  rfl (fun ds hd=>by rw [Tryz.params3] at hd;match ds,hd with| [_,_,_,_],_=>rfl) (by kernel_rfl) (by show (ty Tryz.prog 4).td=_;rw [ty4])
  Tryz.laidOut (by kernel_rfl) (by kernel_rfl) (fun xss h=>by rw [Tryz.params3] at h ⊢;exact zfl xss h)
theorem WordBegins_holds:Rows.WordBeginsSaid:=
 OpenClaim.holds_of_wide 3 Tryz.f3 rfl rfl rfl rfl rfl rfl rfl ⟨rfl,rfl,rfl,rfl,rfl⟩ rfl rfl rfl rfl rfl (by kernel_rfl) Tryz.func3 zdA
  (of_decide_eq_true (by kernel_rfl)) (by unfold Func.isWrapper;first|(rw [if_pos (by decide+kernel)];kernel_rfl)|(rw [if_neg (by decide+kernel)];exact ⟨rfl,rfl⟩))
  (fun os started H enc _=>WordBegins_lifted os started H enc)
end Go.Proofs.YtgldbfelccddbaaGreat
