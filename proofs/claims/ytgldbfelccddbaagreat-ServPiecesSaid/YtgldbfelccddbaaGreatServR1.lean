/-
 ServPieces: whatever the input, the law returns true, and each argument reads behind the call as it read before. No further condition.
-/
import Derived.Test.YtgldbfelccddbaaGreatRows
import Derived.Test.YtgldbfelccddbaaGreatServJ1
import Derived.Test.YtgldbfelccddbaaGreatPart40
set_option maxRecDepth 100000
set_option maxHeartbeats 2000000
set_option linter.unusedSimpArgs false
set_option linter.unusedVariables false
namespace Go.Proofs.YtgldbfelccddbaaGreat
open Go Go.Aw Go.RowKit Go.ChangeShapes Go.WideShapes
theorem Tryz.own:ownKnob Tryz.prog.godebug=none:=by kernel_rfl
theorem Tryz.laidOut:laidOutB Tryz.prog=true:=by kernel_rfl
theorem zjd (xss:List (List D)) (h:DTys Tryz.prog [42,3,43,3,9,3] xss):ACall Tryz.prog 4 0 (zhk Tryz.prog [42,3,43,3,9,3] xss) [] (fun r _=>r= .d (.bool true)):=by
 obtain ⟨x1,r1,rfl,h1,x2,r2,rfl,h2,x3,r3,rfl,h3,x4,r4,rfl,h4,x5,r5,rfl,h5,x6,r6,rfl,h6,h7⟩:=h
 simp only [DTys] at h7
 subst h7
 obtain ⟨X,q1,rfl⟩:=zxT h1
 obtain ⟨n,rfl,_⟩:=zc2 h2
 obtain ⟨ds,q2,q3,rfl⟩:=ztK h3
 obtain ⟨c,rfl,_⟩:=zc2 h4
 obtain ⟨s,rfl,q4⟩:=zkZ h5
 obtain ⟨k,rfl,_⟩:=zc2 h6
 simp only [zhk,zxU,zxV,ztL,zxW]
 exact zjc X n ds c s k q1.ok q2 q3 q4
theorem ServPieces_lifted (os:Os) (started:os.Started) (H:Type) (enc:TypeId×Value→H):
  ReturnsInHanded {} Tryz.checked os 4 .any (Rows.servPiecesSpec.pre6 enc Tryz.prog Tryz.f4 Rows.servPiecesRow.domain false) (Rows.servPiecesSpec.post enc Tryz.prog Tryz.f4 false true false false):=
 law_lifted (C:=Tryz.checked) (tb:=4) Tryz.own started (by kernel_rfl) Tryz.func4
  (ChangeSpec.witness6 (enc:=enc) (C:=Tryz.checked) false ⟨#[],#[.agg #[.string ⟨#[]⟩,.slice none 0 0,.int .i64 0,.bool false,.slice none 0 0,.int .i64 0,.int .i64 0,.int .u64 0,.int .i64 0,.slice none 0 0,.bool false],.int .i64 0,.slice none 0 0,.int .i64 0,.string ⟨#[]⟩,.int .i64 0],[]⟩ 8 (by kernel_rfl) (by kernel_rfl) (by kernel_rfl) (by kernel_rfl))
  rfl (fun ds hd=>by rw [Tryz.params4] at hd;match ds,hd with| [_,_,_,_,_,_],_=>rfl) (by kernel_rfl) (by show (ty Tryz.prog 4).td=_;rw [ty4])
  Tryz.laidOut (by kernel_rfl) (by kernel_rfl) (fun xss h=>by rw [Tryz.params4] at h ⊢;exact zjd xss h)
theorem ServPieces_holds:Rows.ServPiecesSaid:=
 OpenClaim.holds_of_wide 4 Tryz.f4 rfl rfl rfl rfl rfl rfl rfl ⟨rfl,rfl,rfl,rfl,rfl⟩ rfl rfl rfl rfl rfl (by kernel_rfl) Tryz.func4 zgS
  (of_decide_eq_true (by kernel_rfl)) (by unfold Func.isWrapper;first|(rw [if_pos (by decide+kernel)];kernel_rfl)|(rw [if_neg (by decide+kernel)];exact ⟨rfl,rfl⟩))
  (fun os started H enc _=>ServPieces_lifted os started H enc)
end Go.Proofs.YtgldbfelccddbaaGreat
