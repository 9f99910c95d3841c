/-
 ServApart: whatever the input, the law returns true, and each argument reads behind the call as it read before. No further condition.
-/
import Derived.Test.YtgldbfelccddbaaGreatRows
import Derived.Test.YtgldbfelccddbaaGreatServJ2
import Derived.Test.YtgldbfelccddbaaGreatApa45
set_option maxRecDepth 100000
set_option maxHeartbeats 2000000
namespace Go.Proofs.YtgldbfelccddbaaGreat
open Go Go.Aw Go.RowKit Go.ChangeShapes Go.WideShapes
theorem Tryz.own:ownKnob Tryz.prog.godebug=none:=fX
theorem Tryz.laidOut:laidOutB Tryz.prog=true:=fX
theorem zn0 (jN:List (List D)) (h:DTys Tryz.prog [42,3,43,54] jN):ACall Tryz.prog 5 0 (zjd Tryz.prog [42,3,43,54] jN) [] (λr _=>r= .d (.bool true)):=by obtain ⟨x1,r1,rfl,h1,x2,r2,rfl,h2,x3,r3,rfl,h3,x4,r4,rfl,h4,J⟩:=h;simp only [DTys] at J;subst J;obtain ⟨X,q1,rfl⟩:=zDs h1;obtain ⟨n,rfl,_⟩:=zfy h2;obtain ⟨ds,q2,q3,rfl⟩:=zy9 h3;obtain ⟨d,q4,rfl⟩:=znZ h4;simp only [zjd,zDt,zDu,zza,zBw];exact znY X n ds d q1.ok q2 q3 fT
theorem ServApart_lifted (os:Os) (started:os.Started) (H:Type) (enc:TypeId×Value->H):
  ReturnsInHanded {} Tryz.checked os 5 .any (Rows.servApartSpec.pre6 enc Tryz.prog Tryz.f5 Rows.servApartRow.domain false) (Rows.servApartSpec.post enc Tryz.prog Tryz.f5 false true false false):=
 law_lifted (C:=Tryz.checked) (tb:=4) Tryz.own started fX Tryz.func5
  (ChangeSpec.witness6 (enc:=enc) (C:=Tryz.checked) false ⟨#[],#[.agg #[.string ⟨#[]⟩,.slice none 0 0,.int .i64 0,.bool false,.slice none 0 0,.int .i64 0,.int .i64 0,.int .u64 0,.int .i64 0,.slice none 0 0,.bool false],.int .i64 0,.slice none 0 0,.agg #[.int .i64 0,.int .i64 0,.int .i64 0,.string ⟨#[]⟩]],[]⟩ 8 fX fX fX fX)
  rfl (λds J=>by rw [Tryz.params5] at J;match ds,J with| [_,_,_,_],_=>rfl) fX (by show (ty Tryz.prog 4).td=_;rw [ty4])
  Tryz.laidOut fX fX (λjN h=>by rw [Tryz.params5] at h |-;exact zn0 jN h)
theorem ServApart_holds:Rows.ServApartSaid:=
 OpenClaim.holds_of_wide 5 Tryz.f5 rfl rfl rfl rfl rfl rfl rfl ⟨rfl,rfl,rfl,rfl,rfl⟩ rfl rfl rfl rfl rfl fX Tryz.func5 zjD
  (bd fX) (by unfold Func.isWrapper;first|(rw [aa iD];kernel_rfl)|(rw [U iD];exact ⟨rfl,rfl⟩))
  (λos started H enc _=>ServApart_lifted os started H enc)
end Go.Proofs.YtgldbfelccddbaaGreat
