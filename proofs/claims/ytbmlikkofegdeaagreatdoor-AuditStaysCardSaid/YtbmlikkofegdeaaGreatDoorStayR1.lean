/-
 AuditStays, tied: whatever the input, the law returns true, and each argument reads behind the call as it read before; the listed variables are as the program's text lays them. No further condition.
-/
import Derived.Test.YtbmlikkofegdeaaGreatDoorRows
import Derived.Test.YtbmlikkofegdeaaGreatDoorStayJ1
import Derived.Test.YtbmlikkofegdeaaGreatDoorCards
import Derived.Test.YtbmlikkofegdeaaGreatDoorTie
import Derived.Test.YtbmlikkofegdeaaGreatDoorPiece8
import Derived.Test.YtbmlikkofegdeaaGreatDoorPiece42
import Derived.SevenTiedAt
set_option maxRecDepth 100000
set_option maxHeartbeats 2000000
set_option linter.unusedSimpArgs false
set_option linter.unusedVariables false
namespace Go.Proofs.YtbmlikkofegdeaaGreatDoor
open Go Go.Aw Go.RowKit Go.ChangeShapes Go.WideShapes
theorem Tryz.own:ownKnob Tryz.prog.godebug=none:=by kernel_rfl
theorem Tryz.laidOut:laidOutB Tryz.prog=true:=by kernel_rfl
theorem zjX (xss:List (List D)) (h:DTys Tryz.prog [33,3,3,3,9,3,34] xss):ACall Tryz.prog 5 0 (zhH Tryz.prog [33,3,3,3,9,3,34] xss) [] (λr _=>r= .d (.bool true)):=by obtain ⟨x1,r1,rfl,h1,x2,r2,rfl,h2,x3,r3,rfl,h3,x4,r4,rfl,h4,x5,r5,rfl,h5,x6,r6,rfl,h6,x7,r7,rfl,h7,h8⟩:=h;simp only [DTys] at h8;subst h8;obtain ⟨X,q1,rfl⟩:=zxL h1;obtain ⟨a,rfl,_⟩:=zer h2;obtain ⟨b,rfl,_⟩:=zer h3;obtain ⟨c,rfl,_⟩:=zer h4;obtain ⟨s,rfl,hs⟩:=zlK h5;obtain ⟨n,rfl,_⟩:=zer h6;obtain ⟨i,rfl,hi0,hi1⟩:=zxR h7;simp only [zhH,zxM,zxO,zxS,zxN];exact zjS X a b c s n i q1.ok hs hi0 hi1
theorem AuditStays_lifted (os:Os) (started:os.Started) (H:Type) (enc:TypeId×Value->H):
  ReturnsInHanded {} Tryz.checked os 5 .any (λw args=>(Rows.auditStaysSpec.pre enc Tryz.prog Tryz.f5 Rows.auditStaysRow.domain false w args/\laidMetH Tryz.prog Rows.auditStaysRow.laid w)/\sizedMet enc Tryz.prog Tryz.f5 (OpenSpec.ofChange Rows.auditStaysSpec) false w args) (Rows.auditStaysSpec.post enc Tryz.prog Tryz.f5 false true false false):=
 zio (C:=Tryz.checked) (tb:=4) (by kernel_rfl) Tryz.own started (by kernel_rfl) Tryz.func5
  (ChangeSpec.witness_shaped (enc:=enc) (C:=Tryz.checked) (os:=os) (X:=λw _=>laidMetH Tryz.prog Rows.auditStaysRow.laid w) false (World.laidAll Tryz.prog os Rows.auditStaysRow.laid) #[.agg #[.string ⟨#[]⟩,.slice none 0 0,.int .i64 0,.bool false,.slice none 0 0,.int .i64 0,.int .i64 0,.int .u64 0,.int .i64 0,.slice none 0 0,.bool false],.int .i64 0,.int .i64 0,.int .i64 0,.string ⟨#[]⟩,.int .i64 0,.int .u32 0] 8 (World.laidAll_os _ _ _)
   (World.shaped_of_ZipB (by kernel_rfl) (by kernel_rfl)) (by kernel_rfl) (by kernel_rfl) (by kernel_rfl)
   (by rw [MakeChecks.laidMetH_plain _ _ _ (by kernel_rfl)];exact laidMet_laidAll _ (by kernel_rfl) (by kernel_rfl)))
  rfl (λds hd=>by rw [Tryz.params5] at hd;match ds,hd with| [_,_,_,_,_,_,_],_=>rfl) (by kernel_rfl) (by show (ty Tryz.prog 4).td=_;rw [ty4])
  Tryz.laidOut (by kernel_rfl) (by kernel_rfl) (λxss h=>by rw [Tryz.params5] at h ⊢;exact zjX xss h)
theorem auditStays_named:Tryz.pinned.checked.prog.funcNamed Rows.auditStaysRow.func=some 5:=by kernel_rfl
theorem zjy:Tryz.f5.isInstance Tryz.pinned.checked.prog Rows.auditStaysRow.origin Rows.auditStaysRow.targs:=of_decide_eq_true (by kernel_rfl)
theorem zjz:Tryz.f5.isWrapper Tryz.pinned.checked.prog Rows.auditStaysRow.wrapper Rows.auditStaysRow.mainSum:=by unfold Func.isWrapper;first|(rw [if_pos (by decide+kernel)];kernel_rfl)|(rw [if_neg (by decide+kernel)];exact ⟨rfl,rfl⟩)
theorem AuditStays_holds:Rows.AuditStaysSaid:=
 OpenClaim.holds_of_wide 5 Tryz.f5 rfl rfl rfl rfl rfl rfl rfl ⟨rfl,rfl,rfl,rfl,rfl⟩ rfl rfl rfl rfl rfl auditStays_named Tryz.func5 zhB zjy zjz
  (λos started H enc _=>AuditStays_lifted os started H enc)
theorem zjY:Rows.auditStaysRow.wfByText (OpenSpec.ofChange Rows.auditStaysSpec)=true:=by kernel_rfl
theorem zjA:Tryz.pinned.checked.prog.mainIs=some (true,("bedee79f8beaf268783a5c95a1c89663feefa5a28a48380fd7052f63138d1b65" :String).toList):=by kernel_rfl
theorem zhW:false=Tryz.pinned.checked.prog.looks []:=by kernel_rfl
theorem zjB:false=Rows.auditStaysRow.goesBy Tryz.pinned.checked.prog:=by kernel_rfl
theorem zhX:([33,3,3,3,9,3,34].all λu=> !Tryz.prog.wantsStandIn u)=true:=by kernel_rfl
theorem AuditStaysCard_holds:Rows.AuditStaysCardSaid:=
 Claim7.holds_tied_plain_at .later [] [.data,.pinned] true (true, "bedee79f8beaf268783a5c95a1c89663feefa5a28a48380fd7052f63138d1b65") false
  AuditStays_holds (λ_ h=>by cases h) zjY (λ_ h=>by cases h) auditStays_row_tie rfl ⟨rfl,rfl⟩ zjA rfl
  (λf fn hf hfn=>by
   obtain rfl:f=5:=Option.some.inj (auditStays_named.symm.trans hf) |>.symm;obtain rfl:fn=Tryz.f5:=(Option.some.inj (Tryz.func5.symm.trans hfn)).symm
   exact ⟨zhW,λj t ht=>by
    rw [Tryz.params5] at ht;have hm:t∈ [33,3,3,3,9,3,34]:=by simpa using Array.mem_of_getElem? ht
    exact (show Tryz.prog.wantsStandIn t=false by simpa using List.all_eq_true.1 zhX t hm)⟩)
  zjB
end Go.Proofs.YtbmlikkofegdeaaGreatDoor
