/-
 SnapDoes, tied: whatever the input, the law returns true, and each argument reads behind the call as it read before; the listed variables are as the program's text lays them. No further condition.
-/
import Derived.Test.YtbmlikkofegdeaaGreatDoorRows
import Derived.Test.YtbmlikkofegdeaaGreatDoorSnapJ1
import Derived.Test.YtbmlikkofegdeaaGreatDoorCards
import Derived.Test.YtbmlikkofegdeaaGreatDoorTie
import Derived.Test.YtbmlikkofegdeaaGreatDoorPart8
import Derived.Test.YtbmlikkofegdeaaGreatDoorPart36
import Derived.SevenTiedAt
set_option maxRecDepth 100000
set_option maxHeartbeats 2000000
set_option linter.unusedSimpArgs false
set_option linter.unusedVariables false
namespace Go.Proofs.YtbmlikkofegdeaaGreatDoor
open Go Go.Aw Go.RowKit Go.ChangeShapes Go.WideShapes
theorem Tryz.own:ownKnob Tryz.prog.godebug=none:=by kernel_rfl
theorem Tryz.laidOut:laidOutB Tryz.prog=true:=by kernel_rfl
theorem zlC (xss:List (List D)) (h:DTys Tryz.prog [33,9,34,3] xss):ACall Tryz.prog 3 0 (ze6 Tryz.prog [33,9,34,3] xss) [] (fun r _=>r= .d (.bool true)):=by
 obtain ⟨x1,r1,rfl,h1,x2,r2,rfl,h2,x3,r3,rfl,h3,x4,r4,rfl,h4,h7⟩:=h
 simp only [DTys] at h7
 subst h7
 obtain ⟨X,q1,rfl⟩:=zsb h1
 obtain ⟨n,rfl,hn⟩:=zh7 h2
 obtain ⟨i,rfl,hi0,hi1⟩:=zvz h3
 obtain ⟨g,rfl,_⟩:=zfs h4
 simp only [ze6,zsc,zsd,zvA,zvw]
 exact zlx X n i g q1.ok hn hi0 hi1
theorem SnapDoes_lifted (os:Os) (started:os.Started) (H:Type) (enc:TypeId×Value→H):
  ReturnsInHanded {} Tryz.checked os 3 .any (fun w args=>(Rows.snapDoesSpec.pre enc Tryz.prog Tryz.f3 Rows.snapDoesRow.domain false w args∧laidMetH Tryz.prog Rows.snapDoesRow.laid w)∧sizedMet enc Tryz.prog Tryz.f3 (OpenSpec.ofChange Rows.snapDoesSpec) false w args) (Rows.snapDoesSpec.post enc Tryz.prog Tryz.f3 false true false false):=
 zev (C:=Tryz.checked) (tb:=4) (by kernel_rfl) Tryz.own started (by kernel_rfl) Tryz.func3
  (ChangeSpec.witness_shaped (enc:=enc) (C:=Tryz.checked) (os:=os) (X:=fun w _=>laidMetH Tryz.prog Rows.snapDoesRow.laid w) false (World.laidAll Tryz.prog os Rows.snapDoesRow.laid) #[.agg #[.string ⟨#[]⟩,.slice none 0 0,.int .i64 0,.bool false,.slice none 0 0,.int .i64 0,.int .i64 0,.int .u64 0,.int .i64 0,.slice none 0 0,.bool false],.string ⟨#[]⟩,.int .u32 0,.int .i64 0] 8 (World.laidAll_os _ _ _)
   (World.shaped_of_ZipB (by kernel_rfl) (by kernel_rfl)) (by kernel_rfl) (by kernel_rfl) (by kernel_rfl)
   (by rw [MakeChecks.laidMetH_plain _ _ _ (by kernel_rfl)];exact laidMet_laidAll _ (by kernel_rfl) (by kernel_rfl)))
  rfl (fun ds hd=>by rw [Tryz.params3] at hd;match ds,hd with| [_,_,_,_],_=>rfl) (by kernel_rfl) (by show (ty Tryz.prog 4).td=_;rw [ty4])
  Tryz.laidOut (by kernel_rfl) (by kernel_rfl) (fun xss h=>by rw [Tryz.params3] at h ⊢;exact zlC xss h)
theorem snapDoes_named:Tryz.pinned.checked.prog.funcNamed Rows.snapDoesRow.func=some 3:=by kernel_rfl
theorem zjZ:Tryz.f3.isInstance Tryz.pinned.checked.prog Rows.snapDoesRow.origin Rows.snapDoesRow.targs:=of_decide_eq_true (by kernel_rfl)
theorem zj0:Tryz.f3.isWrapper Tryz.pinned.checked.prog Rows.snapDoesRow.wrapper Rows.snapDoesRow.mainSum:=by
 unfold Func.isWrapper
 first|(rw [if_pos (by decide+kernel)];kernel_rfl)|(rw [if_neg (by decide+kernel)];exact ⟨rfl,rfl⟩)
theorem SnapDoes_holds:Rows.SnapDoesSaid:=
 OpenClaim.holds_of_wide 3 Tryz.f3 rfl rfl rfl rfl rfl rfl rfl ⟨rfl,rfl,rfl,rfl,rfl⟩ rfl rfl rfl rfl rfl snapDoes_named Tryz.func3 zh8 zjZ zj0
  (fun os started H enc _=>SnapDoes_lifted os started H enc)
theorem zlD:Rows.snapDoesRow.wfByText (OpenSpec.ofChange Rows.snapDoesSpec)=true:=by kernel_rfl
theorem zj1:Tryz.pinned.checked.prog.mainIs=some (true,("bedee79f8beaf268783a5c95a1c89663feefa5a28a48380fd7052f63138d1b65" :String).toList):=by kernel_rfl
theorem zit:false=Tryz.pinned.checked.prog.looks []:=by kernel_rfl
theorem zj2:false=Rows.snapDoesRow.goesBy Tryz.pinned.checked.prog:=by kernel_rfl
theorem ziu:([33,9,34,3].all fun u=> !Tryz.prog.wantsStandIn u)=true:=by kernel_rfl
theorem SnapDoesCard_holds:Rows.SnapDoesCardSaid:=
 Claim7.holds_tied_plain_at .later [] [.data,.pinned] true (true, "bedee79f8beaf268783a5c95a1c89663feefa5a28a48380fd7052f63138d1b65") false
  SnapDoes_holds (fun _ h=>by cases h) zlD (fun _ h=>by cases h) snapDoes_row_tie rfl ⟨rfl,rfl⟩ zj1 rfl
  (fun f fn hf hfn=>by
   obtain rfl:f=3:=Option.some.inj (snapDoes_named.symm.trans hf) |>.symm
   obtain rfl:fn=Tryz.f3:=(Option.some.inj (Tryz.func3.symm.trans hfn)).symm
   exact ⟨zit,fun j t ht=>by
    rw [Tryz.params3] at ht
    have hm:t∈ [33,9,34,3]:=by simpa using Array.mem_of_getElem? ht
    exact (show Tryz.prog.wantsStandIn t=false by simpa using List.all_eq_true.1 ziu t hm)⟩)
  zj2
end Go.Proofs.YtbmlikkofegdeaaGreatDoor
