/-
 SnapList, tied: whatever the input, the law returns true, and each argument reads behind the call as it read before; the listed variables are as the program's text lays them. No further condition.
-/
import Derived.Test.YtbmlikkofegdeaaGreatDoorRows
import Derived.Test.YtbmlikkofegdeaaGreatDoorSnapJ2
import Derived.Test.YtbmlikkofegdeaaGreatDoorCards
import Derived.Test.YtbmlikkofegdeaaGreatDoorTie
import Derived.Test.YtbmlikkofegdeaaGreatDoorPart8
import Derived.Test.YtbmlikkofegdeaaGreatDoorPart37
import Derived.SevenTiedAt
set_option maxRecDepth 100000
set_option maxHeartbeats 2000000
set_option linter.unusedSimpArgs false
set_option linter.unusedVariables false
namespace Go.Proofs.YtbmlikkofegdeaaGreatDoor
open Go Go.Aw Go.RowKit Go.ChangeShapes Go.WideShapes
theorem Tryz.own:ownKnob Tryz.prog.godebug=none:=by kernel_rfl
theorem Tryz.laidOut:laidOutB Tryz.prog=true:=by kernel_rfl
theorem zlN (xss:List (List D)) (h:DTys Tryz.prog [33,9] xss):ACall Tryz.prog 4 0 (ze6 Tryz.prog [33,9] xss) [] (fun r _=>r= .d (.bool true)):=by
 obtain ⟨x1,r1,rfl,h1,x2,r2,rfl,h2,h7⟩:=h
 simp only [DTys] at h7
 subst h7
 obtain ⟨X,q1,rfl⟩:=zsb h1
 obtain ⟨n,rfl,hn⟩:=zh7 h2
 simp only [ze6,zsc,zsd]
 exact zlI X n q1.ok hn
theorem SnapList_lifted (os:Os) (started:os.Started) (H:Type) (enc:TypeId×Value→H):
  ReturnsInHanded {} Tryz.checked os 4 .any (fun w args=>(Rows.snapListSpec.pre enc Tryz.prog Tryz.f4 Rows.snapListRow.domain false w args∧laidMetH Tryz.prog Rows.snapListRow.laid w)∧sizedMet enc Tryz.prog Tryz.f4 (OpenSpec.ofChange Rows.snapListSpec) false w args) (Rows.snapListSpec.post enc Tryz.prog Tryz.f4 false true false false):=
 zev (C:=Tryz.checked) (tb:=4) (by kernel_rfl) Tryz.own started (by kernel_rfl) Tryz.func4
  (ChangeSpec.witness_shaped (enc:=enc) (C:=Tryz.checked) (os:=os) (X:=fun w _=>laidMetH Tryz.prog Rows.snapListRow.laid w) false (World.laidAll Tryz.prog os Rows.snapListRow.laid) #[.agg #[.string ⟨#[]⟩,.slice none 0 0,.int .i64 0,.bool false,.slice none 0 0,.int .i64 0,.int .i64 0,.int .u64 0,.int .i64 0,.slice none 0 0,.bool false],.string ⟨#[]⟩] 8 (World.laidAll_os _ _ _)
   (World.shaped_of_ZipB (by kernel_rfl) (by kernel_rfl)) (by kernel_rfl) (by kernel_rfl) (by kernel_rfl)
   (by rw [MakeChecks.laidMetH_plain _ _ _ (by kernel_rfl)];exact laidMet_laidAll _ (by kernel_rfl) (by kernel_rfl)))
  rfl (fun ds hd=>by rw [Tryz.params4] at hd;match ds,hd with| [_,_],_=>rfl) (by kernel_rfl) (by show (ty Tryz.prog 4).td=_;rw [ty4])
  Tryz.laidOut (by kernel_rfl) (by kernel_rfl) (fun xss h=>by rw [Tryz.params4] at h ⊢;exact zlN xss h)
theorem snapList_named:Tryz.pinned.checked.prog.funcNamed Rows.snapListRow.func=some 4:=by kernel_rfl
theorem zj8:Tryz.f4.isInstance Tryz.pinned.checked.prog Rows.snapListRow.origin Rows.snapListRow.targs:=of_decide_eq_true (by kernel_rfl)
theorem zj9:Tryz.f4.isWrapper Tryz.pinned.checked.prog Rows.snapListRow.wrapper Rows.snapListRow.mainSum:=by
 unfold Func.isWrapper
 first|(rw [if_pos (by decide+kernel)];kernel_rfl)|(rw [if_neg (by decide+kernel)];exact ⟨rfl,rfl⟩)
theorem SnapList_holds:Rows.SnapListSaid:=
 OpenClaim.holds_of_wide 4 Tryz.f4 rfl rfl rfl rfl rfl rfl rfl ⟨rfl,rfl,rfl,rfl,rfl⟩ rfl rfl rfl rfl rfl snapList_named Tryz.func4 zib zj8 zj9
  (fun os started H enc _=>SnapList_lifted os started H enc)
theorem zlO:Rows.snapListRow.wfByText (OpenSpec.ofChange Rows.snapListSpec)=true:=by kernel_rfl
theorem zka:Tryz.pinned.checked.prog.mainIs=some (true,("bedee79f8beaf268783a5c95a1c89663feefa5a28a48380fd7052f63138d1b65" :String).toList):=by kernel_rfl
theorem ziv:false=Tryz.pinned.checked.prog.looks []:=by kernel_rfl
theorem zkb:false=Rows.snapListRow.goesBy Tryz.pinned.checked.prog:=by kernel_rfl
theorem ziw:([33,9].all fun u=> !Tryz.prog.wantsStandIn u)=true:=by kernel_rfl
theorem SnapListCard_holds:Rows.SnapListCardSaid:=
 Claim7.holds_tied_plain_at .later [] [.data,.pinned] true (true, "bedee79f8beaf268783a5c95a1c89663feefa5a28a48380fd7052f63138d1b65") false
  SnapList_holds (fun _ h=>by cases h) zlO (fun _ h=>by cases h) snapList_row_tie rfl ⟨rfl,rfl⟩ zka rfl
  (fun f fn hf hfn=>by
   obtain rfl:f=4:=Option.some.inj (snapList_named.symm.trans hf) |>.symm
   obtain rfl:fn=Tryz.f4:=(Option.some.inj (Tryz.func4.symm.trans hfn)).symm
   exact ⟨ziv,fun j t ht=>by
    rw [Tryz.params4] at ht
    have hm:t∈ [33,9]:=by simpa using Array.mem_of_getElem? ht
    exact (show Tryz.prog.wantsStandIn t=false by simpa using List.all_eq_true.1 ziw t hm)⟩)
  zkb
end Go.Proofs.YtbmlikkofegdeaaGreatDoor
