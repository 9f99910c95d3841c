/-
  slices.Collect and slices.AppendSeq, told over the private heap, whatever the iterator.
-/
import Derived.Test.YtoofpcploeanpaaWipeP
namespace Go.Aw
set_option maxRecDepth 100000
set_option linter.unusedSimpArgs false
set_option linter.unusedVariables false
open Go Go.Proofs

/-- An item of one element, as a row. -/
def rowOf3 (x : List AV) : List D :=
  match x with
  | [.agg cs] => (toDs cs).getD []
  | _ => []

def isRow3 (x : List AV) : Prop := ∃ r : List D, x = [.agg (r.map AV.d)] ∧ r.length = 3

theorem toDs_map : ∀ (r : List D), toDs (r.map AV.d) = some r
  | [] => rfl
  | x :: r => by simp [toDs, AV.toD, toDs_map r]

theorem rowOf3_eq (r : List D) : rowOf3 [.agg (r.map AV.d)] = r := by simp [rowOf3, toDs_map]

theorem le_nz (a b : Nat) : (a + b ≤ a) = (b = 0) := by apply propext; omega
theorem eq_nz (a b : Nat) : (a + b = a) = (b = 0) := by apply propext; omega
theorem eq_nz' (a b : Nat) : (a = a + b) = (b = 0) := by apply propext; omega

theorem hsel_none {p : Nat → Bool} : ∀ {h : AHeap}, (∀ q ∈ h, p q.1 = false) → hsel p h = []
  | [], _ => rfl
  | (k, o) :: r, hh => by
    simp only [hsel]
    rw [if_neg (by rw [hh (k, o) (by simp)]; simp), hsel_none (fun q hq => hh q (by simp [hq]))]

theorem mem_hget : ∀ {h : AHeap} {q : Nat × AObj}, q ∈ h → (hget h q.1).isSome
  | (k, o) :: r, q, hq => by
    simp only [hget]
    split
    · rfl
    · rename_i e
      rcases List.mem_cons.1 hq with rfl | hq
      · exact absurd rfl e
      · exact mem_hget hq

theorem appendSeq3_ok {f : FuncId} {fs caps : List AV} {h : AHeap} {items : List (List AV)} {Kit : Option (List (List AV)) → AHeap → Prop} {fl : Nat} (hfl : ∀ i, (hget h i).isSome → i < fl) (hcl : ∀ j ∈ idsH h, j < fl) (hids : ∀ j ∈ AV.idsL fs ++ AV.idsL caps, j < fl) (hit : AIter Try.prog f (fl + 2) fs caps h items Kit)
    (hK : ∀ g h', Kit g h' → (∀ i, (hget h' i).isSome → i < fl) ∧ (∀ xs, g = some xs → xs = items)) (hrow : ∀ x ∈ items, isRow3 x) (hn : items.length ≤ 1000000) :
    ACall Try.prog 61 fl [.nils 3, .fn (.func f) fs caps] h (fun r h' => r = .osl (fl + 1) 3 items.length 0 items.length ∧ ∃ h1, Kit (some items) h1 ∧ h' = h1 ++ [(fl + 1, .arr 3 (items.map rowOf3)), (fl, .var [.osl (fl + 1) 3 items.length 0 items.length])]) := by
  refine acall_of_body Try.func61 rfl (enters Try.func61 (by kernel_rfl) rfl) Try.ntmps61 (by simp) (fun base => ?_)
  have hfr : fresh fl h = fl := fresh_of hfl
  refine aw_seq_regionT noTab (noTab_ok _) (fun K hK => ?_); simp only [go_sem, Nat.le_refl, List.append_toArray, List.range_zero, ↓reduceIte, List.append_eq, Int.toNat_natCast, Nat.reduceAdd, Nat.reduceMul, Nat.reduceSub, Nat.reduceLT, Nat.reduceLeDiff, Nat.reduceEqDiff, Nat.reduceBEq, Int.reduceToNat, Int.reduceLT, Int.reduceLE, Int.reduceAdd, Int.reduceSub, Int.reduceMul, Int.reduceNeg, Int.reduceEq, hfr]
  refine hK _ ?_; clear hK K
  refine aw_adoptH fl 0 3 (cs := [.nils 3]) (by simp [hget]) rfl ?_
  have hselh : hsel (fun i => decide (i < fl)) h = h := hsel_all (fun q hq => by simpa using hfl q.1 (mem_hget hq))
  have hnh : ∀ (o1 o2 : AObj) (q : Nat → Bool), (∀ i, i < fl → q i = false) → hsel q ((fl + 1, o1) :: (fl, o2) :: h) = hsel q [(fl + 1, o1), (fl, o2)] := fun o1 o2 q hq => by
    have : hsel q h = [] := hsel_none (fun x hx => by simpa using hq x.1 (hfl x.1 (mem_hget hx)))
    simp only [hsel, this]
  refine aw_seq (fun K1 hK1 => ?_)
  refine aw_seq_regionT noTab (noTab_ok _) (fun K hK => ?_); simp only [go_sem, Nat.le_refl, List.append_toArray, List.range_zero, ↓reduceIte, List.append_eq, Int.toNat_natCast, Nat.reduceAdd, Nat.reduceMul, Nat.reduceSub, Nat.reduceLT, Nat.reduceLeDiff, Nat.reduceEqDiff, Nat.reduceBEq, Int.reduceToNat, Int.reduceLT, Int.reduceLE, Int.reduceAdd, Int.reduceSub, Int.reduceMul, Int.reduceNeg, Int.reduceEq, hfr, hset]
  refine hK _ ?_; clear hK K
  refine aw_block ?_
  obtain ⟨I, hI⟩ : ∃ I : List (List AV) → AHeap × Option (List (List AV)), I = fun xs => ([(fl + 1, .arr 3 (xs.map rowOf3)), (fl, .var [.osl (fl + 1) 3 xs.length 0 xs.length])], some []) := ⟨_, rfl⟩
  refine aw_rangeFunc (Kit := Kit) (items := items) (fl := fl + 2) (fun i => decide (i < fl)) I (fun _ _ _ => False) rfl rfl ?_ ?_ (by simp [cxOf]) ?_ ?_ ?_ ?_ (by rw [hI]) ?_ (fun _ _ _ h => h.elim) ?_ ?_ (by simp [cxOf]) ?_ ?_ (fun _ _ _ _ _ h => h.elim)
  · have : hsel (fun i => decide (i < fl)) ((fl + 1, AObj.arr 3 []) :: (fl, .var [.osl (fl + 1) 3 0 0 0]) :: h) = h := by
      simp only [hsel, hselh]
      simp
    rw [this]
    exact hit
  · intro i hi
    simp only [hget] at hi
    split at hi
    · omega
    · split at hi
      · omega
      · have := hfl i hi; omega
  · intro i o ho hp j hj
    have hi : i < fl := by simpa using hp
    simp only [hget] at ho
    rw [if_neg (by omega), if_neg (by omega)] at ho
    simpa using hcl j (idsH_get ho j hj)
  · intro j hj
    simpa using hids j hj
  · rw [hnh _ _ _ (fun i hi => by simp [hi]), hI]
    simp [hsel, leH, hget, AObj.le, AV.leL, AV.le]
  · rw [hI]
    simp [inH, idsH, AObj.ids, AV.idsL, AV.ids, hget]
  · intro xs _ i hi
    rw [hI] at hi
    simp only [hget] at hi
    split at hi
    · simp; omega
    · split at hi
      · simp; omega
      · simp at hi
  · intro g h' hk
    obtain ⟨h1, h2⟩ := hK g h' hk
    exact ⟨fun i hi => by simpa using h1 i hi, h2⟩
  · intro x hx
    obtain ⟨r, rfl, _⟩ := hrow x hx
    rfl
  · intro xs x hpre l r1
    have hxin : x ∈ items := by
      obtain ⟨t, rfl⟩ := hpre
      simp
    have hlx : xs.length + 1 ≤ items.length := by
      have := hpre.length_le
      simpa using this
    obtain ⟨r, rfl, hr⟩ := hrow x hxin
    match r, hr with
    | [d0, d1, d2], _ =>
    rw [hI]
    refine aw_le ⟨[(7, true, .agg [.d d0, .d d1, .d d2]), (2, true, .vp fl 0)], [(fl + 1, .arr 3 (xs.map rowOf3)), (fl, .var [.osl (fl + 1) 3 xs.length 0 xs.length])], some []⟩ (by simp only [AS.le, leT, leH, RoundK, AsgK, AV.le, AV.leL, AObj.le, inH, idsT, idsH, AV.ids, AV.idsL, AV.idsR, AObj.ids, lk, hget, go_sem, Nat.le_refl, List.append_toArray, List.range_zero, ↓reduceIte, List.append_eq, Int.toNat_natCast, Nat.reduceAdd, Nat.reduceMul, Nat.reduceSub, Nat.reduceLT, Nat.reduceLeDiff, Nat.reduceEqDiff, Nat.reduceBEq, Int.reduceToNat, Int.reduceLT, Int.reduceLE, Int.reduceAdd, Int.reduceSub, Int.reduceMul, Int.reduceNeg, Int.reduceEq]; simp [AV.le, AV.leL]) ?_
    refine aw_regionT noTab (noTab_ok _) ?_; simp only [go_sem, Nat.le_refl, List.append_toArray, List.range_zero, ↓reduceIte, List.append_eq, Int.toNat_natCast, Nat.reduceAdd, Nat.reduceMul, Nat.reduceSub, Nat.reduceLT, Nat.reduceLeDiff, Nat.reduceEqDiff, Nat.reduceBEq, Int.reduceToNat, Int.reduceLT, Int.reduceLE, Int.reduceAdd, Int.reduceSub, Int.reduceMul, Int.reduceNeg, Int.reduceEq, Nat.add_assoc, le_nz, eq_nz, Nat.add_le_add_iff_left, Nat.add_left_cancel_iff]
    intro r2
    refine aw_block ?_
    refine aw_regionT noTab (noTab_ok _) ?_; simp only [go_sem, Nat.le_refl, List.append_toArray, List.range_zero, ↓reduceIte, List.append_eq, Int.toNat_natCast, Nat.reduceAdd, Nat.reduceMul, Nat.reduceSub, Nat.reduceLT, Nat.reduceLeDiff, Nat.reduceEqDiff, Nat.reduceBEq, Int.reduceToNat, Int.reduceLT, Int.reduceLE, Int.reduceAdd, Int.reduceSub, Int.reduceMul, Int.reduceNeg, Int.reduceEq, Nat.add_assoc, le_nz, eq_nz, Nat.add_le_add_iff_left, Nat.add_left_cancel_iff]
    have hrw : rowOf3 [.agg [.d d0, .d d1, .d d2]] = [d0, d1, d2] := rowOf3_eq [d0, d1, d2]
    refine ⟨by simp, by simp; omega, by simp; omega, ?_, ?_⟩
    · simp [leH, hget, AObj.le, AV.leL, AV.le, hrw]
    · simp [inH, idsH, AObj.ids, AV.idsL, AV.ids, hget]
  · intro h1 hk
    obtain ⟨hn1, _⟩ := hK _ _ hk
    rw [hI]
    have hgt : ∀ (X : AHeap) (i : Nat), fl ≤ i → hget (h1 ++ X) i = hget X i := fun X i hi => by
      rw [hget_append]
      have : hget h1 i = none := by
        cases e : hget h1 i with
        | none => rfl
        | some o => have := hn1 i (by simp [e]); omega
      rw [this]; rfl
    have hgA : hget (h1 ++ [(fl + 1, AObj.arr 3 (items.map rowOf3)), (fl, .var [.osl (fl + 1) 3 items.length 0 items.length])]) fl = some (.var [.osl (fl + 1) 3 items.length 0 items.length]) := by
      rw [hgt _ _ (Nat.le_refl _)]; simp [hget]
    simp only [blockK, thenK]
    refine hK1 _ ?_
    clear hK1 K1
    refine aw_seq_regionT noTab (noTab_ok _) (fun K hK => ?_); simp only [go_sem, Nat.le_refl, List.append_toArray, List.range_zero, ↓reduceIte, List.append_eq, Int.toNat_natCast, Nat.reduceAdd, Nat.reduceMul, Nat.reduceSub, Nat.reduceLT, Nat.reduceLeDiff, Nat.reduceEqDiff, Nat.reduceBEq, Int.reduceToNat, Int.reduceLT, Int.reduceLE, Int.reduceAdd, Int.reduceSub, Int.reduceMul, Int.reduceNeg, Int.reduceEq, hgA]
    refine hK _ ?_; clear hK K
    refine aw_ret ?_; simp only [go_sem, Nat.le_refl, List.append_toArray, List.range_zero, ↓reduceIte, List.append_eq, Int.toNat_natCast, Nat.reduceAdd, Nat.reduceMul, Nat.reduceSub, Nat.reduceLT, Nat.reduceLeDiff, Nat.reduceEqDiff, Nat.reduceBEq, Int.reduceToNat, Int.reduceLT, Int.reduceLE, Int.reduceAdd, Int.reduceSub, Int.reduceMul, Int.reduceNeg, Int.reduceEq, Try.results61]
    exact ⟨h1, hk, rfl⟩

theorem collect3_ok {f : FuncId} {fs caps : List AV} {h : AHeap} {items : List (List AV)} {Kit : Option (List (List AV)) → AHeap → Prop} {fl : Nat} (hfl : ∀ i, (hget h i).isSome → i < fl) (hcl : ∀ j ∈ idsH h, j < fl) (hids : ∀ j ∈ AV.idsL fs ++ AV.idsL caps, j < fl) (hit : AIter Try.prog f (fl + 2) fs caps h items Kit)
    (hKit : ∀ g h', Kit g h' → (∀ i, (hget h' i).isSome → i < fl) ∧ (∀ xs, g = some xs → xs = items)) (hall : ∀ h', Kit (some items) h' → ∀ i, (hget h i).isSome → (hget h' i).isSome) (hrow : ∀ x ∈ items, isRow3 x) (hn : items.length ≤ 1000000) :
    ACall Try.prog 44 fl [.fn (.func f) fs caps] h (fun r h' => r = .osl (fl + 1) 3 items.length 0 items.length ∧ ∃ h1, Kit (some items) h1 ∧ h' = h1 ++ [(fl + 1, .arr 3 (items.map rowOf3)), (fl, .var [.osl (fl + 1) 3 items.length 0 items.length])]) := by
  refine acall_of_body Try.func44 rfl (enters Try.func44 (by kernel_rfl) rfl) Try.ntmps44 (by simp) (fun base => ?_)
  refine aw_seq_regionT noTab (noTab_ok _) (fun K hK => ?_); simp only [go_sem, Nat.le_refl, List.append_toArray, List.range_zero, ↓reduceIte, List.append_eq, Int.toNat_natCast, Nat.reduceAdd, Nat.reduceMul, Nat.reduceSub, Nat.reduceLT, Nat.reduceLeDiff, Nat.reduceEqDiff, Nat.reduceBEq, Int.reduceToNat, Int.reduceLT, Int.reduceLE, Int.reduceAdd, Int.reduceSub, Int.reduceMul, Int.reduceNeg, Int.reduceEq]
  refine hK _ ?_; clear hK K
  refine aw_seq_regionT noTab (noTab_ok _) (fun K hK => ?_); simp only [go_sem, Nat.le_refl, List.append_toArray, List.range_zero, ↓reduceIte, List.append_eq, Int.toNat_natCast, Nat.reduceAdd, Nat.reduceMul, Nat.reduceSub, Nat.reduceLT, Nat.reduceLeDiff, Nat.reduceEqDiff, Nat.reduceBEq, Int.reduceToNat, Int.reduceLT, Int.reduceLE, Int.reduceAdd, Int.reduceSub, Int.reduceMul, Int.reduceNeg, Int.reduceEq]
  refine ((appendSeq3_ok hfl hcl hids hit hKit hrow hn).whole hfl (Nat.le_refl _) ?_).mono ?_
  · rintro r h' ⟨_, h1, hk, rfl⟩ i hi
    rw [hget_append]
    have := hall h1 hk i hi
    cases e : hget h1 i with
    | none => rw [e] at this; cases this
    | some o => rfl
  · rintro r h' ⟨rfl, h1, hk, rfl⟩
    refine hK _ ?_
    refine aw_ret ?_; simp only [go_sem, Nat.le_refl, List.append_toArray, List.range_zero, ↓reduceIte, List.append_eq, Int.toNat_natCast, Nat.reduceAdd, Nat.reduceMul, Nat.reduceSub, Nat.reduceLT, Nat.reduceLeDiff, Nat.reduceEqDiff, Nat.reduceBEq, Int.reduceToNat, Int.reduceLT, Int.reduceLE, Int.reduceAdd, Int.reduceSub, Int.reduceMul, Int.reduceNeg, Int.reduceEq, Try.results44]
    exact ⟨h1, hk, rfl⟩
end Go.Aw
