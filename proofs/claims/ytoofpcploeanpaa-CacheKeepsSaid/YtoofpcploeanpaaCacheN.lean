/-
  What the blocks kept and the disk below have: nothing is lost.
-/
import Derived.Test.YtoofpcploeanpaaCacheJ
--new
namespace Go.Aw
set_option maxRecDepth 100000
set_option linter.unusedSimpArgs false
set_option linter.unusedVariables false
open Go Go.Proofs

abbrev Txts := List (Int × List UInt8)
def mD (m : Txts) : List (D × D) := m.map fun p => (.int .i64 p.1, .str p.2)
def mget : Txts → Int → List UInt8
  | [], _ => []
  | (a, v) :: m, k => if k = a then v else mget m k
def mset : Txts → Int → List UInt8 → Txts
  | [], k, v => [(k, v)]
  | (a, w) :: m, k, v => if k = a then (k, v) :: m else (a, w) :: mset m k v

theorem mD_alike (m : Txts) : ((mD m).all fun p => alike (.int .i64) p.1) = true := by simp [mD, alike]
theorem mD_mat (k : Int) : ∀ m : Txts, (mat (.int .i64 k) (mD m)).getD (.str []) = .str (mget m k)
  | [] => rfl
  | (a, v) :: m => by
    have e : mD ((a, v) :: m) = (.int .i64 a, .str v) :: mD m := rfl
    rw [e, mat_int, mget]
    split
    · rfl
    · exact mD_mat k m
theorem mD_put (k : Int) (v : List UInt8) : ∀ m : Txts, mput (.int .i64 k) (.str v) (mD m) = mD (mset m k v)
  | [] => rfl
  | (a, w) :: m => by
    have e : mD ((a, w) :: m) = (.int .i64 a, .str w) :: mD m := rfl
    rw [e, mput_int, mset]
    split
    · rfl
    · rw [mD_put k v m]; rfl
theorem mget_mset (k : Int) (v : List UInt8) (k' : Int) : ∀ m : Txts, mget (mset m k v) k' = if k' = k then v else mget m k'
  | [] => by simp [mset, mget]
  | (a, w) :: m => by
    have ih := mget_mset k v k' m
    simp only [mset]
    split
    · rename_i h; subst h
      simp only [mget]
      split <;> simp_all
    · simp only [mget]
      split
      · rename_i h1 h2; subst h2
        rw [if_neg (fun e => h1 e.symm)]
      · exact ih

def isAt (k : Int) (q : Blk) : Bool := q.1 == k
def kval (K : List Blk) (disk : Txts) (k : Int) : List UInt8 :=
  match K.find? (isAt k) with
  | some q => q.2.1
  | none => mget disk k

structure Inv (K : List Blk) (disk want : Txts) : Prop where
  fit : fitM K [] = true
  len : K.length ≤ 8
  dirty : ∀ q ∈ K, q.2.2 = true
  val : ∀ k, kval K disk k = mget want k

theorem find_eq (k : Int) : ∀ (K : List Blk) (i : Nat), (findFrom k K i = -1 ∧ K.find? (isAt k) = none) ∨ ∃ j q, findFrom k K i = ((i + j : Nat) : Int) ∧ K[j]? = some q ∧ q.1 = k ∧ K.find? (isAt k) = some q
  | [], _ => .inl ⟨rfl, rfl⟩
  | q :: K, i => by
    simp only [findFrom, List.find?_cons]
    by_cases h : q.1 = k
    · have hi : isAt k q = true := by simp [isAt, h]
      rw [if_pos h, hi]
      exact .inr ⟨0, q, by simp, rfl, h, rfl⟩
    · have hi : isAt k q = false := by simp [isAt, h]
      rw [if_neg h, hi]
      rcases find_eq k K (i + 1) with ⟨h1, h2⟩ | ⟨j, q', h1, h2, h3, h4⟩
      · exact .inl ⟨h1, h2⟩
      · exact .inr ⟨j + 1, q', by rw [h1]; congr 1; omega, by simpa using h2, h3, h4⟩

theorem find_drops {n k : Int} (h : k ≠ n) : ∀ K : List Blk, (drops n K).find? (isAt k) = K.find? (isAt k)
  | [] => rfl
  | q :: K => by
    have ih := find_drops h K
    unfold drops at ih ⊢
    by_cases hq : q.1 = n
    · rw [List.filter_cons_of_neg (p := fun q : Blk => q.1 != n) (by simp [hq]), ih, List.find?_cons]
      have : isAt k q = false := by simp [isAt, hq]; exact fun e => h e.symm
      rw [this]
    · rw [List.filter_cons_of_pos (p := fun q : Blk => q.1 != n) (by simpa using hq), List.find?_cons, List.find?_cons, ih]

theorem fit_sub {K L : List Blk} (h : fitM K [] = true) (hs : L.Sublist K) : fitM L [] = true := by
  obtain ⟨h1, h2, _⟩ := (fitM_iff _ _).1 h
  exact (fitM_iff _ _).2 ⟨fun q hq => h1 q (hs.subset hq), h2.sublist (hs.map _), by simp⟩

theorem fit_cons {x : Blk} {K L : List Blk} (h : fitM K [] = true) (hs : L.Sublist (drops x.1 K)) (hg : good x = true) : fitM (x :: L) [] = true := by
  have hK := fit_sub h (hs.trans List.filter_sublist)
  obtain ⟨h1, h2, _⟩ := (fitM_iff _ _).1 hK
  refine (fitM_iff _ _).2 ⟨?_, ?_, by simp⟩
  · intro q hq
    rcases List.mem_cons.1 hq with rfl | hq
    · exact hg
    · exact h1 q hq
  · simp only [List.map_cons, List.nodup_cons]
    refine ⟨fun hm => ?_, h2⟩
    obtain ⟨q, hq, e⟩ := List.mem_map.1 hm
    have := (List.mem_filter.1 (hs.subset hq)).2
    simp [e] at this

/-- Get, where all is fit. -/
theorem inv_get {K : List Blk} {disk want : Txts} (h : Inv K disk want) (k : Int) : ∃ K2 s ok, getS K k = (K2, s, ok) ∧ Inv K2 disk want ∧ (ok = true → s = mget want k) ∧ (ok = false → mget disk k = mget want k) := by
  have hv := h.val k
  unfold kval at hv
  obtain ⟨h1, h2, _⟩ := (fitM_iff _ _).1 h.fit
  rcases find_eq k K 0 with ⟨e1, e2⟩ | ⟨j, q, e1, e2, e3, e4⟩
  · rw [e2] at hv
    exact ⟨_, _, _, getS_none e1, h, fun e => (by cases e), fun _ => hv⟩
  · rw [e4] at hv
    rw [Nat.zero_add] at e1
    have hw : withoutFrom (j : Int) K 0 = drops k K := by rw [← e1]; exact without_filter k K 0 h2
    have hqm := List.mem_of_getElem? e2
    have hlen : (drops k K).length < K.length := by
      unfold drops
      exact List.length_filter_lt_length_iff_exists.2 ⟨q, hqm, by simp [e3]⟩
    refine ⟨_, _, _, getS_some e1 e2, ?_, fun _ => hv, fun e => by cases e⟩
    rw [hw]
    refine ⟨fit_cons h.fit (by rw [e3]; exact List.Sublist.refl _) (h1 q hqm), by simp; have := h.len; omega, ?_, ?_⟩
    · intro p hp
      rcases List.mem_cons.1 hp with rfl | hp
      · exact h.dirty p hqm
      · exact h.dirty p (List.mem_filter.1 hp).1
    · intro k'
      rw [← h.val k']
      unfold kval
      rw [List.find?_cons]
      by_cases hk : k' = k
      · have : isAt k' q = true := by simp [isAt, e3, hk]
        rw [this, hk, e4]
      · have : isAt k' q = false := by simp [isAt, e3]; exact fun e => hk e.symm
        rw [this]
        dsimp only
        rw [find_drops hk]

/-- Put, where all is fit. -/
theorem inv_put {K : List Blk} {disk want : Txts} (h : Inv K disk want) {n : Int} {d : List UInt8} (hg : good (n, d, true) = true) :
    ∃ W O, putS K (n, d, true) = ((n, d, true) :: W, O, 0) ∧ O.length ≤ 1 ∧ W.length ≤ 7 ∧ Inv ((n, d, true) :: W) (O.foldl (fun m o => mset m o.1 o.2.1) disk) (mset want n d) := by
  obtain ⟨h1, h2, _⟩ := (fitM_iff _ _).1 h.fit
  have hg2 := hg
  simp only [good, Bool.and_eq_true, decide_eq_true_eq, beq_iff_eq] at hg2
  have hput : putS K (n, d, true) = (((n, d, true) :: drops n K).take 8, dirties (((n, d, true) :: drops n K).drop 8), 0) := by
    rw [putS, if_neg (by simp only; omega), if_neg (by simp only; omega), putAll]
    simp only [Bool.true_or]
    rw [without_filter n K 0 h2]
    rfl
  have hFl : (drops n K).length ≤ 8 := Nat.le_trans (List.length_filter_le _ _) h.len
  have hFd : ∀ q ∈ drops n K, q.2.2 = true := fun q hq => h.dirty q (List.mem_filter.1 hq).1
  have hO : dirties (((n, d, true) :: drops n K).drop 8) = (drops n K).drop 7 := by
    rw [List.drop_succ_cons]
    exact List.filter_eq_self.2 fun q hq => hFd q (List.mem_of_mem_drop hq)
  rw [hO] at hput
  refine ⟨_, _, hput, by simp; omega, by simp; omega, ?_⟩
  have hfit := fit_cons (L := (drops n K).take 7) h.fit (List.take_sublist _ _) hg
  refine ⟨hfit, by simp; omega, ?_, ?_⟩
  · intro p hp
    rcases List.mem_cons.1 hp with rfl | hp
    · rfl
    · exact hFd p (List.mem_of_mem_take hp)
  · intro k
    rw [mget_mset]
    unfold kval
    rw [List.find?_cons]
    by_cases hk : k = n
    · have : isAt k (n, d, true) = true := by simp [isAt, hk]
      rw [this, if_pos hk]
    · have : isAt k (n, d, true) = false := by simp [isAt]; exact fun e => hk e.symm
      rw [this, if_neg hk, ← h.val k]
      unfold kval
      dsimp only
      rw [← find_drops hk K]
      have hsp : drops n K = (drops n K).take 7 ++ (drops n K).drop 7 := (List.take_append_drop 7 _).symm
      have hnd : ((drops n K).map (·.1)).Nodup := h2.sublist (List.filter_sublist.map _)
      have hdl : ((drops n K).drop 7).length ≤ 1 := by simp; omega
      conv => rhs; rw [hsp]
      rw [List.find?_append]
      cases hf : ((drops n K).take 7).find? (isAt k) with
      | some q => rfl
      | none =>
        simp only [Option.none_or]
        match hdd : (drops n K).drop 7, hdl with
        | [], _ => rfl
        | [o], _ =>
          simp only [List.foldl_cons, List.foldl_nil, List.find?_cons, List.find?_nil]
          rw [mget_mset]
          by_cases ho : k = o.1
          · have : isAt k o = true := by simp [isAt, ho]
            rw [if_pos ho, this]
          · have : isAt k o = false := by simp [isAt]; exact fun e => ho e.symm
            rw [if_neg ho, this]

theorem inv_dirty {K : List Blk} {disk want : Txts} (h : Inv K disk want) : (srt [] (dirties K)).length = K.length := by
  rw [srt_len]
  have : dirties K = K := List.filter_eq_self.2 h.dirty
  rw [this]
  simp
end Go.Aw
