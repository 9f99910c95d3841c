/-
  Regions that draw their order, once more: what is new is named by its place in the text; effects are told one by one.
-/
import Derived.Test.YtioccpkcnnkpjaaGreatAwEnt
namespace Go.Aw
set_option maxRecDepth 100000
set_option linter.unusedSimpArgs false
set_option linter.unusedVariables false
open Go

/-- What an operation does to the private heap. -/
inductive Ch where
  | none
  | put (i : Nat) (ob : AObj)
  | new (i : Nat) (ob : AObj)

def Ch.app : Ch → AHeap → AHeap
  | .none, h => h
  | .put i ob, h => hset h i ob
  | .new i ob, h => (i, ob) :: h

def Ch.at : Ch → Option Nat
  | .none => Option.none
  | .put i _ => some i
  | .new i _ => some i

/-- Another heap is as good for an operation. -/
def goodFor (h : AHeap) (c : Ch) (rd : List Nat) (k : AHeap) : Prop :=
  (∀ i ∈ rd, hget k i = hget h i) ∧ (match c with | .none => True | .put i _ => hget k i = hget h i | .new i _ => hget k i = Option.none)

/-- What an operation changes, and which objects it hangs on. -/
def chOf (nm : Nat) (P : Program) (s : AS) (op : Op) (h' : AHeap) : Option (Ch × List Nat) :=
  match op with
  | .alloc _ => (hget h' nm).map fun ob => (.new nm ob, [])
  | .buildSlice _ _ _ => some (match hget h' nm with | some ob => (.new nm ob, []) | Option.none => (.none, []))
  | .makeSlice _ _ _ => (hget h' nm).map fun ob => (.new nm ob, [])
  | .build _ _ => some (.none, [])
  | .convert _ _ x => some (.none, (s.ev x).2.ids)
  | .slice _ x _ _ _ => some (.none, (s.ev x).2.ids)
  | .call c => (match c.callee with
    | .builtin .append => (match c.args.toList with
      | [x, y] => (match (s.ev x).2 with
        | .osl i _ _ _ _ => (hget h' i).map fun ob => (.put i ob, (s.ev y).2.ids)
        | _ => Option.none)
      | _ => Option.none)
    | .builtin .len => (match c.args.toList with
      | [x] => some (.none, (s.ev x).2.ids)
      | _ => Option.none)
    | .value _ => if foot nm P s (.call c) = .cold then some (.none, []) else Option.none
    | _ => Option.none)
  | op => (match foot nm P s op with
    | .cold => some (.none, [])
    | .on i => if isEff op = true then (hget h' i).map fun ob => (.put i ob, []) else some (.none, [i])
    | _ => Option.none)

def atCx (cx : Cx) (nm : Nat) : Cx := { cx with fl := nm }

section
variable {cx : Cx} {tab : Tab} {s : AS} {P : Program}

theorem rowsK_at {k : AHeap} {n : Nat} {v : AV} (h : ∀ i ∈ v.ids, hget k i = hget s.h i) : rowsK { s with h := k } n v = rowsK s n v := by
  unfold rowsK
  cases v with
  | osl i _ _ _ _ => have := h i (by simp [AV.ids]); simp only [this]
  | vsl i _ _ _ => have := h i (by simp [AV.ids]); simp only [this]
  | d x => cases x <;> rfl
  | _ => rfl
theorem rowsT_at {k : AHeap} {n : Nat} {t : TypeId} {v : AV} (h : ∀ i ∈ v.ids, hget k i = hget s.h i) : rowsT P { s with h := k } n t v = rowsT P s n t v := by
  unfold rowsT
  rw [rowsK_at h]
theorem avLen_at {k : AHeap} {t : TypeId} {v : AV} (h : ∀ i ∈ v.ids, hget k i = hget s.h i) : avLen P { s with h := k } t v = avLen P s t v := by
  unfold avLen AS.cur
  generalize (ty P t).td = dd
  cases v with
  | osl i _ _ _ _ => have := h i (by simp [AV.ids]); cases dd <;> simp only [this]
  | d x => cases dd <;> cases x <;> rfl
  | _ => cases dd <;> rfl

theorem avSlice_at {k : AHeap} {t : TypeId} {x : AV} {lo hi mx : Option Operand} (h : ∀ i ∈ x.ids, hget k i = hget s.h i) : avSlice P { s with h := k } t x lo hi mx = avSlice P s t x lo hi mx := by
  have hb : ∀ y d, AS.bnd { s with h := k } y d = AS.bnd s y d := fun y d => by
    cases y with
    | none => rfl
    | some y => cases y <;> rfl
  unfold avSlice AS.cur
  simp only [hb]
  cases x with
  | osl i _ _ _ _ => have := h i (by simp [AV.ids]); simp only [this]
  | vp i _ => have := h i (by simp [AV.ids]); simp only [this]
  | d x => cases x <;> rfl
  | _ => rfl

theorem ch_local {nm : Nat} (hnm : hget s.h nm = Option.none) {G : Bool} {o : Oper} {g : Bool} {v : AV} {h' : AHeap} (h : ∀ R : Bool → AV → AHeap → Prop, R g v h' → fop (atCx cx nm) tab s G o R) (hne : isEff o.op = false → h' = s.h)
    {c : Ch} {rd : List Nat} (hc : chOf nm cx.P s o.op h' = some (c, rd)) :
    h' = c.app s.h ∧ ∀ k : AHeap, goodFor s.h c rd k → ∀ R : Bool → AV → AHeap → Prop, R g v (c.app k) → fop (atCx cx nm) tab { s with h := k } G o R := by
  have hev : ∀ (k : AHeap) (x : Operand), AS.ev { s with h := k } x = s.ev x := fun k x => by cases x <;> rfl
  have hkn : ∀ (k : AHeap) (x : Operand), known { s with h := k } x = known s x := fun k x => by cases x <;> rfl
  have hfs : fresh nm s.h = nm := fresh_at hnm
  obtain ⟨ff1, ff2⟩ := fop_foot h hne
  -- those told by their footprints
  have old : chOf nm cx.P s o.op h' = (match foot nm cx.P s o.op with
      | .cold => some (.none, [])
      | .on i => if isEff o.op = true then (hget h' i).map fun ob => (.put i ob, []) else some (.none, [i])
      | _ => Option.none) → h' = c.app s.h ∧ ∀ k : AHeap, goodFor s.h c rd k → ∀ R : Bool → AV → AHeap → Prop, R g v (c.app k) → fop (atCx cx nm) tab { s with h := k } G o R := by
    intro e
    rw [e] at hc
    cases hf : foot nm cx.P s o.op with
    | cold =>
      rw [hf] at hc
      simp only [Option.some.injEq, Prod.mk.injEq] at hc
      obtain ⟨rfl, rfl⟩ := hc
      obtain ⟨q1, q2⟩ := ff1 hf
      exact ⟨hne q1, fun k _ R hR => q2 k R hR⟩
    | on i =>
      rw [hf] at hc
      dsimp only at hc
      split at hc
      · rename_i he
        obtain ⟨ob, q1, q2, _⟩ := (ff2 i hf s.h rfl).2 he
        rw [q1] at hc
        simp only [Option.map_some, Option.some.injEq, Prod.mk.injEq] at hc
        obtain ⟨rfl, rfl⟩ := hc
        refine ⟨q2, fun k hk R hR => ?_⟩
        obtain ⟨ob', p1, p2, p3⟩ := (ff2 i hf k hk.2).2 he
        rw [q1] at p1
        cases p1
        exact p3 R hR
      · rename_i he
        simp only [Option.some.injEq, Prod.mk.injEq] at hc
        obtain ⟨rfl, rfl⟩ := hc
        have he' : isEff o.op = false := by simpa using he
        exact ⟨hne he', fun k hk R hR => (ff2 i hf k (hk.1 i (by simp))).1 he' R hR⟩
    | new i => rw [hf] at hc; cases hc
    | whole => rw [hf] at hc; cases hc
  have h0 := h (fun g1 v1 h1 => g1 = g ∧ v1 = v ∧ h1 = h') ⟨rfl, rfl, rfl⟩
  cases hop : o.op
  case alloc t =>
    rw [hop] at hc
    have n1 : ∀ x, o.op = .move x → False := by simp [hop]
    have n2 : ∀ x, o.op = .assign x → False := by simp [hop]
    have n3 : ∀ x y z, o.op = .pick x y z → False := by simp [hop]
    have n4 : ∀ c, o.op = .call c → False := by simp [hop]
    have hv : ¬ isVal (atCx cx nm).P o.op = true := by rw [hop]; simp [isVal, isVal0]
    rw [fop_other n1 n2 n3 n4, if_neg hv, hop] at h0
    obtain ⟨hG, hdt, h1⟩ := h0
    unfold aeff at h1
    dsimp only [atCx] at h1
    rw [hfs] at h1
    obtain ⟨q1, q2, q3, q4⟩ := h1
    subst q4
    simp only [chOf, hget, if_true, Option.map_some, Option.some.injEq, Prod.mk.injEq] at hc
    obtain ⟨rfl, rfl⟩ := hc
    refine ⟨rfl, fun k hk R hR => ?_⟩
    rw [fop_other n1 n2 n3 n4, if_neg hv, hop]
    refine ⟨hG, hdt, ?_⟩
    unfold aeff
    dsimp only [atCx]
    rw [fresh_at hk.2]
    refine ⟨q1, ?_⟩
    rw [← q2, ← q3] at hR
    exact hR
  case makeSlice t l m =>
    rw [hop] at hc
    have n1 : ∀ x, o.op = .move x → False := by simp [hop]
    have n2 : ∀ x, o.op = .assign x → False := by simp [hop]
    have n3 : ∀ x y z, o.op = .pick x y z → False := by simp [hop]
    have n4 : ∀ c, o.op = .call c → False := by simp [hop]
    have hv : ¬ isVal (atCx cx nm).P o.op = true := by rw [hop]; simp [isVal, isVal0]
    rw [fop_other n1 n2 n3 n4, if_neg hv, hop] at h0
    obtain ⟨hG, hdt, h1⟩ := h0
    unfold aeff aextra at h1
    dsimp only [atCx] at h1
    split at h1
    · rename_i e gl n gc m' ht hl hm
      obtain ⟨c1, c2, c3, c4, c5, c6, c7, c8, c9, h1⟩ := h1
      split at h1
      · rename_i z hz
        rw [hfs] at h1
        obtain ⟨q2, q3, q4⟩ := h1
        subst q4
        simp only [chOf, hget, if_true, Option.map_some, Option.some.injEq, Prod.mk.injEq] at hc
        obtain ⟨rfl, rfl⟩ := hc
        refine ⟨rfl, fun k hk R hR => ?_⟩
        rw [fop_other n1 n2 n3 n4, if_neg hv, hop]
        refine ⟨hG, hdt, ?_⟩
        unfold aeff aextra
        dsimp only [atCx]
        rw [ht, hev k l, hev k m, hl, hm]
        dsimp only
        rw [hz, fresh_at hk.2]
        refine ⟨c1, c2, c3, c4, c5, c6, c7, c8, c9, ?_⟩
        rw [← q2, ← q3] at hR
        exact hR
      · exact h1.elim
    · exact h1.elim
  case buildSlice t len parts =>
    rw [hop] at hc
    have n1 : ∀ x, o.op = .move x → False := by simp [hop]
    have n2 : ∀ x, o.op = .assign x → False := by simp [hop]
    have n3 : ∀ x y z, o.op = .pick x y z → False := by simp [hop]
    have n4 : ∀ c, o.op = .call c → False := by simp [hop]
    have hv : ¬ isVal (atCx cx nm).P o.op = true := by rw [hop]; simp [isVal, isVal0]
    rw [fop_other n1 n2 n3 n4, if_neg hv, hop] at h0
    obtain ⟨hG, hdt, h1⟩ := h0
    unfold aeff at h1
    dsimp only [atCx] at h1
    split at h1
    · rename_i e ht
      obtain ⟨c1, c2, c3, c4, c5, c6, h1⟩ := h1
      split at h1
      · rename_i ds hds
        rw [hfs] at h1
        obtain ⟨q2, q3, q4⟩ := h1
        subst q4
        simp only [chOf, hget, if_true, Option.some.injEq, Prod.mk.injEq] at hc
        obtain ⟨rfl, rfl⟩ := hc
        refine ⟨rfl, fun k hk R hR => ?_⟩
        rw [fop_other n1 n2 n3 n4, if_neg hv, hop]
        refine ⟨hG, hdt, ?_⟩
        unfold aeff
        dsimp only [atCx]
        rw [ht]
        simp only [hev]
        rw [hds, fresh_at hk.2]
        refine ⟨c1, c2, c3, c4, c5, c6, ?_⟩
        rw [← q2, ← q3] at hR
        exact hR
      · rename_i hds
        obtain ⟨c7, q2, q3, q4⟩ := h1
        subst q4
        simp only [chOf, hnm, Option.some.injEq, Prod.mk.injEq] at hc
        obtain ⟨rfl, rfl⟩ := hc
        refine ⟨rfl, fun k hk R hR => ?_⟩
        rw [fop_other n1 n2 n3 n4, if_neg hv, hop]
        refine ⟨hG, hdt, ?_⟩
        unfold aeff
        dsimp only [atCx]
        rw [ht]
        simp only [hev]
        rw [hds]
        refine ⟨c1, c2, c3, c4, c5, c6, c7, ?_⟩
        rw [← q2, ← q3] at hR
        exact hR
    · exact h1.elim
  case build t parts =>
    rw [hop] at hc
    have n1 : ∀ x, o.op = .move x → False := by simp [hop]
    have n2 : ∀ x, o.op = .assign x → False := by simp [hop]
    have n3 : ∀ x y z, o.op = .pick x y z → False := by simp [hop]
    have n4 : ∀ c, o.op = .call c → False := by simp [hop]
    have hv : ¬ isVal (atCx cx nm).P o.op = true := by rw [hop]; simp [isVal, isVal0]
    simp only [chOf, Option.some.injEq, Prod.mk.injEq] at hc
    obtain ⟨rfl, rfl⟩ := hc
    refine ⟨hne (by rw [hop]; rfl), fun k hk R hR => ?_⟩
    have h2 := h (fun g v _ => R g v k) hR
    rw [fop_other n1 n2 n3 n4, if_neg hv, hop] at h2
    obtain ⟨hG, hdt, h1⟩ := h2
    rw [fop_other n1 n2 n3 n4, if_neg hv, hop]
    refine ⟨hG, hdt, ?_⟩
    unfold aeff at h1 ⊢
    dsimp only [atCx] at h1 ⊢
    simp only [hev]
    exact h1
  case convert a b x =>
    rw [hop] at hc
    have n1 : ∀ x, o.op = .move x → False := by simp [hop]
    have n2 : ∀ x, o.op = .assign x → False := by simp [hop]
    have n3 : ∀ x y z, o.op = .pick x y z → False := by simp [hop]
    have n4 : ∀ c, o.op = .call c → False := by simp [hop]
    simp only [chOf, Option.some.injEq, Prod.mk.injEq] at hc
    obtain ⟨rfl, rfl⟩ := hc
    refine ⟨hne (by rw [hop]; rfl), fun k hk R hR => ?_⟩
    have h2 := h (fun g v _ => R g v k) hR
    rw [fop_other n1 n2 n3 n4, hop] at h2
    rw [fop_other n1 n2 n3 n4, hop]
    split at h2
    · rename_i hv
      rw [if_pos hv]
      have : aval (atCx cx nm).P { s with h := k } (.convert a b x) = aval (atCx cx nm).P s (.convert a b x) := by simp only [aval, hev]
      rw [this]
      exact h2
    · rename_i hv
      rw [if_neg hv]
      obtain ⟨hG, hdt, h1⟩ := h2
      refine ⟨hG, hdt, ?_⟩
      unfold aeff aextra at h1 ⊢
      dsimp only [atCx] at h1 ⊢
      split at h1
      · rename_i e ht1 ht2
        simp only [detOp, atCx, ht2] at hdt
        cases hdt
      · rename_i e ht1 ht2
        try rw [ht1, ht2]
        try dsimp only
        rw [hev k x, rowsK_at hk.1]
        exact h1
      · exact h1.elim
  case slice t x lo hi mx =>
    rw [hop] at hc
    have n1 : ∀ x, o.op = .move x → False := by simp [hop]
    have n2 : ∀ x, o.op = .assign x → False := by simp [hop]
    have n3 : ∀ x y z, o.op = .pick x y z → False := by simp [hop]
    have n4 : ∀ c, o.op = .call c → False := by simp [hop]
    simp only [chOf, Option.some.injEq, Prod.mk.injEq] at hc
    obtain ⟨rfl, rfl⟩ := hc
    refine ⟨hne (by rw [hop]; rfl), fun k hk R hR => ?_⟩
    have h2 := h (fun g v _ => R g v k) hR
    have hv : isVal (atCx cx nm).P o.op = true := by rw [hop]; rfl
    rw [fop_other n1 n2 n3 n4, if_pos hv, hop] at h2
    rw [fop_other n1 n2 n3 n4, if_pos hv, hop]
    have : aval (atCx cx nm).P { s with h := k } (.slice t x lo hi mx) = aval (atCx cx nm).P s (.slice t x lo hi mx) := by
      simp only [aval, hev]
      rw [avSlice_at hk.1]
    rw [this]
    exact h2
  case call c =>
    rw [hop] at hc
    simp only [chOf] at hc
    split at hc
    · -- append
      rename_i hcal
      split at hc
      · rename_i x y harg
        split at hc
        · rename_i i kk m off len hx
          have hv : ¬ isVal (atCx cx nm).P (.call c) = true := by simp [isVal, isVal0, hcal]
          have hco : ∀ k, callOf (atCx cx nm).P { s with h := k } c = Option.none := fun k => by simp [callOf, hcal]
          unfold fop at h0
          rw [hop] at h0
          dsimp only at h0
          rw [if_neg hv, hco s.h] at h0
          obtain ⟨hG, h1⟩ := h0
          unfold aeff aextra at h1
          dsimp only [atCx] at h1
          rw [hcal] at h1
          dsimp only at h1
          rw [harg] at h1
          split at h1
          · rename_i x' y' t u e1 e2
            simp only [List.cons.injEq, and_true] at e1
            obtain ⟨rfl, rfl⟩ := e1
            split at h1
            · rename_i e hte
              obtain ⟨c1, c2, c3, c4, c5, h1⟩ := h1
              split at h1
              · rename_i rows hr
                rw [hx] at h1
                dsimp only at h1
                split at h1
                · rename_i k' xs hi
                  obtain ⟨d1, d2, d3, d4, d5, d6, d7, q2, q3, q4⟩ := h1
                  subst q4
                  rw [hget_hset_same hi] at hc
                  simp only [Option.map_some, Option.some.injEq, Prod.mk.injEq] at hc
                  obtain ⟨rfl, rfl⟩ := hc
                  refine ⟨rfl, fun k hk R hR => ?_⟩
                  unfold fop
                  rw [hop]
                  dsimp only
                  rw [if_neg hv, hco k]
                  refine ⟨hG, ?_⟩
                  unfold aeff aextra
                  dsimp only [atCx]
                  rw [hcal]
                  dsimp only
                  rw [harg, e2]
                  dsimp only
                  rw [hte]
                  dsimp only
                  rw [hev k x, hev k y, rowsT_at hk.1, hr]
                  dsimp only
                  rw [hx]
                  dsimp only
                  rw [hk.2, hi]
                  refine ⟨c1, c2, c3, c4, c5, d1, d2, d3, d4, d5, d6, d7, ?_⟩
                  rw [← q2, ← q3] at hR
                  exact hR
                · exact h1.elim
              · exact h1.elim
            · exact h1.elim
          · exact h1.elim
        · cases hc
      · cases hc
    · -- len
      rename_i hcal
      split at hc
      · rename_i x harg
        simp only [Option.some.injEq, Prod.mk.injEq] at hc
        obtain ⟨rfl, rfl⟩ := hc
        have hv : isVal (atCx cx nm).P (.call c) = true := by simp [isVal, isVal0, hcal, isX]
        refine ⟨hne (by rw [hop]; simp [isEff, hcal]), fun k hk R hR => ?_⟩
        have h2 := h (fun g v _ => R g v k) hR
        unfold fop at h2 ⊢
        rw [hop] at h2 ⊢
        dsimp only at h2 ⊢
        rw [if_pos hv] at h2 ⊢
        have : aval (atCx cx nm).P { s with h := k } (.call c) = aval (atCx cx nm).P s (.call c) := by
          simp only [aval, avCall, hcal, harg]
          split
          · rename_i x' t e1 e2
            simp only [List.cons.injEq, and_true] at e1
            subst e1
            simp only [hev]
            rw [avLen_at hk.1]
          · rfl
        rw [this]
        exact h2
      · cases hc
    · -- a function's call
      split at hc
      · rename_i hf
        simp only [Option.some.injEq, Prod.mk.injEq] at hc
        obtain ⟨rfl, rfl⟩ := hc
        obtain ⟨q1, q2⟩ := ff1 (by rw [hop]; exact hf)
        rw [hop] at q1
        exact ⟨hne (by rw [hop]; exact q1), fun k _ R hR => q2 k R hR⟩
      · cases hc
    · cases hc
  all_goals (exact old (by rw [hop]; rfl))
end
end Go.Aw
