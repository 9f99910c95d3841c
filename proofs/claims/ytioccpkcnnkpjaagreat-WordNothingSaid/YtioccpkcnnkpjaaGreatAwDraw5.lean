/-
  Regions that draw their order, told by footprints: what touches unlike objects needs no bond.
-/
import Derived.Test.YtioccpkcnnkpjaaGreatAwDraw4
namespace Go.Aw
set_option maxRecDepth 100000
set_option linter.unusedSimpArgs false
set_option linter.unusedVariables false
open Go

/-- What an operation touches of the private heap: nothing; one object; whatever there is. -/
inductive Foot where
  | cold | on (i : Nat) | new (i : Nat) | whole
  deriving DecidableEq

def Foot.meets : Foot → Foot → Bool
  | .cold, _ => false
  | _, .cold => false
  | .on i, .on j => i == j
  | .on i, .new j => i == j
  | .new i, .on j => i == j
  | _, _ => true

def footA : AV → Foot
  | .vp _ _ => .cold
  | .tp _ _ => .cold
  | .dp _ => .cold
  | .d _ => .cold
  | .ap i _ _ _ _ => .on i
  | .osl i _ _ _ _ => .on i
  | _ => .whole
def footL : AV → Foot
  | .vp i _ => .on i
  | .tp i _ => .on i
  | .dp _ => .cold
  | .ap i _ _ _ _ => .on i
  | _ => .whole

def foot (fl : Nat) (P : Program) (s : AS) (op : Op) : Foot :=
  match op with
  | .alloc _ => .new (fresh fl s.h)
  | .call c => (match callOf P s c with
    | some (_, args, _) => if AV.idsL args = [] then .cold else .whole
    | none => .whole)
  | .move _ => .cold
  | .assign _ => .cold
  | .pick _ _ _ => .cold
  | .binOp o t x y u => if isVal P (.binOp o t x y u) then .cold else .whole
  | .unOp _ _ _ => .cold
  | .extract _ _ => .cold
  | .field _ _ _ => .cold
  | .fieldAddr _ x _ => footA (s.ev x).2
  | .indexAddr _ x _ => footA (s.ev x).2
  | .load _ x => footL (s.ev x).2
  | .store _ x _ => (match (s.ev x).2 with
    | .vp i _ => .on i
    | .tp i _ => .on i
    | .ap i _ _ _ _ => .on i
    | _ => .whole)
  | _ => .whole

def confF (all : Array Oper) (fa fb : Foot) (a b : Oper) : Bool :=
  (match a.dst with
    | some d => (slotsOf all b).contains d || b.dst == some d
    | none => false) ||
  (match b.dst with
    | some d => (slotsOf all a).contains d
    | none => false) ||
  ((isEff a.op || isEff b.op) && fa.meets fb)

def drawOkF (ops : Array Oper) (F : List Foot) : Bool :=
  (List.range ops.size).all fun j => match ops[j]? with
    | some b => (b.after.toList.all fun e => !Region.binds .any e || decide (e.on < j)) && (List.range j).all fun i => match ops[i]? with
      | some a => !confF ops (F.getD i .whole) (F.getD j .whole) a b || anc ops (j + 1) j i
      | none => true
    | none => true

abbrev ResF := Res × Foot

def effH (r : ResF) (h : AHeap) : AHeap :=
  if isEff r.1.1.op = true then (match r.2 with
    | .on i => (match hget r.1.2.2.2 i with
      | some o => hset h i o
      | none => h)
    | .new i => (match hget r.1.2.2.2 i with
      | some o => (i, o) :: h
      | none => h)
    | _ => r.1.2.2.2) else h

def appF (s : AS) (r : ResF) : AS := { s with h := effH r s.h }.put r.1.1.dst r.1.2.1 r.1.2.2.1

def selF : List ResF → (Nat → Bool) → AS → AS
  | [], _, s => s
  | x :: L, S, s => selF L (fun i => S (i + 1)) (if S 0 = true then appF s x else s)

theorem appF_h (s : AS) (r : ResF) : (appF s r).h = effH r s.h := by
  unfold appF AS.put; cases r.1.1.dst <;> rfl
theorem appF_g (s : AS) (r : ResF) : (appF s r).g = s.g := by
  unfold appF AS.put; cases r.1.1.dst <;> rfl
theorem appF_lk (s : AS) (r : ResF) (k : Nat) : lk (appF s r).t k = if r.1.1.dst = some k then some (r.1.2.1, r.1.2.2.1) else lk s.t k := by
  unfold appF
  rw [put_lk]

theorem selF_lk {Q : Nat → Prop} : ∀ (L : List ResF) (S S' : Nat → Bool) (s s' : AS), (∀ k, Q k → lk s.t k = lk s'.t k) → (∀ (i : Nat) (r : ResF), L[i]? = some r → (∃ d, r.1.1.dst = some d ∧ Q d) → S i = S' i) →
    ∀ k, Q k → lk (selF L S s).t k = lk (selF L S' s').t k
  | [], _, _, _, _, h, _ => h
  | x :: L, S, S', s, s', h, hS => by
    refine selF_lk L _ _ _ _ (fun k hk => ?_) (fun i r hr hd => hS (i + 1) r (by simpa using hr) hd)
    by_cases hd : x.1.1.dst = some k
    · have := hS 0 x rfl ⟨k, hd, hk⟩
      rw [this]
      split
      · rw [appF_lk, appF_lk, if_pos hd, if_pos hd]
      · exact h k hk
    · have e1 : ∀ (b : Bool) (u : AS), lk (if b = true then appF u x else u).t k = lk u.t k := fun b u => by
        split
        · rw [appF_lk, if_neg hd]
        · rfl
      rw [e1, e1]
      exact h k hk

/-- The whole heap agrees where all effects do. -/
theorem selF_h : ∀ (L : List ResF) (S S' : Nat → Bool) (s s' : AS), s.h = s'.h → (∀ (i : Nat) (r : ResF), L[i]? = some r → isEff r.1.1.op = true → S i = S' i) → (selF L S s).h = (selF L S' s').h
  | [], _, _, _, _, h, _ => h
  | x :: L, S, S', s, s', h, hS => by
    refine selF_h L _ _ _ _ ?_ (fun i r hr he => hS (i + 1) r (by simpa using hr) he)
    by_cases he : isEff x.1.1.op = true
    · have := hS 0 x rfl he
      rw [this]
      split
      · rw [appF_h, appF_h, h]
      · exact h
    · have e1 : ∀ (b : Bool) (u : AS), (if b = true then appF u x else u).h = u.h := fun b u => by
        split
        · rw [appF_h]; unfold effH; rw [if_neg he]
        · rfl
      rw [e1, e1]
      exact h

theorem hset_none : ∀ {h : AHeap} {j : Nat} {o : AObj}, hget h j = none → hset h j o = h
  | [], _, _, _ => rfl
  | (k, x) :: r, j, o, hn => by
    simp only [hget] at hn
    simp only [hset]
    split
    · rename_i e; rw [if_pos e] at hn; cases hn
    · rename_i e
      rw [if_neg e] at hn
      rw [hset_none hn]

/-- One object agrees where the effects on it do. -/
theorem selF_hget (k : Nat) : ∀ (L : List ResF) (S S' : Nat → Bool) (s s' : AS), hget s.h k = hget s'.h k → (∀ (i : Nat) (r : ResF), L[i]? = some r → isEff r.1.1.op = true → r.2.meets (.on k) = true → S i = S' i) →
    (∀ (i : Nat) (r : ResF), L[i]? = some r → isEff r.1.1.op = true → r.2 ≠ .cold) → hget (selF L S s).h k = hget (selF L S' s').h k
  | [], _, _, _, _, h, _, _ => h
  | x :: L, S, S', s, s', h, hS, hc => by
    refine selF_hget k L _ _ _ _ ?_ (fun i r hr he hm => hS (i + 1) r (by simpa using hr) he hm) (fun i r hr he => hc (i + 1) r (by simpa using hr) he)
    by_cases he : isEff x.1.1.op = true
    · by_cases hm : x.2.meets (.on k) = true
      · have := hS 0 x rfl he hm
        rw [this]
        split
        · rw [appF_h, appF_h]
          unfold effH
          rw [if_pos he, if_pos he]
          split
          · rename_i j hj
            rw [hj] at hm
            have hjk : j = k := by simpa [Foot.meets] using hm
            subst hjk
            split
            · rename_i o ho
              by_cases hs : (hget s.h j).isSome
              · obtain ⟨o1, h1⟩ := Option.isSome_iff_exists.1 hs
                rw [hget_hset_same h1, hget_hset_same (h ▸ h1)]
              · have n1 : hget s.h j = none := by simpa using hs
                rw [hset_none n1, hset_none (h ▸ n1)]; exact h
            · exact h
          · rename_i j hj
            rw [hj] at hm
            have hjk : j = k := by simpa [Foot.meets] using hm
            subst hjk
            split
            · simp [hget]
            · exact h
          · rfl
        · exact h
      · have hat : ∃ j, (x.2 = .on j ∨ x.2 = .new j) ∧ j ≠ k := by
          have := hc 0 x rfl he
          cases hx : x.2 with
          | cold => exact absurd hx this
          | on j => refine ⟨j, .inl rfl, ?_⟩; rintro rfl; exact hm (by rw [hx]; simp [Foot.meets])
          | new j => refine ⟨j, .inr rfl, ?_⟩; rintro rfl; exact hm (by rw [hx]; simp [Foot.meets])
          | whole => exact absurd (by rw [hx]; rfl) hm
        obtain ⟨j, hj, hne⟩ := hat
        have e1 : ∀ (b : Bool) (u : AS), hget (if b = true then appF u x else u).h k = hget u.h k := fun b u => by
          split
          · rw [appF_h]
            unfold effH
            rw [if_pos he]
            rcases hj with hj | hj
            · rw [hj]
              dsimp only
              split
              · exact hget_hset_other (Ne.symm hne)
              · rfl
            · rw [hj]
              dsimp only
              split
              · simp [hget, hne]
              · rfl
          · rfl
        rw [e1, e1]
        exact h
    · have e1 : ∀ (b : Bool) (u : AS), (if b = true then appF u x else u).h = u.h := fun b u => by
        split
        · rw [appF_h]; unfold effH; rw [if_neg he]
        · rfl
      rw [e1, e1]
      exact h

theorem hset_comm : ∀ (h : AHeap) {i j : Nat} {a b : AObj}, i ≠ j → hset (hset h i a) j b = hset (hset h j b) i a
  | [], i, j, a, b, _ => rfl
  | (k, x) :: r, i, j, a, b, hne => by
    by_cases h1 : k = i
    · subst h1
      simp [hset, hne]
    · by_cases h2 : k = j
      · subst h2
        simp [hset, h1]
      · simp [hset, h1, h2, hset_comm r hne]

/-- An update of one object goes behind effects on others. -/
theorem selF_past (k : Nat) (ob : AObj) : ∀ (L : List ResF) (S : Nat → Bool) (s : AS), (∀ (i : Nat) (r : ResF), L[i]? = some r → isEff r.1.1.op = true → S i = true → ∃ j, (r.2 = .on j ∨ r.2 = .new j) ∧ j ≠ k) →
    ∀ s2 : AS, s2.h = hset s.h k ob → (selF L S s2).h = hset (selF L S s).h k ob
  | [], _, s, _, s2, h2 => h2
  | x :: L, S, s, hS, s2, h2 => by
    refine selF_past k ob L _ _ (fun i r hr he hs => hS (i + 1) r (by simpa using hr) he hs) _ ?_
    split
    · rename_i hs0
      rw [appF_h, appF_h, h2]
      unfold effH
      split
      · rename_i he
        obtain ⟨j, hj, hne⟩ := hS 0 x rfl he hs0
        rcases hj with hj | hj
        · rw [hj]
          dsimp only
          split
          · exact hset_comm _ (Ne.symm hne)
          · rfl
        · rw [hj]
          dsimp only
          split
          · simp [hset, hne]
          · rfl
      · rfl
    · exact h2

/-- A further operation on one object, taken in at its place. -/
theorem selF_in (k : Nat) (ob : AObj) : ∀ (L : List ResF) (n : Nat) (r : ResF) (S : Nat → Bool) (s : AS), L[n]? = some r → S n = false → isEff r.1.1.op = true → r.2 = .on k → hget r.1.2.2.2 k = some ob →
    (∀ (i : Nat) (r' : ResF), L[i]? = some r' → n < i → isEff r'.1.1.op = true → S i = true → ∃ j, (r'.2 = .on j ∨ r'.2 = .new j) ∧ j ≠ k) →
    (selF L (fun i => if i = n then true else S i) s).h = hset (selF L S s).h k ob
  | [], n, r, S, s, hr, _, _, _, _, _ => by simp at hr
  | x :: L, 0, r, S, s, hr, hS, he, hf, ho, hl => by
    have : x = r := by simpa using hr
    subst this
    simp only [selF, if_true, hS, Bool.false_eq_true, if_false, Nat.succ_ne_zero]
    refine selF_past k ob L _ _ (fun i r' hr' he' hs' => hl (i + 1) r' (by simpa using hr') (by omega) he' hs') _ ?_
    rw [appF_h]
    unfold effH
    rw [if_pos he, hf]
    dsimp only
    rw [ho]
  | x :: L, n + 1, r, S, s, hr, hS, he, hf, ho, hl => by
    have e0 : (if (0 : Nat) = n + 1 then true else S 0) = S 0 := if_neg (by omega)
    simp only [selF, e0]
    have e1 : (fun i => if i + 1 = n + 1 then true else S (i + 1)) = (fun i => if i = n then true else S (i + 1)) := by
      funext i
      by_cases h : i = n
      · simp [h]
      · simp [h]
    rw [e1]
    exact selF_in k ob L n r (fun i => S (i + 1)) _ (by simpa using hr) hS he hf ho (fun i r' hr' hi he' hs' => hl (i + 1) r' (by simpa using hr') (by omega) he' hs')

/-- A new object goes behind effects on others. -/
theorem selF_past_new (k : Nat) (ob : AObj) : ∀ (L : List ResF) (S : Nat → Bool) (s : AS), (∀ (i : Nat) (r : ResF), L[i]? = some r → isEff r.1.1.op = true → S i = true → ∃ j, r.2 = .on j ∧ j ≠ k) →
    ∀ s2 : AS, s2.h = (k, ob) :: s.h → (selF L S s2).h = (k, ob) :: (selF L S s).h
  | [], _, s, _, s2, h2 => h2
  | x :: L, S, s, hS, s2, h2 => by
    refine selF_past_new k ob L _ _ (fun i r hr he hs => hS (i + 1) r (by simpa using hr) he hs) _ ?_
    split
    · rename_i hs0
      rw [appF_h, appF_h, h2]
      unfold effH
      split
      · rename_i he
        obtain ⟨j, hj, hne⟩ := hS 0 x rfl he hs0
        rw [hj]
        dsimp only
        split
        · simp [hset, Ne.symm hne]
        · rfl
      · rfl
    · exact h2

theorem selF_in_new (k : Nat) (ob : AObj) : ∀ (L : List ResF) (n : Nat) (r : ResF) (S : Nat → Bool) (s : AS), L[n]? = some r → S n = false → isEff r.1.1.op = true → r.2 = .new k → hget r.1.2.2.2 k = some ob →
    (∀ (i : Nat) (r' : ResF), L[i]? = some r' → n < i → isEff r'.1.1.op = true → S i = true → ∃ j, r'.2 = .on j ∧ j ≠ k) → 
    (∀ (i : Nat) (r' : ResF), L[i]? = some r' → i < n → isEff r'.1.1.op = true → S i = true → True) →
    (selF L (fun i => if i = n then true else S i) s).h = (k, ob) :: (selF L S s).h
  | [], n, r, S, s, hr, _, _, _, _, _, _ => by simp at hr
  | x :: L, 0, r, S, s, hr, hS, he, hf, ho, hl, _ => by
    have : x = r := by simpa using hr
    subst this
    simp only [selF, if_true, hS, Bool.false_eq_true, if_false, Nat.succ_ne_zero]
    refine selF_past_new k ob L _ _ (fun i r' hr' he' hs' => hl (i + 1) r' (by simpa using hr') (by omega) he' hs') _ ?_
    rw [appF_h]
    unfold effH
    rw [if_pos he, hf]
    dsimp only
    rw [ho]
  | x :: L, n + 1, r, S, s, hr, hS, he, hf, ho, hl, hb => by
    have e0 : (if (0 : Nat) = n + 1 then true else S 0) = S 0 := if_neg (by omega)
    simp only [selF, e0]
    have e1 : (fun i => if i + 1 = n + 1 then true else S (i + 1)) = (fun i => if i = n then true else S (i + 1)) := by
      funext i
      by_cases h : i = n
      · simp [h]
      · simp [h]
    rw [e1]
    exact selF_in_new k ob L n r (fun i => S (i + 1)) _ (by simpa using hr) hS he hf ho (fun i r' hr' hi he' hs' => hl (i + 1) r' (by simpa using hr') (by omega) he' hs') (fun _ _ _ _ _ _ => trivial)

theorem hset_keys : ∀ (h : AHeap) (k : Nat) (ob : AObj), (hset h k ob).map (·.1) = h.map (·.1)
  | [], _, _ => rfl
  | (j, x) :: r, k, ob => by
    simp only [hset]
    split
    · rename_i e; subst e; rfl
    · simp [hset_keys r k ob]

/-- The names agree where all but updates do. -/
theorem selF_keys : ∀ (L : List ResF) (S S' : Nat → Bool) (s s' : AS), s.h.map (·.1) = s'.h.map (·.1) → (∀ (i : Nat) (r : ResF), L[i]? = some r → isEff r.1.1.op = true → (∀ j, r.2 ≠ .on j) → S i = S' i) → (selF L S s).h.map (·.1) = (selF L S' s').h.map (·.1)
  | [], _, _, _, _, h, _ => h
  | x :: L, S, S', s, s', h, hS => by
    refine selF_keys L _ _ _ _ ?_ (fun i r hr he hn => hS (i + 1) r (by simpa using hr) he hn)
    by_cases he : isEff x.1.1.op = true
    · by_cases hn : ∀ j, x.2 ≠ .on j
      · rw [hS 0 x rfl he hn]
        split
        · rw [appF_h, appF_h]
          unfold effH
          rw [if_pos he, if_pos he]
          split
          · rename_i j hj; exact absurd hj (hn j)
          · split
            · simp [h]
            · exact h
          · rfl
        · exact h
      · obtain ⟨j, hj⟩ : ∃ j, x.2 = .on j := by
          cases hx : x.2 with
          | on j => exact ⟨j, rfl⟩
          | _ => exact absurd (fun j => by rw [hx]; exact fun e => by cases e) hn
        have e1 : ∀ (b : Bool) (u : AS), (if b = true then appF u x else u).h.map (·.1) = u.h.map (·.1) := fun b u => by
          split
          · rw [appF_h]
            unfold effH
            rw [if_pos he, hj]
            dsimp only
            split
            · exact hset_keys _ _ _
            · rfl
          · rfl
        rw [e1, e1]
        exact h
    · have e1 : ∀ (b : Bool) (u : AS), (if b = true then appF u x else u).h = u.h := fun b u => by
        split
        · rw [appF_h]; unfold effH; rw [if_neg he]
        · rfl
      rw [e1, e1]
      exact h

theorem hget_keys : ∀ {h h' : AHeap} {i : Nat}, h.map (·.1) = h'.map (·.1) → (hget h i).isSome = (hget h' i).isSome
  | [], [], _, _ => rfl
  | [], _ :: _, _, e => by simp at e
  | _ :: _, [], _, e => by simp at e
  | (k, x) :: r, (k', x') :: r', i, e => by
    simp only [List.map_cons, List.cons.injEq] at e
    simp only [hget]
    rw [e.1]
    split
    · rfl
    · exact hget_keys e.2
theorem top_keys {fl : Nat} : ∀ {h h' : AHeap}, h.map (·.1) = h'.map (·.1) → top fl h = top fl h'
  | [], [], _ => rfl
  | [], _ :: _, e => by simp at e
  | _ :: _, [], e => by simp at e
  | (k, x) :: r, (k', x') :: r', e => by
    simp only [List.map_cons, List.cons.injEq] at e
    simp only [top]
    rw [e.1, top_keys e.2]
theorem fresh_keys {fl : Nat} {h h' : AHeap} (e : h.map (·.1) = h'.map (·.1)) : fresh fl h = fresh fl h' := by
  unfold fresh
  rw [hget_keys e, top_keys e]

theorem selF_g : ∀ (L : List ResF) (S : Nat → Bool) (s : AS), (selF L S s).g = s.g
  | [], _, _ => rfl
  | x :: L, S, s => by
    rw [selF, selF_g L]
    split
    · exact appF_g _ _
    · rfl

def lexF (L : List ResF) (n : Nat) (s : AS) : AS := selF L (fun i => decide (i < n)) s

theorem lexF_zero : ∀ (L : List ResF) (s : AS), lexF L 0 s = s
  | [], s => rfl
  | x :: L, s => by
    unfold lexF selF
    have := lexF_zero L s
    unfold lexF at this
    simpa using this

theorem lexF_succ (x : ResF) (L : List ResF) (n : Nat) (s : AS) : lexF (x :: L) (n + 1) s = lexF L n (appF s x) := by
  unfold lexF
  rw [selF]
  simp

theorem lexF_step : ∀ (L : List ResF) (n : Nat) (s : AS) (r : ResF), L[n]? = some r → lexF L (n + 1) s = appF (lexF L n s) r
  | [], n, s, r, h => by simp at h
  | x :: L, 0, s, r, h => by
    have : x = r := by simpa using h
    subst this
    rw [lexF_succ, lexF_zero, lexF_zero]
  | x :: L, n + 1, s, r, h => by
    rw [lexF_succ, lexF_succ]
    exact lexF_step L n _ r (by simpa using h)

section
variable {cx : Cx} {tab : Tab} {s : AS}

/-- The operations in the order of the text, their footprints beside them. -/
def fopsF (cx : Cx) (tab : Tab) (all : Array Oper) : List Oper → List Foot → (AS → Prop) → AS → Prop
  | [], F, K, s => drawOkF all F.reverse = true ∧ K s
  | o :: r, F, K, s => match guardOf s all o.guard with
    | some G => dstOk cx.nt o.dst ∧ fop cx tab s G o (fun g v h' => fopsF cx tab all r (foot cx.fl cx.P s o.op :: F) K ({ s with h := h' }.put o.dst g v))
    | none => False

theorem cur_foot {k : AHeap} {i n kk : Nat} (e : hget k i = hget s.h i) : AS.cur { s with h := k } i n kk = AS.cur s i n kk := by unfold AS.cur; dsimp only; rw [e]

theorem avIndexAddr_foot {P : Program} {t : TypeId} {x y : AV} {k : AHeap} (hf : footA x = .cold ∨ ∃ i, footA x = .on i ∧ hget k i = hget s.h i) : avIndexAddr P { s with h := k } t x y = avIndexAddr P s t x y := by
  unfold avIndexAddr
  cases y with
  | d z =>
    cases z with
    | int kk j =>
      dsimp only
      generalize (ty P t).td = dd
      cases x with
      | osl i k' n off len =>
        have e : hget k i = hget s.h i := by
          rcases hf with h | ⟨j, h, e⟩
          · cases h
          · simp only [footA, Foot.on.injEq] at h; subst h; exact e
        cases dd <;> first | rfl | simp only [cur_foot e]
      | ap i n k' r off =>
        have e : hget k i = hget s.h i := by
          rcases hf with h | ⟨j, h, e⟩
          · cases h
          · simp only [footA, Foot.on.injEq] at h; subst h; exact e
        cases dd <;> first | rfl | simp only [cur_foot e]
      | d z => cases dd <;> cases z <;> rfl
      | _ => cases dd <;> rfl
    | _ => rfl
  | _ => rfl

theorem avFieldAddr_foot {P : Program} {t : TypeId} {x : AV} {f : Nat} {k : AHeap} (hf : footA x = .cold ∨ ∃ i, footA x = .on i ∧ hget k i = hget s.h i) : avFieldAddr P { s with h := k } t x f = avFieldAddr P s t x f := by
  unfold avFieldAddr
  split
  · cases x with
    | ap i n k' r off =>
      have e : hget k i = hget s.h i := by
        rcases hf with h | ⟨j, h, e⟩
        · cases h
        · simp only [footA, Foot.on.injEq] at h; subst h; exact e
      simp only [cur_foot e]
    | _ => rfl
  · rfl

theorem avLoad_foot {P : Program} {t : TypeId} {x : AV} {k : AHeap} (hf : footL x = .cold ∨ ∃ i, footL x = .on i ∧ hget k i = hget s.h i) : avLoad P { s with h := k } t x = avLoad P s t x := by
  unfold avLoad
  cases x with
  | ap i n k' r off =>
    have e : hget k i = hget s.h i := by
      rcases hf with h | ⟨j, h, e⟩
      · cases h
      · simp only [footL, Foot.on.injEq] at h; subst h; exact e
    simp only [e]
  | vp i off =>
    have e : hget k i = hget s.h i := by
      rcases hf with h | ⟨j, h, e⟩
      · cases h
      · simp only [footL, Foot.on.injEq] at h; subst h; exact e
    simp only [e]
  | tp i off =>
    have e : hget k i = hget s.h i := by
      rcases hf with h | ⟨j, h, e⟩
      · cases h
      · simp only [footL, Foot.on.injEq] at h; subst h; exact e
    simp only [e]
  | _ => rfl

/-- What touches one object alone, or none, comes to the same over another heap that agrees there. -/
theorem fop_foot {G : Bool} {o : Oper} {g : Bool} {v : AV} {h' : AHeap} (h : ∀ R : Bool → AV → AHeap → Prop, R g v h' → fop cx tab s G o R) (hne : isEff o.op = false → h' = s.h) :
    (foot cx.fl cx.P s o.op = .cold → isEff o.op = false ∧ ∀ (k : AHeap) (R : Bool → AV → AHeap → Prop), R g v k → fop cx tab { s with h := k } G o R) ∧
    (∀ i, foot cx.fl cx.P s o.op = .on i → ∀ (k : AHeap), hget k i = hget s.h i → (isEff o.op = false → ∀ R : Bool → AV → AHeap → Prop, R g v k → fop cx tab { s with h := k } G o R) ∧
      (isEff o.op = true → ∃ ob, hget h' i = some ob ∧ h' = hset s.h i ob ∧ ∀ R : Bool → AV → AHeap → Prop, R g v (hset k i ob) → fop cx tab { s with h := k } G o R)) := by
  have hev : ∀ (k : AHeap) (x : Operand), AS.ev { s with h := k } x = s.ev x := fun k x => by cases x <;> rfl
  have hkn : ∀ (k : AHeap) (x : Operand), known { s with h := k } x = known s x := fun k x => by cases x <;> rfl
  -- operations that hand back a value
  have val : ∀ (k : AHeap), isVal cx.P o.op = true → (∀ x, o.op = .move x → False) → (∀ x, o.op = .assign x → False) → (∀ x y z, o.op = .pick x y z → False) → (∀ c, o.op = .call c → False) → aval cx.P { s with h := k } o.op = aval cx.P s o.op →
      ∀ (k' : AHeap) (R : Bool → AV → AHeap → Prop), k' = k → R g v k' → fop cx tab { s with h := k } G o R := by
    intro k hv n1 n2 n3 n4 ha k' R hk hR
    subst hk
    have h1 := h (fun g v _ => R g v k') hR
    rw [fop_other n1 n2 n3 n4, if_pos hv] at h1 ⊢
    rw [ha]
    exact h1
  have nv : ∀ (k : AHeap) (R : Bool → AV → AHeap → Prop), isVal cx.P o.op = true → (∀ x, o.op = .move x → False) → (∀ x, o.op = .assign x → False) → (∀ x y z, o.op = .pick x y z → False) → (∀ c, o.op = .call c → False) → aval cx.P { s with h := k } o.op = aval cx.P s o.op → R g v k → fop cx tab { s with h := k } G o R := fun k R hv n1 n2 n3 n4 ha hR => val k hv n1 n2 n3 n4 ha k R rfl hR
  have cur : ∀ (k : AHeap) (i n kk : Nat), hget k i = hget s.h i → AS.cur { s with h := k } i n kk = AS.cur s i n kk := fun k i n kk e => by unfold AS.cur; dsimp only; rw [e]
  constructor
  · intro hf
    cases hop : o.op
    case move x =>
      refine ⟨rfl, fun k R hR => ?_⟩
      have h1 := h (fun g v _ => R g v k) hR
      unfold fop at h1 ⊢
      rw [hop] at h1 ⊢
      simp only [hev, hkn] at h1 ⊢
      exact h1
    case assign x =>
      refine ⟨rfl, fun k R hR => ?_⟩
      have h1 := h (fun g v _ => R g v k) hR
      unfold fop at h1 ⊢
      rw [hop] at h1 ⊢
      simp only [hev, hkn] at h1 ⊢
      exact h1
    case pick c a b =>
      refine ⟨rfl, fun k R hR => ?_⟩
      have h1 := h (fun g v _ => R g v k) hR
      unfold fop at h1 ⊢
      rw [hop] at h1 ⊢
      simp only [hev] at h1 ⊢
      exact h1
    case binOp bo t x y u =>
      rw [hop] at hf
      simp only [foot] at hf
      split at hf
      · rename_i hv
        refine ⟨rfl, fun k R hR => nv k R (by rw [hop]; exact hv) (by simp [hop]) (by simp [hop]) (by simp [hop]) (by simp [hop]) (by rw [hop]; simp only [aval, hev]) hR⟩
      · cases hf
    case unOp a b c => exact ⟨rfl, fun k R hR => nv k R (by rw [hop]; rfl) (by simp [hop]) (by simp [hop]) (by simp [hop]) (by simp [hop]) (by rw [hop]; simp only [aval, hev]) hR⟩
    case extract a b => exact ⟨rfl, fun k R hR => nv k R (by rw [hop]; rfl) (by simp [hop]) (by simp [hop]) (by simp [hop]) (by simp [hop]) (by rw [hop]; simp only [aval, hev]) hR⟩
    case field a b c => exact ⟨rfl, fun k R hR => nv k R (by rw [hop]; rfl) (by simp [hop]) (by simp [hop]) (by simp [hop]) (by simp [hop]) (by rw [hop]; simp only [aval, hev]) hR⟩
    case fieldAddr a x c =>
      rw [hop] at hf
      simp only [foot] at hf
      refine ⟨rfl, fun k R hR => nv k R (by rw [hop]; rfl) (by simp [hop]) (by simp [hop]) (by simp [hop]) (by simp [hop]) ?_ hR⟩
      rw [hop]
      simp only [aval, hev, avFieldAddr_foot (.inl hf)]
    case indexAddr a x y =>
      rw [hop] at hf
      simp only [foot] at hf
      refine ⟨rfl, fun k R hR => nv k R (by rw [hop]; rfl) (by simp [hop]) (by simp [hop]) (by simp [hop]) (by simp [hop]) ?_ hR⟩
      rw [hop]
      simp only [aval, hev, avIndexAddr_foot (.inl hf)]
    case load a x =>
      rw [hop] at hf
      simp only [foot] at hf
      refine ⟨rfl, fun k R hR => nv k R (by rw [hop]; rfl) (by simp [hop]) (by simp [hop]) (by simp [hop]) (by simp [hop]) ?_ hR⟩
      rw [hop]
      simp only [aval, hev, avLoad_foot (.inl hf)]
    case store a x y =>
      rw [hop] at hf
      simp only [foot] at hf
      split at hf <;> cases hf
    case call c =>
      rw [hop] at hf
      simp only [foot] at hf
      cases hco : callOf cx.P s c with
      | none => rw [hco] at hf; cases hf
      | some q =>
        obtain ⟨f, args, vc⟩ := q
        rw [hco] at hf
        dsimp only at hf
        split at hf
        · rename_i hids
          have hco' : ∀ k, callOf cx.P { s with h := k } c = some (f, args, vc) := fun k => by
            rw [← hco]; unfold callOf; cases c.callee <;> simp only [hev]
          obtain ⟨fo, hcal⟩ : ∃ fo, c.callee = .value fo := by
            unfold callOf at hco
            cases hc : c.callee <;> rw [hc] at hco <;> first | exact ⟨_, rfl⟩ | cases hco
          refine ⟨by simp [isEff, hcal], fun k R hR => ?_⟩
          have h1 := h (fun g v _ => R g v k) hR
          unfold fop at h1 ⊢
          rw [hop] at h1 ⊢
          dsimp only at h1 ⊢
          have hv : ¬ isVal cx.P (.call c) = true := by simp [isVal, isVal0, hcal]
          rw [if_neg hv, hco] at h1
          rw [if_neg hv, hco']
          dsimp only at h1 ⊢
          rw [frzL_nil args 9 k s.h hids]
          cases htb : tab f (args.map (frz 9 s.h)) with
          | none => rw [htb] at h1; exact h1.elim
          | some pr =>
            obtain ⟨pre, r⟩ := pr
            rw [htb] at h1
            exact h1
        · cases hf
    all_goals (rw [hop] at hf; simp only [foot] at hf; cases hf)
  · intro i hf k hk
    cases hop : o.op
    case binOp bo t x y u =>
      rw [hop] at hf
      simp only [foot] at hf
      split at hf <;> cases hf
    case fieldAddr a x c =>
      rw [hop] at hf
      simp only [foot] at hf
      refine ⟨fun _ R hR => nv k R (by rw [hop]; rfl) (by simp [hop]) (by simp [hop]) (by simp [hop]) (by simp [hop]) ?_ hR, fun e => by cases e⟩
      rw [hop]
      simp only [aval, hev, avFieldAddr_foot (.inr ⟨i, hf, hk⟩)]
    case indexAddr a x y =>
      rw [hop] at hf
      simp only [foot] at hf
      refine ⟨fun _ R hR => nv k R (by rw [hop]; rfl) (by simp [hop]) (by simp [hop]) (by simp [hop]) (by simp [hop]) ?_ hR, fun e => by cases e⟩
      rw [hop]
      simp only [aval, hev, avIndexAddr_foot (.inr ⟨i, hf, hk⟩)]
    case load a x =>
      rw [hop] at hf
      simp only [foot] at hf
      refine ⟨fun _ R hR => nv k R (by rw [hop]; rfl) (by simp [hop]) (by simp [hop]) (by simp [hop]) (by simp [hop]) ?_ hR, fun e => by cases e⟩
      rw [hop]
      simp only [aval, hev, avLoad_foot (.inr ⟨i, hf, hk⟩)]
    case store t x y =>
      rw [hop] at hf
      simp only [foot] at hf
      refine ⟨fun e => (by cases e), fun _ => ?_⟩
      have h1 := h (fun g1 v1 h1 => g1 = g ∧ v1 = v ∧ h1 = h') ⟨rfl, rfl, rfl⟩
      have n1 : ∀ x, o.op = .move x → False := by simp [hop]
      have n2 : ∀ x, o.op = .assign x → False := by simp [hop]
      have n3 : ∀ x y z, o.op = .pick x y z → False := by simp [hop]
      have n4 : ∀ c, o.op = .call c → False := by simp [hop]
      rw [fop_other n1 n2 n3 n4] at h1
      have hv : ¬ isVal cx.P o.op = true := by rw [hop]; simp [isVal, isVal0]
      rw [if_neg hv, hop] at h1
      obtain ⟨rfl, hdt, h1⟩ := h1
      unfold aeff at h1
      dsimp only at h1
      obtain ⟨q1, q2, q3, q4, q5, h1⟩ := h1
      split at h1
      · rename_i i' off hx
        rw [hx] at hf
        simp only [Foot.on.injEq] at hf
        subst hf
        split at h1
        · rename_i cs hi
          obtain ⟨q6, q7, q8, q9⟩ := h1
          refine ⟨_, by rw [← q9]; exact hget_hset_same hi, q9.symm, fun R hR => ?_⟩
          rw [fop_other n1 n2 n3 n4, if_neg hv, hop]
          refine ⟨q7.symm ▸ rfl, hdt, ?_⟩
          unfold aeff
          dsimp only
          simp only [hev]
          refine ⟨q1, q2, q3, q4, q5, ?_⟩
          rw [hx]
          dsimp only
          rw [hk, hi]
          refine ⟨q6, ?_⟩
          rw [← q7, ← q8] at hR
          exact hR
        · exact h1.elim
      · rename_i i' off hx
        rw [hx] at hf
        simp only [Foot.on.injEq] at hf
        subst hf
        split at h1
        · rename_i tt cs hi
          obtain ⟨q6, q7, q8, q9⟩ := h1
          refine ⟨_, by rw [← q9]; exact hget_hset_same hi, q9.symm, fun R hR => ?_⟩
          rw [fop_other n1 n2 n3 n4, if_neg hv, hop]
          refine ⟨q7.symm ▸ rfl, hdt, ?_⟩
          unfold aeff
          dsimp only
          simp only [hev]
          refine ⟨q1, q2, q3, q4, q5, ?_⟩
          rw [hx]
          dsimp only
          rw [hk, hi]
          refine ⟨q6, ?_⟩
          rw [← q7, ← q8] at hR
          exact hR
        · exact h1.elim
      · rename_i i' n' kk r off hx
        rw [hx] at hf
        simp only [Foot.on.injEq] at hf
        subst hf
        split at h1
        · rename_i kx xs hi
          obtain ⟨g1, g2, g3, g4, h1⟩ := h1
          split at h1
          · rename_i ds hds
            obtain ⟨q7, q8, q9⟩ := h1
            refine ⟨_, by rw [← q9]; exact hget_hset_same hi, q9.symm, fun R hR => ?_⟩
            rw [fop_other n1 n2 n3 n4, if_neg hv, hop]
            refine ⟨q7.symm ▸ rfl, hdt, ?_⟩
            unfold aeff
            dsimp only
            simp only [hev]
            refine ⟨q1, q2, q3, q4, q5, ?_⟩
            rw [hx]
            dsimp only
            rw [hk, hi]
            refine ⟨g1, g2, g3, g4, ?_⟩
            rw [hds]
            rw [← q7, ← q8] at hR
            exact hR
          · exact h1.elim
        · exact h1.elim
      · rename_i n5 n56 n6
        split at hf
        · rename_i a b hx; exact (n5 _ _ hx).elim
        · rename_i a b hx; exact (n56 _ _ hx).elim
        · rename_i a b c d e hx; exact (n6 _ _ _ _ _ hx).elim
        · cases hf
    case call c =>
      rw [hop] at hf
      simp only [foot] at hf
      split at hf
      · split at hf <;> cases hf
      · cases hf
    all_goals (rw [hop] at hf; simp only [foot] at hf; cases hf)

/-- What makes one new object comes to the same over another heap of the same names. -/
theorem fop_new {G : Bool} {o : Oper} {g : Bool} {v : AV} {h' : AHeap} (h : ∀ R : Bool → AV → AHeap → Prop, R g v h' → fop cx tab s G o R) {i : Nat} (hf : foot cx.fl cx.P s o.op = .new i) :
    isEff o.op = true ∧ ∃ ob, h' = (i, ob) :: s.h ∧ ∀ k : AHeap, fresh cx.fl k = i → ∀ R : Bool → AV → AHeap → Prop, R g v ((i, ob) :: k) → fop cx tab { s with h := k } G o R := by
  cases hop : o.op
  case alloc t =>
    rw [hop] at hf
    simp only [foot, Foot.new.injEq] at hf
    refine ⟨rfl, ?_⟩
    have h1 := h (fun g1 v1 h1 => g1 = g ∧ v1 = v ∧ h1 = h') ⟨rfl, rfl, rfl⟩
    have n1 : ∀ x, o.op = .move x → False := by simp [hop]
    have n2 : ∀ x, o.op = .assign x → False := by simp [hop]
    have n3 : ∀ x y z, o.op = .pick x y z → False := by simp [hop]
    have n4 : ∀ c, o.op = .call c → False := by simp [hop]
    rw [fop_other n1 n2 n3 n4] at h1
    have hv : ¬ isVal cx.P o.op = true := by rw [hop]; simp [isVal, isVal0]
    rw [if_neg hv, hop] at h1
    obtain ⟨rfl, hdt, h1⟩ := h1
    unfold aeff at h1
    dsimp only at h1
    obtain ⟨q1, q2, q3, q4⟩ := h1
    refine ⟨_, by rw [← q4, hf], fun k hk R hR => ?_⟩
    rw [fop_other n1 n2 n3 n4, if_neg hv, hop]
    refine ⟨rfl, hdt, ?_⟩
    unfold aeff
    dsimp only
    refine ⟨q1, ?_⟩
    rw [hk]
    rw [← q2, ← q3, hf] at hR
    exact hR
  case binOp bo t x y u =>
    rw [hop] at hf
    simp only [foot] at hf
    split at hf <;> cases hf
  case store a x y =>
    rw [hop] at hf
    simp only [foot] at hf
    split at hf <;> cases hf
  case fieldAddr a x c =>
    rw [hop] at hf
    simp only [foot, footA] at hf
    split at hf <;> cases hf
  case indexAddr a x c =>
    rw [hop] at hf
    simp only [foot, footA] at hf
    split at hf <;> cases hf
  case load a x =>
    rw [hop] at hf
    simp only [foot, footL] at hf
    split at hf <;> cases hf
  case call c =>
    rw [hop] at hf
    simp only [foot] at hf
    split at hf
    · split at hf <;> cases hf
    · cases hf
  all_goals (rw [hop] at hf; simp only [foot] at hf; cases hf)
end
end Go.Aw
