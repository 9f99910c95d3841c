/-
  Entries of tables, one for each contract; rows of a list; wraps of small numbers.
-/
import Derived.Test.YtioccpkcnnkpjaaGreatAwSimp
import Derived.Test.YtioccpkcnnkpjaaGreatAwRange3
import Derived.Test.YtioccpkcnnkpjaaGreatAwDraw6
namespace Go.Aw
set_option maxRecDepth 100000
set_option linter.unusedSimpArgs false
set_option linter.unusedVariables false
open Go

/-- A contract as an entry of a table. -/
structure Ent (P : Program) where
  f : FuncId
  e : List AV → Option (Prop × AV)
  ok : ∀ args pre r, e args = some (pre, r) → pre → r.ids = [] ∧ ACall P f 0 args [] (fun r' _ => r' = r)

section
variable {P : Program}

open Classical in
noncomputable def Ent.of {X : Type} (f : FuncId) (A : X → List AV) (pre : X → Prop) (r : X → AV) (ok : ∀ x, pre x → (r x).ids = [] ∧ ACall P f 0 (A x) [] (fun r' _ => r' = r x)) : Ent P where
  f := f
  e := fun args => if h : ∃ x, A x = args then some (pre h.choose, r h.choose) else none
  ok := fun args p q h hp => by
    split at h
    · rename_i hx
      simp only [Option.some.injEq, Prod.mk.injEq] at h
      obtain ⟨rfl, rfl⟩ := h
      have h2 := ok hx.choose hp
      rw [hx.choose_spec] at h2
      exact h2
    · cases h

theorem Ent.of_app {X : Type} {f : FuncId} {A : X → List AV} {pre : X → Prop} {r : X → AV} {ok : ∀ x, pre x → (r x).ids = [] ∧ ACall P f 0 (A x) [] (fun r' _ => r' = r x)} (inj : ∀ x y, A x = A y → x = y) (x : X) : (Ent.of f A pre r ok).e (A x) = some (pre x, r x) := by
  have hx : ∃ y, A y = A x := ⟨x, rfl⟩
  have h := inj _ _ hx.choose_spec
  unfold Ent.of
  simp only [dif_pos hx, h]

def tabOf : List (Ent P) → Tab
  | [], _, _ => none
  | e :: l, f, args => if f = e.f then e.e args else tabOf l f args

theorem tabOf_ok : ∀ l : List (Ent P), TabOk P (tabOf l)
  | [] => ⟨fun _ _ _ _ h => by cases h⟩
  | e :: l => ⟨fun f args pre r h hp => by
    simp only [tabOf] at h
    split at h
    · rename_i hf; subst hf; exact e.ok _ _ _ h hp
    · exact (tabOf_ok l).ok _ _ _ _ h hp⟩
end

/-- A contract's result told as data: whatever the function laid is nobody else's. -/
theorem acall_frz {P : Program} {f : FuncId} {args : List AV} {r : AV} (hc : ACall P f 0 args [] (fun r' h' => frz 9 h' r' = r)) : ACall P f 0 args [] (fun r' _ => r' = r) := by
  obtain ⟨hen, hc⟩ := hc
  refine ⟨hen, fun E w vs hs hr => (hc E w vs hs hr).mono ?_⟩
  rintro e w' ⟨v, E', r', h', rfl, rfl, hs', hr', hev⟩
  have hno : ∀ (E : Env) b, ¬ Own E [] b := fun E b ⟨i, hi, _⟩ => by simp [hget] at hi
  refine ⟨v, { O := fun _ => none, C := fun _ => 0, M := E.M, N := E.N }, _, [], rfl, rfl, ?_, ?_, ?_⟩
  · exact ⟨fun i o ho => by simp [hget] at ho, fun i j b h1 => by simp [hget] at h1, fun b hb => absurd hb (hno _ b), fun b hb => hs'.mlt b (by rw [hev.m]; exact hb), fun b hb => hs'.nlt b (by rw [hev.n]; exact hb)⟩
  · refine Rep.step (E := frzE E') (h := []) (fun b _ hx => ?_) (fun _ _ _ => rfl) _ v (fun j hj => by unfold GoesOn; simp [hget]) (frz_ok hs' 9 r' v hr')
    rcases hx with hx | hx | hx
    · exact absurd hx (hno _ b)
    · exact .inr (.inr (.inl (by rw [hev.m]; exact hx)))
    · exact .inr (.inr (.inr (by rw [hev.n]; exact hx)))
  · exact ⟨hev.os, hev.tape, hev.output, hev.size, fun b hb _ => hev.keep b hb (hno _ b), fun b hb => absurd hb (hno _ b), rfl, rfl, fun i hi h => by simp [hget] at h⟩

/-- A range over an iterator that leans on data alone, outside of any round. -/
theorem aw_range0 {cx : Cx} {s : AS} {Q : Exit → AS → Prop} {g : Operand} {ps : Array Tmp} {assign body : Code} {f : FuncId} {fs caps : List AV} (fl : Nat) {items : List (List AV)} (I : List (List AV) → AHeap × Option (List (List AV))) (J : Code → AHeap → Option (List (List AV)) → Prop)
    (hit : AIter cx.P f fl fs caps [] items (fun g h' => (∀ xs, g = some xs → xs = items) ∧ h' = [])) (hg : s.ev g = (true, .fn (.func f) fs caps)) (hro : cx.ro = none)
    (hfl : ∀ i, (hget s.h i).isSome → i < fl) (hfc : cx.fl ≤ fl) (hids : AV.idsL fs ++ AV.idsL caps = [])
    (hI : leH s.h (I []).1) (hIn : inH (I []).1 (idsH (I []).1)) (hIg : (I []).2 = s.g)
    (hlen : ∀ x ∈ items, x.length = ps.size) (hps : ∀ t ∈ ps.toList, t < cx.nt)
    (hround : ∀ xs x, (xs ++ [x]) <+: items → ∀ (l : Nat) (r1 : Rnd cx), AW (cx.inR l fl r1) assign (AsgK fun s1 => ∀ r2 : Rnd cx, AW (cx.inR l fl r2) body (RoundK (fun h' g' => leH h' (I (xs ++ [x])).1 ∧ inH (I (xs ++ [x])).1 (idsH (I (xs ++ [x])).1) ∧ g' = (I (xs ++ [x])).2) J) s1)
      { t := pslots ps.toList x (keepT (I xs).1 s.t), h := (I xs).1, g := (I xs).2 })
    (hdone : Q .normal { t := keepT (I items).1 s.t, h := (I items).1, g := (I items).2 })
    (hstop : ∀ c h3 g3, J c h3 g3 → AW cx c Q { t := keepT h3 s.t, h := h3, g := g3 }) :
    AW cx (.rangeFunc g ps assign body) Q s := by
  have hs0 : hsel (fun _ => false) s.h = [] := by
    induction s.h with
    | nil => rfl
    | cons a h ih => simp only [hsel]; rw [if_neg (by simp)]; exact ih
  have hs1 : hsel (fun i => !(fun _ => false) i) s.h = s.h := hsel_all (fun q _ => rfl)
  refine aw_rangeFunc (Kit := fun g h' => (∀ xs, g = some xs → xs = items) ∧ h' = []) (items := items) (fl := fl) (fun _ => false) I J hro hg (by rw [hs0]; exact hit) hfl hfc ?_ ?_ (by rw [hs1]; exact hI) hIn hIg (fun _ _ _ _ => rfl) (fun _ _ _ _ _ _ => rfl) ?_ hlen hps hround ?_ ?_
  · intro i o _ h; cases h
  · rw [hids]; intro j hj; simp at hj
  · rintro g h' ⟨h1, rfl⟩
    exact ⟨fun i hi => by simp [hget] at hi, h1⟩
  · rintro h1 ⟨_, rfl⟩
    exact hdone
  · rintro c h1 h3 g3 ⟨_, rfl⟩ hj
    exact hstop c h3 g3 hj

/-! ### Rows of a list -/
theorem map_inj {α β : Type} {g : α → β} (hg : ∀ a b, g a = g b → a = b) {l l' : List α} : (l.map g = l'.map g) = (l = l') := by
  apply propext
  constructor
  · intro h
    induction l generalizing l' with
    | nil => cases l' <;> simp_all
    | cons a l ih =>
      cases l' with
      | nil => simp at h
      | cons b l' =>
        simp only [List.map_cons, List.cons.injEq] at h
        rw [hg _ _ h.1, ih h.2]
  · rintro rfl; rfl

theorem at_row {α β : Type} {g : α → List β} {l : List α} {i : Nat} {q : α} (h : l[i]? = some q) : (l.map g).getD i [] = g q := by
  rw [List.getD_eq_getElem?_getD, List.getElem?_map, h]; rfl
theorem at_drop {α : Type} {l : List α} {i : Nat} {q : α} (h : l[i]? = some q) : l.drop i = q :: l.drop (i + 1) := by
  obtain ⟨hi, h⟩ := List.getElem?_eq_some_iff.1 h
  rw [List.drop_eq_getElem_cons hi, h]
theorem at_take {α : Type} {l : List α} {i : Nat} {q : α} (h : l[i]? = some q) : l.take (i + 1) = l.take i ++ [q] := by
  rw [List.take_add_one, h]; rfl
theorem at_some {α : Type} {l : List α} {i : Nat} (h : i < l.length) : ∃ q, l[i]? = some q := ⟨l[i], List.getElem?_eq_getElem h⟩

/-- A walk along a list of rows: a row, or the end. -/
theorem at_cases {α β : Type} (g : α → List β) (l : List α) (i : Nat) (hi : i ≤ l.length) :
    (∃ q, l[i]? = some q ∧ i < l.length ∧ decide ((i : Int) < (l.length : Int)) = true ∧ (l.map g).getD i [] = g q ∧ l.drop i = q :: l.drop (i + 1) ∧ l.take (i + 1) = l.take i ++ [q]) ∨ (i = l.length ∧ decide ((i : Int) < (l.length : Int)) = false) := by
  rcases Nat.lt_or_ge i l.length with h | h
  · obtain ⟨q, hq⟩ := at_some h
    exact .inl ⟨q, hq, h, decide_eq_true (by omega), at_row hq, at_drop hq, at_take hq⟩
  · exact .inr ⟨by omega, decide_eq_false (by omega)⟩

theorem aw_cond_t {cx : Cx} {s : AS} {c : Operand} {x y : Code} {Q : Exit → AS → Prop} (hc : s.ev c = (true, .d (.bool true))) (ht : AW cx x Q s) : AW cx (.cond c x y) Q s := aw_cond hc (fun _ => ht) (fun h => by cases h)
theorem aw_cond_f {cx : Cx} {s : AS} {c : Operand} {x y : Code} {Q : Exit → AS → Prop} (hc : s.ev c = (true, .d (.bool false))) (hf : AW cx y Q s) : AW cx (.cond c x y) Q s := aw_cond hc (fun h => by cases h) (fun _ => hf)

theorem sl_ex {e : Nat} {Q : Nat → Prop} : (∃ e', TD.slice e = TD.slice e' ∧ Q e') = Q e := by
  apply propext
  constructor
  · rintro ⟨e', h, hq⟩; cases h; exact hq
  · intro h; exact ⟨e, rfl, h⟩
theorem ar_ex {n e : Nat} {Q : Nat → Nat → Prop} : (∃ n' e', TD.arr n e = TD.arr n' e' ∧ Q n' e') = Q n e := by
  apply propext
  constructor
  · rintro ⟨n', e', h, hq⟩; cases h; exact hq
  · intro h; exact ⟨n, e, rfl, h⟩
theorem imin_nat (a b : Nat) : imin (a : Int) (b : Int) = ((min a b : Nat) : Int) := by
  unfold imin
  split <;> omega
theorem map_cons' {α β : Type} (g : α → β) (a : α) (l : List α) : g a :: l.map g = (a :: l).map g := rfl

/-- Where ways meet again: what is known there. -/
theorem aw_join {cx : Cx} {x y : Code} {Q : Exit → AS → Prop} {s : AS} (s1 : AS) (h1 : AW cx x (thenK (fun s' => s'.le s1) Q) s) (h2 : AW cx y Q s1) : AW cx (.seq x y) Q s :=
  aw_seq fun K hK => h1.mono fun e s' h => by
    cases e <;> first | exact hK s' (aw_le s1 h h2) | exact h

/-- An item of one struct, as a row. -/
def rowOf (x : List AV) : List D :=
  match x with
  | [.agg cs] => (toDs cs).getD []
  | [.d y] => [y]
  | _ => []

theorem hfl_of {fl : Nat} : ∀ {h : AHeap}, (h.all fun p => decide (p.1 < fl)) = true → ∀ i, (hget h i).isSome → i < fl
  | [], _, i, hi => by simp [hget] at hi
  | (k, o) :: r, hh, i, hi => by
    simp only [List.all_cons, Bool.and_eq_true, decide_eq_true_eq] at hh
    simp only [hget] at hi
    split at hi
    · rename_i e; subst e; exact hh.1
    · exact hfl_of hh.2 i hi

theorem rows_map {α : Type} {e : α → List D} : ∀ {rows : List (List D)}, (∀ r ∈ rows, ∃ a, r = e a) → ∃ l : List α, rows = l.map e
  | [], _ => ⟨[], rfl⟩
  | r :: rows, h => by
    obtain ⟨a, rfl⟩ := h r (by simp)
    obtain ⟨l, rfl⟩ := rows_map (e := e) (rows := rows) (fun r hr => h r (by simp [hr]))
    exact ⟨a :: l, rfl⟩

theorem hsel_no {p : Nat → Bool} : ∀ {h : AHeap}, (∀ q ∈ h, p q.1 = false) → hsel p h = []
  | [], _ => rfl
  | (k, o) :: r, hh => by
    simp only [hsel]
    rw [if_neg (by rw [hh (k, o) (by simp)]; simp), hsel_no (fun q hq => hh q (by simp [hq]))]

/-- A call of a function of data that hands back what is its own. -/
theorem ACall.own {P : Program} {f : FuncId} {args : List AV} {fl fl' : Nat} {h : AHeap} {K : AV → AHeap → Prop} (hc : ACall P f fl args [] K) (hfl : (h.all fun p => decide (p.1 < fl)) = true) (hids : AV.idsL args = []) (hle : fl' ≤ fl) (hk : ∀ r h', K r h' → (h'.all fun p => decide (fl ≤ p.1)) = true) :
    ACallAt P fl' f args h (fun r h' => ∃ h1, K r h1 ∧ h' = h1 ++ h) := by
  have hlt : ∀ q ∈ h, q.1 < fl := fun q hq => by simpa using List.all_eq_true.1 hfl q hq
  have e1 : hsel (fun i => decide (fl ≤ i)) h = [] := hsel_no (fun q hq => by have := hlt q hq; simp; omega)
  have e2 : hsel (fun i => !decide (fl ≤ i)) h = h := hsel_all (fun q hq => by have := hlt q hq; simp; omega)
  have := ACall.frame (P := P) (f := f) (args := args) (fl := fl) (fl' := fl') (h := h) (K := K) (p := fun i => decide (fl ≤ i)) (by rw [e1]; exact hc) (hfl_of hfl) (fun i hi => by simpa using hi) (fun i o ho hp => by
      have := hfl_of hfl i (by simp [ho])
      have : fl ≤ i := by simpa using hp
      omega) (by rw [hids]; intro j hj; simp at hj) hle (fun r h' hk' => ⟨fun i hi hp => by
        have := hfl_of hfl i hi
        have : fl ≤ i := by simpa using hp
        omega, fun i hi => by
        have h1 := hk r h' hk'
        clear hk' hc
        induction h' with
        | nil => simp [hget] at hi
        | cons q r ih =>
          simp only [List.all_cons, Bool.and_eq_true] at h1
          obtain ⟨k, o⟩ := q
          simp only [hget] at hi
          split at hi
          · rename_i e; subst e; exact h1.1
          · exact ih hi h1.2⟩)
  rw [e2] at this
  exact this

/-! ### Wraps -/
theorem wrap_eq {n : Int} (h0 : -9223372036854775808 ≤ n) (h1 : n < 9223372036854775808) : IntKind.i64.wrap n = n := by rw [IntKind.wrap_i64]; omega
theorem wrap_suc {i : Nat} (h : i < 9223372036854775807) : IntKind.i64.wrap ((i : Int) + 1) = ((i + 1 : Nat) : Int) := by rw [IntKind.wrap_i64]; omega
theorem lt_nat {a b : Nat} : decide ((a : Int) < (b : Int)) = decide (a < b) := by
  by_cases h : a < b
  · rw [decide_eq_true h, decide_eq_true (by omega)]
  · rw [decide_eq_false h, decide_eq_false (by omega)]

@[go_sem] theorem intD_row {α : Type} (k : IntKind) (g : α → Int) (l : List α) : (l.map fun x => [D.int k (g x)]).length = l.length := List.length_map ..
def intD (n : Int) : List D := [.int .i64 n]
def strD (s : List UInt8) : List D := [.str s]
def boolD (b : Bool) : List D := [.bool b]
theorem intD_inj : ∀ a b, intD a = intD b → a = b := by intro a b h; simpa [intD] using h
theorem strD_inj : ∀ a b, strD a = strD b → a = b := by intro a b h; simpa [strD] using h
theorem boolD_inj : ∀ a b, boolD a = boolD b → a = b := by intro a b h; simpa [boolD] using h

attribute [go_sem] sl_ex Nat.lt_irrefl Nat.zero_add take_all_map take_all List.length_map or_self true_or or_true Nat.le_refl List.append_toArray List.range_zero List.append_eq Int.toNat_natCast IterK
end Go.Aw
