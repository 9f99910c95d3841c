/-
  A law's row, out of its contract: what is read as data is said by data; behind the call the arguments read as they did.
-/
import Derived.Test.YtioccpkcnnkpjaaGreatAwCall
import Derived.ProofKit
import Derived.OpenShut
import Derived.ChangeSame
namespace Go.Aw
set_option maxRecDepth 100000
set_option linter.unusedSimpArgs false
set_option linter.unusedVariables false
open Go Go.RowKit Go.ChangeShapes Go.WideShapes

/-- Leaves of plain data of a type. -/
def DTy (P : Program) : Nat → TypeId → List D → Prop
  | 0, _, _ => False
  | d + 1, t, xs =>
    match (ty P t).td with
    | .int k => ∃ n, xs = [.int k n] ∧ k.min ≤ n ∧ n ≤ k.max
    | .bool => ∃ b, xs = [.bool b]
    | .str => ∃ l, xs = [.str l] ∧ l.length ≤ 9223372036854775807
    | .slice e => ∃ rows, xs = [.sl (ty P e).size rows] ∧ rows.length ≤ 9223372036854775807 ∧ ∀ r ∈ rows, DTy P d e r
    | .struct fs => fields fs xs (fun f => DTy P d f)
    | .arr n e => ∃ parts : List (List D), xs = parts.flatten ∧ parts.length = n ∧ ∀ p ∈ parts, DTy P d e p
    | _ => False
 where
  fields (fs : List (Nat × Nat)) (xs : List D) (r : TypeId → List D → Prop) : Prop :=
    match fs with
    | [] => xs = []
    | f :: fs => ∃ a b, xs = a ++ b ∧ r f.2 a ∧ fields fs b r

/-- Plain data, laid cell by cell. -/
def plainTy (P : Program) : Nat → TypeId → Bool
  | 0, _ => false
  | d + 1, t =>
    match (ty P t).td with
    | .int _ => true
    | .bool => true
    | .str => true
    | .slice e => plainTy P d e && decide (0 < (ty P e).size)
    | .struct fs => (offs fs 0 == some (ty P t).size) && fs.all fun f => plainTy P d f.2
    | .arr n e => plainTy P d e && (n * (ty P e).size == (ty P t).size)
    | _ => false
 where
  offs : List (Nat × Nat) → Nat → Option Nat
    | [], o => some o
    | f :: fs, o => if f.1 == o then offs fs (o + (ty P f.2).size) else none

section
variable {P : Program} {W : World} {X : Nat → Prop} {H : Type} {enc : TypeId × Value → H}

theorem RepDs.append : ∀ {as bs : List D} {vs ws : List Value}, RepDs W X as vs → RepDs W X bs ws → RepDs W X (as ++ bs) (vs ++ ws)
  | [], bs, _, ws, hr, hb => by simp only [RepDs] at hr; subst hr; simpa using hb
  | b :: as, bs, _, ws, hr, hb => by
    simp only [RepDs] at hr
    obtain ⟨v, r, rfl, h2, h3⟩ := hr
    simp only [List.cons_append, RepDs]
    exact ⟨_, _, rfl, h2, RepDs.append h3 hb⟩

theorem rows_gather {k : Nat} {Q : List D → Prop} : ∀ (n : Nat) (vs : List Value), (∀ i, i < n → ∃ r, Q r ∧ r.length = k ∧ RepDs W X r ((vs.drop (i * k)).take k)) → ∃ rows : List (List D), rows.length = n ∧ (∀ r ∈ rows, Q r) ∧ RepRows W X k rows vs
  | 0, vs, _ => ⟨[], rfl, by simp, by simp [RepRows]⟩
  | n + 1, vs, h => by
    obtain ⟨r, h1, h2, h3⟩ := h 0 (by omega)
    obtain ⟨rows, g1, g2, g3⟩ := rows_gather n (vs.drop k) (fun i hi => by
      obtain ⟨r, q1, q2, q3⟩ := h (i + 1) (by omega)
      exact ⟨r, q1, q2, by rw [List.drop_drop]; rwa [show k + i * k = (i + 1) * k by rw [Nat.succ_mul]; omega]⟩)
    exact ⟨r :: rows, by simp [g1], by simpa using ⟨h1, g2⟩, by simp only [RepRows]; exact ⟨h2, by simpa using h3, g3⟩⟩

theorem parts_gather {k : Nat} {Q : List D → Prop} : ∀ (n : Nat) (vs : List Value), vs.length = n * k → (∀ i, i < n → ∃ r, Q r ∧ RepDs W X r ((vs.drop (i * k)).take k)) → ∃ rows : List (List D), rows.length = n ∧ (∀ r ∈ rows, Q r) ∧ RepDs W X rows.flatten vs
  | 0, vs, hl, _ => ⟨[], rfl, by simp, by have : vs = [] := by simpa using hl
                                          subst this; simp [RepDs]⟩
  | n + 1, vs, hl, h => by
    obtain ⟨r, h1, h3⟩ := h 0 (by omega)
    obtain ⟨rows, g1, g2, g3⟩ := parts_gather (k := k) n (vs.drop k) (by rw [List.length_drop, hl, Nat.succ_mul]; omega) (fun i hi => by
      obtain ⟨r, q1, q3⟩ := h (i + 1) (by omega)
      exact ⟨r, q1, by rw [List.drop_drop]; rwa [show k + i * k = (i + 1) * k by rw [Nat.succ_mul]; omega]⟩)
    refine ⟨r :: rows, by simp [g1], by simpa using ⟨h1, g2⟩, ?_⟩
    rw [List.flatten_cons, ← List.take_append_drop k vs]
    exact RepDs.append (by simpa using h3) g3

theorem cells_get {a : Addr} {n : Nat} {cs : List Value} (h : W.cells? 0 a n = some cs) : cs.length = n ∧ ∀ i, i < n → W.cell? (a.add i) = cs[i]? := by
  unfold World.cells? at h
  rw [if_pos (Nat.zero_le _)] at h
  have h1 := mapM_some_length h
  exact ⟨by simpa using h1, fun i hi => mapM_some_get h i i (by simp [hi])⟩

theorem trod_dty (hX : ∀ b, ¬ X b) : ∀ (d : Nat) (t : TypeId) (n : Nat) (cs : List Value) (x : DataW H × List MemPlace), plainTy P d t = true → DataW.trod enc P W 0 (fun _ => true) true n t cs = some x →
    ∃ xs, DTy P d t xs ∧ RepDs W X xs cs
  | 0, t, n, cs, x, hp, _ => by simp [plainTy] at hp
  | d + 1, t, n, cs, x, hp, h => by
    unfold plainTy at hp
    unfold DTy
    have hsz1 : ∀ {desc}, P.underlying t = some desc → (ty P t).size = P.cellsOf t := fun _ => rfl
    split at hp
    · rename_i k ht
      have hu := und_int ht
      obtain ⟨m, rfl, _, hw⟩ := DataW.trod_int hu h
      simp only [Lit.wf, Bool.and_eq_true, decide_eq_true_eq] at hw
      exact ⟨[.int k m], ⟨m, rfl, hw.1, hw.2⟩, by simp [RepDs, RepD]⟩
    · rename_i ht
      have hu := und_bool ht
      obtain ⟨m, rfl, _⟩ := DataW.trod_bool hu h
      exact ⟨[.bool m], ⟨m, rfl⟩, by simp [RepDs, RepD]⟩
    · rename_i ht
      have hu := und_str ht
      obtain ⟨m, rfl, _, hw⟩ := DataW.trod_string hu h
      have h9 : m.data.size ≤ 9223372036854775807 := Nat.le_trans hw (by decide)
      exact ⟨[.str m.data.toList], ⟨_, rfl, by simpa using h9⟩, by simp [RepDs, RepD]⟩
    · rename_i e ht
      have hu := und_slice ht
      simp only [Bool.and_eq_true, decide_eq_true_eq] at hp
      obtain ⟨hpe, hk⟩ := hp
      rcases DataW.trod_slice hu h with ⟨rfl, _⟩ | ⟨a, len, cap, elems, rest, m, rfl, rfl, _, _, hlc, hcap, hel, hget, _, _⟩
      · exact ⟨[.sl (ty P e).size []], ⟨[], rfl, by simp, by simp⟩, by simp [RepDs, RepD]⟩
      · have hce : P.cellsOf e = (ty P e).size := rfl
        rw [hce] at hget
        have hrow : ∀ i, i < len → ∃ cs, W.cells? 0 (a.add (i * (ty P e).size)) (ty P e).size = some cs ∧ ∃ y, DataW.trod enc P W 0 (fun _ => true) true m e cs = some y := fun i hi => by
          have := hget i hi
          rw [List.getElem?_eq_getElem (by omega)] at this
          obtain ⟨cs, h1, h2⟩ := Option.bind_eq_some_iff.1 this
          exact ⟨cs, h1, _, h2⟩
        rcases Nat.eq_zero_or_pos len with h0 | h0
        · subst h0
          exact ⟨[.sl (ty P e).size []], ⟨[], rfl, by simp, by simp⟩, by simp [RepDs, RepD]⟩
        · -- the first cell shows the block
          obtain ⟨cs0, hc0, _⟩ := hrow 0 h0
          obtain ⟨hl0, hg0⟩ := cells_get hc0
          have hcell := hg0 0 hk
          rw [Nat.zero_mul, List.getElem?_eq_getElem (by omega)] at hcell
          have ha0 : (a.add 0).add 0 = a := by simp [Addr.add]
          rw [ha0] at hcell
          obtain ⟨ab, ao, asp⟩ := a
          unfold World.cell? at hcell
          cases hb : W.heap[ab]? with
          | none => simp [hb] at hcell
          | some o =>
            cases o <;> simp only [hb] at hcell <;> try cases hcell
            rename_i c T fz
            have hsp : asp = none := by
              cases asp with
              | none => rfl
              | some q => simp at hcell
            subst hsp
            obtain ⟨rows, g1, g2, g3⟩ := rows_gather (W := W) (X := X) (k := (ty P e).size) (Q := DTy P d e) len (c.toList.drop ao) (fun i hi => by
              obtain ⟨cs, h1, y, h2⟩ := hrow i hi
              obtain ⟨hl, hg⟩ := cells_get h1
              obtain ⟨xs, q1, q2⟩ := trod_dty hX d e m cs y hpe h2
              have hcs : cs = ((c.toList.drop ao).drop (i * (ty P e).size)).take (ty P e).size := by
                apply List.ext_getElem?
                intro j
                by_cases hj : j < (ty P e).size
                · have := hg j hj
                  rw [Addr.add_none, Addr.add_none, cell_of_block hb] at this
                  rw [← this, List.getElem?_take_of_lt hj, List.getElem?_drop, List.getElem?_drop, ← Array.getElem?_toList]
                  congr 1; omega
                · rw [List.getElem?_eq_none (by omega), List.getElem?_eq_none (by simp; omega)]
              exact ⟨xs, q1, by rw [← RepDs.length q2, hl], by rw [← hcs]; exact q2⟩)
            refine ⟨[.sl (ty P e).size rows], ⟨rows, rfl, by rw [g1]; exact Nat.le_trans hlc (Nat.le_trans hcap (by decide)), g2⟩, ?_⟩
            simp only [RepDs, RepD]
            exact ⟨_, _, rfl, .inr ⟨⟨ab, ao, none⟩, cap, c, T, fz, by rw [g1], rfl, by omega, hX _, hb, g3⟩, rfl⟩
    · rename_i fs ht
      obtain ⟨gs, hu, hgs, _⟩ := und_struct ht
      simp only [Bool.and_eq_true, beq_iff_eq] at hp
      obtain ⟨hof, hall⟩ := hp
      obtain ⟨ys, m, rfl, _, hcl, hyl, hget⟩ := DataW.trod_struct hu h
      have hcl' : cs.length = (ty P t).size := hcl
      have key : ∀ (l : List (Nat × Nat)) (o : Nat), plainTy.offs P l o = some (ty P t).size → (l.all fun f => plainTy P d f.2) = true → (∀ f ∈ l, ∃ y, DataW.trod enc P W 0 (fun _ => true) true m f.2 ((cs.drop f.1).take (ty P f.2).size) = some y) →
          ∃ xs, DTy.fields l xs (fun f => DTy P d f) ∧ RepDs W X xs (cs.drop o) := by
        intro l
        induction l with
        | nil =>
          intro o ho _ _
          simp only [plainTy.offs, Option.some.injEq] at ho
          refine ⟨[], by simp [DTy.fields], ?_⟩
          rw [List.drop_eq_nil_of_le (by omega)]
          simp [RepDs]
        | cons f l ih =>
          intro o ho ha hf
          simp only [plainTy.offs] at ho
          split at ho
          · rename_i ho1
            simp only [beq_iff_eq] at ho1
            simp only [List.all_cons, Bool.and_eq_true] at ha
            obtain ⟨y, hy⟩ := hf f (by simp)
            obtain ⟨xs, q1, q2⟩ := trod_dty hX d f.2 m _ y ha.1 hy
            obtain ⟨zs, r1, r2⟩ := ih _ ho ha.2 (fun g hg => hf g (by simp [hg]))
            refine ⟨xs ++ zs, ⟨xs, zs, rfl, q1, r1⟩, ?_⟩
            rw [ho1] at q2
            have : cs.drop o = (cs.drop o).take (ty P f.2).size ++ cs.drop (o + (ty P f.2).size) := by
              rw [← List.drop_drop, List.take_append_drop]
            rw [this]
            exact RepDs.append q2 r2
          · cases ho
      obtain ⟨xs, q1, q2⟩ := key fs 0 hof hall (fun f hf => by
        rw [← hgs] at hf
        obtain ⟨g, hg, rfl⟩ := List.mem_map.1 hf
        obtain ⟨i, hi, hgi⟩ := List.getElem_of_mem hg
        have h1 := hget i g (by rw [← Array.getElem?_toList, List.getElem?_eq_getElem hi, hgi])
        have hlt : i < ys.length := by rw [hyl]; simpa using hi
        rw [List.getElem?_eq_getElem hlt] at h1
        exact ⟨_, h1⟩)
      exact ⟨xs, q1, by simpa using q2⟩
    · rename_i k e ht
      have hu := und_arr ht
      simp only [Bool.and_eq_true, beq_iff_eq] at hp
      obtain ⟨hpe, hsz⟩ := hp
      obtain ⟨ys, m, rfl, _, hcl, hyl, hget⟩ := DataW.trod_array hu h
      have hcl' : cs.length = (ty P t).size := hcl
      obtain ⟨parts, g1, g2, g3⟩ := parts_gather (W := W) (X := X) (k := (ty P e).size) (Q := DTy P d e) k cs (by rw [hcl', hsz]) (fun i hi => by
        have h1 := hget i hi
        rw [List.getElem?_eq_getElem (by omega)] at h1
        obtain ⟨xs, q1, q2⟩ := trod_dty hX d e m _ _ hpe h1
        exact ⟨xs, q1, q2⟩)
      exact ⟨parts.flatten, ⟨parts, rfl, g1, g2⟩, g3⟩
    · cases hp
end
end Go.Aw
