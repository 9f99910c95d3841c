/-
  Maps of leaves: what is found, put, dropped.
-/
import Derived.Test.YtioccpkcnnkpjaaGreatAwTy
namespace Go.Aw
set_option linter.unusedSimpArgs false
set_option linter.unusedVariables false
open Go

/-- A key that the find's fast road takes. -/
def alike : TD → D → Bool
  | .int k, .int k' _ => k == k'
  | .str, .str _ => true
  | .bool, .bool _ => true
  | _, _ => false

def sameS : D → D → Bool
  | .int _ a, .int _ b => a == b
  | .str a, .str b => a == b
  | .bool a, .bool b => a == b
  | _, _ => false

/-- Where a key stands, and what it leads to. -/
def mix (k : D) : List (D × D) → Option (Nat × D)
  | [] => none
  | p :: r => if sameS k p.1 then some (0, p.2) else (mix k r).map fun q => (q.1 + 1, q.2)

def mat (k : D) : List (D × D) → Option D
  | [] => none
  | p :: r => if sameS k p.1 then some p.2 else mat k r

def mput (k v : D) : List (D × D) → List (D × D)
  | [] => [(k, v)]
  | p :: r => if sameS k p.1 then (k, v) :: r else p :: mput k v r

def mdel (k : D) : List (D × D) → List (D × D)
  | [] => []
  | p :: r => if sameS k p.1 then r else p :: mdel k r

theorem mat_mix (k : D) : ∀ es, mat k es = (mix k es).map (·.2)
  | [] => rfl
  | p :: r => by
    simp only [mat, mix]
    split
    · rfl
    · rw [mat_mix k r]; cases mix k r <;> rfl

theorem mput_mix (k v : D) : ∀ es, mput k v es = match mix k es with | some q => es.set q.1 (k, v) | none => es ++ [(k, v)]
  | [] => rfl
  | p :: r => by
    simp only [mput, mix]
    split
    · rfl
    · rw [mput_mix k v r]; cases mix k r <;> rfl

theorem mdel_mix (k : D) : ∀ es, mdel k es = match mix k es with | some q => es.eraseIdx q.1 | none => es
  | [] => rfl
  | p :: r => by
    simp only [mdel, mix]
    split
    · rfl
    · rw [mdel_mix k r]; cases mix k r <;> rfl

theorem mix_lt (k : D) : ∀ es q, mix k es = some q → ∃ p, es[q.1]? = some p ∧ sameS k p.1 = true ∧ p.2 = q.2
  | [], q, h => by cases h
  | p :: r, q, h => by
    simp only [mix] at h
    split at h
    · rename_i hs
      cases h
      exact ⟨p, rfl, hs, rfl⟩
    · cases hm : mix k r with
      | none => rw [hm] at h; cases h
      | some q' =>
        rw [hm] at h
        cases h
        obtain ⟨p', h1, h2, h3⟩ := mix_lt k r q' hm
        exact ⟨p', by simpa using h1, h2, h3⟩

theorem bytes_beq (a b : List UInt8) : ((⟨a.toArray⟩ : ByteArray) == ⟨b.toArray⟩) = (a == b) := by
  have : ((⟨a.toArray⟩ : ByteArray) == ⟨b.toArray⟩) = (a.toArray == b.toArray) := rfl
  rw [this, Bool.eq_iff_iff]
  simp

theorem sameNow_ok {d : TypeDesc} {k x : D} (hk : alike (tdOf d) k = true) (hx : alike (tdOf d) x = true) : Instr.sameNow d (valD k) (valD x) = some (sameS k x) := by
  cases d <;> simp only [tdOf] at hk hx <;> (try (split at hk)) <;> (cases k <;> cases x <;> simp only [alike, beq_iff_eq, Bool.false_eq_true] at hk hx)
  all_goals (subst_vars; simp [Instr.sameNow, valD, sameS, bytes_beq])

theorem findNow_ok {d : TypeDesc} {k : D} (hk : alike (tdOf d) k = true) : ∀ (es : List (D × D)) (l : List MapEntry) (i : Nat), (es.all fun p => alike (tdOf d) p.1) = true →
    l.map (fun e => (e.key, e.val)) = es.map (fun p => (valD p.1, valD p.2)) → Instr.findNow d (valD k) l i = some ((mix k es).map fun q => (i + q.1, valD q.2))
  | [], l, i, _, h => by
    cases l with
    | nil => rfl
    | cons e l => simp at h
  | p :: r, l, i, ha, h => by
    cases l with
    | nil => simp at h
    | cons e l =>
      simp only [List.map_cons, List.cons.injEq, Prod.mk.injEq] at h
      simp only [List.all_cons, Bool.and_eq_true] at ha
      simp only [Instr.findNow, h.1.1, sameNow_ok hk ha.1, mix]
      cases hs : sameS k p.1 with
      | true => simp [h.1.2]
      | false =>
        simp only [Bool.false_eq_true, if_false]
        rw [findNow_ok hk r l (i + 1) ha.2 h.2]
        cases mix k r with
        | none => rfl
        | some q => simp only [Option.map_some]; congr 3; omega

def AS.esOf (s : AS) (i : Nat) : Option (List (D × D)) := match hget s.h i with | some (.omap es) => some es | _ => none

/-- What a lookup says. -/
def avLookup (P : Program) (s : AS) (t : TypeId) (m k : AV) (ok : Bool) : Prop × AV :=
  match (ty P t).td, m, k with
  | .map kt et, .map i, .d kd => (match zcells P 12 et, s.esOf i with
    | [.d z], some es => (z.scal = true ∧ zeroOk P et = true ∧ (ty P et).td.agg = false ∧ alike (ty P kt).td kd = true ∧ (es.all fun p => alike (ty P kt).td p.1) = true,
        if ok then .tup [.d ((mat kd es).getD z), .d (.bool (mat kd es).isSome)] else .d ((mat kd es).getD z))
    | _, _ => (False, .any))
  | _, _, _ => (False, .any)

theorem repD_scal {W : World} {X : Nat → Prop} {x : D} {v : Value} (h : x.scal = true) : RepD W X x v ↔ v = valD x := by
  cases x <;> simp only [D.scal, Bool.false_eq_true] at h <;> simp only [RepD, valD]

section
variable {P : Program} {W : World} {E : Env} {s : AS}

theorem alike_desc {t : TypeId} {k : D} (h : alike (ty P t).td k = true) : ∃ d, P.underlying t = some d ∧ tdOf d = (ty P t).td := by
  have hne : (ty P t).td ≠ .other := fun e => by rw [e] at h; cases k <;> cases h
  exact ty_desc rfl hne

theorem alike_scal {td : TD} {k : D} (h : alike td k = true) : k.scal = true := by
  cases td <;> cases k <;> first | rfl | cases h

theorem run_checkKey1 {t : TypeId} {k : D} (h : alike (ty P t).td k = true) (e : Bool) (w : World) : (Instr.checkKey e 10000 t (valD k)).run P w = .ok () w := by
  obtain ⟨d, hd, he⟩ := alike_desc h
  rw [← he] at h
  unfold Instr.checkKey
  rw [Sem.run_bind, run_underlying hd, Result.andThen_ok]
  cases d <;> simp only [tdOf] at h <;> (try (split at h)) <;> (cases k <;> simp only [alike, Bool.false_eq_true] at h) <;> rfl

theorem run_findKey1 {t : TypeId} {k : D} (h : alike (ty P t).td k = true) {es : List (D × D)} {mes : Array MapEntry} (hes : esOk es mes) (ha : (es.all fun p => alike (ty P t).td p.1) = true) (w : World) :
    (Instr.findKey t (valD k) mes.toList).run P w = .ok ((mix k es).map fun q => (q.1, valD q.2)) w := by
  obtain ⟨d, hd, he⟩ := alike_desc h
  rw [← he] at h ha
  unfold Instr.findKey
  rw [Sem.run_bind, run_underlying hd, Result.andThen_ok, findNow_ok h es mes.toList 0 ha hes.2]
  simp

theorem zero_leaf {t : TypeId} (hz : zeroOk P t = true) {z : D} (hs : z.scal = true) (he : zcells P 12 t = [.d z]) (ha : (ty P t).td.agg = false) (w : World) : (zeroValue t).run P w = .ok (valD z) w := by
  obtain ⟨i, v, h1, h2, h3, h4, h5, h6⟩ := zero_ok hz
  rw [run_zeroValue h1 h2 w]
  rw [he] at h3
  rw [ha] at h4
  cases v with
  | agg cs => cases h4
  | _ =>
    simp only [Value.cells, gndL, Bool.and_true] at h3
    have := gnd_rep (W := w) (E := ⟨fun _ => none, fun _ => 0, fun _ => False, fun _ => False⟩) (h := []) h3
    simp only [Rep] at this
    rw [(repD_scal hs).1 this]

theorem avLookup_ok {t : TypeId} {m k : AV} {mv kv : Value} {ok : Bool} (hp : SatH E s.h W) (hv : (avLookup P s t m k ok).1) (hm : Rep W E s.h m mv) (hk : Rep W E s.h k kv) :
    ∃ v, (Instr.lookup t mv kv ok).run P W = .ok v W ∧ Rep W E s.h (avLookup P s t m k ok).2 v := by
  unfold avLookup at hv ⊢
  split at hv
  · rename_i kt et i kd ht
    try dsimp only at hv ⊢
    split at hv
    · rename_i z es hz hes
      obtain ⟨h1, h2, h3, h4, h5⟩ := hv
      try dsimp only
      simp only [Rep] at hm hk
      obtain ⟨b, es', g1, g2, rfl⟩ := hm
      have hes' : es' = es := by
        unfold AS.esOf at hes
        rw [g1] at hes
        simpa using hes
      subst hes'
      have ho := hp.heap i _ g1
      simp only [RepObj] at ho
      obtain ⟨b', mes, clock, q1, q2, q3⟩ := ho
      rw [g2] at q1
      cases q1
      rw [(repD_scal (alike_scal h4)).1 hk]
      have hz0 := zero_leaf h2 h1 hz h3
      have hv : (valD ((mat kd es').getD z)) = ((mix kd es').map fun q => valD q.2).getD (valD z) := by
        rw [mat_mix]; cases mix kd es' <;> rfl
      refine ⟨if ok then .tuple #[valD ((mat kd es').getD z), .bool (mat kd es').isSome] else valD ((mat kd es').getD z), ?_, ?_⟩
      · unfold Instr.lookup
        simp only [Sem.run_bind, run_underlying (und_map ht), Result.andThen_ok]
        have hget : (getObj b).run P W = .ok (.map mes clock) W := by simp [getObj, Sem.run, q2]
        simp only [Sem.run_bind, hget, Result.andThen_ok, Sem.run_pure, run_checkKey1 h4, run_findKey1 h4 q3 h5]
        rw [mat_mix]
        cases mix kd es' with
        | none => simp [hz0]
        | some q => simp
      · have hsc : ((mat kd es').getD z).scal = true := by
          rw [mat_mix]
          cases hm : mix kd es' with
          | none => exact h1
          | some q =>
            obtain ⟨p, f1, f2, f3⟩ := mix_lt kd es' q hm
            have := List.all_eq_true.1 q3.1 p (List.mem_of_getElem? f1)
            simp only [Bool.and_eq_true] at this
            simp only [Option.map_some, Option.getD_some]
            rw [← f3]; exact this.2
        cases ok
        · simp only [Bool.false_eq_true, if_false, Rep]
          exact (repD_scal hsc).2 rfl
        · simp only [if_true, Rep, Reps]
          exact ⟨_, rfl, _, _, rfl, (repD_scal hsc).2 rfl, _, _, rfl, by simp [RepD], rfl⟩
    · exact hv.elim
  · exact hv.elim
end
end Go.Aw
