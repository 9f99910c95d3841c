/-
  Maps: made, written, shortened.
-/
import Derived.Test.YtioccpkcnnkpjaaGreatAwArr
import Derived.Test.YtioccpkcnnkpjaaGreatAwMap
namespace Go.Aw
set_option maxRecDepth 100000
set_option linter.unusedSimpArgs false
set_option linter.unusedVariables false
open Go

section
variable {P : Program} {W : World} {E : Env} {h : AHeap}

theorem chg_map {w : World} {i : Nat} {es es' : List (D × D)} (hi : hget h i = some (.omap es)) {b : Nat} (hb : E.O i = some b) (ob : Obj) : Chg E h w E (hset h i (.omap es')) (World.row w b ob) i where
  os := rfl
  tape := rfl
  output := rfl
  size := by simp
  envO := fun j e => rfl
  envC := fun j e => rfl
  M := rfl
  N := rfl
  hh := fun j e => hget_hset_other e
  gi := by
    unfold GoesOn
    rw [hi]
    exact ⟨rfl, es', hget_hset_same hi⟩
  blk := fun k hk hn => row_other (fun e => hn ⟨by simp [hi], by rw [hb, e]⟩)
  new := fun k _ hk => .inl ⟨by simp [hi], hk⟩

theorem sat_map {cx : Cx} {s : AS} {a : Act} {w : World} (hs : Sat cx E s a w) {i : Nat} {es es' : List (D × D)} (hi : hget s.h i = some (.omap es)) {b : Nat} (hb : E.O i = some b) {mes mes' : Array MapEntry} {c c' : Nat} (hc : w.heap[b]? = some (.map mes c)) (ho : esOk es' mes') :
    Sat cx E { s with h := hset s.h i (.omap es') } a (World.row w b (.map mes' c')) ∧ Evo cx.fl E s.h w E (hset s.h i (.omap es')) (World.row w b (.map mes' c')) := by
  have ch := chg_map (E := E) (w := w) hi (es' := es') hb (.map mes' c')
  refine ⟨ch.sat hs (fun ob hob => ?_), ch.evo (.inl (by simp [hi]))⟩
  rw [hget_hset_same hi] at hob
  cases hob
  simp only [RepObj]
  exact ⟨b, mes', c', hb, row_get (Array.getElem?_eq_some_iff.1 hc).1, ho⟩

/-! ### An iterator over a text's runes -/
theorem chg_it {w : World} {i : Nat} {l : List UInt8} {p p' : Nat} (hi : hget h i = some (.strit l p)) {b : Nat} (hb : E.O i = some b) (ob : Obj) : Chg E h w E (hset h i (.strit l p')) (World.row w b ob) i where
  os := rfl
  tape := rfl
  output := rfl
  size := by simp
  envO := fun j e => rfl
  envC := fun j e => rfl
  M := rfl
  N := rfl
  hh := fun j e => hget_hset_other e
  gi := by
    unfold GoesOn
    rw [hi]
    exact ⟨rfl, p', hget_hset_same hi⟩
  blk := fun j hj hn => row_other (fun e => hn ⟨by simp [hi], by rw [hb, e]⟩)
  new := fun j _ hj => .inl ⟨by simp [hi], hj⟩

theorem sat_it {cx : Cx} {s : AS} {a : Act} {w : World} (hs : Sat cx E s a w) {i : Nat} {l : List UInt8} {p p' : Nat} (hi : hget s.h i = some (.strit l p)) {b : Nat} (hb : E.O i = some b) (hlt : b < w.heap.size) :
    Sat cx E { s with h := hset s.h i (.strit l p') } a (World.row w b (.stringIter ⟨l.toArray⟩ p')) ∧ Evo cx.fl E s.h w E (hset s.h i (.strit l p')) (World.row w b (.stringIter ⟨l.toArray⟩ p')) := by
  have ch := chg_it (E := E) (w := w) hi (p' := p') hb (.stringIter ⟨l.toArray⟩ p')
  refine ⟨ch.sat hs (fun ob hob => ?_), ch.evo (.inl (by simp [hi]))⟩
  rw [hget_hset_same hi] at hob
  cases hob
  simp only [RepObj]
  exact ⟨b, hb, row_get hlt⟩

theorem sat_new_it {cx : Cx} {s : AS} {a : Act} {w : World} (hs : Sat cx E s a w) (l : List UInt8) :
    Sat cx (E.set (fresh cx.fl s.h) (some w.heap.size) 0) { s with h := (fresh cx.fl s.h, .strit l 0) :: s.h } a (w.alloc (.stringIter ⟨l.toArray⟩ 0)) ∧ Evo cx.fl E s.h w (E.set (fresh cx.fl s.h) (some w.heap.size) 0) ((fresh cx.fl s.h, .strit l 0) :: s.h) (w.alloc (.stringIter ⟨l.toArray⟩ 0)) ∧
    Rep (w.alloc (.stringIter ⟨l.toArray⟩ 0)) (E.set (fresh cx.fl s.h) (some w.heap.size) 0) ((fresh cx.fl s.h, .strit l 0) :: s.h) (.itr (fresh cx.fl s.h)) (.pointer (some ⟨w.heap.size, 0, none⟩)) := by
  have c := chg_new cx.fl hs.hp (.stringIter ⟨l.toArray⟩ 0) (.strit l 0) 0
  refine ⟨c.sat hs (fun o ho => ?_), c.evo (.inr (fl_le_fresh _ _)), ?_⟩
  · simp [hget] at ho
    subst ho
    simp only [RepObj]
    exact ⟨w.heap.size, by simp [Env.set], alloc_get w _⟩
  · simp only [Rep]
    exact ⟨_, l, 0, by simp [hget], by simp [Env.set], rfl⟩

theorem sat_new_map {cx : Cx} {s : AS} {a : Act} {w : World} (hs : Sat cx E s a w) :
    Sat cx (E.set (fresh cx.fl s.h) (some w.heap.size) 0) { s with h := (fresh cx.fl s.h, .omap []) :: s.h } a (w.alloc (.map #[] 0)) ∧ Evo cx.fl E s.h w (E.set (fresh cx.fl s.h) (some w.heap.size) 0) ((fresh cx.fl s.h, .omap []) :: s.h) (w.alloc (.map #[] 0)) ∧
    Rep (w.alloc (.map #[] 0)) (E.set (fresh cx.fl s.h) (some w.heap.size) 0) ((fresh cx.fl s.h, .omap []) :: s.h) (.map (fresh cx.fl s.h)) (.map (some w.heap.size)) := by
  have c := chg_new cx.fl hs.hp (.map #[] 0) (.omap []) 0
  refine ⟨c.sat hs (fun o ho => ?_), c.evo (.inr (fl_le_fresh _ _)), ?_⟩
  · simp [hget] at ho
    subst ho
    simp only [RepObj]
    exact ⟨w.heap.size, #[], 0, by simp [Env.set], alloc_get w _, rfl, rfl⟩
  · simp only [Rep]
    exact ⟨_, [], by simp [hget], by simp [Env.set], rfl⟩

theorem esOk_put {es : List (D × D)} {mes : Array MapEntry} (ho : esOk es mes) {k v : D} (hk : k.scal = true) (hv : v.scal = true) (born : Nat) :
    esOk (mput k v es) (match mix k es with | some q => mes.modify q.1 (fun e => { e with key := valD k, val := valD v }) | none => mes.push { key := valD k, val := valD v, born := born }) := by
  rw [mput_mix]
  cases hm : mix k es with
  | none =>
    refine ⟨by simp [ho.1, hk, hv], ?_⟩
    simp [ho.2]
  | some q =>
    obtain ⟨p, h1, h2, h3⟩ := mix_lt k es q hm
    refine ⟨?_, ?_⟩
    · simp only [List.all_eq_true] at *
      intro x hx
      rcases List.mem_or_eq_of_mem_set hx with hx | rfl
      · exact List.all_eq_true.1 ho.1 x hx
      · simp [hk, hv]
    · apply List.ext_getElem?
      intro j
      have hj := congrArg (fun l => l[j]?) ho.2
      simp only [List.getElem?_map, Array.getElem?_toList] at hj ⊢
      rw [Array.getElem?_modify, List.getElem?_set]
      by_cases e : q.1 = j
      · subst e
        simp only [if_true]
        rw [h1] at hj
        have hlt : q.1 < es.length := (List.getElem?_eq_some_iff.1 h1).1
        cases hme : mes[q.1]? with
        | none => rw [hme] at hj; cases hj
        | some e => simp [hlt]
      · simp only [if_neg e]
        exact hj

theorem sameS_val {td : TD} {k x : D} (hk : alike td k = true) (hx : alike td x = true) (h : sameS k x = true) : valD x = valD k := by
  cases td <;> cases k <;> cases x <;> simp_all [alike, sameS, valD]

theorem sameBits_val {td : TD} {k : D} (hk : alike td k = true) : Instr.sameBits 10000 (valD k) (valD k) = true := by
  cases td <;> cases k <;> first | (cases hk; done) | skip
  all_goals simp [Instr.sameBits, valD, bytes_beq]

theorem run_getMap {b : Nat} {mes : Array MapEntry} {c : Nat} {w : World} (hb : w.heap[b]? = some (.map mes c)) : (getObj b).run P w = .ok (.map mes c) w := by simp [getObj, Sem.run, hb]
theorem run_setMap {b : Nat} {mes : Array MapEntry} {c : Nat} {w : World} (hb : w.heap[b]? = some (.map mes c)) (o : Obj) : (setObj b o).run P w = .ok () (World.row w b o) := by
  simp [setObj, Sem.run, hb, World.row]

theorem run_mapUpdate1 {t kt et : TypeId} (ht : (ty P t).td = .map kt et) {b : Nat} {es : List (D × D)} {mes : Array MapEntry} {c : Nat} {w : World} (hb : w.heap[b]? = some (.map mes c)) (ho : esOk es mes) {k v : D} (hk : alike (ty P kt).td k = true) (ha : (es.all fun p => alike (ty P kt).td p.1) = true) :
    ∃ c', (Instr.mapUpdate t (.map (some b)) (valD k) (valD v)).run P w = .ok () (World.row w b (.map (match mix k es with | some q => mes.modify q.1 (fun e => { e with key := valD k, val := valD v }) | none => mes.push { key := valD k, val := valD v, born := c }) c')) := by
  unfold Instr.mapUpdate
  simp only [Sem.run_bind, run_underlying (und_map ht), Result.andThen_ok, run_getMap hb, run_checkKey1 hk, run_findKey1 hk ho ha]
  cases hm : mix k es with
  | none =>
    refine ⟨c + 1, ?_⟩
    simp only [Option.map_none, run_setMap hb]
  | some q =>
    obtain ⟨p, h1, h2, h3⟩ := mix_lt k es q hm
    refine ⟨c, ?_⟩
    have hj := congrArg (fun l => l[q.1]?) ho.2
    simp only [List.getElem?_map, Array.getElem?_toList, h1, Option.map_some] at hj
    cases hme : mes[q.1]? with
    | none => rw [hme] at hj; cases hj
    | some e =>
      rw [hme] at hj
      simp only [Option.map_some, Option.some.injEq, Prod.mk.injEq] at hj
      have hp := List.all_eq_true.1 ha p (List.mem_of_getElem? h1)
      have hkey : e.key = valD k := by rw [hj.1]; exact sameS_val hk hp h2
      have hg : ((mes[q.1]?).map (·.key)).getD (valD k) = valD k := by rw [hme]; simp [hkey]
      simp only [Option.map_some, hg, Instr.keyThatStays, sameBits_val hk, if_true]
      rw [Sem.run_bind, Sem.run_pure, Result.andThen_ok, run_setMap hb]
end
end Go.Aw
