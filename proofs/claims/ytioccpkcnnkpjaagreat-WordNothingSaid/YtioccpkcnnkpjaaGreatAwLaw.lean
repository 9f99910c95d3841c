/-
  A law's row from its contract: the call returns true and below the old heap nothing has turned.
-/
import Derived.Test.YtioccpkcnnkpjaaGreatAwRow
namespace Go.Aw
set_option maxRecDepth 100000
set_option linter.unusedSimpArgs false
set_option linter.unusedVariables false
open Go Go.RowKit Go.ChangeShapes Go.WideShapes

/-- An argument's value, out of its leaves. -/
def argAV (P : Program) (t : TypeId) (xs : List D) : AV :=
  match (ty P t).td with
  | .struct _ => .agg (xs.map .d)
  | .arr _ _ => .agg (xs.map .d)
  | _ => match xs with
    | [x] => .d x
    | _ => .any

def DTys (P : Program) : List TypeId → List (List D) → Prop
  | [], l => l = []
  | t :: ts, l => ∃ x r, l = x :: r ∧ DTy P 9 t x ∧ DTys P ts r

def argAVs (P : Program) : List TypeId → List (List D) → List AV
  | t :: ts, x :: r => argAV P t x :: argAVs P ts r
  | _, _ => []

section
variable {H : Type} {enc : TypeId × Value → H} {P : Program} {W : World}

def E0 : Env := { O := fun _ => none, C := fun _ => 0, M := fun _ => False, N := fun _ => False }

theorem satH0 (W : World) : SatH E0 [] W := ⟨fun i o ho => by simp [hget] at ho, fun i j b h1 => by simp [hget] at h1, fun b ⟨i, hi, _⟩ => by simp [hget] at hi, fun _ h => h.elim, fun _ h => h.elim⟩

theorem noX0 : ∀ b, ¬ Xs E0 [] b := fun b hx => by
  rcases hx with ⟨i, hi, _⟩ | hx | hx
  · simp [hget] at hi
  · exact hx
  · exact hx

theorem reps_of_ds {E : Env} {h : AHeap} : ∀ {xs : List D} {vs : List Value}, RepDs W (Xs E h) xs vs → Reps W E h (xs.map .d) vs
  | [], vs, hr => by simpa [RepDs, Reps] using hr
  | x :: xs, vs, hr => by
    simp only [RepDs] at hr
    obtain ⟨v, r, rfl, h2, h3⟩ := hr
    simp only [List.map_cons, Reps]
    exact ⟨v, r, rfl, by simpa [Rep] using h2, reps_of_ds h3⟩

theorem okWide_leaf {t : TypeId} {v : Value} {r : Go.Reach} {b : Nat} (h : Value.okWide P W r b t v) (hs : ∀ fs, P.underlying t ≠ some (.struct fs)) (ha : ∀ n e, P.underlying t ≠ some (.array n e)) (hn : P.underlying t ≠ none) : ∀ x, v.cells.toList = [x] → v = x := by
  intro x hx
  unfold Value.okWide at h
  split at h
  · rename_i fs h1; exact (hs _ h1).elim
  · rename_i a b h1; exact (ha _ _ h1).elim
  · cases v <;> simp_all [Value.cells, Cell.okWide, Cell.ok]

theorem arg_rep {t : TypeId} {v : Value} {d : DataW H} {ps : List MemPlace} {r : Go.Reach} {b : Nat} (hp : plainTy P 9 t = true) (hv : Value.okWide P W r b t v) (h : DataW.Trod enc P W 0 (fun _ => true) true t v d ps) :
    ∃ xs, DTy P 9 t xs ∧ Rep W E0 [] (argAV P t xs) v := by
  obtain ⟨n, hn⟩ := h
  obtain ⟨xs, h1, h2⟩ := trod_dty (X := Xs E0 []) noX0 9 t n _ _ hp hn
  refine ⟨xs, h1, ?_⟩
  have h3 := reps_of_ds (E := E0) (h := []) h2
  unfold argAV
  have hleaf : ∀ x : D, xs = [x] → (∀ fs, P.underlying t ≠ some (.struct fs)) → (∀ n e, P.underlying t ≠ some (.array n e)) → P.underlying t ≠ none → Rep W E0 [] (.d x) v := by
    rintro x rfl hs ha hn
    simp only [RepDs] at h2
    obtain ⟨y, r', hy, h4, rfl⟩ := h2
    have := okWide_leaf hv hs ha hn y hy
    subst this
    simpa [Rep] using h4
  unfold plainTy at hp
  unfold DTy at h1
  split at hp
  · rename_i k ht
    have hu := und_int ht
    simp only [ht] at h1 ⊢
    obtain ⟨m, rfl, _⟩ := h1
    exact hleaf _ rfl (by rw [hu]; simp) (by rw [hu]; simp) (by rw [hu]; simp)
  · rename_i ht
    have hu := und_bool ht
    simp only [ht] at h1 ⊢
    obtain ⟨m, rfl⟩ := h1
    exact hleaf _ rfl (by rw [hu]; simp) (by rw [hu]; simp) (by rw [hu]; simp)
  · rename_i ht
    have hu := und_str ht
    simp only [ht] at h1 ⊢
    obtain ⟨m, rfl, _⟩ := h1
    exact hleaf _ rfl (by rw [hu]; simp) (by rw [hu]; simp) (by rw [hu]; simp)
  · rename_i e ht
    have hu := und_slice ht
    simp only [ht] at h1 ⊢
    obtain ⟨m, rfl, _⟩ := h1
    exact hleaf _ rfl (by rw [hu]; simp) (by rw [hu]; simp) (by rw [hu]; simp)
  · rename_i fs ht
    obtain ⟨gs, hu, _⟩ := und_struct ht
    simp only [ht]
    obtain ⟨cs, rfl, _⟩ := okWide_struct hu hv
    simp only [Rep]
    exact ⟨cs, rfl, by simpa [Value.cells] using h3⟩
  · rename_i k e ht
    have hu := und_arr ht
    simp only [ht]
    unfold Value.okWide at hv
    rw [hu] at hv
    obtain ⟨cs, rfl, _⟩ := hv
    simp only [Rep]
    exact ⟨cs, rfl, by simpa [Value.cells] using h3⟩
  · cases hp

theorem args_rep {r : Go.Reach} {b : Nat} : ∀ {ts : List TypeId} {vs : List Value} {ds : List (DataW H)} {ps : List MemPlace}, ts.all (plainTy P 9) = true → (∀ (j : Nat) t v, ts[j]? = some t → vs[j]? = some v → Value.okWide P W r b t v) → DataW.TrodAll enc P W 0 (fun _ => true) true ts vs ds ps →
    ∃ xss, DTys P ts xss ∧ Reps W E0 [] (argAVs P ts xss) vs ∧ ds.length = ts.length
  | [], _, _, _, _, _, h => by
    obtain ⟨rfl, rfl, rfl⟩ := trodAll_nil h
    exact ⟨[], rfl, by simp [argAVs, Reps], rfl⟩
  | t :: ts, _, _, _, hp, hv, h => by
    obtain ⟨v, vs1, d, ds1, a, b, rfl, rfl, rfl, h1, h2⟩ := trodAll_cons h
    simp only [List.all_cons, Bool.and_eq_true] at hp
    obtain ⟨xs, q1, q2⟩ := arg_rep hp.1 (hv 0 t v rfl rfl) h1
    obtain ⟨xss, r1, r2, r3⟩ := args_rep hp.2 (fun j t v ht hv' => hv (j + 1) t v (by simpa using ht) (by simpa using hv')) h2
    exact ⟨xs :: xss, ⟨xs, xss, rfl, q1, r1⟩, by simp only [argAVs, Reps]; exact ⟨_, _, rfl, q2, r2⟩, by simp [r3]⟩

/-- The call of a law. -/
theorem law_calls {f : FuncId} {args : Array Value} {ts : List TypeId} {ds : List (DataW H)} {ps : List MemPlace} {r : Go.Reach} {b : Nat} (hp : ts.all (plainTy P 9) = true)
    (hv : ∀ (j : Nat) t v, ts[j]? = some t → args.toList[j]? = some v → Value.okWide P W r b t v) (hA : DataW.TrodAll enc P W 0 (fun _ => true) true ts args.toList ds ps)
    (law : ∀ xss, DTys P ts xss → ACall P f 0 (argAVs P ts xss) [] (fun r _ => r = .d (.bool true))) :
    Calls P f args W (fun e W' => e = .returned (.bool true) ∧ Below W.heap.size W W') := by
  obtain ⟨xss, h1, h2, _⟩ := args_rep hp hv hA
  obtain ⟨_, hc⟩ := law xss h1
  refine (hc E0 W args (satH0 W) h2).mono ?_
  rintro e w' ⟨v, E', r', h', rfl, rfl, hs', hr', hev⟩
  refine ⟨by simp only [Rep, RepD] at hr'; rw [hr'], hev.os, hev.tape, hev.output, hev.size, fun k hk => hev.keep k hk (fun ⟨i, hi, _⟩ => by simp [hget] at hi)⟩

theorem below_all (hl : laidOutB P = true) {W' : World} (hb : Below W.heap.size W W') : ∀ {ts : List TypeId} {vs : List Value} {ds : List (DataW H)} {ps : List MemPlace}, (∀ t ∈ ts, P.readableRec t = true ∧ t < P.types.size) → DataW.TrodAll enc P W 0 (fun _ => true) true ts vs ds ps →
    DataW.TrodAll enc P W' 0 (fun b => decide (b < W.heap.size)) true ts vs ds ps
  | [], _, _, _, _, h => by
    obtain ⟨rfl, rfl, rfl⟩ := trodAll_nil h
    rfl
  | t :: ts, _, _, _, hr, h => by
    have hlt := h.lt
    obtain ⟨v, vs1, d, ds1, a, b, rfl, rfl, rfl, h1, h2⟩ := trodAll_cons h
    exact ⟨a, b, Below.trod hl (hr t (by simp)).1 (hr t (by simp)).2 h1 hb (fun x hx => hlt x (by simp [hx])), below_all hl hb (fun t ht => hr t (by simp [ht])) h2, rfl⟩

/-- **A LAW's ROW.** -/
theorem law_lifted {C : Checked} {os : Os} {f : FuncId} {fn : Func} {s : ChangeSpec} {tb : TypeId} {conds : List PathCond} (own : ownKnob C.prog.godebug = none) (started : os.Started) (noInit : C.prog.inits.idxOf? f = none) (hfn : C.prog.funcs[f]? = some fn)
    (witness : ∃ (w : World) (tape : Tape) (i : Input), w.os = os ∧ (w.forCall tape i).Shaped C.prog ∧ i.vars = [] ∧ Input.okWide C.prog (w.forCall tape i) .any w.heap.size f i ∧
      s.pre6 enc C.prog fn conds false (w.forCall tape i).memory i.args ∧ ({} : Assume).holds C.prog (lone (Frame.enter C.prog f i.args .normal) [] (w.forCall tape i)))
    (hvars : s.vars = []) (hspec : ∀ ds : List (DataW H), ds.length = fn.params.toList.length → s.fn H ds = { results := [.lit (.bool true)], args := ds })
    (hrt : fn.resultTypes = #[tb]) (htb : (ty C.prog tb).td = .bool)
    (hl : laidOutB C.prog = true) (hr : (fn.params.toList.all fun t => C.prog.readableRec t && decide (t < C.prog.types.size)) = true) (hp : fn.params.toList.all (plainTy C.prog 9) = true)
    (law : ∀ xss, DTys C.prog fn.params.toList xss → ACall C.prog f 0 (argAVs C.prog fn.params.toList xss) [] (fun r _ => r = .d (.bool true))) :
    ReturnsInHanded {} C os f .any (s.pre6 enc C.prog fn conds false) (s.post enc C.prog fn false true false false) := by
  refine returnsInHanded_of_change own started noInit hfn witness ?_
  intro W base args ds gs before hval hW hcnd _
  have hW' := hW
  obtain ⟨p, q, hA, hV, rfl, hfz, hnd⟩ := hW
  rw [hvars] at hV
  have hV' : gs = [] ∧ q = [] := by
    cases gs with
    | nil => exact ⟨rfl, hV⟩
    | cons a b => exact hV.elim
  obtain ⟨rfl, rfl⟩ := hV'
  obtain ⟨_, _, _, hdl⟩ := args_rep (r := .any) (b := base) hp (fun j t v h1 h2 => hval j t v (by simpa using h1) (by simpa using h2)) hA
  refine (law_calls hp (fun j t v h1 h2 => hval j t v (by simpa using h1) (by simpa using h2)) hA law).mono ?_
  rintro e W' ⟨rfl, hb⟩
  refine ⟨_, rfl, ds, [], p ++ [], [], p, [], hW', ?_, ?_, ?_, ?_, fun h => by cases h⟩
  · rw [hrt, List.append_nil, hspec ds hdl]
    refine ⟨[], [], ⟨1, ?_⟩, rfl, rfl⟩
    have := und_bool htb
    simp [DataW.trod, Value.cells, this]
  · rw [List.append_nil, hspec ds hdl]
    exact below_all hl hb (fun t ht => by have := List.all_eq_true.1 hr t ht; simpa using this) hA
  · rw [hvars, List.append_nil, hspec ds hdl]
    rfl
  · refine World.keptBut_mono (fun p' hp' => ?_) (hb.frame (fun _ => False))
    exact hp'.elim
end
end Go.Aw
