/-
  Operations that hand back a value and leave the world alone: what they hand back, reckoned on abstract values; and that the model does so.
-/
import Derived.Test.YtioccpkcnnkpjaaGreatAwTy
import GoSem.Dispatch
import Derived.Laws.StructEq
namespace Go.Aw
set_option maxRecDepth 100000
set_option linter.unusedSimpArgs false
set_option linter.unusedVariables false
open Go

/-- '&', '|', '^', '&^' on integers. -/
def ibits (op : BinOp) (k : IntKind) (x y : Int) : Int :=
  let a := BitVec.ofInt k.bits x
  let b := BitVec.ofInt k.bits y
  k.wrap (match op with
    | .and => (a &&& b).toNat
    | .or => (a ||| b).toNat
    | .xor => (a ^^^ b).toNat
    | _ => (a &&& ~~~b).toNat)

def ishl (k : IntKind) (x y : Int) : Int := k.wrap (x * 2 ^ (min y.toNat k.bits))
def ishr (k : IntKind) (x y : Int) : Int := x.fdiv (2 ^ (min y.toNat k.bits))

/-- A binary operation on two integers of one kind: what must hold; what comes. -/
def abinI (op : BinOp) (k : IntKind) (a b : Int) : Prop × AV :=
  match op with
  | .add => (True, .d (.int k (k.wrap (a + b))))
  | .sub => (True, .d (.int k (k.wrap (a - b))))
  | .mul => (True, .d (.int k (k.wrap (a * b))))
  | .quo => (b ≠ 0, .d (.int k (k.wrap (a.tdiv b))))
  | .rem => (b ≠ 0, .d (.int k (a.tmod b)))
  | .and => (True, .d (.int k (ibits .and k a b)))
  | .or => (True, .d (.int k (ibits .or k a b)))
  | .xor => (True, .d (.int k (ibits .xor k a b)))
  | .andNot => (True, .d (.int k (ibits .andNot k a b)))
  | .eql => (True, .d (.bool (a == b)))
  | .neq => (True, .d (.bool (a != b)))
  | .lss => (True, .d (.bool (decide (a < b))))
  | .leq => (True, .d (.bool (decide (a ≤ b))))
  | .gtr => (True, .d (.bool (decide (b < a))))
  | .geq => (True, .d (.bool (decide (b ≤ a))))
  | _ => (False, .any)

def abinS (op : BinOp) (a b : List UInt8) : Prop × AV :=
  match op with
  | .add => (a.length + b.length < 9223372036854775808, .d (.str (a ++ b)))
  | .eql => (True, .d (.bool (a == b)))
  | .neq => (True, .d (.bool (a != b)))
  | .lss => (True, .d (.bool (Op.bytesLess a b)))
  | .leq => (True, .d (.bool (Op.bytesLess a b || a == b)))
  | .gtr => (True, .d (.bool (!(Op.bytesLess a b || a == b))))
  | .geq => (True, .d (.bool (!Op.bytesLess a b)))
  | _ => (False, .any)

def abin (P : Program) (op : BinOp) (t : TypeId) (x y : AV) : Prop × AV :=
  match x, y with
  | .d (.int k a), .d (.int k' b) =>
    (match op with
    | .shl => (0 ≤ b, .d (.int k (ishl k a b)))
    | .shr => (0 ≤ b, .d (.int k (ishr k a b)))
    | _ => (k = k' ∧ (abinI op k a b).1, (abinI op k a b).2))
  | .d (.str a), .d (.str b) => abinS op a b
  | .d (.bool a), .d (.bool b) =>
    (match op with
    | .eql => ((ty P t).td = .bool, .d (.bool (a == b)))
    | .neq => ((ty P t).td = .bool, .d (.bool (a != b)))
    | _ => (False, .any))
  | _, _ => (False, .any)

def aun (op : UnOp) (x : AV) : Prop × AV :=
  match op, x with
  | .not, .d (.bool b) => (True, .d (.bool (!b)))
  | .neg, .d (.int k n) => (True, .d (.int k (k.wrap (0 - n))))
  | .xor, .d (.int k n) => (True, .d (.int k (ibits .xor k (if k.signed then -1 else k.max) n)))
  | _, _ => (False, .any)

section
variable {P : Program} {W : World} {E : Env} {h : AHeap}

theorem str_eq (l : List UInt8) : (⟨l.toArray⟩ : ByteArray).toList = l := by
  rw [ByteArray.toList_eq]
theorem str_beq (a b : List UInt8) : ((⟨a.toArray⟩ : ByteArray).toList == (⟨b.toArray⟩ : ByteArray).toList) = (a == b) := by rw [str_eq, str_eq]

theorem abinI_ok {op : BinOp} {k : IntKind} {a b : Int} (hv : (abinI op k a b).1) (w : World) (t : TypeId) (hs : op ≠ .shl ∧ op ≠ .shr) :
    ∃ v, (binOp op t (.int k a) (.int k b)).run P w = .ok v w ∧ Rep W E h (abinI op k a b).2 v := by
  cases op <;> simp only [abinI] at hv ⊢ <;>
    first
    | exact hv.elim
    | exact absurd rfl hs.1
    | exact absurd rfl hs.2
    | (simp [binOp, Op.intArith, Op.intCmp, Rep, RepD]; done)
    | (simp [binOp, Op.intDiv, Rep, RepD, hv]; done)
    | (simp [binOp, Op.intBits, Rep, RepD, ibits]; done)

theorem abinS_ok {op : BinOp} {a b : List UInt8} (hv : (abinS op a b).1) (w : World) (t : TypeId) :
    ∃ v, (binOp op t (.string ⟨a.toArray⟩) (.string ⟨b.toArray⟩)).run P w = .ok v w ∧ Rep W E h (abinS op a b).2 v := by
  have h1 := str_eq a
  have h2 := str_eq b
  cases op <;> simp only [abinS] at hv ⊢ <;>
    first
    | exact hv.elim
    | (simp [binOp, Op.stringOp, Rep, RepD, h1, h2]; done)
    | (simp [binOp, Op.stringOp, Rep, RepD, h1, h2, bne]; done)
    | skip
  all_goals
    have : ¬ (((a.length : Int) + (b.length : Int)) > IntKind.i64.max) := by
      have : IntKind.i64.max = 9223372036854775807 := by decide
      omega
    simp only [binOp, Op.stringOp, Sem.run_ite]
    rw [if_neg (by simpa [ByteArray.size] using this)]
    refine ⟨_, rfl, ?_⟩
    simp only [Rep, RepD]
    congr 1

theorem run_equal_bool {t : TypeId} (h : P.underlying t = some .bool) (a b : Bool) (w : World) : (Op.equal t (.bool a) (.bool b)).run P w = .ok (a == b) w := by
  show (Op.equalIn (9999 + 1) t (.bool a) (.bool b)).run P w = _
  rw [Op.equalIn]
  simp only [Sem.run_bind, run_underlying h, Result.andThen_ok, Sem.run_pure]

theorem abin_ok {op : BinOp} {t : TypeId} {x y : AV} {a b : Value} (hv : (abin P op t x y).1) (hx : Rep W E h x a) (hy : Rep W E h y b) (w : World) :
    ∃ v, (binOp op t a b).run P w = .ok v w ∧ Rep W E h (abin P op t x y).2 v := by
  unfold abin at hv ⊢
  split at hv <;> rename_i hx0 <;> try exact hv.elim
  · -- integers
    rename_i k m k' n
    simp only [Rep, RepD] at hx hy
    subst hx hy
    split at hv
    · simp [binOp, Op.shift, Rep, RepD, ishl, Int.not_lt.2 hv]
    · simp [binOp, Op.shift, Rep, RepD, ishr, Int.not_lt.2 hv]
    · rename_i h1 h2
      obtain ⟨rfl, hv⟩ := hv
      exact abinI_ok hv w t ⟨h1, h2⟩
  · simp only [Rep, RepD] at hx hy
    subst hx hy
    exact abinS_ok hv w t
  · simp only [Rep, RepD] at hx hy
    subst hx hy
    split at hv
    · simp [binOp, run_equal_bool (und_bool hv), Rep, RepD]
    · simp [binOp, run_equal_bool (und_bool hv), Rep, RepD, bne]
    · exact hv.elim

theorem aun_ok {op : UnOp} {x : AV} {a : Value} (hv : (aun op x).1) (hx : Rep W E h x a) (w : World) :
    ∃ v, (Op.unary op a).run P w = .ok v w ∧ Rep W E h (aun op x).2 v := by
  unfold aun at hv ⊢
  split at hv
  · simp only [Rep, RepD] at hx; subst hx; simp [Op.unary, Rep, RepD]
  · simp only [Rep, RepD] at hx; subst hx; simp [Op.unary, Op.intArith, Rep, RepD]
  · simp only [Rep, RepD] at hx; subst hx; simp [Op.unary, Op.intBits, Rep, RepD, ibits]
  · exact hv.elim

/-! ### Parts of structs and arrays -/
def apart (P : Program) (t : TypeId) (cs : List AV) (off : Nat) : AV :=
  if (ty P t).td.agg then .agg ((cs.drop off).take (ty P t).size) else cs.getD off .any
/-- How many cells a part takes. -/
def psize (P : Program) (t : TypeId) : Nat := if (ty P t).td.agg then (ty P t).size else 1

theorem run_part_ok {t : TypeId} {cs : List AV} {vs : Array Value} {off : Nat} (ht : (ty P t).td ≠ .other) (hr : Reps W E h cs vs.toList) (hb : off + psize P t ≤ cs.length) (w : World) :
    ∃ v, (part t vs off).run P w = .ok v w ∧ Rep W E h (apart P t cs off) v := by
  obtain ⟨d, hd⟩ := und_ne ht
  have hl := Reps.length hr
  simp only [part, Sem.run_bind, run_isAgg hd ht, Result.andThen_ok]
  unfold apart
  unfold psize at hb
  cases hag : (ty P t).td.agg
  · simp only [hag, Bool.false_eq_true, if_false] at hb ⊢
    have h1 : cs[off]? = some (cs.getD off .any) := by rw [List.getD_eq_getElem?_getD, List.getElem?_eq_getElem (by omega)]; rfl
    obtain ⟨v, hv, hrv⟩ := Reps.get hr h1
    have : vs[off]? = some v := by simpa using hv
    exact ⟨v, by simp [this], hrv⟩
  · simp only [if_true, Sem.run_bind, run_sizeOf hd, Result.andThen_ok, Sem.run_pure]
    refine ⟨_, rfl, ?_⟩
    simp only [Rep]
    exact ⟨_, rfl, by
      have := (Reps.drop hr off).take (ty P t).size
      simpa [Array.toList_extract, List.extract_eq_take_drop] using this⟩

/-- An array's parts, one by one. -/
def eqIdx (d : Nat) (e : TypeId) (n : Nat) (xs ys : Array Value) : List Nat → Sem Bool
  | [] => pure true
  | i :: is => do
      let a ← part e xs (i * n)
      let b ← part e ys (i * n)
      let r ← Op.equalIn d e a b
      if (!r) = true then pure false else eqIdx d e n xs ys is

/-- Whether two values of a type whose leaves are numbers, truth values and texts are the same: what must hold; the answer. -/
def aeq (P : Program) : Nat → TypeId → AV → AV → Prop × Bool
  | 0, _, _, _ => (False, false)
  | d + 1, t, x, y =>
    match (ty P t).td, x, y with
    | .bool, .d (.bool a), .d (.bool b) => (True, a == b)
    | .int _, .d (.int k a), .d (.int k' b) => (k = k', a == b)
    | .str, .d (.str a), .d (.str b) => (True, a == b)
    | .struct fs, .agg xs, .agg ys => (P.stoodInHeld t = false ∧ (aeqF fs xs ys fun f => aeq P d f).1, (aeqF fs xs ys fun f => aeq P d f).2)
    | .arr n e, .agg xs, .agg ys => let r := aeqF ((List.range n).map fun i => (i * (ty P e).size, e)) xs ys fun f => aeq P d f
      (r.1 ∧ (ty P e).td ≠ .other, r.2)
    | _, _, _ => (False, false)
 where
  aeqF (fs : List (Nat × Nat)) (xs ys : List AV) (r : TypeId → AV → AV → Prop × Bool) : Prop × Bool :=
    match fs with
    | [] => (True, true)
    | f :: fs => let a := r f.2 (apart P f.2 xs f.1) (apart P f.2 ys f.1)
      let b := aeqF fs xs ys r
      ((ty P f.2).td ≠ .other ∧ f.1 + psize P f.2 ≤ xs.length ∧ f.1 + psize P f.2 ≤ ys.length ∧ a.1 ∧ b.1, a.2 && b.2)

theorem aeq_ok (w : World) : ∀ (d D : Nat) (t : TypeId) (x y : AV) (a b : Value), d ≤ D → (aeq P d t x y).1 → Rep W E h x a → Rep W E h y b →
    (Op.equalIn D t a b).run P w = .ok (aeq P d t x y).2 w
  | 0, D, t, x, y, a, b, _, hv, _, _ => by simp [aeq] at hv
  | d + 1, 0, t, x, y, a, b, hd, hv, _, _ => by omega
  | d + 1, D + 1, t, x, y, a, b, hd, hv, hx, hy => by
    unfold aeq at hv ⊢
    split at hv
    · rename_i ht; simp only [Rep, RepD] at hx hy; subst hx hy
      rw [Go.run_equalIn_bool' w D t _ _ (und_bool ht)]
    · rename_i ht; simp only [Rep, RepD] at hx hy; subst hx hy; subst hv
      rw [Go.run_equalIn_int w D t _ _ _ _ (und_int ht)]
    · rename_i ht; simp only [Rep, RepD] at hx hy; subst hx hy
      rw [Go.run_equalIn_string w D t _ _ (und_str ht), str_eq, str_eq]
    · rename_i fs xs ys ht
      simp only [Rep] at hx hy
      obtain ⟨us, rfl, hx⟩ := hx
      obtain ⟨vs, rfl, hy⟩ := hy
      obtain ⟨gs, hg, hfs, hn⟩ := und_struct ht
      have hfo : P.fieldsOf t = gs := by simp [Program.fieldsOf, hg]
      rw [Go.run_equalIn_struct w D t us vs (by rw [hfo]; exact hg) hv.1, hfo]
      have hv2 := hv.2
      clear hv hg hfo ht
      subst hfs
      generalize hgl : gs.toList = gl at hv2 hn ⊢
      clear hgl
      induction gl with
      | nil => simp [aeq.aeqF, Op.eqFields]
      | cons f gl ih =>
        simp only [List.map_cons, aeq.aeqF] at hv2 ⊢
        obtain ⟨h1, h2, h3, h4, h5⟩ := hv2
        obtain ⟨u, hu, hru⟩ := run_part_ok h1 hx h2 w
        obtain ⟨v, hv, hrv⟩ := run_part_ok h1 hy h3 w
        have hrec := aeq_ok w d D f.type _ _ u v (by omega) h4 hru hrv
        simp only [Op.eqFields, if_pos (hn f (by simp)), Sem.run_bind, hu, hv, hrec, Result.andThen_ok, Sem.run_ite, Sem.run_pure]
        rw [ih h5 (fun g hg => hn g (List.mem_cons_of_mem _ hg))]
        cases (aeq P d f.type (apart P f.type xs f.offset) (apart P f.type ys f.offset)).2 <;> simp
    · rename_i n e xs ys ht
      simp only [Rep] at hx hy
      obtain ⟨us, rfl, hx⟩ := hx
      obtain ⟨vs, rfl, hy⟩ := hy
      have ht' := und_arr ht
      obtain ⟨hv, he⟩ := hv
      obtain ⟨de, hde⟩ := und_ne he
      rw [Op.equalIn]
      simp only [Sem.run_bind, run_underlying ht', Result.andThen_ok, run_sizeOf hde]
      have hgen : ∀ (l : List Nat), (aeq.aeqF P (l.map fun i => (i * (ty P e).size, e)) xs ys fun f => aeq P d f).1 →
          (eqIdx D e (ty P e).size us vs l).run P w = .ok (aeq.aeqF P (l.map fun i => (i * (ty P e).size, e)) xs ys fun f => aeq P d f).2 w := by
        intro l
        induction l with
        | nil => intro _; simp [aeq.aeqF, eqIdx]
        | cons i l ih =>
          intro hv
          simp only [List.map_cons, aeq.aeqF] at hv ⊢
          obtain ⟨h1, h2, h3, h4, h5⟩ := hv
          obtain ⟨u, hu, hru⟩ := run_part_ok h1 hx h2 w
          obtain ⟨v, hv, hrv⟩ := run_part_ok h1 hy h3 w
          have hrec := aeq_ok w d D e _ _ u v (by omega) h4 hru hrv
          simp only [eqIdx, Sem.run_bind, hu, hv, hrec, Result.andThen_ok, Sem.run_ite, Sem.run_pure]
          rw [ih h5]
          cases (aeq P d e (apart P e xs (i * (ty P e).size)) (apart P e ys (i * (ty P e).size))).2 <;> simp
      rw [← hgen (List.range n) hv]
      rw [Std.Legacy.Range.forIn_eq_forIn_range', List.range_eq_range', show List.range' [:n].start [:n].size [:n].step = List.range' 0 n by simp [Std.Legacy.Range.size]]
      generalize List.range' 0 n = l
      clear hgen hv ht'
      induction l generalizing w with
      | nil => simp [eqIdx]
      | cons i l ih =>
        simp only [List.forIn_cons, eqIdx, Sem.run_bind]
        generalize (part e us (i * (ty P e).size)).run P w = r1
        cases r1 with
        | ok a w1 =>
          simp only [Result.andThen_ok]
          generalize (part e vs (i * (ty P e).size)).run P w1 = r2
          cases r2 with
          | ok b w2 =>
            simp only [Result.andThen_ok]
            generalize (Op.equalIn D e a b).run P w2 = r3
            cases r3 with
            | ok r w3 =>
              cases r
              · simp only [Result.andThen_ok, Bool.not_false, if_true, Sem.run_pure]
              · simp only [Result.andThen_ok, Bool.not_true, Bool.false_eq_true, if_false, Sem.run_pure]
                exact ih w3
            | halt x w3 => simp [Result.andThen]
          | halt x w2 => simp [Result.andThen]
        | halt x w1 => simp [Result.andThen]
    · exact hv.elim

end
end Go.Aw
