/- The engine, sixth part: the equality of structs, and facts out of Booleans. Conditions: none. -/
import Derived.Test.YtngnagndhikafaaDoorSlice
import Derived.Laws.StructEq
namespace Go.Eng

theorem dec_t {p : Prop} [Decidable p] (h : decide p = true) : p := of_decide_eq_true h
theorem dec_f {p : Prop} [Decidable p] (h : decide p = false) : ¬ p := of_decide_eq_false h
theorem beq_t {a b : Int} (h : (a == b) = true) : a = b := eq_of_beq h
theorem beq_f {a b : Int} (h : (a == b) = false) : ¬ a = b := fun e => by subst e; simp at h
theorem bne_t {a b : Int} (h : (a != b) = true) : ¬ a = b := fun e => by subst e; simp at h
theorem bne_f {a b : Int} (h : (a != b) = false) : a = b := by simpa using h
theorem not_t {b : Bool} (h : (!b) = true) : b = false := by simpa using h
theorem not_f {b : Bool} (h : (!b) = false) : b = true := by simpa using h
theorem or_f1 {a b : Bool} (h : (a || b) = false) : a = false := by simp at h; exact h.1
theorem or_f2 {a b : Bool} (h : (a || b) = false) : b = false := by simp at h; exact h.2
theorem or_t {a b : Bool} (h : (a || b) = true) : a = true ∨ b = true := by simpa using h
theorem and_t1 {a b : Bool} (h : (a && b) = true) : a = true := by simp at h; exact h.1
theorem and_t2 {a b : Bool} (h : (a && b) = true) : b = true := by simp at h; exact h.2
theorem and_f {a b : Bool} (h : (a && b) = false) : a = false ∨ b = false := by cases a <;> simp_all

/-- A part of a row of cells, as an operand of a comparison. -/
def partV (P : Program) (t : TypeId) (cs : Array Value) (off : Nat) : Option Value :=
  match mr P [] 0 (part t cs off) with
  | some (v, []) => some v
  | _ => none

/-- The equality of two values of ints, bools and structs of them. -/
def eqIn (P : Program) : Nat → TypeId → Value → Value → Option Bool
  | 0, _, _, _ => none
  | d + 1, t, x, y =>
    match P.underlying t, x, y with
    | some .bool, .bool a, .bool b => some (a == b)
    | some (.int _), .int k a, .int k' b => if k = k' then some (a == b) else none
    | some (.struct fs), .agg xs, .agg ys =>
      if P.stoodInHeld t then none else
      fs.toList.foldr (fun f r => if f.name ≠ "_" then
          match partV P f.type xs f.offset, partV P f.type ys f.offset with
          | some a, some b => match eqIn P d f.type a b, r with
            | some p, some q => some (p && q)
            | _, _ => none
          | _, _ => none
        else r) (some true)
    | _, _, _ => none

theorem run_partV {P : Program} {t : TypeId} {cs : Array Value} {off : Nat} {v : Value} (h : partV P t cs off = some v) (w : World) : (part t cs off).run P w = .ok v w := by
  unfold partV at h
  split at h
  · rename_i u hm
    cases h
    exact mr_sound (Sat.start w) _ _ _ hm (by simp)
  · cases h

theorem run_eqIn {P : Program} : ∀ (d : Nat) (t : TypeId) (x y : Value) (b : Bool) (w : World), eqIn P d t x y = some b → (Op.equalIn d t x y).run P w = .ok b w
  | 0, _, _, _, _, _, h => by cases h
  | d + 1, t, x, y, b, w, h => by
    unfold eqIn at h
    split at h
    · rename_i u a c hu
      cases h
      exact run_equalIn_bool' w d t a c hu
    · rename_i u k a k' c hu
      split at h
      · rename_i hk
        subst hk
        cases h
        exact run_equalIn_int w d t k _ a c hu
      · cases h
    · rename_i u fs xs ys hu
      split at h
      · cases h
      · rename_i hs
        have hf : P.fieldsOf t = fs := by unfold Program.fieldsOf; rw [hu]
        rw [run_equalIn_agg w d t xs ys (by rw [hf]; exact hu) (by simpa using hs), hf]
        generalize fs.toList = l at h
        clear hf hu
        induction l generalizing b with
        | nil => cases h; rfl
        | cons f l ih =>
          simp only [List.foldr_cons] at h
          unfold Op.eqFields
          by_cases hn : f.name ≠ "_"
          · rw [if_pos hn] at h ⊢
            split at h
            · rename_i a c ha hc
              split at h
              · rename_i p q hp hq
                cases h
                simp only [Sem.run_bind, run_partV ha w, run_partV hc w, Result.andThen_ok, run_eqIn d f.type a c p w hp]
                cases p
                · rfl
                · exact ih q hq
              · cases h
            · cases h
          · rw [if_neg hn] at h ⊢
            exact ih b h
    · cases h

theorem run_eql {P : Program} {t : TypeId} {xs ys : Array Value} {b : Bool} {x y : Operand} (hm : P.eqGuardType P.depth t = false) (h : eqIn P 10000 t (.agg xs) (.agg ys) = some b) (w : World) :
    (sV (do eqGuard .eql t x y (.agg xs) (.agg ys); binOp .eql t (.agg xs) (.agg ys))).run P w = .ok (.value (.bool b)) w :=
  run_sV (by rw [Sem.run_bind, run_eqGuard_agg w .eql t x y xs ys hm]; show (binOp .eql t (.agg xs) (.agg ys)).run P w = _; rw [run_eql_struct, run_eqIn _ _ _ _ _ w h]; rfl)
theorem run_neq {P : Program} {t : TypeId} {xs ys : Array Value} {b : Bool} {x y : Operand} (hm : P.eqGuardType P.depth t = false) (h : eqIn P 10000 t (.agg xs) (.agg ys) = some b) (w : World) :
    (sV (do eqGuard .neq t x y (.agg xs) (.agg ys); binOp .neq t (.agg xs) (.agg ys))).run P w = .ok (.value (.bool (!b))) w :=
  run_sV (by rw [Sem.run_bind, run_eqGuard_agg w .neq t x y xs ys hm]; show (binOp .neq t (.agg xs) (.agg ys)).run P w = _; rw [run_neq_struct, run_eqIn _ _ _ _ _ w h]; rfl)

theorem w64_pred (n : Nat) (h : 1 ≤ n ∧ n < 4611686018427387904) {k : IntKind} : Value.int k (w64 ((n : Int) - 1)) = .int k ((n - 1 : Nat) : Int) := by
  rw [w64_id (by omega)]
  congr 1
  omega
theorem imin_l (x y : Int) : imin x y ≤ x := by unfold imin; split <;> omega
theorem imin_r (x y : Int) : imin x y ≤ y := by unfold imin; split <;> omega
theorem imax_l (x y : Int) : x ≤ imax x y := by unfold imax; split <;> omega
theorem imax_r (x y : Int) : y ≤ imax x y := by unfold imax; split <;> omega
theorem imin_or (x y : Int) : imin x y = x ∨ imin x y = y := by unfold imin; split <;> simp
theorem imax_or (x y : Int) : imax x y = x ∨ imax x y = y := by unfold imax; split <;> simp
theorem int_eq {k : IntKind} {x y : Int} (h : x = y) : Value.int k x = .int k y := by rw [h]

section
variable {P : Program} {n : Nat} {w0 : Ctx} {Q : Exit → Act → World → Prop} {F : Slots} {M : Mem}
theorem TQ.rw {ops : Array Oper} {Qa : Act → Prop} {N i : Nat} (t : Nat) (v v' : Value) (ht : look t F = some v) (e : v = v') (h : TQ P n w0 ops Qa N i ((t, v') :: F) M) : TQ P n w0 ops Qa N i F M := fun a hF => h a (hF.rw ht e)
theorem TG.rw {ops : Array Oper} {Qa : Act → Prop} {k i : Nat} {Mr M' : Mem} (t : Nat) (v v' : Value) (ht : look t F = some v) (e : v = v') (h : TG P n w0 ops Qa k Mr M M' i ((t, v') :: F)) : TG P n w0 ops Qa k Mr M M' i F := fun s1 s2 a hF => h s1 s2 a (hF.rw ht e)
theorem TC.rw (t : Nat) (v v' : Value) {c : Code} (ht : look t F = some v) (e : v = v') (h : TC P n w0 Q c ((t, v') :: F) M) : TC P n w0 Q c F M := fun a w hF hM => h a w (hF.rw ht e) hM
end
end Go.Eng
