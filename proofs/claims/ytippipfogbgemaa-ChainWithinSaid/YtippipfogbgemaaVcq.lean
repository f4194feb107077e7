/-
  TWO ARRAYS OF BYTES, COMPARED WHOLE. Plain theorems over any program.
-/
import Derived.Test.YtippipfogbgemaaVb
import Derived.ChangeKeysEq
import Derived.BigQuiet
import Derived.Deep.MidRow
namespace Go.Proofs.Ytippipfogbgemaa
open Go.RowKit
set_option linter.unusedVariables false

theorem run_eqItems8 {P : Program} {e : TypeId} (hu : P.underlying e = some (.int .u8)) (d : Nat) (A B : List Int) (w : World) : ∀ (is : List Nat), (∀ i ∈ is, i < A.length ∧ i < B.length) →
    (Op.eqItems (d + 1) e 1 (A.map (Value.int .u8)).toArray (B.map (Value.int .u8)).toArray is).run P w = .ok (decide (∀ i ∈ is, A[i]? = B[i]?)) w
  | [], _ => by simp [Op.eqItems]
  | i :: is, h => by
    obtain ⟨hA, hB⟩ := h i (by simp)
    have ih := run_eqItems8 hu d A B w is (fun j hj => h j (by simp [hj]))
    have p1 : (part e (A.map (Value.int .u8)).toArray (i * 1)).run P w = .ok (.int .u8 A[i]) w := run_part_plain w (by simp [Program.plainKey, hu]) (by simp [hA])
    have p2 : (part e (B.map (Value.int .u8)).toArray (i * 1)).run P w = .ok (.int .u8 B[i]) w := run_part_plain w (by simp [Program.plainKey, hu]) (by simp [hB])
    simp only [Op.eqItems, Sem.run_bind, p1, p2, Result.andThen_ok, run_equalIn_int w d e .u8 .u8 _ _ hu]
    by_cases hab : A[i] = B[i]
    · simp only [hab, beq_self_eq_true, Bool.not_true, Bool.false_eq_true, if_false, ih]
      congr 1
      simp [List.getElem?_eq_getElem hA, List.getElem?_eq_getElem hB, hab]
    · have hb : (A[i] == B[i]) = false := by simpa using hab
      simp only [hb, Bool.not_false, if_true, Sem.run_pure]
      congr 1
      symm
      simp [List.getElem?_eq_getElem hA, List.getElem?_eq_getElem hB, hab]

theorem run_equalIn_bytes {P : Program} {t e : TypeId} {n : Nat} (hu : P.underlying t = some (.array n e)) (he : P.underlying e = some (.int .u8)) (hs : (P.info? e).map (·.size) = some 1) (d : Nat) (A B : List Int) (hA : A.length = n) (hB : B.length = n) (w : World) :
    (Op.equalIn (d + 2) t (.agg (A.map (Value.int .u8)).toArray) (.agg (B.map (Value.int .u8)).toArray)).run P w = .ok (decide (A = B)) w := by
  cases hi : P.info? e with
  | none => simp [hi] at hs
  | some i =>
    have hc : P.cellsOf e = 1 := by simp [hi] at hs; simp [Program.cellsOf, hi, hs]
    rw [run_equalIn_array w (d + 1) _ _ hu hi, hc, run_eqItems8 he d A B w (List.range n) (fun j hj => by rw [List.mem_range] at hj; omega)]
    congr 1
    rw [decide_eq_decide]
    constructor
    · intro h
      apply List.ext_getElem?
      intro j
      rcases Nat.lt_or_ge j n with hj | hj
      · exact h j (List.mem_range.2 hj)
      · rw [List.getElem?_eq_none (by omega), List.getElem?_eq_none (by omega)]
    · rintro rfl _ _; rfl

theorem quiet_load_mid {P : Program} {op : Oper} {a : Act} {C : World → Prop} {K : Act → Prop} (ty : TypeId) (x : Operand) (ho : op.op = .load ty x)
    (b o : Nat) (hx : a.eval x = .pointer (some ⟨b, o, none⟩)) (cs : List Value) (d : TypeDesc) (hc : ∀ w, C w → w.rangeAt b o cs)
    (hu : P.underlying ty = some d) (hd : d.isRow = true) (hi : (P.info? ty).map (·.size) = some cs.length) (hk : K (a.put op.dst (.agg cs.toArray))) : op.quiet P a C K :=
  ⟨_, fun w hw => by
    unfold Oper.quietAt execOp
    simp only [ho, hx, Instr.loadAt, Instr.sureAddr, Sem.run_bind, Sem.run_pure, Result.andThen_ok, run_loadVar_mid w b o ty cs d (hc w hw) hu hd hi]
    exact ⟨rfl, rfl⟩, hk⟩

theorem quiet_neq_bytes {P : Program} {op : Oper} {a : Act} {C : World → Prop} {K : Act → Prop} (t e : TypeId) (x y : Operand) (ho : op.op = .binOp .neq t x y t) {n : Nat} (A B : List Int)
    (hx : a.eval x = .agg (A.map (Value.int .u8)).toArray) (hy : a.eval y = .agg (B.map (Value.int .u8)).toArray)
    (hu : P.underlying t = some (.array n e)) (he : P.underlying e = some (.int .u8)) (hs : (P.info? e).map (·.size) = some 1) (hg : P.eqGuardType P.depth t = false) (hA : A.length = n) (hB : B.length = n)
    (hk : K (a.put op.dst (.bool (!decide (A = B))))) : op.quiet P a C K :=
  ⟨_, fun w hw => by
    unfold Oper.quietAt execOp
    have h1 := run_eqGuard_agg (P := P) w .neq t x y (A.map (Value.int .u8)).toArray (B.map (Value.int .u8)).toArray hg
    have h2 := run_neq_struct (P := P) w t (A.map (Value.int .u8)).toArray (B.map (Value.int .u8)).toArray
    rw [run_equalIn_bytes hu he hs 9998 A B hA hB w] at h2
    simp only [ho, hx, hy, Sem.run_bind, h1, h2, Result.andThen_ok, Sem.run_pure]
    exact ⟨rfl, rfl⟩, hk⟩
end Go.Proofs.Ytippipfogbgemaa
