/-
  SPANS in rows: read, owned, one appended; two rows that are alike.
-/
import Derived.Test.YtiibiamobkhlbaaG2
set_option linter.unusedVariables false
set_option linter.unusedSimpArgs false
namespace Go.Proofs.Ytiibiamobkhlbaa
open Go.RowKit
set_option linter.unusedVariables false

def spanE : El (Int × Int) := fun _ x vs => vs = [.int .u64 x.1, .int .u64 x.2]
def encS (l : List (Int × Int)) : List Value := l.flatMap fun x => [.int .u64 x.1, .int .u64 x.2]
theorem encS_at {L : List (Int × Int)} : ∀ {i : Nat} {x : Int × Int}, L[i]? = some x → (encS L)[i * 2]? = some (.int .u64 x.1) ∧ (encS L)[i * 2 + 1]? = some (.int .u64 x.2) := by
  induction L with
  | nil => intro i x h; simp at h
  | cons y ys ih =>
    intro i x h
    cases i with
    | zero => simp at h; subst h; exact ⟨rfl, rfl⟩
    | succ i =>
      have := ih (i := i) (x := x) (by simpa using h)
      have e : (i + 1) * 2 = i * 2 + 2 := by omega
      rw [e]
      simpa [encS, List.flatMap_cons] using this
theorem OwnS.rdS {v : Value} {xs : List (Int × Int)} {h : Hp} (own : OwnS 2 v xs.length (encS xs) h) : Rd spanE 2 h v xs := by
  obtain ⟨A, c, spare, rfl, h1, h2, h3, h4, h5, rfl⟩ := own
  refine ⟨A, c, rfl, h1, h2, fun i x hi => ?_⟩
  have hlt : i < xs.length := (List.getElem?_eq_some_iff.1 hi).1
  obtain ⟨b, o, rfl⟩ := h5 (by omega)
  refine ⟨b, o, _, rfl, rfl, rfl, fun j u hu => ⟨false, ?_⟩⟩
  have ha := encS_at hi
  have hl : i * 2 + j < (encS xs).length := by
    rw [h3]
    match j, hu with
    | 0, _ => omega
    | 1, _ => omega
    | j + 2, hu => simp at hu
  have h9 := cellsH_at (a := ⟨b, o, none⟩) (vs := encS xs ++ spare) (i := i * 2 + j) (v := u) (by
    rw [List.getElem?_append_left hl]
    match j, hu with
    | 0, hu => simp at hu; subst hu; exact ha.1
    | 1, hu => simp at hu; subst hu; exact ha.2
    | j + 2, hu => simp at hu)
  simpa [Nat.add_assoc, rowH] using h9
theorem Rd.span {H : Hp} {A : Option Addr} {n c : Nat} {xs : List (Int × Int)} (r : Rd spanE 2 H (.slice A n c) xs) : n = xs.length ∧ n ≤ c ∧ c ≤ 9223372036854775807 ∧
    ∀ i (hi : i < xs.length), ∃ b o, A = some ⟨b, o, none⟩ ∧ (∃ fr, H (.cell b (o + i * 2)) = some (.val (.int .u64 xs[i].1) fr)) ∧ (∃ fr, H (.cell b (o + i * 2 + 1)) = some (.val (.int .u64 xs[i].2) fr)) := by
  obtain ⟨A', c', hv, hc, hc2, hat⟩ := r
  injection hv with e1 e2 e3
  subst e1 e2 e3
  refine ⟨rfl, hc, hc2, fun i hi => ?_⟩
  obtain ⟨b, o, vs, hA, rfl, _, hcell⟩ := hat i xs[i] (by simp [hi])
  exact ⟨b, o, hA, by simpa using hcell 0 _ rfl, by simpa using hcell 1 _ rfl⟩

section
variable {R : Ending → World → Prop} {W0 w : World} {H : Hp} {A F : List Hp} {b o : Nat} {r : RamG} {l : Option LogG}

end

/-- append of one span -/
theorem appendSp {ops : Array Oper} {rest : List Oper} {o : Oper} {a : Act} {Q : Exit → Act → World → Prop} {W0 w : World} {H : Hp} {A F : List Hp}
    (hg : o.guard = none) (sx xx : Operand) (hop : o.op = .call { callee := .builtin .append, args := #[sx, xx], argTypes := #[86, 86] })
    {v : Value} {xs : List (Int × Int)} {h : Hp} (hv : a.eval sx = v) (own : OwnS 2 v xs.length (encS xs) h) (s : Sat W0 w H A) [fr : FrH h A F] {X : Option Addr} {c : Nat} (hx : a.eval xx = .slice X 1 c) (p q : Int) (hus : RowR w X [.int .u64 p, .int .u64 q])
    (hb : xs.length ≤ 1000000000000)
    (k : ∀ v' w' h', OwnS 2 v' (xs ++ [(p, q)]).length (encS (xs ++ [(p, q)])) h' → Sat W0 w' H (h' :: F) → wpList Try.prog ops Q rest (a.put o.dst v') w') : wpList Try.prog ops Q (o :: rest) a w := by
  obtain ⟨i0, hi, hz, hs1, hb1⟩ := info_span
  refine wpList_append hg sx xx _ _ _ hop i0 (.agg #[.int .u64 0, .int .u64 0]) 2 16 Try.underlying86 Try.underlying86 hi hz hs1 hb1 rfl (by decide) hv own s.pull hx (us := [.int .u64 p, .int .u64 q]) rfl hus (by simp [Value.oneCell']) (by omega) (by omega) ?_
  intro A' cap' w' h' ho hs
  exact k _ w' h' (by simpa [encS, List.flatMap_append] using ho) hs

end Go.Proofs.Ytiibiamobkhlbaa
