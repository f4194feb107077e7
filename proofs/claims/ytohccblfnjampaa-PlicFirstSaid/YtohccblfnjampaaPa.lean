/-
  PLIC, the plain part: words of 32 bits, what comes first. Plain theorems over any program.
-/
import Derived.Test.YtohccblfnjampaaVc
namespace Go.Proofs.Ytohccblfnjampaa
open Go.RowKit
set_option linter.unusedVariables false
set_option linter.unusedSimpArgs false

abbrev W32 := BitVec 32
/-- a word of 32 bits, as a number -/
def wn (x : W32) : Int := (x.toNat : Int)
theorem wn_bd (x : W32) : 0 ≤ wn x ∧ wn x ≤ 4294967295 := by have := x.isLt; unfold wn; omega
theorem wn_ofInt (x : W32) : BitVec.ofInt 32 (wn x) = x := by unfold wn; rw [BitVec.ofInt_natCast]; simp
theorem wrap_wn (x : W32) : IntKind.u32.wrap (wn x) = wn x := by have := wn_bd x; rw [wrap_u32]; omega
theorem wn_wrap (v : Int) : wn (BitVec.ofInt 32 v) = IntKind.u32.wrap v := by
  rw [wrap_u32]; unfold wn; rw [BitVec.toNat_ofInt]; omega
theorem bits_and (x y : W32) : bits BinOp.and .u32 (wn x) (wn y) = wn (x &&& y) := by
  have : bits BinOp.and .u32 (wn x) (wn y) = IntKind.u32.wrap ((BitVec.ofInt 32 (wn x) &&& BitVec.ofInt 32 (wn y)).toNat : Int) := rfl
  rw [this, wn_ofInt, wn_ofInt]; exact wrap_wn _
theorem bits_or (x y : W32) : bits BinOp.or .u32 (wn x) (wn y) = wn (x ||| y) := by
  have : bits BinOp.or .u32 (wn x) (wn y) = IntKind.u32.wrap ((BitVec.ofInt 32 (wn x) ||| BitVec.ofInt 32 (wn y)).toNat : Int) := rfl
  rw [this, wn_ofInt, wn_ofInt]; exact wrap_wn _
theorem bits_andNot (x y : W32) : bits BinOp.andNot .u32 (wn x) (wn y) = wn (x &&& ~~~y) := by
  have : bits BinOp.andNot .u32 (wn x) (wn y) = IntKind.u32.wrap ((BitVec.ofInt 32 (wn x) &&& ~~~BitVec.ofInt 32 (wn y)).toNat : Int) := rfl
  rw [this, wn_ofInt, wn_ofInt]; exact wrap_wn _
/-- the word with one bit -/
def tw (n : Nat) : W32 := BitVec.twoPow 32 n
theorem tw_bit (n i : Nat) : (tw n).getLsbD i = (decide (i < 32) && decide (n = i)) := by
  unfold tw; rw [BitVec.getLsbD_twoPow]
  by_cases h : n = i
  · subst h; rfl
  · simp [h]
theorem tw_wn (n : Nat) (h : n < 32) : wn (tw n) = 2 ^ n := by
  unfold wn tw
  rw [BitVec.toNat_twoPow, Nat.mod_eq_of_lt (Nat.pow_lt_pow_right (by omega) h)]
  exact Int.natCast_pow 2 n
theorem wn_bit (x : W32) (i : Nat) : (wn x / 2 ^ i % 2 == 1) = x.getLsbD i := by
  have e : wn x / 2 ^ i % 2 = ((x.toNat / 2 ^ i % 2 : Nat) : Int) := by unfold wn; norm_cast
  rw [e]
  show _ = x.toNat.testBit i
  rw [Nat.testBit_eq_decide_div_mod_eq]
  by_cases h : x.toNat / 2 ^ i % 2 = 1
  · rw [h]; rfl
  · rw [decide_eq_false h, beq_eq_false_iff_ne]; intro h2; exact h (by exact_mod_cast h2)

/-- what comes first of those from 1 to n that wait: the greatest priority, the least number -/
def bst (a : W32) (p : Nat → Int) : Nat → Nat
  | 0 => 0
  | n + 1 => if a.getLsbD (n + 1) = true ∧ 0 < p (n + 1) ∧ (bst a p n = 0 ∨ p (bst a p n) < p (n + 1)) then n + 1 else bst a p n

def IsB (a : W32) (p : Nat → Int) (lo hi b : Nat) : Prop :=
  (b = 0 ∧ ∀ j, lo ≤ j → j ≤ hi → ¬ (a.getLsbD j = true ∧ 0 < p j)) ∨
  (lo ≤ b ∧ b ≤ hi ∧ a.getLsbD b = true ∧ 0 < p b ∧ ∀ j, lo ≤ j → j ≤ hi → a.getLsbD j = true → 0 < p j → p j < p b ∨ p j = p b ∧ b ≤ j)

theorem bst_is (a : W32) (p : Nat → Int) : ∀ n, IsB a p 1 n (bst a p n)
  | 0 => .inl ⟨rfl, fun j h1 h2 => by omega⟩
  | n + 1 => by
    have ih := bst_is a p n
    unfold bst
    split
    · rename_i h
      refine .inr ⟨by omega, by omega, h.1, h.2.1, fun j h1 h2 h3 h4 => ?_⟩
      by_cases hj : j = n + 1
      · subst hj; right; exact ⟨rfl, by omega⟩
      · rcases ih with ⟨h5, h6⟩ | ⟨h5, h6, h7, h8, h9⟩
        · exact absurd ⟨h3, h4⟩ (h6 j h1 (by omega))
        · rcases h.2.2 with h10 | h10
          · omega
          · rcases h9 j h1 (by omega) h3 h4 with h11 | h11 <;> omega
    · rename_i h
      rcases ih with ⟨h5, h6⟩ | ⟨h5, h6, h7, h8, h9⟩
      · refine .inl ⟨h5, fun j h1 h2 h3 => ?_⟩
        by_cases hj : j = n + 1
        · subst hj; exact h ⟨h3.1, h3.2, .inl h5⟩
        · exact h6 j h1 (by omega) h3
      · refine .inr ⟨h5, by omega, h7, h8, fun j h1 h2 h3 h4 => ?_⟩
        by_cases hj : j = n + 1
        · subst hj
          by_cases h10 : p (bst a p n) < p (n + 1)
          · exact absurd ⟨h3, h4, .inr h10⟩ h
          · omega
        · exact h9 j h1 (by omega) h3 h4

/-- the document's: from above down -/
def dwn (a : W32) (p : Nat → Int) (b i : Nat) : Nat := if a.getLsbD i = true ∧ 0 < p i ∧ (b = 0 ∨ p b ≤ p i) then i else b
theorem dwn_is {a : W32} {p : Nat → Int} {i hi b : Nat} (hi0 : 1 ≤ i) (h : IsB a p (i + 1) hi b) (hh : i ≤ hi) : IsB a p i hi (dwn a p b i) := by
  unfold dwn
  split
  · rename_i c
    refine .inr ⟨by omega, hh, c.1, c.2.1, fun j h1 h2 h3 h4 => ?_⟩
    by_cases hj : j = i
    · subst hj; right; exact ⟨rfl, by omega⟩
    · rcases h with ⟨h5, h6⟩ | ⟨h5, h6, h7, h8, h9⟩
      · exact absurd ⟨h3, h4⟩ (h6 j (by omega) h2)
      · rcases c.2.2 with h10 | h10
        · omega
        · rcases h9 j (by omega) h2 h3 h4 with h11 | h11 <;> omega
  · rename_i c
    rcases h with ⟨h5, h6⟩ | ⟨h5, h6, h7, h8, h9⟩
    · refine .inl ⟨h5, fun j h1 h2 h3 => ?_⟩
      by_cases hj : j = i
      · subst hj; exact c ⟨h3.1, h3.2, .inl h5⟩
      · exact h6 j (by omega) h2 h3
    · refine .inr ⟨by omega, h6, h7, h8, fun j h1 h2 h3 h4 => ?_⟩
      by_cases hj : j = i
      · subst hj
        by_cases h10 : p b ≤ p j
        · exact absurd ⟨h3, h4, .inr h10⟩ c
        · omega
      · exact h9 j (by omega) h2 h3 h4
theorem isB_uni {a : W32} {p : Nat → Int} {lo hi b c : Nat} (h1 : 1 ≤ lo) (hb : IsB a p lo hi b) (hc : IsB a p lo hi c) : b = c := by
  rcases hb with ⟨x1, x2⟩ | ⟨x1, x2, x3, x4, x5⟩ <;> rcases hc with ⟨y1, y2⟩ | ⟨y1, y2, y3, y4, y5⟩
  · omega
  · exact absurd ⟨y3, y4⟩ (x2 c y1 y2)
  · exact absurd ⟨x3, x4⟩ (y2 b x1 x2)
  · have := x5 c y1 y2 y3 y4
    have := y5 b x1 x2 x3 x4
    omega
theorem isB_top (a : W32) (p : Nat → Int) (hi : Nat) : IsB a p (hi + 1) hi 0 := .inl ⟨rfl, fun j h1 h2 => by omega⟩

/-- the state -/
structure PlS where
  prio : List Int
  high : W32
  waits : W32
  serving : W32
  lets0 : W32
  lets1 : W32
  least0 : Int
  least1 : Int
  plen : prio.length = 32
  pbd : ∀ x ∈ prio, 0 ≤ x ∧ x ≤ 7
  b0 : 0 ≤ least0 ∧ least0 ≤ 7
  b1 : 0 ≤ least1 ∧ least1 ≤ 7
  h0 : high.getLsbD 0 = false

/-- as the program has it -/
def PlS.enc (s : PlS) : List Value := s.prio.map (Value.int .u32) ++ [.int .u32 (wn s.high), .int .u32 (wn s.waits), .int .u32 (wn s.serving), .int .u32 (wn s.lets0), .int .u32 (wn s.lets1), .int .u32 s.least0, .int .u32 s.least1]
def mk32 (x : W32) : List Value := (List.range 32).map fun i => .bool (x.getLsbD i)
/-- as the document has it -/
def PlS.ref (s : PlS) : List Value := s.prio.map (Value.int .i64) ++ mk32 s.high ++ mk32 s.waits ++ mk32 s.serving ++ mk32 s.lets0 ++ mk32 s.lets1 ++ [.int .i64 s.least0, .int .i64 s.least1]
theorem mk32_len (x : W32) : (mk32 x).length = 32 := by simp [mk32]
theorem PlS.enc_len (s : PlS) : s.enc.length = 39 := by simp [PlS.enc, s.plen]
theorem PlS.ref_len (s : PlS) : s.ref.length = 194 := by simp [PlS.ref, s.plen, mk32_len]
def PlS.p (s : PlS) (i : Nat) : Int := s.prio.getD i 0
theorem PlS.p_get (s : PlS) {i : Nat} (h : i < 32) : s.prio[i]? = some (s.p i) := by
  unfold PlS.p; rw [List.getD_eq_getElem?_getD, List.getElem?_eq_getElem (by rw [s.plen]; exact h)]; rfl
theorem PlS.p_bd (s : PlS) (i : Nat) : 0 ≤ s.p i ∧ s.p i ≤ 7 := by
  unfold PlS.p; rw [List.getD_eq_getElem?_getD]
  cases h : s.prio[i]? with
  | none => simp
  | some x => exact s.pbd x (List.mem_of_getElem? h)

section
variable (s : PlS)
def PlS.tl : List Value := [.int .u32 (wn s.high), .int .u32 (wn s.waits), .int .u32 (wn s.serving), .int .u32 (wn s.lets0), .int .u32 (wn s.lets1), .int .u32 s.least0, .int .u32 s.least1]
theorem PlS.enc_tl (i : Nat) : s.enc[32 + i]? = s.tl[i]? := by
  unfold PlS.enc
  rw [List.getElem?_append_right (by simp [s.plen])]
  simp [s.plen, PlS.tl]
theorem PlS.enc_p {i : Nat} (h : i < 32) : s.enc[i]? = some (.int .u32 (s.p i)) := by
  unfold PlS.enc
  rw [List.getElem?_append_left (by simp [s.plen, h]), List.getElem?_map, s.p_get h]; rfl
theorem PlS.enc_set (i : Nat) (v : Value) : s.enc.set (32 + i) v = s.prio.map (Value.int .u32) ++ s.tl.set i v := by
  unfold PlS.enc
  rw [List.set_append_right _ _ (by simp [s.plen])]
  simp [s.plen, PlS.tl]

def PlS.gate : PlS := { s with waits := s.waits ||| (s.high &&& ~~~s.serving) }
def PlS.lets (c : Nat) : W32 := if c = 0 then s.lets0 else s.lets1
def PlS.least (c : Nat) : Int := if c = 0 then s.least0 else s.least1
def PlS.best (c : Nat) : Nat := bst (s.waits &&& s.lets c) s.p 31
theorem bit0_and {x y : W32} (h : x.getLsbD 0 = false) : (x &&& y).getLsbD 0 = false := by rw [BitVec.getLsbD_and, h]; rfl
def PlS.raise (n : Nat) (hn : 1 ≤ n) : PlS := { s with high := s.high ||| tw n, h0 := by rw [BitVec.getLsbD_or, s.h0, tw_bit, decide_eq_false (show ¬ n = 0 by omega)]; rfl }
def PlS.lower (n : Nat) : PlS := { s with high := s.high &&& ~~~tw n, h0 := bit0_and s.h0 }
def PlS.line (n : Int) (hi : Bool) : PlS :=
  if h : 0 < n ∧ n < 32 then (if hi then (s.raise n.toNat (by omega)).gate else s.lower n.toNat) else s
def PlS.serve (n : Nat) : PlS := { s with waits := s.waits &&& ~~~tw n, serving := s.serving ||| tw n }
def PlS.take (c : Int) : PlS × Nat :=
  if 0 ≤ c ∧ c < 2 then (if 0 < s.best c.toNat then (s.serve (s.best c.toNat), s.best c.toNat) else (s, 0)) else (s, 0)
def PlS.free (n : Nat) : PlS := { s with serving := s.serving &&& ~~~tw n }
def PlS.done (c n : Int) : PlS := if (0 ≤ c ∧ c < 2) ∧ (0 < n ∧ n < 32) ∧ (s.lets c.toNat).getLsbD n.toNat = true then (s.free n.toNat).gate else s
def PlS.over (c : Nat) : Bool := decide (0 < s.best c ∧ s.least c < s.p (s.best c))
def PlS.linesP : Int := (if s.over 0 then 2048 else 0) + (if s.over 1 then 512 else 0)
theorem PlS.best_le (c : Nat) : s.best c ≤ 31 := by
  rcases bst_is (s.waits &&& s.lets c) s.p 31 with ⟨h, _⟩ | ⟨_, h, _⟩
  · unfold PlS.best; omega
  · exact h
theorem PlS.gate_set : s.enc.set 33 (.int .u32 (wn (s.waits ||| (s.high &&& ~~~s.serving)))) = s.gate.enc := by
  exact (s.enc_set 1 _).trans rfl
theorem PlS.raise_set (n : Nat) (hn : 1 ≤ n) : s.enc.set 32 (.int .u32 (wn (s.high ||| tw n))) = (s.raise n hn).enc := by
  exact (s.enc_set 0 _).trans rfl
theorem PlS.lower_set (n : Nat) : s.enc.set 32 (.int .u32 (wn (s.high &&& ~~~tw n))) = (s.lower n).enc := by
  exact (s.enc_set 0 _).trans rfl
theorem PlS.serve_set (n : Nat) : (s.enc.set 33 (.int .u32 (wn (s.waits &&& ~~~tw n)))).set 34 (.int .u32 (wn (s.serving ||| tw n))) = (s.serve n).enc := by
  have e : s.enc.set 33 (.int .u32 (wn (s.waits &&& ~~~tw n))) = PlS.enc { s with waits := s.waits &&& ~~~tw n } := (s.enc_set 1 _).trans rfl
  rw [e]
  exact (PlS.enc_set _ 2 _).trans rfl
theorem PlS.free_set (n : Nat) : s.enc.set 34 (.int .u32 (wn (s.serving &&& ~~~tw n))) = (s.free n).enc := by
  exact (s.enc_set 2 _).trans rfl

/-- is such an access let? -/
def mayP (at' n : Int) : Prop := n = 4 ∧ at' % 4 = 0 ∧ at' < 4194304
instance (a n : Int) : Decidable (mayP a n) := by unfold mayP; infer_instance
def PlS.load (at' n : Int) : PlS × Int × Bool :=
  if ¬ mayP at' n then (s, 0, false) else
  if at' < 128 then (s, s.p (at' / 4).toNat, true) else
  if at' = 4096 then (s, wn s.waits, true) else
  if at' = 8192 then (s, wn s.lets0, true) else
  if at' = 8320 then (s, wn s.lets1, true) else
  if at' = 2097152 then (s, s.least0, true) else
  if at' = 2101248 then (s, s.least1, true) else
  if at' = 2097156 then ((s.take 0).1, (s.take 0).2, true) else
  if at' = 2101252 then ((s.take 1).1, (s.take 1).2, true) else (s, 0, true)
def PlS.setP (i : Nat) (v : Int) (hv : 0 ≤ v ∧ v ≤ 7) : PlS := { s with prio := s.prio.set i v, plen := by simp [s.plen], pbd := fun x hx => by rcases List.mem_or_eq_of_mem_set hx with h | h <;> first | exact s.pbd x h | exact h ▸ hv }
def PlS.store (at' n v : Int) : PlS × Bool :=
  if ¬ mayP at' n then (s, false) else
  if 0 < at' ∧ at' < 128 then (s.setP (at' / 4).toNat (v % 8) (by omega), true) else
  if at' = 8192 then ({ s with lets0 := BitVec.ofInt 32 v &&& ~~~tw 0 }, true) else
  if at' = 8320 then ({ s with lets1 := BitVec.ofInt 32 v &&& ~~~tw 0 }, true) else
  if at' = 2097152 then ({ s with least0 := v % 8, b0 := by omega }, true) else
  if at' = 2101248 then ({ s with least1 := v % 8, b1 := by omega }, true) else
  if at' = 2097156 ∧ v % 4294967296 < 32 then (s.done 0 (v % 4294967296), true) else
  if at' = 2101252 ∧ v % 4294967296 < 32 then (s.done 1 (v % 4294967296), true) else (s, true)
theorem PlS.setP_set {i : Nat} (h : i < 32) (v : Int) (hv : 0 ≤ v ∧ v ≤ 7) : s.enc.set i (.int .u32 v) = (s.setP i v hv).enc := by
  unfold PlS.enc
  rw [List.set_append_left _ _ (by simp [s.plen, h]), show (s.setP i v hv).prio = s.prio.set i v from rfl, List.map_set]; rfl
end
end Go.Proofs.Ytohccblfnjampaa
