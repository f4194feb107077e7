/-
  WORDS AND BITS, the document's: vireoref01.Word, Bits; vireoref12.Word, marks, May.
-/
import Derived.Test.YtohccblfnjampaaPh
namespace Go.Proofs.Ytohccblfnjampaa
open Go.RowKit
set_option linter.unusedVariables false
set_option linter.unusedSimpArgs false

/-- the word of bits, from the one number j on -/
def wdB (l : List Bool) : Int := l.foldr (fun b n => (if b then 1 else 0) + 2 * n) 0
theorem wdB_bd : ∀ l : List Bool, 0 ≤ wdB l ∧ wdB l < 2 ^ l.length
  | [] => by simp [wdB]
  | b :: l => by
    have ih := wdB_bd l
    have e : wdB (b :: l) = (if b then 1 else 0) + 2 * wdB l := rfl
    have e2 : (2 : Int) ^ (b :: l).length = 2 * 2 ^ l.length := by rw [List.length_cons, Int.pow_succ]; omega
    rw [e, e2]
    cases b <;> simp <;> omega
theorem wdB_32 {l : List Bool} (h : l.length ≤ 32) : 0 ≤ wdB l ∧ wdB l ≤ 4294967295 := by
  have h1 := wdB_bd l
  have h2 : (2 : Int) ^ l.length = ((2 ^ l.length : Nat) : Int) := by simp
  have h3 : 2 ^ l.length ≤ 2 ^ 32 := Nat.pow_le_pow_right (by omega) h
  omega
theorem wdB_drop {l : List Bool} {j : Nat} {b : Bool} (h : l[j]? = some b) : wdB (l.drop j) = (if b then 1 else 0) + 2 * wdB (l.drop (j + 1)) := by
  have hj := (List.getElem?_eq_some_iff.1 h).1
  rw [List.drop_eq_getElem_cons hj]
  have : l[j] = b := (List.getElem?_eq_some_iff.1 h).2
  rw [this]; rfl
def bI (b : Bool) : Value := .int .i64 (if b then 1 else 0)
theorem oneCell_bI (l : List Bool) : ∀ v ∈ l.map bI, v.oneCell' = true := by
  intro v hv; obtain ⟨x, _, rfl⟩ := List.mem_map.1 hv; rfl
theorem info_int : ∃ i, Try.prog.info? 3 = some i ∧ i.zero = some (.int .i64 0) ∧ i.size = 1 ∧ i.bytes = 8 := by
  have h : (Try.prog.info? 3).map (fun i => (i.zero, i.size, i.bytes)) = some (some (.int .i64 0), 1, 8) := by kernel_rfl
  cases hi : Try.prog.info? 3 with
  | none => simp [hi] at h
  | some i => simp [hi] at h; exact ⟨i, rfl, h⟩
theorem row_int {w : World} {a : Int} {t : TypeId} : RowR (w.alloc (.cells #[.int .i64 a] t)) (some ⟨w.heap.size, 0, none⟩) [.int .i64 a] := by
  intro _
  exact ⟨_, _, rfl, fun j u hu => by rw [Nat.zero_add]; simp [hu]⟩

section
variable {R : Ending → World → Prop} {W0 w : World} {H : Hp} {A F : List Hp} {s : PlS}

set_option maxRecDepth 100000 in
set_option maxHeartbeats 4000000 in
theorem c_r01Word {v : Value} {h : Hp} {l : List Bool} (t : Sat W0 w H (h :: A)) (own : OwnS 1 v l.length (l.map bI) h) (hl : l.length = 32) (k : R (.returned (.int .u64 (wdB l))) w) :
    Calls Try.prog 130 #[v] w R := by
  obtain ⟨B, c, spare, rfl, h1, h2, h3, h4, h5, rfl⟩ := own
  obtain ⟨b, o, rfl⟩ := h5 (by omega)
  replace k := aside k
  rw [hl]
  go_enter Try.func130, Try.ntmps130
  go_wp2
  go_loopg [3, 4] 32 (fun q v3 v4 w' => w' = w ∧ q ≤ 32 ∧ v4 = .int .i64 ((q : Int) - 1) ∧ v3 = .int .u64 (wdB (l.drop q)))
  case atStart => exact ⟨rfl, by omega, rfl, by rw [List.drop_eq_nil_of_le (by omega)]; rfl⟩
  case round =>
    obtain ⟨rfl, hq, rfl, rfl⟩ := hrel
    obtain ⟨q, rfl⟩ : ∃ q : Nat, q = gk := ⟨_, rfl⟩
    cases q with
    | zero =>
      rw [List.drop_zero]
      go_wp2
      exact k.out
    | succ j =>
      obtain ⟨x, hx⟩ : ∃ x, l[j]? = some x := ⟨_, List.getElem?_eq_getElem (by omega)⟩
      have y1 := t.c j (v := bI x) (by rw [List.getElem?_append_left (by rw [List.length_map]; omega), List.getElem?_map, hx]; rfl)
      have hd := wdB_drop hx
      have hb := wdB_32 (l := l.drop (j + 1)) (by rw [List.length_drop]; omega)
      obtain ⟨V, hV⟩ : ∃ V, wdB (l.drop (j + 1)) = V := ⟨_, rfl⟩
      rw [hV] at hd hb ⊢
      have hj1 : ((j + 1 : Nat) : Int) - 1 = j := by omega
      rw [hj1]
      unfold bI at y1
      clear hj1 hx
      replace hV := aside hV
      replace hd := aside hd
      cases x
      all_goals
        simp only [Bool.false_eq_true, if_false, if_true] at y1
        go_wp2
        go_roundg j
        case measure => omega
        case rel => exact ⟨rfl, by omega, by go_num, by rw [hd.out]; simp only [Bool.false_eq_true, if_false, if_true, Value.int.injEq, true_and]; omega⟩
end

/-- the bits of a word -/
def bts (x : W32) : List Bool := (List.range 32).map fun i => x.getLsbD i
theorem bts_len (x : W32) : (bts x).length = 32 := by simp [bts]
theorem bts_at (x : W32) {i : Nat} (h : i < 32) : (bts x)[i]? = some (x.getLsbD i) := by simp [bts, h]
theorem mk32_bts (x : W32) : mk32 x = (bts x).map Value.bool := by simp [mk32, bts]
theorem bts_word (x : W32) : ∀ k, k ≤ 32 → wdB ((bts x).drop (32 - k)) = ((x.toNat / 2 ^ (32 - k) : Nat) : Int)
  | 0, _ => by
    rw [List.drop_eq_nil_of_le (by rw [bts_len]; omega), Nat.sub_zero, Nat.div_eq_of_lt x.isLt]; rfl
  | k + 1, h => by
    have ih := bts_word x k (by omega)
    have hd := wdB_drop (l := bts x) (j := 32 - (k + 1)) (bts_at x (by omega))
    rw [show 32 - (k + 1) + 1 = 32 - k by omega, ih] at hd
    rw [hd]
    have e : x.getLsbD (32 - (k + 1)) = decide (x.toNat / 2 ^ (32 - (k + 1)) % 2 = 1) := by
      show x.toNat.testBit _ = _
      rw [Nat.testBit_eq_decide_div_mod_eq]
    have e2 : x.toNat / 2 ^ (32 - k) = x.toNat / 2 ^ (32 - (k + 1)) / 2 := by
      rw [Nat.div_div_eq_div_mul, ← Nat.pow_succ, show (32 - (k + 1)).succ = 32 - k by omega]
    rw [e, e2]
    generalize x.toNat / 2 ^ (32 - (k + 1)) = q
    by_cases hq : q % 2 = 1
    · simp only [hq, decide_true, if_true]; omega
    · simp only [hq, decide_false, Bool.false_eq_true, if_false]; omega
theorem bts_wn (x : W32) : wdB (bts x) = wn x := by
  have := bts_word x 32 (by omega)
  rw [Nat.sub_self, List.drop_zero, Nat.pow_zero, Nat.div_one] at this
  exact this

section
variable {R : Ending → World → Prop} {W0 w : World} {H : Hp} {A F : List Hp} {s : PlS}
set_option maxRecDepth 100000 in
set_option maxHeartbeats 4000000 in
theorem c_r12Word (t : Sat W0 w H A) (x : W32) (k : ∀ w', Sat W0 w' H A → R (.returned (.int .u64 (wn x))) w') :
    Calls Try.prog 120 #[.agg (mk32 x).toArray] w R := by
  obtain ⟨i0, hi0, hz0, hs0, hb0⟩ := info_int
  have t1 := (t.alloc (c := mk32 x) (t := 100)).emp
  obtain ⟨Z, hZ⟩ : ∃ Z, w.heap.size = Z := ⟨_, rfl⟩
  rw [hZ] at t1
  obtain ⟨L, hL⟩ : ∃ L, mk32 x = L := ⟨_, rfl⟩
  have hat : ∀ i, i < 32 → L[i]? = some (.bool (x.getLsbD i)) := fun i h => by rw [← hL]; exact mk32_at x h
  rw [hL] at t1 ⊢
  have hbw := bts_wn x
  have hbl := bts_len x
  have hba : ∀ i, i < 32 → (bts x)[i]? = some (x.getLsbD i) := fun i h => bts_at x h
  replace k := aside k
  replace hL := aside hL
  replace hat := aside hat
  replace hbw := aside hbw
  replace hbl := aside hbl
  replace hba := aside hba
  go_enter Try.func120, Try.ntmps120
  go_wp2
  go_loopg [3, 4] 32 (fun q v3 v4 w' => ∃ (n : Nat) (h : Hp) (B : Option Addr) (c : Nat), q + n = 32 ∧ n ≤ 32 ∧ v4 = .int .i64 n ∧ v3 = .slice B n c ∧ OwnS 1 (.slice B n c) n (((bts x).take n).map bI) h ∧ Sat W0 w' H (h :: cellsH ⟨Z, 0, none⟩ L :: A))
  case atStart => exact ⟨0, empH, none, 0, rfl, by omega, rfl, rfl, OwnS.nil 1, t1⟩
  clear t1 t
  case round =>
    obtain ⟨n, h, B, c, hq, hn1, rfl, rfl, own, t⟩ := hrel
    by_cases hn : n < 32
    · have y1 := (t.swap.c n (hat.out n hn)).1
      simp only [Nat.zero_add] at y1
      have hS : ((bts x).take (n + 1)).map bI = ((bts x).take n).map bI ++ [bI (x.getLsbD n)] := by
        rw [List.take_add_one, hba.out n hn, List.map_append]; rfl
      have i1 : (0 : Int) ≤ n ∧ (n : Int) < 32 := by omega
      replace hq := aside hq
      cases hb : x.getLsbD n
      all_goals
        rw [hb] at y1 hS
        replace hS := aside hS
        replace hb := aside hb
      · skip
        go_wp2_with (at_builtin; refine wpList_append rfl (.tmp 15) (.tmp 16) 203 203 3 rfl i0 (.int .i64 0) 1 8 Try.underlying203 Try.underlying203 hi0 hz0 hs0 hb0 rfl (by decide) rfl own (t.alloc (c := [.int .i64 0]) (t := 3)).swap rfl (us := [.int .i64 0]) rfl row_int (by simp [Value.oneCell']) (by omega) (by omega) ?_; intro A6 c6 w6 h6 own6 t6)
        go_roundg (gk - 1)
        case measure => have := hq.out; omega
        case rel => exact ⟨n + 1, h6, _, c6, by have := hq.out; omega, by omega, by go_num, rfl, by rw [hS.out]; exact own6, t6.wk⟩
      · skip
        go_wp2_with (at_builtin; refine wpList_append rfl (.tmp 12) (.tmp 13) 203 203 3 rfl i0 (.int .i64 0) 1 8 Try.underlying203 Try.underlying203 hi0 hz0 hs0 hb0 rfl (by decide) rfl own (t.alloc (c := [.int .i64 1]) (t := 3)).swap rfl (us := [.int .i64 1]) rfl row_int (by simp [Value.oneCell']) (by omega) (by omega) ?_; intro A6 c6 w6 h6 own6 t6)
        go_roundg (gk - 1)
        case measure => have := hq.out; omega
        case rel => exact ⟨n + 1, h6, _, c6, by have := hq.out; omega, by omega, by go_num, rfl, by rw [hS.out]; exact own6, t6.wk⟩
    · obtain rfl : n = 32 := by omega
      rw [List.take_of_length_le (by rw [hbl.out]; omega)] at own
      clear hq hn hn1
      go_wp2_with fail
      refine c_r01Word t (by rw [hbl.out]; exact own) hbl.out ?_
      rw [hbw.out]
      go_wp2
      exact k.out _ t.tail1.tail1

set_option maxRecDepth 100000 in
set_option maxHeartbeats 4000000 in
theorem c_r01Bits (t : Sat W0 w H A) (x : Int) (hx : 0 ≤ x ∧ x ≤ 18446744073709551615) (k : ∀ w' B c h, OwnS 1 (.slice B 64 c) 64 ((List.range 64).map fun i => .int .i64 (x / 2 ^ i % 2)) h → Sat W0 w' H (h :: A) → R (.returned (.slice B 64 c)) w') :
    Calls Try.prog 132 #[.int .u64 x] w R := by
  obtain ⟨i0, hi0, hz0, hs0, hb0⟩ := info_int
  have t1 := t.emp
  have hstep : ∀ n : Nat, x / 2 ^ n / 2 = x / 2 ^ (n + 1) := fun n => by
    rw [Int.ediv_ediv_of_nonneg (Int.pow_nonneg (by decide)), ← Int.pow_succ]
  have hbd : ∀ n : Nat, 0 ≤ x / 2 ^ n ∧ x / 2 ^ n ≤ 18446744073709551615 := fun n =>
    ⟨Int.ediv_nonneg hx.1 (Int.pow_nonneg (by decide)), Int.le_trans (Int.ediv_le_self _ hx.1) hx.2⟩
  replace k := aside k
  replace hstep := aside hstep
  replace hbd := aside hbd
  go_enter Try.func132, Try.ntmps132
  go_wp2
  go_loopg [0, 3, 4] 64 (fun q v0 v3 v4 w' => ∃ (n : Nat) (h : Hp) (B : Option Addr) (c : Nat), q + n = 64 ∧ n ≤ 64 ∧ v4 = .int .i64 n ∧ v0 = .int .u64 (x / 2 ^ n) ∧ v3 = .slice B n c ∧ OwnS 1 (.slice B n c) n ((List.range n).map fun i => .int .i64 (x / 2 ^ i % 2)) h ∧ Sat W0 w' H (h :: A))
  case atStart => exact ⟨0, empH, none, 0, rfl, by omega, rfl, by simp, rfl, OwnS.nil 1, t1⟩
  clear t1 t
  case round =>
    obtain ⟨n, h, B, c, hq, hn1, rfl, rfl, rfl, own, t⟩ := hrel
    by_cases hn : n < 64
    · have hy := hbd.out n
      have hS : ((List.range (n + 1)).map fun i => Value.int .i64 (x / 2 ^ i % 2)) = ((List.range n).map fun i => Value.int .i64 (x / 2 ^ i % 2)) ++ [Value.int .i64 (x / 2 ^ n % 2)] := by
        rw [List.range_succ, List.map_append]; rfl
      have hS2 := hstep.out n
      obtain ⟨Y, hY⟩ : ∃ Y, x / 2 ^ n = Y := ⟨_, rfl⟩
      rw [hY] at hy hS hS2 ⊢
      have e1 : IntKind.i64.wrap (Y % 2) = Y % 2 := by simp [IntKind.wrap, IntKind.bits, IntKind.signed]; omega
      replace hq := aside hq
      replace hS := aside hS
      replace hS2 := aside hS2
      replace hY := aside hY
      go_wp2_with (at_builtin; refine wpList_append rfl (.tmp 9) (.tmp 13) 203 203 3 rfl i0 (.int .i64 0) 1 8 Try.underlying203 Try.underlying203 hi0 hz0 hs0 hb0 rfl (by decide) rfl own (t.alloc (c := [.int .i64 (Y % 2)]) (t := 3)).swap rfl (us := [.int .i64 (Y % 2)]) rfl row_int (by simp [Value.oneCell']) (by omega) (by omega) ?_; intro A6 c6 w6 h6 own6 t6)
      go_roundg (gk - 1)
      case measure => have := hq.out; omega
      case rel => exact ⟨n + 1, h6, _, c6, by have := hq.out; omega, by omega, by go_num, by rw [← hS2.out], rfl, by rw [hS.out]; exact own6, t6.wk⟩
    · obtain rfl : n = 64 := by omega
      clear hq hn hn1
      go_wp2
      exact k.out _ _ _ _ own t

/-- marks -/
def markW (x : Int) : W32 := BitVec.ofInt 32 x &&& ~~~tw 0
def mkZero : List Value := List.replicate 32 (.bool false)
set_option maxRecDepth 100000 in
theorem mkZero_eq : mkZero.toArray = (#[.bool false, .bool false, .bool false, .bool false, .bool false, .bool false, .bool false, .bool false, .bool false, .bool false, .bool false, .bool false, .bool false, .bool false, .bool false, .bool false, .bool false, .bool false, .bool false, .bool false, .bool false, .bool false, .bool false, .bool false, .bool false, .bool false, .bool false, .bool false, .bool false, .bool false, .bool false, .bool false] : Array Value) := by kernel_rfl
set_option maxRecDepth 100000 in
theorem mk_size : (Try.prog.info? 100).map (·.size) = some 32 := by kernel_rfl
theorem mkZero_mk : mkZero = mk32 0 := by
  apply List.ext_getElem?
  intro j
  rcases Nat.lt_or_ge j 32 with hj | hj
  · rw [mk32_at _ hj]; unfold mkZero; rw [List.getElem?_replicate, if_pos hj]; simp
  · rw [List.getElem?_eq_none (by unfold mkZero; rw [List.length_replicate]; exact hj), List.getElem?_eq_none (by rw [mk32_len]; exact hj)]
/-- the marks as far as n -/
def markTo (x : Int) : Nat → W32
  | 0 => 0
  | n + 1 => if n + 1 < 32 ∧ x / 2 ^ (n + 1) % 2 = 1 then markTo x n ||| tw (n + 1) else markTo x n
theorem markTo_bit (x : Int) {j : Nat} (hj : j < 32) : ∀ n, (markTo x n).getLsbD j = (decide (1 ≤ j ∧ j ≤ n) && decide (x / 2 ^ j % 2 = 1))
  | 0 => by
    have : decide (1 ≤ j ∧ j ≤ 0) = false := by simp; omega
    rw [this]; simp [markTo]
  | n + 1 => by
    have ih := markTo_bit x hj n
    unfold markTo
    by_cases h : j = n + 1
    · subst h
      have e1 : decide (1 ≤ n + 1 ∧ n + 1 ≤ n) = false := by simp
      have e2 : decide (1 ≤ n + 1 ∧ n + 1 ≤ n + 1) = true := by simp
      rw [e1] at ih
      rw [e2]
      by_cases h2 : x / 2 ^ (n + 1) % 2 = 1
      · rw [if_pos ⟨hj, h2⟩, BitVec.getLsbD_or, tw_bit, ih, decide_eq_true h2, decide_eq_true hj]; simp
      · rw [if_neg (fun h => h2 h.2), ih, decide_eq_false h2]; rfl
    · have e : decide (1 ≤ j ∧ j ≤ n + 1) = decide (1 ≤ j ∧ j ≤ n) := by rw [decide_eq_decide]; omega
      rw [e, ← ih]
      split
      · rw [BitVec.getLsbD_or, tw_bit, decide_eq_false (Ne.symm h)]; simp
      · rfl
theorem markTo_end (x : Int) (hx : 0 ≤ x ∧ x < 4294967296) : markTo x 31 = markW x := by
  apply BitVec.eq_of_getLsbD_eq
  intro j hj
  rw [markTo_bit x hj]
  unfold markW
  rw [BitVec.getLsbD_and, BitVec.getLsbD_not, tw_bit]
  have hb : (BitVec.ofInt 32 x).getLsbD j = decide (x / 2 ^ j % 2 = 1) := by
    rw [← wn_bit, wn_wrap, wrap_u32, Int.emod_eq_of_lt hx.1 hx.2]
    by_cases h : x / 2 ^ j % 2 = 1
    · rw [h]; rfl
    · rw [decide_eq_false h, beq_eq_false_iff_ne]; exact h
  rw [hb]
  by_cases h0 : j = 0
  · subst h0; simp
  · have e : decide (1 ≤ j ∧ j ≤ 31) = true := by simp; omega
    rw [e, decide_eq_false (show ¬ 0 = j by omega)]; simp [hj]

set_option maxRecDepth 100000 in
set_option maxHeartbeats 4000000 in
theorem c_r12Marks (t : Sat W0 w H A) (x : Int) (hx : 0 ≤ x ∧ x < 4294967296) (k : ∀ w', Sat W0 w' H A → R (.returned (.agg (mk32 (markW x)).toArray)) w') :
    Calls Try.prog 129 #[.int .u64 x] w R := by
  have t1 := (t.alloc (c := mkZero) (t := 100)).alloc (c := mkZero) (t := 100)
  rw [mkZero_eq] at t1
  obtain ⟨Z, hZ⟩ : ∃ Z, w.heap.size = Z := ⟨_, rfl⟩
  simp only [World.size_alloc] at t1
  rw [hZ] at t1
  have hme := markTo_end x hx
  obtain ⟨LZ, hLZ⟩ : ∃ L, mkZero = L := ⟨_, rfl⟩
  have hm0 : LZ = mk32 (markTo x 0) := by rw [← hLZ]; exact mkZero_mk
  have hlz : LZ.length = 32 := by rw [hm0]; exact mk32_len _
  rw [hLZ] at t1
  replace k := aside k
  replace hme := aside hme
  replace hLZ := aside hLZ
  replace hm0 := aside hm0
  replace hlz := aside hlz
  go_enter Try.func129, Try.ntmps129
  go_wp2_with fail
  refine c_r01Bits t1 x (by omega) ?_
  intro w2 B c h own t2
  obtain ⟨B', c', spare, he, h1, h2, h3, h4, h5, rfl⟩ := own
  obtain ⟨b, o, rfl⟩ := h5 (by omega)
  injection he with he1 he2 he3
  subst he1 he3
  clear t1 t hZ
  have hat : ∀ n, n < 64 → ((List.range 64).map (fun i => Value.int .i64 (x / 2 ^ i % 2)) ++ spare)[n]? = some (.int .i64 (x / 2 ^ n % 2)) := fun n h => by
    rw [List.getElem?_append_left (by simpa using h), List.getElem?_map, List.getElem?_range h]; rfl
  obtain ⟨M, hM⟩ : ∃ M, (List.range 64).map (fun i => Value.int .i64 (x / 2 ^ i % 2)) ++ spare = M := ⟨_, rfl⟩
  have t3 : Sat W0 w2 H (cellsH ⟨Z + 1, 0, none⟩ (mk32 (markTo x 0)) :: cellsH ⟨b, o, none⟩ M :: cellsH ⟨Z, 0, none⟩ LZ :: A) := by
    rw [← hm0.out, ← hM]; exact Sat.swap t2
  rw [hM] at hat
  replace hat := aside hat
  replace hM := aside hM
  clear t2 h1 h2 h3 h4 h5
  go_wp2
  go_loopg [5] 31 (fun q v5 w' => ∃ n : Nat, q + n = 31 ∧ v5 = .int .i64 ((n : Int) + 1) ∧ Sat W0 w' H (cellsH ⟨Z + 1, 0, none⟩ (mk32 (markTo x n)) :: cellsH ⟨b, o, none⟩ M :: cellsH ⟨Z, 0, none⟩ LZ :: A))
  case atStart => exact ⟨0, rfl, rfl, t3⟩
  clear t3
  case round =>
    obtain ⟨n, hq, rfl, t⟩ := hrel
    by_cases hn : n < 31
    · have hn31 := hn
      have y1 := (t.swap.c (n + 1) (hat.out (n + 1) (by omega))).1
      have y2 := t.c (n + 1) (mk32_at _ (show n + 1 < 32 by omega))
      have i1 : (0 : Int) ≤ (n : Int) + 1 ∧ (n : Int) + 1 < 32 := by omega
      have hS : markTo x (n + 1) = if n + 1 < 32 ∧ x / 2 ^ (n + 1) % 2 = 1 then markTo x n ||| tw (n + 1) else markTo x n := rfl
      have hv : (mk32 (markTo x n)).set (n + 1) (.bool (x / 2 ^ (n + 1) % 2 == 1)) = mk32 (markTo x (n + 1)) := by
        refine mk32_set (by omega) fun j hj => ?_
        rw [markTo_bit x hj, markTo_bit x hj]
        by_cases hjn : j = n + 1
        · subst hjn
          rw [if_pos rfl]
          have e2 : decide (1 ≤ n + 1 ∧ n + 1 ≤ n + 1) = true := by simp
          rw [e2]
          by_cases h : x / 2 ^ (n + 1) % 2 = 1
          · rw [h]; rfl
          · rw [decide_eq_false h, beq_eq_false_iff_ne.2 h]; rfl
        · rw [if_neg hjn]
          have e : decide (1 ≤ j ∧ j ≤ n + 1) = decide (1 ≤ j ∧ j ≤ n) := by rw [decide_eq_decide]; omega
          rw [e]
      have t4 := t.s (n + 1) (by rw [mk32_len]; omega) (.bool (x / 2 ^ (n + 1) % 2 == 1))
      rw [hv] at t4
      simp only [Nat.zero_add] at y1 y2 t4
      obtain ⟨Y, hY⟩ : ∃ Y, x / 2 ^ (n + 1) % 2 = Y := ⟨_, rfl⟩
      rw [hY] at y1 t4
      clear hS hv
      replace hY := aside hY
      replace hq := aside hq
      go_wp2
      go_roundg (gk - 1)
      case measure => have := hq.out; omega
      case rel => exact ⟨n + 1, by have := hq.out; omega, by go_num, t4⟩
    · obtain rfl : n = 31 := by omega
      rw [hme.out] at t
      have hgl : (Try.prog.info? 100).map (·.size) = some (mk32 (markW x)).length := by rw [mk32_len]; exact mk_size
      have hgo := one_mk32 (markW x)
      have hgn := mk32_len (markW x)
      obtain ⟨G, hG⟩ : ∃ G, mk32 (markW x) = G := ⟨_, rfl⟩
      rw [hG] at t hgl hgo hgn
      have k2 := k.out
      rw [hG] at k2
      replace k2 := aside k2
      have ts : Sat W0 wr H (cellsH ⟨Z, 0, none⟩ LZ :: cellsH ⟨Z + 1, 0, none⟩ G :: cellsH ⟨b, o, none⟩ M :: A) := t.wk
      replace hG := aside hG
      replace hgl := aside hgl
      replace hgo := aside hgo
      replace hgn := aside hgn
      clear hq hn k
      go_wp2_with (first
        | (refine wpList_loadS rfl 100 (.tmp 3) rfl (Z + 1) 0 rfl t Try.underlying100 rfl hgl.out ?_)
        | (refine wpList_storeS rfl 100 (.tmp 2) (.tmp 19) rfl Z 0 rfl rfl ts (by rw [hlz.out, hgn.out]; decide) hgl.out hgo.out ?_; intro w9 t9; rw [setR_all (by rw [hlz.out, hgn.out])] at t9))
      refine bodyPost_ret (results_S1 Try.results129 _ Z rfl t9 Try.underlying100 rfl hgl.out) rfl ?_
      exact k2.out _ t9.wk

set_option maxRecDepth 100000 in
set_option maxHeartbeats 4000000 in
theorem c_r12May (a n : Int) (ha : 0 ≤ a ∧ a ≤ 18446744073709551615) (hn : -9223372036854775808 ≤ n ∧ n ≤ 9223372036854775807) (k : R (.returned (.bool (decide (mayP a n)))) w) :
    Calls Try.prog 128 #[.int .u64 a, .int .i64 n] w R := by
  by_cases h4 : n = 4
  · subst h4
    by_cases h1 : a % 4 = 0
    · have h2 : (a % 4 == 0) = true := by simp [h1]
      by_cases h3 : a < 4194304
      · rw [decide_eq_true ⟨rfl, h1, h3⟩] at k
        clear h1
        go_enter Try.func128, Try.ntmps128
        go_wp2
        exact ret_b k (by first | (simp; done) | (simp; omega))
      · rw [decide_eq_false (fun h => h3 h.2.2)] at k
        clear h1
        go_enter Try.func128, Try.ntmps128
        go_wp2
        exact ret_b k (by first | (simp; done) | (simp; omega))
    · rw [decide_eq_false (fun h => h1 h.2.1)] at k
      have h2 : (a % 4 == 0) = false := by rw [beq_eq_false_iff_ne]; exact h1
      clear h1
      go_enter Try.func128, Try.ntmps128
      go_wp2
      exact k
  · rw [decide_eq_false (fun h => h4 h.1)] at k
    have h5 : (n == 4) = false := by rw [beq_eq_false_iff_ne]; exact h4
    go_enter Try.func128, Try.ntmps128
    go_wp2
    exact k
end
end Go.Proofs.Ytohccblfnjampaa
