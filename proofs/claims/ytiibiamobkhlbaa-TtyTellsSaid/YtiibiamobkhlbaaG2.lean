/-
  RAM, the rest: what is written into the log; Store, Read, Write.
  RAM, the rest: Store, Read, Write, Watch.
  RAM, the rest: Read.
  THE DOCUMENT'S MEMORY (vireoref02): as a value; Has, Get, Read, Load.
  THE DOCUMENT'S MEMORY (vireoref02): Read, Of, Load.
  RAM's laws: what they share: New by size and bytes, Right, awake.
  THE DOCUMENT'S MEMORY (vireoref02): Write.
  The ring's laws: a memory with bytes put into it, and the document's (vireolaw15.Memory).
  RING: word.Of; words that are read from a memory, the code's (read, half) and the document's (Word).
-/
import Derived.Test.YtiibiamobkhlbaaG1
import Derived.Handy
set_option linter.unusedVariables false
set_option linter.unusedSimpArgs false
namespace Go.Proofs.Ytiibiamobkhlbaa
open Go.RowKit
set_option linter.unusedVariables false

section
variable {R : Ending → World → Prop} {W0 w : World} {H : Hp} {A F : List Hp} {b o : Nat} {r : RamG} {l : Option LogG}

/-! ### the log -/
def lgs (l : Option LogG) : Option (Addr × List (Int × Int) × List (Int × Int)) := l.map fun x => (⟨x.pb, x.po, none⟩, x.ws, x.rs)
def addW (a n : Int) (l : Option (Addr × List (Int × Int) × List (Int × Int))) : Option (Addr × List (Int × Int) × List (Int × Int)) := l.map fun x => (x.1, if 0 < n ∧ x.2.1.length < 4096 then x.2.1 ++ [(a, n)] else x.2.1, x.2.2)
def addR (a n : Int) (l : Option (Addr × List (Int × Int) × List (Int × Int))) : Option (Addr × List (Int × Int) × List (Int × Int)) := l.map fun x => (x.1, x.2.1, if 0 < n ∧ x.2.2.length < 4096 then x.2.2 ++ [(a, n)] else x.2.2)

theorem info_span : ∃ i, Try.prog.info? 48 = some i ∧ i.zero = some (.agg #[.int .u64 0, .int .u64 0]) ∧ i.size = 2 ∧ i.bytes = 16 := by
  have h : (Try.prog.info? 48).map (fun i => (i.zero, i.size, i.bytes)) = some (some (.agg #[.int .u64 0, .int .u64 0]), 2, 16) := by kernel_rfl
  cases hi : Try.prog.info? 48 with
  | none => simp [hi] at h
  | some i => simp [hi] at h; exact ⟨i, rfl, h⟩

theorem row_span {w : World} {a n : Int} {t : TypeId} : RowR (w.alloc (.cells #[.int .u64 a, .int .u64 n] t)) (some ⟨w.heap.size, 0, none⟩) [.int .u64 a, .int .u64 n] := by
  intro _
  exact ⟨_, _, rfl, fun j u hu => by rw [Nat.zero_add]; simp [hu]⟩

set_option maxRecDepth 100000 in
set_option maxHeartbeats 4000000 in
theorem c_ramWrote (s : Sat W0 w H A) [fr : FrK (κ := Addr) (ρ := fun _ => RamG × Option LogG) ramL ⟨b, o, none⟩ A (r, l) F] (a n : Int) (h0 : 0 ≤ a ∧ a ≤ 18446744073709551615) (hn : 0 ≤ n ∧ n ≤ 18446744073709551615)
    (k : ∀ w' l', lgs l' = addW a n (lgs l) → Sat W0 w' H (ramL ⟨b, o, none⟩ (r, l') ++ F) → R (.returned (.tuple #[])) w') :
    Calls Try.prog 118 #[.pointer (some ⟨b, o, none⟩), .int .u64 a, .int .u64 n] w R := by
  have s1 := s.front (mk := ramL) (k := ⟨b, o, none⟩)
  have c2 := s1.c 2 rfl
  cases l with
  | none =>
    have K := k w none rfl s1
    clear k s fr s1
    simp only [Option.map_none] at c2
    go_enter Try.func118, Try.ntmps118
    go_wp2
    refine bodyPost_end (results_none rfl _ _ _) rfl ?_
    exact K
  | some lg =>
    simp only [Option.map_some] at c2
    by_cases hn0 : n = 0
    · subst hn0
      have K := k w (some lg) (by simp [lgs, addW]) s1
      clear k s fr s1
      go_enter Try.func118, Try.ntmps118
      go_wp2
      refine bodyPost_end (results_none rfl _ _ _) rfl ?_
      exact K
    · have hp : 0 < n := by omega
      obtain ⟨pb, po, wsl, wbk, ws, rsl, rbk, rs, hw, hr⟩ := lg
      obtain ⟨A1, cap1, sp1, rfl, hcap, hcap2, hl1, hl2, hl3, hl4⟩ := id hw
      simp only [ramL, logL, Option.map_some, List.cons_append, List.nil_append] at s1
      simp only at c2
      have d0 := s1.cel pb po 0 rfl
      rw [Nat.add_zero] at d0
      by_cases hf : ws.length < 4096
      · obtain ⟨i0, hi, hz, hs1, hb1⟩ := info_span
        have hf' : (ws.length : Int) < 4096 := by omega
        have x2 := (s1.alloc (c := [.int .u64 a, .int .u64 n]) (t := 48)).cel b o 2 rfl
        have x0 := (s1.alloc (c := [.int .u64 a, .int .u64 n]) (t := 48)).cel pb po 0 rfl
        rw [Nat.add_zero] at x0
        clear s fr
        go_enter Try.func118, Try.ntmps118
        go_wp2
        go_region_law ((refine step_append rfl (.tmp 36) (.tmp 40) 86 86 48 rfl i0 (.agg #[.int .u64 0, .int .u64 0]) 2 16 Try.underlying86 Try.underlying86 hi hz hs1 hb1 rfl (by decide) rfl hw (Sat.pull (h := wbk) (s1.drew.alloc)) rfl (us := [.int .u64 a, .int .u64 n]) rfl row_span (by simp [Value.oneCell']) (by omega) (by omega) ?_; intro A2 cap2 w2 h2 ho hs; have e2 := hs.cel b o 2 rfl; have e0 := hs.cel pb po 0 rfl; rw [Nat.add_zero] at e0))
        all_goals
          refine bodyPost_end (results_none rfl _ _ _) rfl ?_
          refine k _ (some ⟨pb, po, .slice A2 (ws.length + 1) cap2, h2, ws ++ [(a, n)], rsl, rbk, rs, by simpa [List.flatMap_append] using ho, hr⟩) (by simp [lgs, addW, hp, hf]) ?_
          simp only [ramL, logL, Option.map_some, List.cons_append, List.nil_append]
          exact ((Sat.pull (h := cellsH ⟨pb, po, none⟩ [.slice A1 ws.length cap1, rsl]) hs).s0 _).wk
      · have K := k w (some ⟨pb, po, .slice A1 ws.length cap1, wbk, ws, rsl, rbk, rs, hw, hr⟩) (by simp [lgs, addW, hf]) s1
        have hf' : ¬ ((ws.length : Int) < 4096) := by omega
        clear k s fr s1 hw hr
        go_enter Try.func118, Try.ntmps118
        go_wp2
        refine bodyPost_end (results_none rfl _ _ _) rfl ?_
        exact K
end

end Go.Proofs.Ytiibiamobkhlbaa

namespace Go.Proofs.Ytiibiamobkhlbaa
open Go.RowKit
set_option linter.unusedVariables false

section
variable {R : Ending → World → Prop} {W0 w : World} {H : Hp} {A F : List Hp} {b o : Nat} {r : RamG} {l : Option LogG}

theorem leb_get (x : Int) (n i : Nat) (h : i < n) : (leb x n)[i]? = some (shb x i % 256) := by
  induction n with
  | zero => omega
  | succ n ih =>
    rw [leb_snoc]
    by_cases hi : i < n
    · rw [List.getElem?_append_left (by rw [leb_len]; exact hi)]; exact ih hi
    · obtain rfl : i = n := by omega
      rw [List.getElem?_append_right (by rw [leb_len]; omega), leb_len]; simp

theorem shb_pow (x : Int) (i : Nat) : shb x i = x / 2 ^ (8 * i) := by
  induction i with
  | zero => simp [shb]
  | succ i ih => rw [shb, ih, Nat.mul_succ, Int.pow_add, Int.ediv_ediv_of_nonneg (Int.pow_nonneg (by omega))]; rfl

set_option maxRecDepth 100000 in
set_option maxHeartbeats 4000000 in
theorem c_ramStore (s : Sat W0 w H A) [fr : FrK (κ := Addr) (ρ := fun _ => RamG × Option LogG) ramL ⟨b, o, none⟩ A (r, l) F] (a n x : Int) (h0 : 0 ≤ a ∧ a ≤ 18446744073709551615) (hn : -9223372036854775808 ≤ n ∧ n ≤ 9223372036854775807) (hx : 0 ≤ x ∧ x ≤ 18446744073709551615)
    (kb : ¬ (sizedP n ∧ r.has a n) → R (.returned (.bool false)) w)
    (k : (sizedP n ∧ r.has a n) → ∀ w' r' l', r'.mem = putB r.mem a (leb x n.toNat) → r'.size = r.size → lgs l' = addW a n (lgs l) → Sat W0 w' H (ramL ⟨b, o, none⟩ (r', l') ++ F) → R (.returned (.bool true)) w') : Calls Try.prog 54 #[.pointer (some ⟨b, o, none⟩), .int .u64 a, .int .i64 n, .int .u64 x] w R := by
  by_cases hs : sizedP n
  · have hu : IntKind.u64.wrap n = n := by rw [wrap_u64]; unfold sizedP at hs; omega
    by_cases hh : r.has a n
    · have K := k ⟨hs, hh⟩
      have hz := r.hsize
      obtain ⟨m, rfl⟩ : ∃ m : Nat, n = m := ⟨n.toNat, by unfold sizedP at hs; omega⟩
      rw [Int.toNat_natCast] at K
      have h8 : m ≤ 8 := by unfold sizedP at hs; omega
      have s0 := s.front (mk := ramL) (k := ⟨b, o, none⟩)
      unfold RamG.has at hh
      go_enter Try.func54, Try.ntmps54
      go_wp2_with (first | (go_at_call 62; refine c_ramSized _ ?_; rw [decide_eq_true hs]) | (go_at_call 63; refine c_ramHas s _ _ h0 (by omega) ?_; rw [decide_eq_true (show r.has a m from hh)]))
      clear k kb s fr
      go_loopg [9, 22] m (fun q v9 v22 w' => ∃ (i : Nat) (r' : RamG), q + i = m ∧ v22 = .int .i64 i ∧ r'.mem = putB r.mem a (leb x i) ∧ r'.size = r.size ∧ Sat W0 w' H (ramL ⟨b, o, none⟩ (r', l) ++ F))
      case atStart => exact ⟨0, r, by simp, rfl, by rw [leb, putB_nil], rfl, s0⟩
      case round =>
        obtain ⟨i, r', hq, rfl, hm, hsz, s'⟩ := hrel
        by_cases hi : i < m
        · have e1 : IntKind.u64.wrap (i : Int) = i := by rw [wrap_u64]; omega
          have e2 : IntKind.u64.wrap (a + i) = a + i := by rw [wrap_u64]; omega
          have hg0 : 2147483648 ≤ a + i := by omega
          have hg1 : a + i - 2147483648 < r'.size := by omega
          have hxv := shb_pow x i
          replace hm := aside hm
          replace hxv := aside hxv
          clear hz hn hs hu hh h0
          go_wp2_with (go_at_call 117; refine c_ramSet s' _ _ hg0 hg1 (by omega) ?_; intro w2 r2 hm2 hs2 s2)
          go_roundg (gk - 1)
          case measure => omega
          case rel => exact ⟨i + 1, r2, by omega, by go_num, by rw [hm2, hm.out, leb_snoc, putB_snoc, leb_len, hxv.out], by rw [hs2, hsz], s2⟩
        · obtain rfl : i = m := by omega
          go_wp2_with (go_at_call 118; refine c_ramWrote s' _ _ h0 (by omega) ?_; intro w2 l2 hl2 s2)
          exact K _ r' l2 hm hsz hl2 s2
    · go_enter Try.func54, Try.ntmps54
      go_wp2_with (first | (go_at_call 62; refine c_ramSized _ ?_; rw [decide_eq_true hs]) | (go_at_call 63; refine c_ramHas s _ _ h0 (by unfold sizedP at hs; omega) ?_; rw [decide_eq_false hh]))
      exact kb (fun h => hh h.2)
  · go_enter Try.func54, Try.ntmps54
    go_wp2_with (go_at_call 62; refine c_ramSized _ ?_; rw [decide_eq_false hs])
    exact kb (fun h => hs h.1)

set_option maxRecDepth 100000 in
set_option maxHeartbeats 4000000 in
theorem c_ramWrite (s : Sat W0 w H A) [fr : FrK (κ := Addr) (ρ := fun _ => RamG × Option LogG) ramL ⟨b, o, none⟩ A (r, l) F] (a : Int) (h0 : 0 ≤ a ∧ a ≤ 18446744073709551615) {v : Value} {hp : Hp} {ds : List Int} (rd : Rd u8E 1 hp v ds) (hk : ∀ w', Sat W0 w' H F → Holds w' hp)
    (kb : ¬ r.has a ds.length → R (.returned (.bool false)) w)
    (k : r.has a ds.length → ∀ w' r' l', r'.mem = putB r.mem a ds → r'.size = r.size → lgs l' = addW a ds.length (lgs l) → Sat W0 w' H (ramL ⟨b, o, none⟩ (r', l') ++ F) → R (.returned (.bool true)) w') : Calls Try.prog 56 #[.pointer (some ⟨b, o, none⟩), .int .u64 a, v] w R := by
  obtain ⟨B, c, rfl, rd⟩ := rd.open_
  obtain ⟨_, hc, hc2, g⟩ := rd.u8
  clear rd
  have hlen : (ds.length : Int) ≤ 9223372036854775807 := by omega
  by_cases hh : r.has a ds.length
  · have K := k hh
    have hz := r.hsize
    have s0 := s.front (mk := ramL) (k := ⟨b, o, none⟩)
    unfold RamG.has at hh
    go_enter Try.func56, Try.ntmps56
    go_wp2_with (go_at_call 63; refine c_ramHas s _ _ h0 (by omega) ?_; rw [decide_eq_true (show r.has a ds.length from hh)])
    clear k kb s fr
    go_loopg [7, 8, 18] ds.length (fun q v7 v8 v18 w' => ∃ (i : Nat) (r' : RamG), q + i = ds.length ∧ v18 = .int .i64 i ∧ r'.mem = putB r.mem a (ds.take i) ∧ r'.size = r.size ∧ Sat W0 w' H (ramL ⟨b, o, none⟩ (r', l) ++ F))
    case atStart => exact ⟨0, r, by simp, rfl, by rw [List.take_zero, putB_nil], rfl, s0⟩
    case round =>
      obtain ⟨i, r', hq, rfl, hm, hsz, s'⟩ := hrel
      by_cases hi : i < ds.length
      · have e1 : IntKind.u64.wrap (i : Int) = i := by rw [wrap_u64]; omega
        have e2 : IntKind.u64.wrap (a + i) = a + i := by rw [wrap_u64]; omega
        have hg0 : 2147483648 ≤ a + i := by omega
        have hg1 : a + i - 2147483648 < r'.size := by omega
        obtain ⟨bb, ob, rfl, hcell, hd0, hd1⟩ := g i hi
        have cc := (hk _ s'.tail).cell hcell
        have htk : ds.take (i + 1) = ds.take i ++ [ds[i]] := List.take_succ_eq_append_getElem hi
        have hln : (ds.take i).length = i := by rw [List.length_take]; omega
        generalize ds[i] = y at *
        replace hm := aside hm
        replace htk := aside htk
        replace hln := aside hln
        clear hz hh h0 g hcell
        go_wp2_with (go_at_call 117; refine c_ramSet s' _ _ hg0 hg1 ⟨hd0, hd1⟩ ?_; intro w2 r2 hm2 hs2 s2)
        go_roundg (gk - 1)
        case measure => omega
        case rel => exact ⟨i + 1, r2, by omega, by go_num, by rw [hm2, hm.out, htk.out, putB_snoc, hln.out], by rw [hs2, hsz], s2⟩
      · have hi2 : i = ds.length := by omega
        subst hi2
        rw [List.take_length] at hm
        clear g
        go_wp2_with (go_at_call 118; refine c_ramWrote s' _ _ h0 (by omega) ?_; intro w2 l2 hl2 s2)
        exact K _ r' l2 hm hsz hl2 s2
  · go_enter Try.func56, Try.ntmps56
    go_wp2_with (go_at_call 63; refine c_ramHas s _ _ h0 (by omega) ?_; rw [decide_eq_false hh])
    exact kb hh
end

end Go.Proofs.Ytiibiamobkhlbaa

namespace Go.Proofs.Ytiibiamobkhlbaa
open Go.RowKit
set_option linter.unusedVariables false

section
variable {R : Ending → World → Prop} {W0 w : World} {H : Hp} {A F : List Hp} {b o : Nat} {r : RamG} {l : Option LogG}

/-- a row that is filled from the front -/
def fillR (xs : List Int) (n : Nat) : List Value := xs.map (Value.int .u8) ++ List.replicate (n - xs.length) (.int .u8 0)
theorem fillR_set {xs : List Int} {n : Nat} (h : xs.length < n) (v : Int) : (fillR xs n).set xs.length (.int .u8 v) = fillR (xs ++ [v]) n := by
  unfold fillR
  rw [List.set_append_right _ _ (by simp)]
  simp only [List.length_map, Nat.sub_self, List.map_append, List.length_append, List.length_cons, List.length_nil, List.append_assoc]
  congr 1
  have : n - xs.length = (n - (xs.length + (0 + 1))) + 1 := by omega
  rw [this, List.replicate_succ]
  rfl
theorem fillR_at {xs : List Int} {n : Nat} (h : xs.length < n) : (fillR xs n)[xs.length]? = some (.int .u8 0) := by
  unfold fillR
  rw [List.getElem?_append_right (by simp)]
  have : 0 < n - xs.length := by omega
  simp [this]
theorem fillR_len {xs : List Int} {n : Nat} (h : xs.length ≤ n) : (fillR xs n).length = n := by simp [fillR]; omega
theorem fillR_full {xs : List Int} : fillR xs xs.length = xs.map (.int .u8) := by simp [fillR]

set_option maxRecDepth 100000 in
set_option maxHeartbeats 4000000 in
theorem c_ramRead (s : Sat W0 w H A) [fr : FrK (κ := Addr) (ρ := fun _ => RamG × Option LogG) ramL ⟨b, o, none⟩ A (r, l) F] (a n : Int) (h0 : 0 ≤ a ∧ a ≤ 18446744073709551615) (hn : 0 ≤ n ∧ n ≤ 18446744073709551615)
    (kb : ¬ r.has a n → R (.returned (.tuple #[.slice none 0 0, .bool false])) w)
    (k : r.has a n → ∀ w' v h' l', OwnS 1 v n.toNat ((rdB r.mem a n.toNat).map (Value.int .u8)) h' → lgs l' = addR a n (lgs l) → Sat W0 w' H (h' :: (ramL ⟨b, o, none⟩ (r, l') ++ F)) → R (.returned (.tuple #[v, .bool true])) w') : Calls Try.prog 129 #[.pointer (some ⟨b, o, none⟩), .int .u64 a, .int .u64 n] w R := by
  by_cases hh : r.has a n
  · have K := k hh
    have hz := r.hsize
    have s0 := s.front (mk := ramL) (k := ⟨b, o, none⟩)
    obtain ⟨m, rfl⟩ : ∃ m : Nat, n = m := ⟨n.toNat, by omega⟩
    rw [Int.toNat_natCast] at K
    unfold RamG.has at hh
    have hmk : ∀ W, (Instr.makeSlice 57 (.int .u64 m) (.int .u64 m)).run Try.prog W = .ok (.slice (some ⟨W.heap.size, 0, none⟩) m m) (W.alloc (.cells (List.replicate m (Value.int .u8 0)).toArray 5)) := fun W => by
      have := run_make8 .u64 .u64 m m (by omega) (by omega) (by omega) W
      simpa using this
    have hmb : (m : Int) ≤ 268435456 := by omega
    go_enter Try.func129, Try.ntmps129
    go_wp2_with (go_at_call 63; refine c_ramHas s _ _ h0 (by omega) ?_; rw [decide_eq_true (show r.has a m from hh)])
    clear k kb s fr hmk
    obtain ⟨B, hB⟩ : ∃ B, w.heap.size = B := ⟨_, rfl⟩
    have s1 : Sat W0 _ H (cellsH ⟨w.heap.size, 0, none⟩ (List.replicate m (.int .u8 0)) :: (ramL ⟨b, o, none⟩ (r, l) ++ F)) := s0.alloc (t := 5)
    rw [hB] at s1 ⊢
    clear s0
    go_loopg [9, 19] m (fun q v9 v19 w' => ∃ (i : Nat), q + i = m ∧ v19 = .int .i64 i ∧ Sat W0 w' H (cellsH ⟨B, 0, none⟩ (fillR (rdB r.mem a i) m) :: (ramL ⟨b, o, none⟩ (r, l) ++ F)))
    case atStart => exact ⟨0, by simp, rfl, by simpa [fillR, rdB] using s1⟩
    case round =>
      obtain ⟨i, hq, rfl, s'⟩ := hrel
      by_cases hi : i < m
      · have e1 : IntKind.u64.wrap (i : Int) = i := by rw [wrap_u64]; omega
        have e2 : IntKind.u64.wrap (a + i) = a + i := by rw [wrap_u64]; omega
        have hg0 : 2147483648 ≤ a + i := by omega
        have hg1 : a + i - 2147483648 < r.size := by omega
        have hln := rdB_len r.mem a i
        have cc := s'.c i (v := .int .u8 0) (by have := fillR_at (xs := rdB r.mem a i) (n := m) (by omega); rwa [hln] at this)
        have s2 := s'.s i (by rw [fillR_len (by omega)]; omega) (.int .u8 (r.mem (a + i)))
        have hst := fillR_set (xs := rdB r.mem a i) (n := m) (by omega) (r.mem (a + i))
        rw [hln] at hst
        rw [hst, Nat.zero_add] at s2
        rw [Nat.zero_add] at cc
        obtain ⟨Y, hY⟩ : ∃ Y, r.mem (a + i) = Y := ⟨_, rfl⟩
        rw [hY] at s2
        replace hY := aside hY
        clear hz hh h0 hst hln
        go_wp2_with (go_at_call 64; refine c_ramGet s' _ hg0 hg1 ?_; rw [hY.out])
        go_roundg (gk - 1)
        case measure => omega
        case rel => exact ⟨i + 1, by omega, by go_num, by rw [rdB, hY.out]; exact s2⟩
      · have hi2 : i = m := by omega
        subst hi2
        have hff : fillR (rdB r.mem a i) i = (rdB r.mem a i).map (.int .u8) ++ [] := by have := fillR_full (xs := rdB r.mem a i); rw [rdB_len] at this; simpa using this
        rw [hff] at s'
        have own : OwnS 1 (.slice (some ⟨B, 0, none⟩) i i) i ((rdB r.mem a i).map (.int .u8)) (cellsH ⟨B, 0, none⟩ ((rdB r.mem a i).map (.int .u8) ++ [])) := OwnS.made [] (Nat.le_refl _) (by omega) (by rw [List.length_map, rdB_len]; omega) (by simp)
        generalize cellsH ⟨B, 0, none⟩ ((rdB r.mem a i).map (.int .u8) ++ []) = hb at s' own
        have K2 := fun w' l' => K w' _ hb l' own
        clear K s1 own hz hff
        generalize rdB r.mem a i = xs at *
        cases l with
        | none =>
          simp only [ramL, Option.map_none, List.cons_append] at s'
          have c2 := s'.cel b o 2 rfl
          have K := K2 wr none rfl s'
          clear K2 s'
          go_wp2
          exact K
        | some lg =>
          obtain ⟨pb, po, wsl, wbk, ws, rsl, rbk, rs, hw, hr⟩ := lg
          obtain ⟨A1, cap1, sp1, rfl, hcap, hcap2, hl1, hl2, hl3, hl4⟩ := id hr
          have s0 := s'
          simp only [ramL, logL, Option.map_some, List.cons_append, List.nil_append] at s'
          have c2 := s'.cel b o 2 rfl
          have d0 := s'.cel pb po 1 rfl
          by_cases hn0 : i = 0
          · subst hn0
            have K := K2 wr _ (by simp [lgs, addR]) s0
            clear K2 s0 s'
            go_wp2
            exact K
          · have hp : (0 : Int) < i := by omega
            by_cases hf : rs.length < 4096
            · obtain ⟨i0, hi, hz, hs1, hb1⟩ := info_span
              have hf' : (rs.length : Int) < 4096 := by omega
              have x2 := (s'.alloc (c := [.int .u64 a, .int .u64 i]) (t := 48)).cel b o 2 rfl
              have x0 := (s'.alloc (c := [.int .u64 a, .int .u64 i]) (t := 48)).cel pb po 1 rfl
              clear s0
              go_wp2
              go_region_law ((refine step_append rfl (.tmp 62) (.tmp 66) 86 86 48 rfl i0 (.agg #[.int .u64 0, .int .u64 0]) 2 16 Try.underlying86 Try.underlying86 hi hz hs1 hb1 rfl (by decide) rfl hr (Sat.pull (h := rbk) (s'.drew.alloc)) rfl (us := [.int .u64 a, .int .u64 i]) rfl row_span (by simp [Value.oneCell']) (by omega) (by omega) ?_; intro A2 cap2 w2 h2 ho hs; have e2 := hs.cel b o 2 rfl; have e0 := hs.cel pb po 1 rfl))
              all_goals
                have K := K2 _ (some ⟨pb, po, wsl, wbk, ws, .slice A2 (rs.length + 1) cap2, h2, rs ++ [(a, (i : Int))], hw, by simpa [List.flatMap_append] using ho⟩) (by simp only [lgs, addR, Option.map_some, if_pos (And.intro hp hf)]) (by
                  simp only [ramL, logL, Option.map_some, List.cons_append, List.nil_append]
                  have s9 := (Sat.pull (h := cellsH ⟨pb, po, none⟩ [wsl, .slice A1 rs.length cap1]) hs).s 1 (by simp) (.slice A2 (rs.length + 1) cap2)
                  simp only [List.set_cons_succ, List.set_cons_zero] at s9
                  exact s9.wk)
                clear K2 s' hs e2 e0
                go_wp2
                exact K
            · have hf' : ¬ ((rs.length : Int) < 4096) := by omega
              have K := K2 wr _ (by simp [lgs, addR, hf]) s0
              clear K2 s0 s'
              go_wp2
              exact K
  · go_enter Try.func129, Try.ntmps129
    go_wp2_with (go_at_call 63; refine c_ramHas s _ _ h0 (by omega) ?_; rw [decide_eq_false hh])
    exact kb hh
end

end Go.Proofs.Ytiibiamobkhlbaa

namespace Go.Proofs.Ytiibiamobkhlbaa
open Go.RowKit
set_option linter.unusedVariables false

section
variable {R : Ending → World → Prop} {w : World}

set_option maxRecDepth 100000 in
set_option maxHeartbeats 4000000 in
theorem c_refSum (a b : Int) (h0 : 0 ≤ a ∧ a ≤ 18446744073709551615) (h1 : 0 ≤ b ∧ b ≤ 18446744073709551615)
    (k : R (.returned (.tuple #[.bool (decide (18446744073709551616 ≤ a + b)), .int .u64 ((a + b) % 18446744073709551616)])) w) : Calls Try.prog 168 #[.int .u64 a, .int .u64 b] w R := by
  have e : IntKind.u64.wrap (a + b) = (a + b) % 18446744073709551616 := wrap_u64 _
  have e2 : decide ((a + b) % 18446744073709551616 < a) = decide (18446744073709551616 ≤ a + b) := by rw [decide_eq_decide]; omega
  go_enter Try.func168, Try.ntmps168
  go_wp2
  refine ret_v k ?_
  simp only [Array.getD_eq_getD_getElem?, List.getElem?_toArray, List.getElem?_cons_succ, List.getElem?_cons_zero, Option.getD_some, e, e2, Value.tuple.injEq]

set_option maxRecDepth 100000 in
set_option maxHeartbeats 4000000 in
theorem c_refLess (a b c d : Int) (h0 : 0 ≤ a ∧ a ≤ 18446744073709551615) (h1 : 0 ≤ b ∧ b ≤ 18446744073709551615) (h2 : 0 ≤ c ∧ c ≤ 18446744073709551615) (h3 : 0 ≤ d ∧ d ≤ 18446744073709551615)
    (k : R (.returned (.bool (decide (a + b ≤ c + d)))) w) : Calls Try.prog 155 #[.int .u64 a, .int .u64 b, .int .u64 c, .int .u64 d, .bool true] w R := by
  by_cases x : 18446744073709551616 ≤ a + b <;> by_cases y : 18446744073709551616 ≤ c + d
  all_goals
    obtain ⟨s, hs⟩ : ∃ s, (a + b) % 18446744073709551616 = s := ⟨_, rfl⟩
    obtain ⟨t, ht⟩ : ∃ t, (c + d) % 18446744073709551616 = t := ⟨_, rfl⟩
    go_enter Try.func155, Try.ntmps155
    go_wp2_with fail
    refine c_refSum a b h0 h1 ?_
    first | rw [decide_eq_true (by omega)] | rw [decide_eq_false (by omega)]
    rw [hs]
    go_wp2_with fail
    refine c_refSum c d h2 h3 ?_
    first | rw [decide_eq_true (by omega)] | rw [decide_eq_false (by omega)]
    rw [ht]
    go_wp2_with fail
    all_goals
      refine ret_b k ?_
      rw [Bool.eq_iff_iff]
      simp
      try omega

set_option maxRecDepth 100000 in
set_option maxHeartbeats 4000000 in
theorem c_refWithin (a n b s : Int) (h0 : 0 ≤ a ∧ a ≤ 18446744073709551615) (h1 : 0 ≤ n ∧ n ≤ 18446744073709551615) (h2 : 0 ≤ b ∧ b ≤ 18446744073709551615) (h3 : 0 ≤ s ∧ s ≤ 18446744073709551615)
    (k : R (.returned (.bool (decide (b ≤ a ∧ a + n ≤ b + s)))) w) : Calls Try.prog 120 #[.int .u64 a, .int .u64 n, .int .u64 b, .int .u64 s] w R := by
  by_cases h : b ≤ a
  · go_enter Try.func120, Try.ntmps120
    go_wp2_with (go_at_call 155; refine c_refLess _ _ _ _ h0 h1 h2 h3 ?_)
    exact ret_b k (by simp [h])
  · go_enter Try.func120, Try.ntmps120
    go_wp2
    exact ret_b k (by simp; omega)
end

/-! ### the document's memory, as a value -/
def byteE : El (Int × Int) := fun _ x vs => vs = [.int .u64 x.1, .int .u8 x.2] ∧ (0 ≤ x.1 ∧ x.1 ≤ 18446744073709551615) ∧ 0 ≤ x.2 ∧ x.2 ≤ 255
theorem byteE_mono : ElMono byteE := fun _ _ _ _ _ e => e

def lastM (bs : List (Int × Int)) : Int → Int := bs.foldl (fun m x => updM m x.1 x.2) (fun _ => 0)
theorem lastM_snoc (bs : List (Int × Int)) (x : Int × Int) : lastM (bs ++ [x]) = updM (lastM bs) x.1 x.2 := by simp [lastM]

/-- v is a memory of the document's that has these bytes; no more than L were written -/
def RefM (H : Hp) (v : Value) (size : Int) (m : Int → Int) (L : Nat) : Prop :=
  ∃ (sl : Value) (bs : List (Int × Int)), v = .agg #[.int .u64 size, sl] ∧ Rd byteE 2 H sl bs ∧ m = lastM bs ∧ bs.length ≤ L
theorem RefM.mono {H H' : Hp} {v : Value} {size : Int} {m : Int → Int} {L : Nat} (r : RefM H v size m L) (le : ∀ l c, H l = some c → H' l = some c) : RefM H' v size m L := by
  obtain ⟨sl, bs, h1, h2, h3, h4⟩ := r
  exact ⟨sl, bs, h1, h2.mono byteE_mono le, h3, h4⟩

theorem Rd.byte2 {H : Hp} {A : Option Addr} {n c : Nat} {xs : List (Int × Int)} (r : Rd byteE 2 H (.slice A n c) xs) : n = xs.length ∧ n ≤ c ∧ c ≤ 9223372036854775807 ∧
    ∀ i (hi : i < xs.length), ∃ b o, A = some ⟨b, o, none⟩ ∧ (∃ fr, H (.cell b (o + i * 2)) = some (.val (.int .u64 xs[i].1) fr)) ∧ (∃ fr, H (.cell b (o + i * 2 + 1)) = some (.val (.int .u8 xs[i].2) fr)) ∧ (0 ≤ xs[i].1 ∧ xs[i].1 ≤ 18446744073709551615) ∧ 0 ≤ xs[i].2 ∧ xs[i].2 ≤ 255 := by
  obtain ⟨A', c', hv, hc, hc2, hat⟩ := r
  injection hv with e1 e2 e3
  subst e1 e2 e3
  refine ⟨rfl, hc, hc2, fun i hi => ?_⟩
  obtain ⟨b, o, vs, hA, ⟨rfl, h0, h1⟩, _, hcell⟩ := hat i xs[i] (by simp [hi])
  exact ⟨b, o, hA, by simpa using hcell 0 _ rfl, by simpa using hcell 1 _ rfl, h0, h1⟩

def hasP (size a n : Int) : Prop := 2147483648 ≤ a ∧ a + n ≤ 2147483648 + size
instance (s a n : Int) : Decidable (hasP s a n) := by unfold hasP; infer_instance
theorem has_iff (r : RamG) (a n : Int) (h : 0 ≤ n) : r.has a n ↔ hasP r.size a n := by unfold RamG.has hasP; omega

section
variable {R : Ending → World → Prop} {W0 w : World} {H : Hp} {A : List Hp} {v : Value} {size : Int} {m : Int → Int} {L : Nat}

set_option maxRecDepth 100000 in
set_option maxHeartbeats 4000000 in
theorem c_refHas (s : Sat W0 w H A) {sl : Value} (hz : 0 ≤ size ∧ size ≤ 18446744073709551615) (a n : Int) (h0 : 0 ≤ a ∧ a ≤ 18446744073709551615) (h1 : 0 ≤ n ∧ n ≤ 18446744073709551615)
    (k : ∀ w', Sat W0 w' H A → R (.returned (.bool (decide (hasP size a n)))) w') : Calls Try.prog 59 #[.agg #[.int .u64 size, sl], .int .u64 a, .int .u64 n] w R := by
  have s1 : Sat W0 _ H (cellsH ⟨w.heap.size, 0, none⟩ [.int .u64 size, sl] :: A) := s.alloc (t := 32)
  have c0 := s1.c0
  have K := k _ s1.tail1
  clear s s1 k
  go_enter Try.func59, Try.ntmps59
  go_wp2_with (go_at_call 120; refine c_refWithin _ _ _ _ h0 h1 (by omega) hz ?_)
  exact ret_b K (by rw [Bool.eq_iff_iff]; simp [hasP]; exact decide_eq_true_iff)

set_option maxRecDepth 100000 in
set_option maxHeartbeats 4000000 in
theorem c_refGet (s : Sat W0 w H A) (r : RefM H v size m L) (hL : L ≤ 100000000000) (a : Int)
    (k : ∀ w', Sat W0 w' H A → R (.returned (.int .u8 (m a))) w') : Calls Try.prog 93 #[v, .int .u64 a] w R := by
  obtain ⟨sl, bs, rfl, rd, rfl, hl⟩ := r
  obtain ⟨B, c, rfl, rd⟩ := rd.open_
  obtain ⟨_, hc, hc2, g⟩ := rd.byte2
  have s1 : Sat W0 _ H (cellsH ⟨w.heap.size, 0, none⟩ [.int .u64 size, .slice B bs.length c] :: A) := s.alloc (t := 32)
  have c1 := s1.c 1 rfl
  rw [Nat.zero_add] at c1
  have K := k _ s1.tail1
  have HH : Holds _ H := s1.ro
  have hlen : (bs.length : Int) ≤ 100000000000 := by omega
  clear s s1 k rd
  go_enter Try.func93, Try.ntmps93
  go_wp2
  generalize w.alloc _ = W at *
  go_loopg [5] bs.length (fun q v5 w' => w' = W ∧ q ≤ bs.length ∧ v5 = .int .i64 ((q : Int) - 1) ∧ Aside (lastM bs a = lastM (bs.take q) a))
  case atStart => exact ⟨rfl, Nat.le_refl _, by go_num, by rw [List.take_length]; exact rfl⟩
  case round =>
    obtain ⟨rfl, hq, rfl, ht⟩ := hrel
    by_cases hq0 : gk = 0
    · subst hq0
      rw [List.take_zero] at ht
      have e := ht.out
      rw [e] at K
      clear e ht g rd
      go_wp2
      exact K
    · obtain ⟨j, rfl⟩ : ∃ j, gk = j + 1 := ⟨gk - 1, by omega⟩
      obtain ⟨bb, ob, rfl, hc0, hc1, hb0, hb1, hb2⟩ := g j (by omega)
      have d0 := HH.cell hc0
      have d1 := HH.cell hc1
      have htk : bs.take (j + 1) = bs.take j ++ [bs[j]] := List.take_succ_eq_append_getElem (by omega)
      rw [htk, lastM_snoc] at ht
      have ej : (((j + 1 : Nat) : Int) - 1) = j := by omega
      rw [ej]
      obtain ⟨x, hx⟩ : ∃ x, bs[j].1 = x := ⟨_, rfl⟩
      obtain ⟨y, hy⟩ : ∃ y, bs[j].2 = y := ⟨_, rfl⟩
      rw [hx] at d0 ht
      rw [hy] at d1 ht
      clear hc0 hc1 g rd htk hb0 hb1 hb2
      have e := ht.out
      unfold updM at e
      by_cases hxa : x = a
      · rw [if_pos hxa.symm] at e
        rw [e] at K
        subst hxa
        clear e ht hx hy
        go_wp2
        exact K
      · rw [if_neg (fun h => hxa h.symm)] at e
        replace e := aside e
        have hxb : (x == a) = false := by simp [hxa]
        clear ht hx hy
        go_wp2
        go_roundg j
        case measure => omega
        case rel => exact ⟨rfl, by omega, by go_num, e⟩
end

end Go.Proofs.Ytiibiamobkhlbaa

namespace Go.Proofs.Ytiibiamobkhlbaa
open Go.RowKit
set_option linter.unusedVariables false

section
variable {R : Ending → World → Prop} {W0 w : World} {H : Hp} {A : List Hp} {v : Value} {size : Int} {m : Int → Int} {L : Nat}

theorem lastM_bd {bs : List (Int × Int)} (h : ∀ x ∈ bs, 0 ≤ x.2 ∧ x.2 ≤ 255) (a : Int) : 0 ≤ lastM bs a ∧ lastM bs a ≤ 255 := by
  rw [← List.reverse_reverse bs]
  have h' : ∀ x ∈ bs.reverse, 0 ≤ x.2 ∧ x.2 ≤ 255 := fun x hx => h x (List.mem_reverse.1 hx)
  clear h
  generalize bs.reverse = cs at *
  induction cs with
  | nil => simp [lastM]
  | cons x xs ih =>
    rw [List.reverse_cons, lastM_snoc]
    unfold updM
    split
    · exact h' x (List.mem_cons_self ..)
    · exact ih (fun y hy => h' y (List.mem_cons_of_mem _ hy))

theorem RefM.bd (r : RefM H v size m L) (a : Int) : 0 ≤ m a ∧ m a ≤ 255 := by
  obtain ⟨sl, bs, rfl, rd, rfl, hl⟩ := r
  obtain ⟨B, c, rfl, rd⟩ := rd.open_
  obtain ⟨_, hc, hc2, g⟩ := rd.byte2
  refine lastM_bd (fun x hx => ?_) a
  obtain ⟨i, hi, rfl⟩ := List.mem_iff_getElem.1 hx
  obtain ⟨_, _, _, _, _, _, h⟩ := g i hi
  exact h

set_option maxRecDepth 100000 in
set_option maxHeartbeats 4000000 in
theorem c_refRead (s : Sat W0 w H A) (r : RefM H v size m L) (hL : L ≤ 100000000000) (hz : 0 ≤ size ∧ size ≤ 268435456) (a n : Int) (h0 : 0 ≤ a ∧ a ≤ 18446744073709551615) (hn : 0 ≤ n ∧ n ≤ 18446744073709551615)
    (kb : ¬ hasP size a n → ∀ w', Sat W0 w' H A → R (.returned (.tuple #[.slice none 0 0, .bool false])) w')
    (k : hasP size a n → ∀ w' v h', OwnS 1 v n.toNat ((rdB m a n.toNat).map (Value.int .u8)) h' → Sat W0 w' H (h' :: A) → R (.returned (.tuple #[v, .bool true])) w') : Calls Try.prog 125 #[v, .int .u64 a, .int .u64 n] w R := by
  obtain ⟨sl, bs, rfl, rd, rfl, hl⟩ := id r
  have s1 : Sat W0 _ H (cellsH ⟨w.heap.size, 0, none⟩ [.int .u64 size, sl] :: A) := s.alloc (t := 32)
  have c0 := s1.c0
  have c1 := s1.c 1 rfl
  rw [Nat.zero_add] at c1
  by_cases hh : hasP size a n
  · have K := k hh
    obtain ⟨n, rfl⟩ : ∃ m : Nat, n = m := ⟨n.toNat, by omega⟩
    rw [Int.toNat_natCast] at K
    unfold hasP at hh
    have hmk : ∀ W, (Instr.makeSlice 57 (.int .u64 n) (.int .u64 n)).run Try.prog W = .ok (.slice (some ⟨W.heap.size, 0, none⟩) n n) (W.alloc (.cells (List.replicate n (Value.int .u8 0)).toArray 5)) := fun W => by
      have := run_make8 .u64 .u64 n n (by omega) (by omega) (by omega) W
      simpa using this
    have hmb : (n : Int) ≤ 268435456 := by omega
    go_enter Try.func125, Try.ntmps125
    go_wp2_with (go_at_call 59; refine c_refHas s1 (by omega) _ _ h0 (by omega) ?_; rw [decide_eq_true (show hasP size a n from hh)]; intro w2 s2)
    clear k kb hmk c0 c1 s s1
    have s3 : Sat W0 _ H (cellsH ⟨w2.heap.size, 0, none⟩ (List.replicate n (.int .u8 0)) :: (cellsH ⟨w.heap.size, 0, none⟩ [.int .u64 size, sl] :: A)) := s2.alloc (t := 5)
    obtain ⟨B, hB⟩ : ∃ B, w2.heap.size = B := ⟨_, rfl⟩
    obtain ⟨X, hX⟩ : ∃ X, w.heap.size = X := ⟨_, rfl⟩
    rw [hB, hX] at s3
    rw [hB, hX]
    clear s2
    go_loopg [9] n (fun q v9 w' => ∃ (i : Nat), q + i = n ∧ v9 = .int .i64 i ∧ Sat W0 w' H (cellsH ⟨B, 0, none⟩ (fillR (rdB (lastM bs) a i) n) :: (cellsH ⟨X, 0, none⟩ [.int .u64 size, sl] :: A)))
    case atStart => exact ⟨0, by simp, rfl, by simpa [fillR, rdB] using s3⟩
    case round =>
      obtain ⟨i, hq, rfl, s'⟩ := hrel
      by_cases hi : i < n
      · have e1 : IntKind.u64.wrap (i : Int) = i := by rw [wrap_u64]; omega
        have e2 : IntKind.u64.wrap (a + i) = a + i := by rw [wrap_u64]; omega
        have d0 := s'.cel X 0 0 rfl
        have d1 := s'.cel X 0 1 rfl
        rw [Nat.zero_add] at d0 d1
        have hln := rdB_len (lastM bs) a i
        have hat := fillR_at (xs := rdB (lastM bs) a i) (n := n) (by omega)
        have hlen : i < (fillR (rdB (lastM bs) a i) n).length := by rw [fillR_len (by omega)]; omega
        have hst := fillR_set (xs := rdB (lastM bs) a i) (n := n) (by omega) (lastM bs (a + i))
        rw [hln] at hst hat
        replace hat := aside hat
        replace hst := aside hst
        replace hlen := aside hlen
        obtain ⟨Y, hY⟩ : ∃ Y, lastM bs (a + i) = Y := ⟨_, rfl⟩
        replace hY := aside hY
        clear hz hh h0 hln
        go_wp2_with (go_at_call 93; refine c_refGet s' r hL (a + i) ?_; rw [hY.out]; intro w4 s4; have cc := s4.c i hat.out; rw [Nat.zero_add] at cc)
        go_roundg (gk - 1)
        case measure => omega
        case rel =>
          refine ⟨i + 1, by omega, by go_num, ?_⟩
          rw [rdB, ← hst.out, hY.out]
          have s5 := s4.s i hlen.out (.int .u8 Y)
          rw [Nat.zero_add] at s5
          exact s5
      · obtain rfl : i = n := by omega
        have hff : fillR (rdB (lastM bs) a i) i = (rdB (lastM bs) a i).map (.int .u8) ++ [] := by have := fillR_full (xs := rdB (lastM bs) a i); rw [rdB_len] at this; simpa using this
        rw [hff] at s'
        have own : OwnS 1 (.slice (some ⟨B, 0, none⟩) i i) i ((rdB (lastM bs) a i).map (.int .u8)) (cellsH ⟨B, 0, none⟩ ((rdB (lastM bs) a i).map (.int .u8) ++ [])) := OwnS.made [] (Nat.le_refl _) (by omega) (by rw [List.length_map, rdB_len]; omega) (by simp)
        have K := K wr _ _ own s'.wk
        clear own hff s' s3
        go_wp2
        exact K
  · go_enter Try.func125, Try.ntmps125
    go_wp2_with (go_at_call 59; refine c_refHas s1 (by omega) _ _ h0 (by omega) ?_; rw [decide_eq_false hh]; intro w2 s2)
    exact kb hh _ s2.tail1

set_option maxRecDepth 100000 in
set_option maxHeartbeats 4000000 in
theorem c_refOf {hp : Hp} {xs : List Int} (hh : Holds w hp) (rd : Rd u8E 1 hp v xs) (hx : xs.length ≤ 8) (k : R (.returned (.int .u64 (ofB xs))) w) : Calls Try.prog 96 #[v] w R := by
  obtain ⟨B, c, rfl, rd⟩ := rd.open_
  obtain ⟨_, hc, hc2, g⟩ := rd.u8
  have hb := rd.bytes
  have hmin : min (xs.length : Int) 8 = xs.length := by omega
  clear rd
  go_enter Try.func96, Try.ntmps96
  go_wp2
  go_loopg [3, 4] xs.length (fun q v3 v4 w' => w' = w ∧ q ≤ xs.length ∧ v3 = .int .u64 (ofB (xs.drop q)) ∧ v4 = .int .i64 ((q : Int) - 1))
  case atStart => exact ⟨rfl, Nat.le_refl _, by rw [List.drop_length]; rfl, by go_num⟩
  case round =>
    obtain ⟨rfl, hq, rfl, rfl⟩ := hrel
    by_cases hq0 : gk = 0
    · subst hq0
      rw [List.drop_zero]
      clear g
      go_wp2
      exact k
    · obtain ⟨j, rfl⟩ : ∃ j, gk = j + 1 := ⟨gk - 1, by omega⟩
      obtain ⟨bb, ob, rfl, hcell, hd0, hd1⟩ := g j (by omega)
      have cc := hh.cell hcell
      have ej : (((j + 1 : Nat) : Int) - 1) = j := by omega
      rw [ej]
      have hdr : ofB (xs.drop j) = xs[j] + 256 * ofB (xs.drop (j + 1)) := by rw [List.drop_eq_getElem_cons (by omega)]; rfl
      have hbd := ofB_bd (l := xs.drop (j + 1)) (fun x hx => hb x (List.mem_of_mem_drop hx))
      have hpw : (256 : Nat) ^ (xs.drop (j + 1)).length ≤ 256 ^ 7 := Nat.pow_le_pow_right (by omega) (by rw [List.length_drop]; omega)
      have h7 : (256 : Nat) ^ 7 = 72057594037927936 := by decide
      rw [show (256 : Int) ^ (xs.drop (j + 1)).length = ((256 ^ (xs.drop (j + 1)).length : Nat) : Int) by simp] at hbd
      have hX2 : ofB (xs.drop (j + 1)) < 72057594037927936 := by omega
      have hX1 := hbd.1
      obtain ⟨X, hX⟩ : ∃ X, ofB (xs.drop (j + 1)) = X := ⟨_, rfl⟩
      rw [hX] at hdr hX1 hX2
      rw [hX]
      obtain ⟨y, hy⟩ : ∃ y, xs[j] = y := ⟨_, rfl⟩
      rw [hy] at hdr cc hd0 hd1
      have ew : IntKind.u64.wrap (X * 256) = X * 256 := by rw [wrap_u64]; omega
      have ew2 : IntKind.u64.wrap (X * 256 + y) = X * 256 + y := by rw [wrap_u64]; omega
      replace hdr := aside hdr
      clear hbd hpw h7 hy hX g hcell hb
      go_wp2
      go_roundg j
      case measure => omega
      case rel => exact ⟨rfl, by omega, by rw [hdr.out]; go_num, by go_num⟩
end

end Go.Proofs.Ytiibiamobkhlbaa

namespace Go.Proofs.Ytiibiamobkhlbaa
open Go.RowKit
set_option linter.unusedVariables false

section
variable {R : Ending → World → Prop} {W0 w : World} {H : Hp} {A : List Hp}

theorem c_ramNew2 (s : Sat W0 w H A) (n : Int) (hr : n % 4096 = 0 ∧ 4096 ≤ n ∧ n ≤ 268435456)
    (k : ∀ w' b (r : RamG), r.size = n → (r.mem = fun _ => 0) → Sat W0 w' H (ramL ⟨b, 0, none⟩ (r, none) ++ A) → R (.returned (.tuple #[.pointer (some ⟨b, 0, none⟩), .int .i64 0])) w') : Calls Try.prog 49 #[.int .u64 n] w R :=
  c_ramNew s n hr fun w' b mb s' => k w' b _ rfl rfl s'

end

end Go.Proofs.Ytiibiamobkhlbaa

namespace Go.Proofs.Ytiibiamobkhlbaa
open Go.RowKit
set_option linter.unusedVariables false

theorem Sat.frozen {W0 w : World} {H h : Hp} {A : List Hp} (s : Sat W0 w H (h :: A)) : ∀ l c, h l = some c → un H h l = some c := by
  intro l c e
  rcases (s.each h (List.mem_cons_self ..)).2 l with h1 | h1
  · rw [e] at h1; cases h1
  · simp [un, h1, e]
theorem un_left {H h : Hp} : ∀ l c, H l = some c → un H h l = some c := by intro l c e; simp [un, e]

/-! ### rows of entries -/
def encB (x : Int × Int) : List Value := [.int .u64 x.1, .int .u8 x.2]
theorem encB_len (L : List (Int × Int)) : (L.flatMap encB).length = L.length * 2 := by
  induction L with
  | nil => rfl
  | cons x xs ih => rw [List.flatMap_cons, List.length_append, ih, List.length_cons]; simp [encB]; omega
theorem encB_at {L : List (Int × Int)} : ∀ {i : Nat} {x : Int × Int}, L[i]? = some x → (L.flatMap encB)[i * 2]? = some (.int .u64 x.1) ∧ (L.flatMap encB)[i * 2 + 1]? = some (.int .u8 x.2) := by
  induction L with
  | nil => intro i x h; simp at h
  | cons y ys ih =>
    intro i x h
    cases i with
    | zero => simp at h; subst h; exact ⟨rfl, rfl⟩
    | succ i =>
      have := ih (i := i) (x := x) (by simpa using h)
      have e : (i + 1) * 2 = i * 2 + 2 := by omega
      rw [e]
      simpa [List.flatMap_cons, encB] using this
theorem encB_set {L : List (Int × Int)} : ∀ {i : Nat} (x : Int × Int), ((L.flatMap encB).set (i * 2) (.int .u64 x.1)).set (i * 2 + 1) (.int .u8 x.2) = (L.set i x).flatMap encB := by
  induction L with
  | nil => intro i x; rfl
  | cons y ys ih =>
    intro i x
    cases i with
    | zero => rfl
    | succ i =>
      have e : (i + 1) * 2 = i * 2 + 2 := by omega
      rw [e]
      have := ih (i := i) x
      simp only [List.flatMap_cons, encB, List.cons_append, List.nil_append, List.set_cons_succ] at this ⊢
      rw [← this]

/-- a row of n entries that is filled from the front -/
def fill2 (xs : List (Int × Int)) (n : Nat) : List (Int × Int) := xs ++ List.replicate (n - xs.length) (0, 0)
theorem fill2_len {xs : List (Int × Int)} {n : Nat} (h : xs.length ≤ n) : (fill2 xs n).length = n := by simp [fill2]; omega
theorem fill2_at {xs : List (Int × Int)} {n : Nat} (h : xs.length < n) : (fill2 xs n)[xs.length]? = some (0, 0) := by
  unfold fill2
  rw [List.getElem?_append_right (Nat.le_refl _)]
  have : 0 < n - xs.length := by omega
  simp [this]
theorem fill2_set {xs : List (Int × Int)} {n : Nat} (h : xs.length < n) (v : Int × Int) : (fill2 xs n).set xs.length v = fill2 (xs ++ [v]) n := by
  unfold fill2
  rw [List.set_append_right _ _ (Nat.le_refl _)]
  simp only [Nat.sub_self, List.length_append, List.length_cons, List.length_nil, List.append_assoc]
  congr 1
  have : n - xs.length = (n - (xs.length + (0 + 1))) + 1 := by omega
  rw [this, List.replicate_succ]
  rfl
theorem fill2_full (xs : List (Int × Int)) : fill2 xs xs.length = xs := by simp [fill2]
theorem fill2_zero (n : Nat) : (fill2 [] n).flatMap encB = (madeCells #[Value.int .u64 0, Value.int .u8 0] (n * 2)).toList := by
  apply List.ext_getElem?
  intro j
  have hl : (fill2 [] n).length = n := fill2_len (Nat.zero_le _)
  rcases Nat.lt_or_ge j (n * 2) with hj | hj
  · obtain ⟨i, rfl | rfl⟩ : ∃ i, j = i * 2 ∨ j = i * 2 + 1 := ⟨j / 2, by omega⟩
    · have hi : i < n := by omega
      have := (encB_at (L := fill2 [] n) (i := i) (x := (0, 0)) (by simp [fill2, hi])).1
      rw [this]; simp [madeCells, hj]
    · have hi : i < n := by omega
      have := (encB_at (L := fill2 [] n) (i := i) (x := (0, 0)) (by simp [fill2, hi])).2
      rw [this]
      have : (i * 2 + 1) % 2 = 1 := by omega
      simp [madeCells, hj, this]
  · rw [List.getElem?_eq_none (by rw [encB_len, hl]; exact hj), List.getElem?_eq_none (by simp [madeCells]; exact hj)]

/-- the entries that a Write of bytes makes, the first n -/
def entN (a : Int) (ds : List Int) : Nat → List (Int × Int)
  | 0 => []
  | n + 1 => entN a ds n ++ [(a + n, ds.getD n 0)]
theorem entN_len (a : Int) (ds : List Int) (n : Nat) : (entN a ds n).length = n := by induction n with | zero => rfl | succ n ih => simp [entN, ih]
theorem entN_last (bs : List (Int × Int)) (a : Int) (ds : List Int) : ∀ n, n ≤ ds.length → lastM (bs ++ entN a ds n) = putB (lastM bs) a (ds.take n) := by
  intro n
  induction n with
  | zero => intro _; rw [entN, List.append_nil, List.take_zero, putB_nil]
  | succ n ih =>
    intro h
    have hd : ds.getD n 0 = ds[n]'(by omega) := by simp [List.getD_eq_getElem?_getD, List.getElem?_eq_getElem (show n < ds.length by omega)]
    rw [entN, ← List.append_assoc, lastM_snoc, ih (by omega), List.take_succ_eq_append_getElem (by omega), putB_snoc, List.length_take, hd]
    simp only
    rw [Nat.min_eq_left (by omega)]

theorem entN_bd {a : Int} (h0 : 0 ≤ a ∧ a ≤ 18446744073709551615) {ds : List Int} (h1 : a + ds.length ≤ 18446744073709551615) (hd : ∀ x ∈ ds, 0 ≤ x ∧ x ≤ 255) : ∀ {n : Nat}, n ≤ ds.length → ∀ x ∈ entN a ds n, (0 ≤ x.1 ∧ x.1 ≤ 18446744073709551615) ∧ 0 ≤ x.2 ∧ x.2 ≤ 255 := by
  intro n
  induction n with
  | zero => intro _ x hx; simp [entN] at hx
  | succ n ih =>
    intro hn x hx
    rw [entN] at hx
    rcases List.mem_append.1 hx with h | h
    · exact ih (by omega) x h
    · simp only [List.mem_singleton] at h
      subst h
      have hg : ds.getD n 0 = ds[n]'(by omega) := by simp [List.getD_eq_getElem?_getD, List.getElem?_eq_getElem (show n < ds.length by omega)]
      refine ⟨⟨?_, ?_⟩, ?_⟩
      · simp only; omega
      · simp only; omega
      · simp only; rw [hg]; exact hd _ (List.getElem_mem _)

theorem info_byte : ∃ i, Try.prog.info? 224 = some i ∧ i.zero = some (.agg #[.int .u64 0, .int .u8 0]) ∧ i.size = 2 ∧ i.bytes = 16 := by
  have h : (Try.prog.info? 224).map (fun i => (i.zero, i.size, i.bytes)) = some (some (.agg #[.int .u64 0, .int .u8 0]), 2, 16) := by kernel_rfl
  cases hi : Try.prog.info? 224 with
  | none => simp [hi] at h
  | some i => simp [hi] at h; exact ⟨i, rfl, h⟩

theorem run_make2 (n : Nat) (hn : n ≤ 1000000000000) (w : World) :
    (Instr.makeSlice 30 (.int .i64 n) (.int .i64 n)).run Try.prog w = .ok (.slice (some ⟨w.heap.size, 0, none⟩) n n) (w.alloc (.cells ((fill2 [] n).flatMap encB).toArray 224)) := by
  obtain ⟨i0, hi, hz, hs1, hb1⟩ := info_byte
  rw [run_make (P := Try.prog) w 30 224 i0 (.agg #[.int .u64 0, .int .u8 0]) Try.underlying30 hi hz .i64 .i64 n n (by omega) (by omega) (by rw [hb1]; omega) (by omega), hs1, fill2_zero]
  simp
  rfl

/-- a row of entries that is read -/
theorem Rd.ofEnt {H : Hp} {B : Nat} {xs : List (Int × Int)} (hc : xs.length ≤ 1000000000000) (hx : ∀ x ∈ xs, (0 ≤ x.1 ∧ x.1 ≤ 18446744073709551615) ∧ 0 ≤ x.2 ∧ x.2 ≤ 255) (le : ∀ l c, cellsH ⟨B, 0, none⟩ (xs.flatMap encB) l = some c → H l = some c) :
    Rd byteE 2 H (.slice (some ⟨B, 0, none⟩) xs.length xs.length) xs := by
  refine ⟨_, _, rfl, Nat.le_refl _, by omega, fun i x hi => ⟨B, 0, encB x, rfl, ⟨rfl, hx x (List.mem_of_getElem? hi)⟩, rfl, fun j u hu => ⟨false, le _ _ ?_⟩⟩⟩
  have := encB_at hi
  have h2 := cellsH_at (a := ⟨B, 0, none⟩) (vs := xs.flatMap encB) (i := i * 2 + j) (v := u) (by
    match j, hu with
    | 0, hu => simp [encB] at hu; subst hu; exact this.1
    | 1, hu => simp [encB] at hu; subst hu; exact this.2
    | j + 2, hu => simp [encB] at hu)
  simpa [Nat.add_assoc] using h2

section
variable {R : Ending → World → Prop} {W0 w : World} {H : Hp} {A : List Hp} {v : Value} {size : Int} {m : Int → Int} {L : Nat}

set_option maxRecDepth 100000 in
set_option maxHeartbeats 4000000 in
theorem c_refWrite (s : Sat W0 w H A) (r : RefM H v size m L) (hz : 0 ≤ size ∧ size ≤ 268435456) (a : Int) (h0 : 0 ≤ a ∧ a ≤ 18446744073709551615) {dv : Value} {hp : Hp} {ds : List Int} (rd : Rd u8E 1 hp dv ds) (hL : L + ds.length ≤ 100000000000) (hk : ∀ w', Sat W0 w' H A → Holds w' hp)
    (kb : ¬ hasP size a ds.length → ∀ w', Sat W0 w' H A → R (.returned (.tuple #[v, .bool false])) w')
    (k : hasP size a ds.length → ∀ w' H' v', (∀ l c, H l = some c → H' l = some c) → RefM H' v' size (putB m a ds) (L + ds.length) → Sat W0 w' H' A → R (.returned (.tuple #[v', .bool true])) w') : Calls Try.prog 57 #[v, .int .u64 a, dv] w R := by
  obtain ⟨sl, bs, rfl, rb, rfl, hl⟩ := id r
  obtain ⟨D, dc, rfl, rd⟩ := rd.open_
  obtain ⟨_, hc, hc2, g⟩ := rd.u8
  obtain ⟨B0, cb, rfl, rb⟩ := rb.open_
  obtain ⟨_, hc', hc2', gb⟩ := rb.byte2
  have hbd := rd.bytes
  clear rd rb
  have s1 : Sat W0 _ H (cellsH ⟨w.heap.size, 0, none⟩ [.int .u64 size, .slice B0 bs.length cb] :: A) := s.alloc (t := 32)
  have s2 := s1.alloc (c := [.int .u64 0, .slice none 0 0]) (t := 32)
  rw [World.size_alloc] at s2
  obtain ⟨X, hX⟩ : ∃ X, w.heap.size = X := ⟨_, rfl⟩
  rw [hX] at s2
  have c0 := s2.cel X 0 0 rfl
  have c1 := s2.cel X 0 1 rfl
  rw [Nat.zero_add] at c0 c1
  by_cases hh : hasP size a ds.length
  · have K := k hh
    have hmk : ∀ W, (Instr.makeSlice 30 (.int .i64 ((bs.length : Int) + (ds.length : Int))) (.int .i64 ((bs.length : Int) + (ds.length : Int)))).run Try.prog W = .ok (.slice (some ⟨W.heap.size, 0, none⟩) (bs.length + ds.length) (bs.length + ds.length)) (W.alloc (.cells ((fill2 [] (bs.length + ds.length)).flatMap encB).toArray 224)) := fun W => by
      have := run_make2 (bs.length + ds.length) (by omega) W
      simpa using this
    have hlen : (ds.length : Int) ≤ 100000000000 := by omega
    have hlen2 : (bs.length : Int) ≤ 100000000000 := by omega
    unfold hasP at hh
    go_enter Try.func57, Try.ntmps57
    go_wp2_with (go_at_call 59; refine c_refHas s2 (by omega) _ _ h0 (by omega) ?_; rw [decide_eq_true (show hasP size a ds.length from hh)]; intro w2 s3; have d1 := s3.cel X 0 1 rfl; rw [Nat.zero_add] at d1)
    clear k kb hmk c0 c1 s s1 s2
    obtain ⟨n, hn⟩ : ∃ n, bs.length + ds.length = n := ⟨_, rfl⟩
    obtain ⟨B, hB⟩ : ∃ B, w2.heap.size = B := ⟨_, rfl⟩
    have s4 := s3.alloc (c := (fill2 [] n).flatMap encB) (t := 224)
    rw [hB] at s4
    simp only [hB, hn]
    clear s3 d1
    go_loopg [9] bs.length (fun q v9 w' => ∃ (i : Nat), q + i = bs.length ∧ v9 = .int .i64 i ∧ Sat W0 w' H (cellsH ⟨B, 0, none⟩ ((fill2 (bs.take i) n).flatMap encB) :: (cellsH ⟨X + 1, 0, none⟩ [.int .u64 0, .slice none 0 0] :: (cellsH ⟨X, 0, none⟩ [.int .u64 size, .slice B0 bs.length cb] :: A))))
    case atStart => exact ⟨0, by simp, rfl, s4⟩
    case round =>
      obtain ⟨i, hq, rfl, s'⟩ := hrel
      have d1 := s'.cel X 0 1 rfl
      rw [Nat.zero_add] at d1
      by_cases hi : i < bs.length
      · have hin : i < n := by omega
        have hln : (bs.take i).length = i := by rw [List.length_take]; omega
        have hat := encB_at (fill2_at (xs := bs.take i) (n := n) (by omega))
        have hst := fill2_set (xs := bs.take i) (n := n) (by omega) bs[i]
        have hl2 : ((fill2 (bs.take i) n).flatMap encB).length = n * 2 := by rw [encB_len, fill2_len (by omega)]
        rw [hln] at hst hat
        have htk : bs.take (i + 1) = bs.take i ++ [bs[i]] := List.take_succ_eq_append_getElem hi
        obtain ⟨bb, ob, rfl, hc0, hc1, hb0, hb1, hb2⟩ := gb i hi
        have x0 := s'.ro.cell hc0
        have x1 := s'.ro.cell hc1
        have y0 := s'.c (i * 2) hat.1
        have y1 := s'.c (i * 2 + 1) hat.2
        have s5 := s'.s (i * 2) (by rw [hl2]; omega) (.int .u64 bs[i].1)
        have y2 := s5.c (i * 2 + 1) (by rw [List.getElem?_set_ne (by omega)]; exact hat.2)
        have s6 := s5.s (i * 2 + 1) (by rw [List.length_set, hl2]; omega) (.int .u8 bs[i].2)
        rw [encB_set bs[i], hst, ← htk] at s6
        rw [Nat.zero_add] at y0 y1 y2 s6
        rw [Nat.zero_add] at y2 s6
        obtain ⟨x, hx⟩ : ∃ x, bs[i].1 = x := ⟨_, rfl⟩
        obtain ⟨y, hy⟩ : ∃ y, bs[i].2 = y := ⟨_, rfl⟩
        rw [hx] at x0 s6 y2
        rw [hy] at x1 s6
        clear hat hst hl2 hln htk hc0 hc1 hb0 hb1 hb2 g gb s5 s' hx hy hh h0
        go_wp2
        go_roundg (gk - 1)
        case measure => omega
        case rel => exact ⟨i + 1, by omega, by go_num, s6⟩
      · obtain rfl : i = bs.length := by omega
        rw [List.take_length] at s'
        clear s4
        go_wp2
        go_loopg [10] ds.length (fun q v10 w' => ∃ (i : Nat), q + i = ds.length ∧ v10 = .int .i64 i ∧ Sat W0 w' H (cellsH ⟨B, 0, none⟩ ((fill2 (bs ++ entN a ds i) n).flatMap encB) :: (cellsH ⟨X + 1, 0, none⟩ [.int .u64 0, .slice none 0 0] :: (cellsH ⟨X, 0, none⟩ [.int .u64 size, .slice B0 bs.length cb] :: A))))
        case atStart => exact ⟨0, by simp, rfl, by rw [entN, List.append_nil]; exact s'⟩
        case round =>
          obtain ⟨i, hq, rfl, s'⟩ := hrel
          have d1 := s'.cel X 0 1 rfl
          rw [Nat.zero_add] at d1
          by_cases hi : i < ds.length
          · have hin : bs.length + i < n := by omega
            have hln : (bs ++ entN a ds i).length = bs.length + i := by rw [List.length_append, entN_len]
            have hat := encB_at (fill2_at (xs := bs ++ entN a ds i) (n := n) (by omega))
            have hst := fill2_set (xs := bs ++ entN a ds i) (n := n) (by omega) (a + (i : Int), ds.getD i 0)
            have hl2 : ((fill2 (bs ++ entN a ds i) n).flatMap encB).length = n * 2 := by rw [encB_len, fill2_len (by omega)]
            rw [hln] at hst hat
            have htk : bs ++ entN a ds (i + 1) = (bs ++ entN a ds i) ++ [(a + (i : Int), ds.getD i 0)] := by rw [entN, List.append_assoc]
            have hgd : ds.getD i 0 = ds[i] := by simp [List.getD_eq_getElem?_getD, List.getElem?_eq_getElem hi]
            obtain ⟨bb, ob, rfl, hc0, hb0, hb1⟩ := g i hi
            have x0 := (hk _ s'.tail1.tail1.tail1).cell hc0
            have y0 := s'.c ((bs.length + i) * 2) hat.1
            have y1 := s'.c ((bs.length + i) * 2 + 1) hat.2
            have s5 := s'.s ((bs.length + i) * 2) (by rw [hl2]; omega) (.int .u64 (a + i))
            have y2 := s5.c ((bs.length + i) * 2 + 1) (by rw [List.getElem?_set_ne (by omega)]; exact hat.2)
            have s6 := s5.s ((bs.length + i) * 2 + 1) (by rw [List.length_set, hl2]; omega) (.int .u8 (ds.getD i 0))
            rw [encB_set (a + (i : Int), ds.getD i 0), hst, ← htk] at s6
            rw [Nat.zero_add] at y0 y1 y2 s6
            rw [Nat.zero_add] at y2 s6
            obtain ⟨y, hy⟩ : ∃ y, ds[i] = y := ⟨_, rfl⟩
            rw [hgd, hy] at s6
            rw [hy] at x0
            have e1 : IntKind.u64.wrap (i : Int) = i := by rw [wrap_u64]; omega
            have e2 : IntKind.u64.wrap (a + i) = a + i := by rw [wrap_u64]; omega
            obtain ⟨j, hj⟩ : ∃ j, bs.length + i = j := ⟨_, rfl⟩
            have e3 : IntKind.i64.wrap ((bs.length : Int) + (i : Int)) = (j : Int) := by rw [IntKind.wrap_i64]; omega
            have hjn : (j : Int) < (n : Int) := by omega
            rw [hj] at y0 y1 y2 s6
            replace hj := aside hj
            replace hn := aside hn
            clear hat hst hl2 hln htk hc0 hb0 hb1 g gb s5 s' hy hh h0 hgd hin
            go_wp2
            go_region_law (fail)
            all_goals
              go_wp2
              go_roundg (gk - 1)
              case measure => omega
              case rel => exact ⟨i + 1, by omega, by go_num, s6.drew⟩
          · obtain rfl : i = ds.length := by omega
            have hln : (bs ++ entN a ds ds.length).length = n := by rw [List.length_append, entN_len]; exact hn
            have hfull : fill2 (bs ++ entN a ds ds.length) n = bs ++ entN a ds ds.length := by rw [← hln]; exact fill2_full _
            rw [hfull] at s'
            have s5 := Sat.pull (h := cellsH ⟨X, 0, none⟩ [.int .u64 size, .slice B0 bs.length cb]) s'
            have s6 := s5.s 1 (by simp) (.slice (some ⟨B, 0, none⟩) n n)
            simp only [List.set_cons_succ, List.set_cons_zero] at s6
            have z0 := s6.c0
            have z1 := s6.c 1 rfl
            have s7 := Sat.pull (h := cellsH ⟨X + 1, 0, none⟩ [.int .u64 0, .slice none 0 0]) s6
            have q0 := s7.c0
            have t7 := s7.s0 (.int .u64 size)
            have q1 := t7.c 1 rfl
            have s8 := t7.s 1 (by simp) (.slice (some ⟨B, 0, none⟩) n n)
            simp only [List.set_cons_succ, List.set_cons_zero] at s8
            have f0 := s8.c0
            have f1 := s8.c 1 rfl
            have s9 := Sat.pull (h := cellsH ⟨B, 0, none⟩ ((bs ++ entN a ds ds.length).flatMap encB)) s8
            have hrd := Rd.ofEnt (H := un H (cellsH ⟨B, 0, none⟩ ((bs ++ entN a ds ds.length).flatMap encB))) (B := B) (xs := bs ++ entN a ds ds.length) (by omega) (fun x hx => by
              rcases List.mem_append.1 hx with h | h
              · obtain ⟨i, hi, rfl⟩ := List.mem_iff_getElem.1 h
                obtain ⟨_, _, _, _, _, h2⟩ := gb i hi
                exact h2
              · exact entN_bd h0 (by omega) hbd (by omega) x h) s9.frozen
            rw [hln] at hrd
            have K2 := K _ _ _ un_left ⟨_, _, rfl, hrd, (by have := entN_last bs a ds ds.length (Nat.le_refl _); rw [List.take_length] at this; exact this.symm), by rw [hln]; omega⟩ s9.freeze.tail1.tail1
            rw [Nat.zero_add] at z1 q1 f1
            simp only [Nat.zero_add] at z0 z1 q0 q1 f0 f1 K2
            clear K hrd s9 s8 t7 s7 s6 s5 s' hfull hln g gb hh h0 hk hbd
            go_wp2
            refine bodyPost_ret (by simp [results, Try.results57, go_sem, f0.1, f1.1]; try rfl) rfl ?_
            exact K2
  · go_enter Try.func57, Try.ntmps57
    go_wp2_with (go_at_call 59; refine c_refHas s2 (by omega) _ _ h0 (by omega) ?_; rw [decide_eq_false hh]; intro w2 s3; have d0 := s3.cel X 0 0 rfl; have d1 := s3.cel X 0 1 rfl; have e0 := s3.cel (X + 1) 0 0 rfl;  have e1 := s3.cel (X + 1) 0 1 rfl; rw [Nat.zero_add] at d0 d1 e0 e1)
    have s4 := (s3.s0 (.int .u64 size)).s 1 (by simp) (.slice B0 bs.length cb)
    rw [Nat.zero_add] at s4
    have f0 := s4.c0
    have f1 := s4.c 1 rfl
    rw [Nat.zero_add] at f1
    generalize World.setCell (World.setCell w2 _ _) _ _ = W at *
    refine bodyPost_ret (by simp [results, Try.results57, go_sem, f0.1, f1.1]; try rfl) rfl ?_
    exact kb hh _ s4.tail1.tail1
end

end Go.Proofs.Ytiibiamobkhlbaa

namespace Go.Proofs.Ytiibiamobkhlbaa
open Go.RowKit
set_option linter.unusedVariables false

structure PutM where
  at' : Int
  data : List Int
  ha : 0 ≤ at' ∧ at' ≤ 18446744073709551615
def putE : El PutM := fun h o vs => ∃ dv, vs = [.int .u64 o.at', dv] ∧ Rd u8E 1 h dv o.data
theorem putE_mono : ElMono putE := fun _ _ _ _ le ⟨dv, h1, h2⟩ => ⟨dv, h1, h2.mono u8E_mono le⟩

theorem opn_put : Opn Try.prog 138 putE :=
  opn_struct Try.underlying138 fun H enc w fuel cs hlen hf => by
    obtain ⟨y1, h1⟩ := hf 0 _ rfl
    obtain ⟨y4, h4⟩ := hf 1 _ rfl
    obtain ⟨l, hl, hl1⟩ := opn_u64 Try.underlying23 H enc w fuel _ y1.1 y1.2 h1
    obtain ⟨d, hd⟩ := opn_slice (size := 1) Try.underlying57 (by kernel_rfl) (by decide) (opn_u8 Try.underlying5) H enc w fuel _ y4.1 y4.2 h4
    have e : Try.prog.cellsOf 138 = 2 := by kernel_rfl
    have e1 : Try.prog.cellsOf 23 = 1 := by kernel_rfl
    have e3 : Try.prog.cellsOf 57 = 1 := by kernel_rfl
    rw [e] at hlen
    obtain ⟨c1, c4, rfl⟩ := len2 hlen
    rw [e1] at hl
    rw [e3] at hd
    obtain rfl : c1 = .int .u64 l := (List.cons.inj hl).1
    obtain ⟨dv, hdv, hrd⟩ := hd
    obtain rfl : c4 = dv := (List.cons.inj hdv).1
    exact ⟨⟨l, d, hl1⟩, _, rfl, hrd⟩

section
variable {R : Ending → World → Prop} {W0 w : World} {H : Hp} {A F : List Hp} {b : Nat} {r : RamG} {v : Value} {size : Int} {m : Int → Int} {L : Nat}

theorem RefM.shapeM (h : RefM H v size m L) : ∃ B n c, v = .agg #[.int .u64 size, .slice B n c] := by
  obtain ⟨sl, bs, rfl, rd, _⟩ := h
  obtain ⟨B, c, rfl, _⟩ := rd.open_
  exact ⟨B, _, c, rfl⟩
theorem RefM.leM (h : RefM H v size m L) {L' : Nat} (hl : L ≤ L') : RefM H v size m L' := by
  obtain ⟨sl, bs, h1, h2, h3, h4⟩ := h
  exact ⟨sl, bs, h1, h2, h3, by omega⟩

theorem c_refWriteM (s : Sat W0 w H A) (rm : RefM H v size m L) (hL : L ≤ 90000000000) (hz : 0 ≤ size ∧ size ≤ 268435456) (a : Int) (h0 : 0 ≤ a ∧ a ≤ 18446744073709551615) {dv : Value} {ds : List Int} (rd : Rd u8E 1 H dv ds) (hd : ds.length ≤ 200)
    (k : ∀ w' H' v', (∀ l c, H l = some c → H' l = some c) → RefM H' v' size (if hasP size a ds.length then putB m a ds else m) (L + 200) → Sat W0 w' H' A → R (.returned (.tuple #[v', .bool (decide (hasP size a ds.length))])) w') : Calls Try.prog 57 #[v, .int .u64 a, dv] w R := by
  refine c_refWrite s rm hz a h0 rd (by omega) (fun _ s => s.ro) (fun hc w' s' => ?_) (fun hc w' H' v' le r' s' => ?_)
  · have := k w' H v (fun _ _ h => h) (by rw [if_neg hc]; exact rm.leM (by omega)) s'
    rwa [decide_eq_false hc] at this
  · have := k w' H' v' le (by rw [if_pos hc]; exact r'.leM (by omega)) s'
    rwa [decide_eq_true hc] at this

theorem c_ramWriteM (s : Sat W0 w H A) [fr : FrK (κ := Addr) (ρ := fun _ => RamG × Option LogG) ramL ⟨b, 0, none⟩ A (r, none) F] (a : Int) (h0 : 0 ≤ a ∧ a ≤ 18446744073709551615) {dv : Value} {ds : List Int} (rd : Rd u8E 1 H dv ds)
    (k : ∀ w' r', r'.mem = (if hasP r.size a ds.length then putB r.mem a ds else r.mem) → r'.size = r.size → Sat W0 w' H (ramL ⟨b, 0, none⟩ (r', none) ++ F) → R (.returned (.bool (decide (hasP r.size a ds.length)))) w') : Calls Try.prog 56 #[.pointer (some ⟨b, 0, none⟩), .int .u64 a, dv] w R := by
  have e := has_iff r a ds.length (by omega)
  refine c_ramWrite s a h0 rd (fun _ s => s.ro) (fun hc => ?_) (fun hc w' r' l' hm hz hl s' => ?_)
  · have hc' : ¬ hasP r.size a ds.length := fun h => hc (e.2 h)
    have := k w r (by rw [if_neg hc']) rfl (s.front (mk := ramL) (k := ⟨b, 0, none⟩))
    rwa [decide_eq_false hc'] at this
  · have hc' := e.1 hc
    have hn : l' = none := by
      cases l' with
      | none => rfl
      | some x => simp [lgs, addW] at hl
    subst hn
    have := k w' r' (by rw [if_pos hc']; exact hm) hz s'
    rwa [decide_eq_true hc'] at this

set_option maxRecDepth 100000 in
set_option maxHeartbeats 4000000 in
theorem c_Memory (s : Sat W0 w H A) {v0 : Value} {ps : List PutM} (rd : Rd putE 2 H v0 ps)
    (k1 : ∀ w' H' v' m', (∀ l c, H l = some c → H' l = some c) → RefM H' v' 8192 m' 13000 → Sat W0 w' H' A → R (.returned (.tuple #[.pointer none, v'])) w')
    (k2 : ∀ w' H' v' b (r : RamG), (∀ l c, H l = some c → H' l = some c) → r.size = 8192 → RefM H' v' 8192 r.mem 13000 → Sat W0 w' H' (ramL ⟨b, 0, none⟩ (r, none) ++ A) → R (.returned (.tuple #[.pointer (some ⟨b, 0, none⟩), v'])) w') :
    Calls Try.prog 11 #[v0] w R := by
  obtain ⟨D, dc, rfl, rd⟩ := rd.open_
  obtain ⟨A', c', hv, hc, hc2, hat⟩ := id rd
  injection hv with ea eb ec
  subst ea ec
  have hlen : (ps.length : Int) ≤ 9223372036854775807 := by omega
  have s1 := (s.alloc (c := [.int .u64 0, .slice none 0 0]) (t := 32)).alloc (c := [.int .u64 8192, .slice none 0 0]) (t := 32)
  rw [World.size_alloc] at s1
  obtain ⟨Z, hZ⟩ : ∃ Z, w.heap.size = Z := ⟨_, rfl⟩
  rw [hZ] at s1
  clear s
  go_enter Try.func11, Try.ntmps11
  go_wp2_with fail
  refine c_ramNew2 s1 _ (by omega) ?_; intro w2 b r hz hm s2
  clear s1
  by_cases hlong : (ps.length : Int) ≤ 60
  · go_wp2
    go_loopg [7] ps.length (fun q v7 w' => ∃ (i : Nat) (H' : Hp) (r : RamG) (B : Option Addr) (n c : Nat), q + i = ps.length ∧ v7 = .int .i64 i ∧ (∀ l c, H l = some c → H' l = some c) ∧ r.size = 8192 ∧ RefM H' (.agg #[.int .u64 8192, .slice B n c]) 8192 r.mem (i * 200) ∧
      Sat W0 w' H' (ramL ⟨b, 0, none⟩ (r, none) ++ (cellsH ⟨Z + 1, 0, none⟩ [.int .u64 8192, .slice B n c] :: cellsH ⟨Z, 0, none⟩ [.int .u64 0, .slice none 0 0] :: A)))
    case atStart => exact ⟨0, H, r, none, 0, 0, by simp, rfl, fun _ _ h => h, hz, ⟨_, [], rfl, Rd.nil, by rw [hm]; rfl, by simp⟩, s2.wk⟩
    clear s2 hm hz
    case round =>
      obtain ⟨i, H', r, B, n, c, hq, rfl, le, hz, rm, s'⟩ := hrel
      have y0 := s'.cel (Z + 1) 0 0 rfl
      have y1 := s'.cel (Z + 1) 0 1 rfl
      have z0 := s'.cel Z 0 0 rfl
      have z1 := (Sat.s0 (Sat.pull (h := cellsH ⟨Z, 0, none⟩ [.int .u64 0, .slice none 0 0]) s') (.int .u64 8192)).c 1 rfl
      have s7 := (Sat.s0 (Sat.pull (h := cellsH ⟨Z, 0, none⟩ [.int .u64 0, .slice none 0 0]) s') (.int .u64 8192)).s 1 (by simp) (.slice B n c)
      simp only [List.set_cons_succ, List.set_cons_zero, Nat.zero_add] at s7 y0 y1 z0 z1
      have f0 := s7.c0
      have f1 := s7.c 1 rfl
      simp only [Nat.zero_add] at f0 f1
      by_cases hi : i < ps.length
      · obtain ⟨bb, ob, vs, rfl, ⟨dv, rfl, rdv⟩, _, hcell⟩ := hat i ps[i] (by simp [hi])
        have hcl := fun j u hu => (hcell j u hu).imp fun fr hf => le _ _ hf
        have rdv' := rdv.mono u8E_mono le
        have x0 := s'.ro.cell (hcl 0 _ rfl)
        have x1 := s'.ro.cell (hcl 1 _ rfl)
        generalize ps[i] = op at *
        rw [Nat.add_zero] at x0
        obtain ⟨E, ec, rfl, rdw⟩ := rdv'.open_
        obtain ⟨_, hec, hec2, _⟩ := rdw.u8
        have hdl : (op.data.length : Int) ≤ 9223372036854775807 := by omega
        clear hcell hat rd rdv
        by_cases hbig : (op.data.length : Int) ≤ 200
        · clear s7 f0 f1 z1
          go_wp2
          go_region_held3 (fun w' => w'.cell? ⟨bb, ob + i * 2, none⟩ = some (.int .u64 op.at') ∧ w'.cell? ⟨bb, ob + i * 2 + 1, none⟩ = some (.slice E op.data.length ec))
            (first
              | exact ⟨x0, x1⟩
              | exact ⟨s6.ro.cell (hcl 0 _ rfl), s6.ro.cell (hcl 1 _ rfl)⟩)
            (first
              | (go_at_call 56; refine c_ramWriteM s'.drew op.at' op.ha rdw ?_; intro w6 r6 hm6 hz6 s6; rw [hz] at hm6))
          all_goals
            have yy0 := s6.cel (Z + 1) 0 0 rfl
            have yy1 := s6.cel (Z + 1) 0 1 rfl
            have xx0 := s6.ro.cell (hcl 0 _ rfl)
            have xx1 := s6.ro.cell (hcl 1 _ rfl)
            simp only [Nat.zero_add] at yy0 yy1
            rw [Nat.add_zero] at xx0
            have hz7 : r6.size = 8192 := by omega
            clear s' y0 y1 z0 x0 x1
            go_wp2
            go_region_with
              (first
                | (go_at_call 57; refine c_refWriteM s6.drew rm (by omega) (by omega) op.at' op.ha rdw (by omega) ?_; intro w8 H8 v8 le8 rm8 s8; obtain ⟨B8, n8, c8, rfl⟩ := rm8.shapeM; have q0 := s8.cel (Z + 1) 0 0 rfl; have q1 := (Sat.s0 (Sat.pull (h := cellsH ⟨Z + 1, 0, none⟩ [.int .u64 8192, .slice B n c]) s8) (.int .u64 8192)).c 1 rfl; have s9 := (Sat.s0 (Sat.pull (h := cellsH ⟨Z + 1, 0, none⟩ [.int .u64 8192, .slice B n c]) s8) (.int .u64 8192)).s 1 (by simp) (.slice B8 n8 c8); simp only [List.set_cons_succ, List.set_cons_zero, Nat.zero_add] at s9 q0 q1))
            all_goals
              rw [← hm6] at rm8
              have rm9 := rm8.leM (show i * 200 + 200 ≤ (i + 1) * 200 by omega)
              go_wp2
              go_roundg (gk - 1)
              case measure => omega
              case rel => exact ⟨i + 1, H8, r6, B8, n8, c8, by omega, by go_num, fun l c h => le8 _ _ (le l c h), hz7, rm9, s9.wk⟩
        · go_wp2
          go_region_law (fail)
          all_goals
            try simp only [Act.put, List.getElem_toArray, List.getElem_cons_succ, List.getElem_cons_zero, List.setIfInBounds_toArray, List.set_cons_succ, List.set_cons_zero]
            go_wp2
            refine bodyPost_ret (by simp [results, Try.results11, go_sem, f0.1, f1.1]; try rfl) rfl ?_
            exact k1 _ H' _ r.mem le (rm.leM (by omega)) s7.drew.wk
      · obtain rfl : i = ps.length := by omega
        clear hat rd
        go_wp2
        go_region_law (fail)
        all_goals
          try simp only [Act.put, List.getElem_toArray, List.getElem_cons_succ, List.getElem_cons_zero, List.setIfInBounds_toArray, List.set_cons_succ, List.set_cons_zero]
          go_wp2
          refine bodyPost_ret (by simp [results, Try.results11, go_sem, f0.1, f1.1]; try rfl) rfl ?_
          exact k2 _ H' _ b r le hz (rm.leM (by omega)) s7.drew.wk
  · have y0 := s2.cel (Z + 1) 0 0 rfl
    have y1 := s2.cel (Z + 1) 0 1 rfl
    have z0 := s2.cel Z 0 0 rfl
    have z1 := (Sat.s0 (Sat.pull (h := cellsH ⟨Z, 0, none⟩ [.int .u64 0, .slice none 0 0]) s2) (.int .u64 8192)).c 1 rfl
    have s7 := (Sat.s0 (Sat.pull (h := cellsH ⟨Z, 0, none⟩ [.int .u64 0, .slice none 0 0]) s2) (.int .u64 8192)).s 1 (by simp) (.slice none 0 0)
    simp only [List.set_cons_succ, List.set_cons_zero, Nat.zero_add] at s7 y0 y1 z0 z1
    have f0 := s7.c0
    have f1 := s7.c 1 rfl
    simp only [Nat.zero_add] at f0 f1
    go_wp2
    go_region_law (fail)
    all_goals
      try simp only [Act.put, List.getElem_toArray, List.getElem_cons_succ, List.getElem_cons_zero, List.setIfInBounds_toArray, List.set_cons_succ, List.set_cons_zero]
      go_wp2
      refine bodyPost_ret (by simp [results, Try.results11, go_sem, f0.1, f1.1]; try rfl) rfl ?_
      exact k1 _ H _ (fun _ => 0) (fun _ _ h => h) ⟨_, [], rfl, Rd.nil, rfl, by simp⟩ s7.drew.wk
end
end Go.Proofs.Ytiibiamobkhlbaa

namespace Go.Proofs.Ytiibiamobkhlbaa
open Go.RowKit
set_option linter.unusedVariables false

section
variable {R : Ending → World → Prop} {W0 w : World} {H : Hp} {A F : List Hp} {v : Value} {b : Nat} {r : RamG} {size : Int} {m : Int → Int} {L : Nat}

set_option maxRecDepth 100000 in
set_option maxHeartbeats 4000000 in
theorem c_wordOf {hp : Hp} {xs : List Int} (hh : Holds w hp) (rd : Rd u8E 1 hp v xs) (hx : xs.length ≤ 8) (k : R (.returned (.int .u64 (ofB xs))) w) : Calls Try.prog 130 #[v] w R := by
  obtain ⟨B, c, rfl, rd⟩ := rd.open_
  obtain ⟨_, hc, hc2, g⟩ := rd.u8
  have hb := rd.bytes
  have hlen : (xs.length : Int) ≤ 8 := by omega
  clear rd
  go_enter Try.func130, Try.ntmps130
  go_wp2
  go_loopg [3, 4, 5, 8] xs.length (fun q v3 v4 v5 v8 w' => ∃ i : Nat, q + i = xs.length ∧ w' = w ∧ v3 = .int .u64 (ofB (xs.take i)) ∧ v8 = .int .i64 i)
  case atStart => exact ⟨0, by simp, rfl, rfl, rfl⟩
  case round =>
    obtain ⟨i, hq, rfl, rfl, rfl⟩ := hrel
    by_cases hi : i < xs.length
    · obtain ⟨bb, ob, rfl, hcell, hd0, hd1⟩ := g i hi
      have cc := hh.cell hcell
      have hbd := ofB_bd (l := xs.take i) (fun x hx => hb x (List.mem_of_mem_take hx))
      have htk : xs.take (i + 1) = xs.take i ++ [xs[i]] := List.take_succ_eq_append_getElem hi
      have hof : ofB (xs.take (i + 1)) = ofB (xs.take i) + 256 ^ i * xs[i] := by rw [htk, ofB_snoc, List.length_take, show min i xs.length = i by omega]
      rw [List.length_take, show min i xs.length = i by omega] at hbd
      obtain ⟨Y, hY⟩ : ∃ Y, xs[i] = Y := ⟨_, rfl⟩
      obtain ⟨X, hX⟩ : ∃ X, ofB (xs.take i) = X := ⟨_, rfl⟩
      rw [hX, hY] at hof
      rw [hX] at hbd
      rw [hY] at cc hd0 hd1
      have hor := aside (or_step2 X Y i (by omega) hbd ⟨hd0, hd1⟩)
      replace hof := aside hof
      replace hbd := aside hbd
      rw [hX]
      replace hX := aside hX
      have hi8 : i < 8 := by omega
      have e8 : ((i : Int) == 8) = false := by rw [beq_eq_false_iff_ne]; omega
      clear hcell g hb htk hY
      go_wp2
      go_roundg (gk - 1)
      case measure => omega
      case rel => exact ⟨i + 1, by omega, rfl, by rw [hof.out, hor.out], by go_num⟩
    · obtain rfl : i = xs.length := by omega
      rw [List.take_length]
      clear g hb
      go_wp2
      exact k

set_option maxRecDepth 100000 in
set_option maxHeartbeats 4000000 in
theorem c_refWord (s : Sat W0 w H A) (rm : RefM H v size m L) (hL : L ≤ 100000000000) (hz : 0 ≤ size ∧ size ≤ 268435456) (a n : Int) (h0 : 0 ≤ a ∧ a ≤ 18446744073709551615) (hn : 0 ≤ n ∧ n ≤ 8)
    (k : ∀ w', Sat W0 w' H A → R (.returned (.int .u64 (if hasP size a n then ofB (rdB m a n.toNat) else 0))) w') : Calls Try.prog 61 #[v, .int .u64 a, .int .i64 n] w R := by
  obtain ⟨B, n0, c, rfl⟩ := rm.shapeM
  have s1 := s.alloc (c := [.int .u64 size, .slice B n0 c]) (t := 32)
  obtain ⟨Z, hZ⟩ : ∃ Z, w.heap.size = Z := ⟨_, rfl⟩
  rw [hZ] at s1
  have y0 := s1.cel Z 0 0 rfl
  have y1 := s1.cel Z 0 1 rfl
  simp only [Nat.zero_add] at y0 y1
  have en : IntKind.u64.wrap n = n := by rw [wrap_u64]; omega
  have hn8 : n.toNat ≤ 8 := by omega
  clear s
  by_cases hc : hasP size a n
  · rw [if_pos hc] at k
    go_enter Try.func61, Try.ntmps61
    go_wp2_with fail
    refine c_refRead s1 rm hL hz a n h0 (by omega) (fun h => absurd hc h) ?_
    intro _ w2 v2 h2 own s2
    have hd2 := own.rd (rdB_bd rm.bd _ _)
    go_wp2_with fail
    refine c_refOf s2.head hd2 (by rw [rdB_len]; exact hn8) ?_
    go_wp2
    exact s2.tail1.tail1
  · rw [if_neg hc] at k
    go_enter Try.func61, Try.ntmps61
    go_wp2_with fail
    refine c_refRead s1 rm hL hz a n h0 (by omega) ?_ (fun h => absurd h hc)
    intro _ w2 s2
    go_wp2_with fail
    refine c_refOf s2.ro (Rd.nil (h := H)) (by simp) ?_
    go_wp2
    exact s2.tail1

set_option maxRecDepth 100000 in
set_option maxHeartbeats 4000000 in
theorem c_ringRead (s : Sat W0 w H A) [fr : FrK (κ := Addr) (ρ := fun _ => RamG × Option LogG) ramL ⟨b, 0, none⟩ A (r, none) F] (a n : Int) (h0 : 0 ≤ a ∧ a ≤ 18446744073709551615) (hn : 0 ≤ n ∧ n ≤ 8)
    (k : ∀ w', Sat W0 w' H (ramL ⟨b, 0, none⟩ (r, none) ++ F) → R (.returned (.tuple #[.int .u64 (if hasP r.size a n then ofB (rdB r.mem a n.toNat) else 0), .bool (decide (hasP r.size a n))])) w') :
    Calls Try.prog 164 #[.pointer (some ⟨b, 0, none⟩), .int .u64 a, .int .i64 n] w R := by
  have en : IntKind.u64.wrap n = n := by rw [wrap_u64]; omega
  have hn8 : n.toNat ≤ 8 := by omega
  have e := has_iff r a n hn.1
  have hmb := r.hmem
  by_cases hc : hasP r.size a n
  · rw [if_pos hc, decide_eq_true hc] at k
    go_enter Try.func164, Try.ntmps164
    go_wp2_with fail
    refine c_ramRead s a n h0 (by omega) (fun h => absurd (e.2 hc) h) ?_
    intro _ w2 v2 h2 l2 own hl s2
    have hn2 : l2 = none := by
      cases l2 with
      | none => rfl
      | some x => simp [lgs, addR] at hl
    subst hn2
    have hd2 := own.rd (rdB_bd hmb _ _)
    go_wp2_with fail
    refine c_wordOf s2.head hd2 (by rw [rdB_len]; exact hn8) ?_
    go_wp2
    exact s2.tail1
  · rw [if_neg hc, decide_eq_false hc] at k
    have s0 := s.front (mk := ramL) (k := ⟨b, 0, none⟩)
    go_enter Try.func164, Try.ntmps164
    go_wp2_with fail
    refine c_ramRead s a n h0 (by omega) ?_ (fun h => absurd (e.1 h) hc)
    intro _
    go_wp2_with fail
    refine c_wordOf s0.ro (Rd.nil (h := H)) (by simp) ?_
    go_wp2
    exact s0

set_option maxRecDepth 100000 in
set_option maxHeartbeats 4000000 in
theorem c_ringHalf (s : Sat W0 w H A) [fr : FrK (κ := Addr) (ρ := fun _ => RamG × Option LogG) ramL ⟨b, 0, none⟩ A (r, none) F] (a : Int) (h0 : 0 ≤ a ∧ a ≤ 18446744073709551615)
    (k : ∀ w', Sat W0 w' H (ramL ⟨b, 0, none⟩ (r, none) ++ F) → R (.returned (.int .u16 (if hasP r.size a 2 then ofB (rdB r.mem a 2) else 0))) w') :
    Calls Try.prog 136 #[.pointer (some ⟨b, 0, none⟩), .int .u64 a] w R := by
  have hb := ofB_bd (rdB_bd r.hmem a 2)
  rw [rdB_len] at hb
  obtain ⟨y, hy⟩ : ∃ y, (if hasP r.size a 2 then ofB (rdB r.mem a 2) else 0) = y := ⟨_, rfl⟩
  have hy2 : 0 ≤ y ∧ y < 65536 := by
    rw [← hy]
    split
    · exact hb
    · omega
  have ew : IntKind.u16.wrap y = y := by rw [wrap_u16]; omega
  rw [hy] at k
  clear hb
  replace hy := aside hy
  go_enter Try.func136, Try.ntmps136
  go_wp2_with fail
  refine c_ringRead s a 2 h0 (by omega) ?_
  intro w2 s2
  rw [show (if hasP r.size a 2 then ofB (rdB r.mem a (2 : Int).toNat) else 0) = y from hy.out]
  go_wp2
  exact s2
end
end Go.Proofs.Ytiibiamobkhlbaa
