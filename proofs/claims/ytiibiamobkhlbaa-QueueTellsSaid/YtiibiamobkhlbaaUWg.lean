/-
  The document's Touched: the places that were written, rising, each once.
-/
import Derived.Test.YtiibiamobkhlbaaG2
import Derived.Test.YtiibiamobkhlbaaG6
import Derived.Test.YtiibiamobkhlbaaG1
set_option linter.unusedVariables false
set_option linter.unusedSimpArgs false
namespace Go.Proofs.Ytiibiamobkhlbaa
open Go.RowKit
set_option linter.unusedVariables false
set_option linter.unusedSimpArgs false

theorem info_u64 : ∃ i, Try.prog.info? 23 = some i ∧ i.zero = some (.int .u64 0) ∧ i.size = 1 ∧ i.bytes = 8 := by
  have h : (Try.prog.info? 23).map (fun i => (i.zero, i.size, i.bytes)) = some (some (.int .u64 0), 1, 8) := by kernel_rfl
  cases hi : Try.prog.info? 23 with
  | none => simp [hi] at h
  | some i => simp [hi] at h; exact ⟨i, rfl, h.1, h.2.1, h.2.2⟩

theorem OwnS.takeN {A : Option Addr} {n cap : Nat} {vs : List Value} {h : Hp} (own : OwnS 1 (.slice A n cap) n vs h) (m : Nat) (hm : m ≤ n) : OwnS 1 (.slice A m cap) m (vs.take m) h := by
  obtain ⟨A', cap', spare, e, h1, h2, h3, h4, h5, rfl⟩ := own
  injection e with e1 e2 e3
  subst e1 e3
  refine ⟨_, _, vs.drop m ++ spare, rfl, by omega, h2, by rw [List.length_take]; omega, by rw [List.length_append, List.length_drop]; omega, h5, ?_⟩
  rw [← List.append_assoc, List.take_append_drop]

/-- a place put into a rising row -/
theorem ins_sorted {T : List Int} {n : Nat} {x : Int} (hs : T.Pairwise (· < ·)) (h0 : ∀ j, j < n → ∀ y, T[j]? = some y → y < x) (h1 : ∀ y, T[n]? = some y → x < y) (hn : n ≤ T.length) :
    (T.take n ++ [x] ++ T.drop n).Pairwise (· < ·) := by
  have hlo : ∀ y ∈ T.take n, y < x := fun y hy => by
    obtain ⟨j, hj⟩ := List.getElem?_of_mem hy
    rw [List.getElem?_take] at hj
    split at hj
    · rename_i hjn; exact h0 j hjn y hj
    · cases hj
  have hhi : ∀ y ∈ T.drop n, x < y := fun y hy => by
    obtain ⟨j, hj⟩ := List.getElem?_of_mem hy
    rw [List.getElem?_drop] at hj
    by_cases hj0 : j = 0
    · subst hj0; exact h1 y (by simpa using hj)
    · have hnl : n < T.length := by
        rcases Nat.lt_or_ge (n + j) T.length with h | h
        · omega
        · rw [List.getElem?_eq_none h] at hj; cases hj
      have ha := h1 T[n] (by simp [hnl])
      have hb := List.pairwise_iff_getElem.1 hs n (n + j) hnl (by
        rcases Nat.lt_or_ge (n + j) T.length with h | h
        · exact h
        · rw [List.getElem?_eq_none h] at hj; cases hj) (by omega)
      rw [List.getElem?_eq_getElem (by
        rcases Nat.lt_or_ge (n + j) T.length with h | h
        · exact h
        · rw [List.getElem?_eq_none h] at hj; cases hj)] at hj
      have := Option.some.inj hj
      omega
  have e := (List.pairwise_append.1 (by rw [List.take_append_drop]; exact hs : (T.take n ++ T.drop n).Pairwise (· < ·)))
  rw [List.append_assoc, List.pairwise_append]
  refine ⟨e.1, List.pairwise_cons.2 ⟨hhi, e.2.1⟩, fun a ha b hb => ?_⟩
  rcases List.mem_cons.1 hb with rfl | hb
  · exact hlo a ha
  · exact e.2.2 a ha b hb
theorem ins_mem {T : List Int} {n : Nat} {x y : Int} : y ∈ T.take n ++ [x] ++ T.drop n ↔ y = x ∨ y ∈ T := by
  conv => rhs; rhs; rw [← List.take_append_drop n T]
  simp only [List.mem_append, List.mem_singleton]
  constructor
  · rintro ((h | h) | h)
    · exact .inr (.inl h)
    · exact .inl h
    · exact .inr (.inr h)
  · rintro (h | h | h)
    · exact .inl (.inr h)
    · exact .inl (.inl h)
    · exact .inr h
theorem ins_len {T : List Int} {n : Nat} {x : Int} (hn : n ≤ T.length) : (T.take n ++ [x] ++ T.drop n).length = T.length + 1 := by
  simp; omega

/-- what Touched has come to, when these have been seen -/
structure TouchI (bs : List (Int × Int)) (T : List Int) (i : Nat) : Prop where
  sorted : T.Pairwise (· < ·)
  mem : ∀ y, y ∈ T ↔ ∃ e ∈ bs.take i, e.1 = y
  len : T.length ≤ i

theorem TouchI.start (bs : List (Int × Int)) : TouchI bs [] 0 := ⟨List.Pairwise.nil, by simp, by simp⟩
theorem TouchI.old {bs : List (Int × Int)} {T : List Int} {i : Nat} (t : TouchI bs T i) {x : Int × Int} (hx : bs[i]? = some x) (h : x.1 ∈ T) : TouchI bs T (i + 1) := by
  have hl := (List.getElem?_eq_some_iff.1 hx)
  refine ⟨t.sorted, fun y => ?_, by have := t.len; omega⟩
  rw [List.take_add_one, hx, t.mem y]
  simp only [Option.toList_some, List.mem_append, List.mem_singleton]
  constructor
  · rintro ⟨e, he, rfl⟩; exact ⟨e, .inl he, rfl⟩
  · rintro ⟨e, he | rfl, rfl⟩
    · exact ⟨e, he, rfl⟩
    · exact (t.mem _).1 h
theorem TouchI.new {bs : List (Int × Int)} {T : List Int} {i n : Nat} (t : TouchI bs T i) {x : Int × Int} (hx : bs[i]? = some x) (h0 : ∀ j, j < n → ∀ y, T[j]? = some y → y < x.1) (h1 : ∀ y, T[n]? = some y → x.1 < y) (hn : n ≤ T.length) :
    TouchI bs (T.take n ++ [x.1] ++ T.drop n) (i + 1) := by
  refine ⟨ins_sorted t.sorted h0 h1 hn, fun y => ?_, by rw [ins_len hn]; have := t.len; omega⟩
  rw [List.take_add_one, hx, ins_mem, t.mem y]
  simp only [Option.toList_some, List.mem_append, List.mem_singleton]
  constructor
  · rintro (rfl | ⟨e, he, rfl⟩)
    · exact ⟨x, .inr rfl, rfl⟩
    · exact ⟨e, .inl he, rfl⟩
  · rintro ⟨e, he | rfl, rfl⟩
    · exact .inr ⟨e, he, rfl⟩
    · exact .inl rfl

theorem oneCell_u64 (l : List Int) : ∀ x ∈ l.map (Value.int .u64), x.oneCell' = true := by
  intro x hx
  obtain ⟨y, _, rfl⟩ := List.mem_map.1 hx
  rfl
theorem oneCell_u64c (l : List Int) (i j : Nat) : ∀ x ∈ ((l.map (Value.int .u64)).drop i).take j, x.oneCell' = true := fun x hx => oneCell_u64 l x (List.mem_of_mem_drop (List.mem_of_mem_take hx))

theorem row_u64 {w : World} {a : Int} {t : TypeId} : RowR (w.alloc (.cells #[.int .u64 a] t)) (some ⟨w.heap.size, 0, none⟩) [.int .u64 a] := by
  intro _
  refine ⟨w.heap.size, 0, rfl, fun j u hu => ?_⟩
  cases j with
  | zero => simp at hu; subst hu; simp
  | succ j => simp at hu

theorem add_none (b o n : Nat) : (⟨b, o, none⟩ : Addr).add n = ⟨b, o + n, none⟩ := by
  unfold Addr.add
  by_cases h : n = 0
  · simp [h]
  · simp [h]

section
variable {R : Ending → World → Prop} {W0 w : World} {H : Hp} {A F : List Hp}



set_option maxRecDepth 100000 in
set_option maxHeartbeats 4000000 in
theorem c_Touched (s : Sat W0 w H A) {size : Int} {B : Option Addr} {n0 c : Nat} {bs : List (Int × Int)} {hp : Hp} (rd : Rd byteE 2 hp (.slice B n0 c) bs) (hL : bs.length ≤ 200000000000) (hk : ∀ w', Sat W0 w' H A → Holds w' hp)
    (k : ∀ w' v h T, TouchI bs T bs.length → OwnS 1 v T.length (T.map (Value.int .u64)) h → Sat W0 w' H (h :: A) → R (.returned v) w') :
    Calls Try.prog 92 #[.agg #[.int .u64 size, .slice B n0 c]] w R := by
  obtain ⟨hn0, hc, hc2, g⟩ := rd.byte2
  obtain ⟨i0, hi0, hz0, hs0, hb0⟩ := info_u64
  obtain ⟨N, hN⟩ : ∃ N, bs.length = N := ⟨_, rfl⟩
  rw [hN] at hn0 hL k
  subst hn0
  have s1 := (s.alloc (c := [.int .u64 size, .slice B n0 c]) (t := 32)).emp
  obtain ⟨Z, hZ⟩ : ∃ Z, w.heap.size = Z := ⟨_, rfl⟩
  rw [hZ] at s1
  have hn9 : (n0 : Int) ≤ 200000000000 := by omega
  replace hN := aside hN
  clear s rd
  go_enter Try.func92, Try.ntmps92
  go_wp2
  go_loopg [3, 4] n0 (fun q v3 v4 w' => ∃ (i : Nat) (T : List Int) (h : Hp), q + i = n0 ∧ v4 = .int .i64 i ∧ Aside (TouchI bs T i) ∧ OwnS 1 v3 T.length (T.map (Value.int .u64)) h ∧ Sat W0 w' H (h :: cellsH ⟨Z, 0, none⟩ [.int .u64 size, .slice B n0 c] :: A))
  case atStart => exact ⟨0, [], empH, by simp, rfl, TouchI.start bs, OwnS.nil 1, s1⟩
  clear s1
  case round =>
    obtain ⟨i, T, h3, hq, rfl, hti, own3, s'⟩ := hrel
    have z0 := s'.cel Z 0 0 rfl
    have z1 := s'.cel Z 0 1 rfl
    simp only [Nat.zero_add] at z0 z1
    by_cases hi : i < n0
    · obtain ⟨x, hx⟩ : ∃ x, bs[i]? = some x := ⟨bs[i]'(by have := hN.out; omega), by simp⟩
      obtain ⟨bb, ob, rfl, hxc, _, hxb, _⟩ := g i (by have := hN.out; omega)
      have hxe : bs[i]'(by have := hN.out; omega) = x := by
        rw [List.getElem?_eq_getElem (by have := hN.out; omega)] at hx
        exact Option.some.inj hx
      rw [hxe] at hxc hxb
      obtain ⟨x, xv⟩ := x
      simp only at hxc hxb
      clear hxe g
      have hq2 := aside (show gk - 1 + (i + 1) = n0 ∧ gk - 1 < gk by omega)
      obtain ⟨A3, c3, sp3, rfl, hc31, hc32, hc33, hc34, hc35, hc36⟩ := id own3
      obtain ⟨M, hM⟩ : ∃ M, T.length = M := ⟨_, rfl⟩
      rw [hM] at own3 hc31 hc34 ⊢
      have hM9 : (M : Int) ≤ 200000000000 := by have := hti.out.len; omega
      have hxc' := fun (w' : World) (q : Sat W0 w' H (h3 :: cellsH ⟨Z, 0, none⟩ [.int .u64 size, .slice (some ⟨bb, ob, none⟩) n0 c] :: A)) => Holds.cell (hk w' q.tail1.tail1) hxc
      replace hx := aside hx
      replace hM := aside hM
      replace hq := aside hq
      replace hc35 := aside hc35
      replace hc36 := aside hc36
      replace hc33 := aside hc33
      replace hc34 := aside hc34
      replace hxc' := aside hxc'
      go_wp2
      clear z0 z1
      obtain ⟨ko, rfl⟩ : ∃ ko : Nat, ko = gk := ⟨_, rfl⟩
      obtain ⟨wo, rfl⟩ : ∃ wo : World, wo = wr := ⟨_, rfl⟩
      go_loopg [5] M (fun q v5 w' => ∃ (n : Nat), q + n = M ∧ v5 = .int .i64 n ∧ Aside (∀ j, j < n → ∀ y, T[j]? = some y → y < x) ∧ Sat W0 w' H (h3 :: cellsH ⟨Z, 0, none⟩ [.int .u64 size, .slice (some ⟨bb, ob, none⟩) n0 c] :: A))
      case atStart => exact ⟨0, by simp, rfl, aside (fun j hj => by omega), s'⟩
      clear s'
      case round =>
        obtain ⟨n, hqn, rfl, hlow, s'⟩ := hrel
        have z0 := s'.cel Z 0 0 rfl
        have z1 := s'.cel Z 0 1 rfl
        simp only [Nat.zero_add] at z0 z1
        have hxw := hxc'.out _ s'
        by_cases hn : n < M
        · have hn2 : (n : Int) < M := by omega
          obtain ⟨b3, o3, rfl⟩ := hc35.out (by omega)
          obtain ⟨t, ht⟩ : ∃ t, T[n]? = some t := ⟨T[n]'(by have := hM.out; omega), by simp⟩
          have hgt : (T.map (Value.int .u64) ++ sp3)[n]? = some (.int .u64 t) := by
            rw [List.getElem?_append_left (by rw [List.length_map]; have := hM.out; omega), List.getElem?_map, ht]; rfl
          have hct := (show Sat W0 wr H (cellsH ⟨b3, o3, none⟩ (T.map (Value.int .u64) ++ sp3) :: _) from by have := s'; rw [hc36.out] at this; exact this).c n hgt
          by_cases htx : t < x
          · have hd : decide (t < x) = true := by simpa using htx
            have hlow2 := aside (show ∀ j, j < n + 1 → ∀ y, T[j]? = some y → y < x from fun j hj y hy => by
              by_cases hjn : j < n
              · exact hlow.out j hjn y hy
              · obtain rfl : j = n := by omega
                rw [ht] at hy
                obtain rfl := Option.some.inj hy
                exact htx)
            have hqn2 := aside (show gk - 1 + (n + 1) = M ∧ gk - 1 < gk by omega)
            replace ht := aside ht
            replace hqn := aside hqn
            clear hlow hgt own3
            go_wp2
            go_quiet (fail)
            have s2 := s'.drewN nq
            generalize World.drewN _ nq = w2 at s2 ⊢
            clear s' z0 z1 hct hxw
            go_wp2
            go_roundg (gk - 1)
            case measure => exact hqn2.out.2
            case rel => exact ⟨n + 1, hqn2.out.1, by go_num, hlow2, s2⟩
          · have hd : decide (t < x) = false := by simpa using htx
            replace hqn := aside hqn
            clear hgt
            by_cases hte : t = x
            · subst hte
              have hT2 := aside (hti.out.old (x := (t, xv)) hx.out (List.mem_of_getElem? ht))
              replace ht := aside ht
              have hown := own3
              go_wp2
              go_quiet (fail)
              have s2 := s'.drewN nq
              generalize World.drewN _ nq = w2 at s2 ⊢
              have z1 := (s2.cel Z 0 1 rfl).1
              simp only [Nat.zero_add] at z1
              have hxw2 := hxc'.out _ s2
              have hct2 := (show Sat W0 w2 H (cellsH ⟨b3, o3, none⟩ (T.map (Value.int .u64) ++ sp3) :: _) from by have := s2; rw [hc36.out] at this; exact this).c n (by rw [List.getElem?_append_left (by rw [List.length_map]; have := hM.out; omega), List.getElem?_map, ht.out]; rfl)
              clear s' z0 hct hxw
              go_wp2
              go_quiet (fail)
              have s4 := s2.drewN nq
              generalize World.drewN _ nq = w4 at s4 ⊢
              clear s2 hxw2 hct2 z1
              go_wp2
              go_roundg (ko - 1)
              case measure => exact hq2.out.2
              case rel => exact ⟨i + 1, T, h3, hq2.out.1, by go_num, hT2, by rw [hM.out]; exact own3, s4⟩
            · have hd2 : (t == x) = false := by simpa using hte
              have hnM : n ≤ M := by omega
              have hgt2 := aside (show ∀ y, T[n]? = some y → x < y from fun y hy => by rw [ht] at hy; obtain rfl := Option.some.inj hy; omega)
              have hn3 : n ≤ c3 := by omega
              replace ht := aside ht
              go_wp2
              go_quiet (fail)
              have s4 := s'.drewN nq
              generalize World.drewN _ nq = w4 at s4 ⊢
              have z1 := (s4.cel Z 0 1 rfl).1
              simp only [Nat.zero_add] at z1
              have hxw2 := hxc'.out _ s4
              have hct2 := (show Sat W0 w4 H (cellsH ⟨b3, o3, none⟩ (T.map (Value.int .u64) ++ sp3) :: _) from by have := s4; rw [hc36.out] at this; exact this).c n (by rw [List.getElem?_append_left (by rw [List.length_map]; have := hM.out; omega), List.getElem?_map, ht.out]; rfl)
              clear s' z0 hct hxw
              go_wp2
              go_quiet (fail)
              have s2 := s4.drewN nq
              generalize World.drewN _ nq = w2 at s2 ⊢
              clear s4 hxw2 hct2 z1
              have hr := own3.rowCut s2.head n
              rw [if_neg (by omega), show ((T.map (Value.int .u64)).drop n).take (M - n) = (T.drop n).map (Value.int .u64) from by rw [List.take_of_length_le (by rw [List.length_drop, List.length_map]; have := hM.out; omega), List.map_drop], Option.map_some, add_none] at hr
              have hcn : ¬ c3 = n := by omega
              go_goals
              have hM1 := hM.out
              have hlen : M ≤ 200000000000 := by have := hti.out.len; omega
              have own4 := own3.takeN n hnM
              rw [← List.map_take] at own4
              have hT2 := aside (hti.out.new (x := (x, xv)) hx.out hlow.out hgt2.out (by omega))
              have hlenT := aside (show (T.take n ++ [x] ++ T.drop n).length = n + 1 + (M - n) by rw [ins_len (by omega)]; omega)
              have hdl := aside (show (T.drop n).length = M - n by rw [List.length_drop, hM1])
              replace hM1 := aside hM1
              clear hti own3
              go_wp2_with (at_builtin; refine wpList_append rfl (.tmp 50) (.tmp 53) 191 191 23 rfl i0 (.int .u64 0) 1 8 Try.underlying191 Try.underlying191 hi0 hz0 hs0 hb0 rfl (by decide) rfl (OwnS.zero 1 _) ((s2.alloc (c := []) (t := 23)).emp) rfl (us := (T.drop n).map (Value.int .u64)) (by have := hdl.out; rw [List.length_map]; omega) (by first | (refine rowR_nil ?_; have := hdl.out; rw [List.length_map]; omega) | exact rowR_old (f := fun _ => (T.drop n).map (Value.int .u64)) (fun _ => hr) 0 _) (oneCell_u64 _) (by omega) (by omega) ?_; intro A5 c5 w5 h5 own5 s5)
              all_goals
                have y1 := s5.cel Z 0 1 rfl
                have hxc5 := Holds.cell (hk w5 s5.wk) hxc
                simp only [Nat.zero_add] at y1
                have s5d := Sat.pull (h := h3) (s5.drew.alloc (c := [.int .u64 x]) (t := 23))
                clear s2
                go_region_law ((refine step_append rfl (.tmp 57) (.tmp 64) 191 191 23 rfl i0 (.int .u64 0) 1 8 Try.underlying191 Try.underlying191 hi0 hz0 hs0 hb0 rfl (by decide) rfl own4 s5d rfl (us := [.int .u64 x]) rfl row_u64 (by simp [Value.oneCell']) (by omega) (by omega) ?_; intro A6 c6 w6 h6 own6 s6))
                all_goals
                  simp only [Act.put, List.getElem_toArray, List.getElem_cons_succ, List.getElem_cons_zero, List.setIfInBounds_toArray, List.set_cons_succ, List.set_cons_zero]
                  have hr6 := own5.row0 (Sat.pull (h := h5) s6).head (0 + (M - n))
                  rw [List.nil_append, List.take_of_length_le (by rw [List.length_map]; have := hdl.out; omega)] at hr6
                  clear s5 s5d own5
                  go_wp2_with (at_builtin; refine wpList_append rfl (.tmp 66) (.tmp 67) 191 191 23 rfl i0 (.int .u64 0) 1 8 Try.underlying191 Try.underlying191 hi0 hz0 hs0 hb0 rfl (by decide) rfl own6 s6 rfl (us := (T.drop n).map (Value.int .u64)) (by have := hdl.out; rw [List.length_map]; omega) hr6 (oneCell_u64 _) (by omega) (by omega) ?_; intro A7 c7 w7 h7 own7 s7)
                  have own8 : OwnS 1 (.slice A7 (n + 1 + (M - n)) c7) (T.take n ++ [x] ++ T.drop n).length ((T.take n ++ [x] ++ T.drop n).map (Value.int .u64)) h7 := by
                    rw [hlenT.out, List.map_append, List.map_append]
                    first | exact own7 | (rw [Nat.zero_add] at own7; exact own7)
                  clear own6 s6 hr6 own7
                  go_roundg (ko - 1)
                  case measure => exact hq2.out.2
                  case rel => exact ⟨i + 1, _, h7, hq2.out.1, by go_num, hT2, own8, s7.wk⟩
        · obtain rfl : n = M := by omega
          have hgt2 := aside (show ∀ y, T[n]? = some y → x < y from fun y hy => by rw [List.getElem?_eq_none (by have := hM.out; omega)] at hy; cases hy)
          have hnM : n ≤ n := Nat.le_refl _
          have hn3 : n ≤ c3 := by omega
          replace hqn := aside hqn
          go_wp2
          go_quiet (fail)
          have s4 := s'.drewN nq
          generalize World.drewN _ nq = w4 at s4 ⊢
          have z1 := (s4.cel Z 0 1 rfl).1
          simp only [Nat.zero_add] at z1
          clear s' z0 hxw
          go_wp2
          go_quiet (fail)
          have s2 := s4.drewN nq
          generalize World.drewN _ nq = w2 at s2 ⊢
          clear s4 z1
          by_cases hcn : c3 = n
          · have hr : True := trivial
            obtain rfl := hcn.symm
            have hM1 := hM.out
            have hlen : n ≤ 200000000000 := by have := hti.out.len; omega
            have own4 := own3.takeN n hnM
            rw [← List.map_take] at own4
            have hT2 := aside (hti.out.new (x := (x, xv)) hx.out hlow.out hgt2.out (by omega))
            have hlenT := aside (show (T.take n ++ [x] ++ T.drop n).length = n + 1 + (n - n) by rw [ins_len (by omega)]; omega)
            have hdl := aside (show (T.drop n).length = n - n by rw [List.length_drop, hM1])
            replace hM1 := aside hM1
            clear hti own3
            go_wp2_with (at_builtin; refine wpList_append rfl (.tmp 50) (.tmp 53) 191 191 23 rfl i0 (.int .u64 0) 1 8 Try.underlying191 Try.underlying191 hi0 hz0 hs0 hb0 rfl (by decide) rfl (OwnS.zero 1 _) ((s2.alloc (c := []) (t := 23)).emp) rfl (us := (T.drop n).map (Value.int .u64)) (by have := hdl.out; rw [List.length_map]; omega) (by first | (refine rowR_nil ?_; have := hdl.out; rw [List.length_map]; omega) | exact rowR_old (f := fun _ => (T.drop n).map (Value.int .u64)) (fun _ => hr) 0 _) (oneCell_u64 _) (by omega) (by omega) ?_; intro A5 c5 w5 h5 own5 s5)
            all_goals
              have y1 := s5.cel Z 0 1 rfl
              have hxc5 := Holds.cell (hk w5 s5.wk) hxc
              simp only [Nat.zero_add] at y1
              have s5d := Sat.pull (h := h3) (s5.drew.alloc (c := [.int .u64 x]) (t := 23))
              clear s2
              go_region_law ((refine step_append rfl (.tmp 57) (.tmp 64) 191 191 23 rfl i0 (.int .u64 0) 1 8 Try.underlying191 Try.underlying191 hi0 hz0 hs0 hb0 rfl (by decide) rfl own4 s5d rfl (us := [.int .u64 x]) rfl row_u64 (by simp [Value.oneCell']) (by omega) (by omega) ?_; intro A6 c6 w6 h6 own6 s6))
              all_goals
                simp only [Act.put, List.getElem_toArray, List.getElem_cons_succ, List.getElem_cons_zero, List.setIfInBounds_toArray, List.set_cons_succ, List.set_cons_zero]
                have hr6 := own5.row0 (Sat.pull (h := h5) s6).head (0 + (n - n))
                rw [List.nil_append, List.take_of_length_le (by rw [List.length_map]; have := hdl.out; omega)] at hr6
                clear s5 s5d own5
                go_wp2_with (at_builtin; refine wpList_append rfl (.tmp 66) (.tmp 67) 191 191 23 rfl i0 (.int .u64 0) 1 8 Try.underlying191 Try.underlying191 hi0 hz0 hs0 hb0 rfl (by decide) rfl own6 s6 rfl (us := (T.drop n).map (Value.int .u64)) (by have := hdl.out; rw [List.length_map]; omega) hr6 (oneCell_u64 _) (by omega) (by omega) ?_; intro A7 c7 w7 h7 own7 s7)
                have own8 : OwnS 1 (.slice A7 (n + 1) c7) (T.take n ++ [x] ++ T.drop n).length ((T.take n ++ [x] ++ T.drop n).map (Value.int .u64)) h7 := by
                  rw [hlenT.out, List.map_append, List.map_append, Nat.sub_self, Nat.add_zero]
                  simp only [Nat.sub_self, Nat.add_zero, Nat.zero_add] at own7
                  exact own7
                clear own6 s6 hr6 own7
                go_roundg (ko - 1)
                case measure => exact hq2.out.2
                case rel => exact ⟨i + 1, _, h7, hq2.out.1, by go_num, hT2, own8, s7.wk⟩
          · have hr : True := trivial
            have hM1 := hM.out
            have hlen : n ≤ 200000000000 := by have := hti.out.len; omega
            have own4 := own3.takeN n hnM
            rw [← List.map_take] at own4
            have hT2 := aside (hti.out.new (x := (x, xv)) hx.out hlow.out hgt2.out (by omega))
            have hlenT := aside (show (T.take n ++ [x] ++ T.drop n).length = n + 1 + (n - n) by rw [ins_len (by omega)]; omega)
            have hdl := aside (show (T.drop n).length = n - n by rw [List.length_drop, hM1])
            replace hM1 := aside hM1
            clear hti own3
            go_wp2_with (at_builtin; refine wpList_append rfl (.tmp 50) (.tmp 53) 191 191 23 rfl i0 (.int .u64 0) 1 8 Try.underlying191 Try.underlying191 hi0 hz0 hs0 hb0 rfl (by decide) rfl (OwnS.zero 1 _) ((s2.alloc (c := []) (t := 23)).emp) rfl (us := (T.drop n).map (Value.int .u64)) (by have := hdl.out; rw [List.length_map]; omega) (by first | (refine rowR_nil ?_; have := hdl.out; rw [List.length_map]; omega) | exact rowR_old (f := fun _ => (T.drop n).map (Value.int .u64)) (fun _ => hr) 0 _) (oneCell_u64 _) (by omega) (by omega) ?_; intro A5 c5 w5 h5 own5 s5)
            all_goals
              have y1 := s5.cel Z 0 1 rfl
              have hxc5 := Holds.cell (hk w5 s5.wk) hxc
              simp only [Nat.zero_add] at y1
              have s5d := Sat.pull (h := h3) (s5.drew.alloc (c := [.int .u64 x]) (t := 23))
              clear s2
              go_region_law ((refine step_append rfl (.tmp 57) (.tmp 64) 191 191 23 rfl i0 (.int .u64 0) 1 8 Try.underlying191 Try.underlying191 hi0 hz0 hs0 hb0 rfl (by decide) rfl own4 s5d rfl (us := [.int .u64 x]) rfl row_u64 (by simp [Value.oneCell']) (by omega) (by omega) ?_; intro A6 c6 w6 h6 own6 s6))
              all_goals
                simp only [Act.put, List.getElem_toArray, List.getElem_cons_succ, List.getElem_cons_zero, List.setIfInBounds_toArray, List.set_cons_succ, List.set_cons_zero]
                have hr6 := own5.row0 (Sat.pull (h := h5) s6).head (0 + (n - n))
                rw [List.nil_append, List.take_of_length_le (by rw [List.length_map]; have := hdl.out; omega)] at hr6
                clear s5 s5d own5
                go_wp2_with (at_builtin; refine wpList_append rfl (.tmp 66) (.tmp 67) 191 191 23 rfl i0 (.int .u64 0) 1 8 Try.underlying191 Try.underlying191 hi0 hz0 hs0 hb0 rfl (by decide) rfl own6 s6 rfl (us := (T.drop n).map (Value.int .u64)) (by have := hdl.out; rw [List.length_map]; omega) hr6 (oneCell_u64 _) (by omega) (by omega) ?_; intro A7 c7 w7 h7 own7 s7)
                have own8 : OwnS 1 (.slice A7 (n + 1) c7) (T.take n ++ [x] ++ T.drop n).length ((T.take n ++ [x] ++ T.drop n).map (Value.int .u64)) h7 := by
                  rw [hlenT.out, List.map_append, List.map_append, Nat.sub_self, Nat.add_zero]
                  simp only [Nat.sub_self, Nat.add_zero, Nat.zero_add] at own7
                  exact own7
                clear own6 s6 hr6 own7
                go_roundg (ko - 1)
                case measure => exact hq2.out.2
                case rel => exact ⟨i + 1, _, h7, hq2.out.1, by go_num, hT2, own8, s7.wk⟩
    · obtain rfl : i = n0 := by omega
      clear z0 hq
      go_wp2
      exact k _ _ h3 T hti.out own3 s'.wk

end
end Go.Proofs.Ytiibiamobkhlbaa
