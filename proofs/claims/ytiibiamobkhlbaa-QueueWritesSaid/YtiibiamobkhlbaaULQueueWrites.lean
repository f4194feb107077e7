/-
  QueueWrites returns true for every memory, queue and device; no condition.
-/
import Derived.Test.YtiibiamobkhlbaaUQk
import Derived.Test.YtiibiamobkhlbaaG7
import Derived.Test.YtiibiamobkhlbaaUVar
import Derived.Test.YtiibiamobkhlbaaG6
import Derived.Test.YtiibiamobkhlbaaUWf
import Derived.Test.YtiibiamobkhlbaaUCo
set_option linter.unusedVariables false
set_option linter.unusedSimpArgs false
namespace Go.Proofs.Ytiibiamobkhlbaa
open Go.RowKit
set_option linter.unusedVariables false
set_option linter.unusedSimpArgs false

/-- alike but for what was fetched and used: behind a service too -/
theorem serveP_kin {σ : Type} {dev : DevF σ} {size : Int} {q0 : QuM} : ∀ (n : Nat) (q : QuM) (x : σ) (m : Int → Int), QuM.Kin q0 q → QuM.Kin q0 (serveP dev size n q x m).q
  | 0, q, x, m, h => h
  | n + 1, q, x, m, h => by
    by_cases he : (fetchP q size m).e = 0
    · cases ho : (fetchP q size m).ok with
      | false => rw [serveP_no he ho]; exact h
      | true =>
        cases hd : dev x m (fetchP q size m).segs with
        | none => rw [serveP_none he ho hd]; exact h
        | some y =>
          obtain ⟨x', m', ct⟩ := y
          rw [serveP_some he ho hd]
          exact serveP_kin n _ x' _ (fetchP_kin h).1.ret
    · rw [serveP_err he]; exact (fetchP_kin h).1
/-- every piece that is listed lies in the memory -/
theorem wr_lies {bt size : Int} (hbt : 0 ≤ bt ∧ bt ≤ 255) : ∀ (n : Nat) (q : QuM) (k : Nat) (ys : List SegM) (m : Int → Int), (∀ a, 0 ≤ m a ∧ m a ≤ 255) → (∀ s ∈ ys, hasP size s.1 s.2.1 ∧ 0 ≤ s.2.1) →
    ∀ s ∈ (serveP (wrDev bt) size n q (k, ys) m).st.2, hasP size s.1 s.2.1 ∧ 0 ≤ s.2.1
  | 0, q, k, ys, m, hm, hy => hy
  | n + 1, q, k, ys, m, hm, hy => by
    by_cases he : (fetchP q size m).e = 0
    · cases ho : (fetchP q size m).ok with
      | false => rw [serveP_no he ho]; exact hy
      | true =>
        cases k with
        | zero => rw [serveP_none he ho rfl]; exact hy
        | succ k =>
          obtain ⟨hq, _, hok, _, _, hwk⟩ := fetchP_ok ho
          have hn := QuM.okP_bd hok
          have hl := walkP_lies hm hwk (by omega)
          rw [serveP_some he ho (show wrDev bt (k + 1, ys) m (fetchP q size m).segs = some ((k, ys ++ (fetchP q size m).segs), fillM bt (fetchP q size m).segs m, fillC (fetchP q size m).segs) from rfl)]
          refine wr_lies hbt n _ k _ _ (retM_bd (fillM_bd hbt hm)) fun s hs => ?_
          rcases List.mem_append.1 hs with h | h
          · exact hy s h
          · exact hl.1 s h
    · rw [serveP_err he]; exact hy
theorem wr_run (av : Array Value) (w : World) : Sem.run Try.prog (callFunc 29 av) w = .ok (.enter 29 av) w :=
  enters_q Try.func29 (by kernel_rfl) rfl av w
/-- unsigned: how far behind -/
theorem behind {y k n : Int} (hy : 0 ≤ y ∧ y ≤ 4294967296) (hk : 0 ≤ k ∧ k ≤ 4294967296) (hn : n ≤ 4294967296) : IntKind.u64.wrap (y - k) < n ↔ k ≤ y ∧ y < k + n := by
  rw [wrap_u64]; omega


set_option maxRecDepth 100000 in
set_option maxHeartbeats 4000000 in
theorem law_QueueWrites (W : World) {v0 : Value} {ps : List PutM} {cs1 cs2 : Array Value} {o : QueD} {how : Int × Int} (e0 : sliceE putE 2 (look W) ps [v0]) (e1 : queE (look W) o cs1.toList) (e2 : pairE (look W) how cs2.toList) :
    Calls Try.prog 5 #[v0, .agg cs1, .agg cs2] W fun e w' => e = .returned (.bool true) ∧ Below W.heap.size W w' := by
  obtain ⟨_, hv0, e0⟩ := e0
  obtain rfl := (List.cons.inj hv0).1
  clear hv0
  replace e0 : Rd putE 2 (look W) v0 ps := e0
  obtain rfl : cs1 = (o.vals).toArray := by apply Array.ext'; simpa [queE] using e1
  clear e1
  obtain ⟨⟨n, d, a, u, hn, hd, ha, hu⟩, rdy, fet, us, ev, ind, hfet, hus⟩ := o
  obtain ⟨h0, h1⟩ := how
  obtain ⟨e2, hb0, hb1⟩ := e2
  obtain rfl : cs2 = #[.int .i64 h0, .int .i64 h1] := by apply Array.ext'; simpa using e2
  clear e2
  simp only [QueD.vals, LayM.vals, List.cons_append, List.nil_append] at *
  have s0 := ((Sat.start W).alloc (c := [.int .i64 n, .int .u64 d, .int .u64 a, .int .u64 u, .bool rdy, .int .i64 fet, .int .i64 us, .bool ev, .bool ind]) (t := 27)).alloc (c := [.int .i64 h0, .int .i64 h1]) (t := 83)
  obtain ⟨X, hX⟩ : ∃ X, W.heap.size = X := ⟨_, rfl⟩
  obtain ⟨X2, hX2⟩ : ∃ y, X + 1 = y := ⟨_, rfl⟩
  simp only [World.size_alloc, hX, hX2] at s0
  replace e0 := aside e0
  go_enter Try.func5, Try.ntmps5
  go_wp2_with fail
  refine c_queueAwake s0 ?_
  intro w1 H1 le1 s1
  clear s0
  go_wp2_with fail
  refine c_Memory s1 (e0.out.mono putE_mono le1) ?_ ?_
  · intro w2 H2 v2 m2 le2 r2 s2
    obtain ⟨B, n2, c, rfl⟩ := r2.shapeM
    have sz := (s2.alloc (c := [.pointer none]) (t := 29)).alloc (c := [.int .u64 0, .slice none 0 0]) (t := 32)
    obtain ⟨PB, hPB⟩ : ∃ PB, w2.heap.size = PB := ⟨_, rfl⟩
    obtain ⟨Y, hY⟩ : ∃ y, PB + 1 = y := ⟨_, rfl⟩
    simp only [World.size_alloc, hPB, hY] at sz
    have s2bq0 := sz.cel PB 0 0 rfl
    have s2b := (sz.pc PB 0).s0 (.pointer none)
    simp only [List.set_cons_succ, List.set_cons_zero, Nat.zero_add] at s2b s2bq0
    have s3q0 := s2b.cel Y 0 0 rfl
    have s3t0 := (s2b.pc Y 0).s0 (.int .u64 8192)
    have s3q1 := s3t0.c 1 rfl
    have s3 := s3t0.s 1 (by simp) (.slice B n2 c)
    simp only [List.set_cons_succ, List.set_cons_zero, Nat.zero_add] at s3 s3q0 s3q1
    have p0 := s3.cel PB 0 0 rfl
    simp only [Nat.zero_add] at p0
    clear s1
    go_wp2
    go_ret
    exact ⟨rfl, hX ▸ s3.below⟩
  intro w2 H2 v2 b r le2 hz rm s2
  obtain ⟨B, n2, c2, rfl⟩ := rm.shapeM
  have sz := (s2.alloc (c := [.pointer none]) (t := 29)).alloc (c := [.int .u64 0, .slice none 0 0]) (t := 32)
  obtain ⟨PB, hPB⟩ : ∃ PB, w2.heap.size = PB := ⟨_, rfl⟩
  obtain ⟨Y, hY⟩ : ∃ y, PB + 1 = y := ⟨_, rfl⟩
  simp only [World.size_alloc, hPB, hY] at sz
  have s2bq0 := sz.cel PB 0 0 rfl
  have s2b := (sz.pc PB 0).s0 (.pointer (some ⟨b, 0, none⟩))
  simp only [List.set_cons_succ, List.set_cons_zero, Nat.zero_add] at s2b s2bq0
  have s3q0 := s2b.cel Y 0 0 rfl
  have s3t0 := (s2b.pc Y 0).s0 (.int .u64 8192)
  have s3q1 := s3t0.c 1 rfl
  have s3 := s3t0.s 1 (by simp) (.slice B n2 c2)
  simp only [List.set_cons_succ, List.set_cons_zero, Nat.zero_add] at s3 s3q0 s3q1
  have x0 := s3.cel X 0 0 rfl
  have x1 := s3.cel X 0 1 rfl
  have x2 := s3.cel X 0 2 rfl
  have x3 := s3.cel X 0 3 rfl
  have x4 := s3.cel X 0 4 rfl
  have x5 := s3.cel X 0 5 rfl
  have x6 := s3.cel X 0 6 rfl
  have x7 := s3.cel X 0 7 rfl
  have x8 := s3.cel X 0 8 rfl
  simp only [Nat.zero_add] at x0 x1 x2 x3 x4 x5 x6 x7 x8
  have p0 := s3.cel PB 0 0 rfl
  simp only [Nat.zero_add] at p0
  replace rm := aside rm
  replace hz := aside hz
  clear s1 s2 le1 le2
  go_wp2_with fail
  refine c_lawRight n d a u fet us rdy ev ind s3 ?_
  intro w4 s4
  clear s3 sz s2b x0 x1 x2 x3 x4 x5 x6 x7 x8 p0
  have j0 := s4.cel X2 0 0 rfl
  have j1 := s4.cel X2 0 1 rfl
  simp only [Nat.zero_add] at j0 j1
  have x0 := s4.cel X 0 0 rfl
  have x1 := s4.cel X 0 1 rfl
  have x2 := s4.cel X 0 2 rfl
  have x3 := s4.cel X 0 3 rfl
  have x4 := s4.cel X 0 4 rfl
  simp only [Nat.zero_add] at x0 x1 x2 x3 x4
  have p0 := s4.cel PB 0 0 rfl
  simp only [Nat.zero_add] at p0
  have y0 := s4.cel Y 0 0 rfl
  have y1 := s4.cel Y 0 1 rfl
  simp only [Nat.zero_add] at y0 y1
  by_cases hr : (0 ≤ fet ∧ fet < 65536) ∧ 0 ≤ us ∧ us < 65536
  · rw [decide_eq_true hr]
    by_cases g0 : h0 < 0
    · skip
      go_wp2
      go_ret
      exact ⟨rfl, hX ▸ s4.below⟩
    by_cases g1 : 255 < h0
    · skip
      go_wp2
      go_ret
      exact ⟨rfl, hX ▸ s4.below⟩
    by_cases g2 : h1 < 0
    · skip
      go_wp2
      go_ret
      exact ⟨rfl, hX ▸ s4.below⟩
    by_cases g3 : 40 < h1
    · skip
      go_wp2
      go_ret
      exact ⟨rfl, hX ▸ s4.below⟩
    by_cases hrd : rdy = true
    · have hrd2 := aside hrd
      rw [hrd] at x4
      clear hrd
      go_wp2_with fail
      refine c_refCheck s4 rm.out (by omega) n d a u hn hd ha hu ?_
      intro w5 s5
      clear s4 j0 j1 x0 x1 x2 x3 x4 p0 y0 y1
      have x0 := s5.cel X 0 0 rfl
      have x1 := s5.cel X 0 1 rfl
      have x2 := s5.cel X 0 2 rfl
      have x3 := s5.cel X 0 3 rfl
      have x4 := s5.cel X 0 4 rfl
      have x5 := s5.cel X 0 5 rfl
      have x6 := s5.cel X 0 6 rfl
      have x7 := s5.cel X 0 7 rfl
      have x8 := s5.cel X 0 8 rfl
      simp only [Nat.zero_add] at x0 x1 x2 x3 x4 x5 x6 x7 x8
      have j0 := s5.cel X2 0 0 rfl
      have j1 := s5.cel X2 0 1 rfl
      simp only [Nat.zero_add] at j0 j1
      have p0 := s5.cel PB 0 0 rfl
      simp only [Nat.zero_add] at p0
      obtain ⟨CK, hCK⟩ : ∃ y, chk 8192 n d a u = y := ⟨_, rfl⟩
      rw [hCK]
      by_cases hc0 : CK = 0
      · subst hc0
        obtain ⟨q, rfl, rfl, rfl, rfl, rfl, rfl, rfl, rfl, rfl⟩ : ∃ q : QuM, q.n = n ∧ q.d = d ∧ q.a = a ∧ q.u = u ∧ q.rdy = rdy ∧ q.fet = fet ∧ q.us = us ∧ q.ev = ev ∧ q.ind = ind := ⟨⟨n, d, a, u, rdy, fet, us, ev, ind, hn, hd, ha, hu, by omega, by omega⟩, rfl, rfl, rfl, rfl, rfl, rfl, rfl, rfl, rfl⟩
        clear hn hd ha hu hfet hus
        replace hCK := aside hCK
        replace hr := aside hr
        obtain ⟨room, rfl⟩ : ∃ room : Nat, h1 = room := ⟨h1.toNat, by omega⟩
        go_wp2_with fail
        refine c_ramCopy s5 ?_
        intro w6 cp r6 hz6 hm6 s6
        have x0 := s6.cel X 0 0 rfl
        have x1 := s6.cel X 0 1 rfl
        have x2 := s6.cel X 0 2 rfl
        have x3 := s6.cel X 0 3 rfl
        have x4 := s6.cel X 0 4 rfl
        have x5 := s6.cel X 0 5 rfl
        have x6 := s6.cel X 0 6 rfl
        have x7 := s6.cel X 0 7 rfl
        have x8 := s6.cel X 0 8 rfl
        simp only [Nat.zero_add] at x0 x1 x2 x3 x4 x5 x6 x7 x8
        have p0 := s6.cel PB 0 0 rfl
        simp only [Nat.zero_add] at p0
        have j0 := s6.cel X2 0 0 rfl
        have j1 := s6.cel X2 0 1 rfl
        simp only [Nat.zero_add] at j0 j1
        replace hz6 := aside hz6
        replace hm6 := aside hm6
        clear s5
        go_wp2_with fail
        refine c_lawOf q s6 ?_
        intro w7 s7
        have sA := (s7.alloc (c := [.int .i64 q.n, .int .u64 q.d, .int .u64 q.a, .int .u64 q.u, .bool q.rdy, .int .u16 q.fet, .int .u16 q.us, .bool q.ev, .bool q.ind]) (t := 40)).alloc (c := [.slice none 0 0]) (t := 46)
        have s8 := sA.alloc (c := [.int .i64 (room : Int)]) (t := 3)
        obtain ⟨QB, hQB⟩ : ∃ QB, w7.heap.size = QB := ⟨_, rfl⟩
        obtain ⟨YB, hYB⟩ : ∃ y, QB + 1 = y := ⟨_, rfl⟩
        obtain ⟨RB, hRB⟩ : ∃ y, YB + 1 = y := ⟨_, rfl⟩
        simp only [World.size_alloc, hQB, hYB, hRB] at s8 sA
        have p0 := s8.cel PB 0 0 rfl
        simp only [Nat.zero_add] at p0
        have j0 := sA.cel X2 0 0 rfl
        have j1 := sA.cel X2 0 1 rfl
        simp only [Nat.zero_add] at j0 j1
        have hmf : ∀ (fn : Fn) (first cap : Array Value) (w : World), (Instr.makeFunc fn first cap).run Try.prog w = .ok (.func fn first cap) w := fun _ _ _ _ => rfl
        clear s6 x0 x1 x2 x3 x4 x5 x6 x7 x8
        go_wp2_with fail
        have s9 : Sat W _ H2 (cellsH ⟨QB, 0, none⟩ q.vals :: ([cellsH ⟨RB, 0, none⟩ [.int .i64 (room : Int)], cellsH ⟨YB, 0, none⟩ [.slice none 0 0], empH, cellsH ⟨PB, 0, none⟩ [.pointer (some ⟨b, 0, none⟩)], cellsH ⟨X2, 0, none⟩ [.int .i64 h0, .int .i64 (room : Int)]] ++ (ramL ⟨b, 0, none⟩ (r, none) ++ (ramL ⟨cp, 0, none⟩ (r6, none) ++ (cellsH ⟨X, 0, none⟩ [.int .i64 q.n, .int .u64 q.d, .int .u64 q.a, .int .u64 q.u, .bool q.rdy, .int .i64 q.fet, .int .i64 q.us, .bool q.ev, .bool q.ind] :: []))))) := (show Sat W _ H2 (cellsH ⟨QB, 0, none⟩ [.int .i64 q.n, .int .u64 q.d, .int .u64 q.a, .int .u64 q.u, .bool q.rdy, .int .u16 q.fet, .int .u16 q.us, .bool q.ev, .bool q.ind] :: cellsH ⟨RB, 0, none⟩ [.int .i64 (room : Int)] :: cellsH ⟨YB, 0, none⟩ [.slice none 0 0] :: empH :: cellsH ⟨PB, 0, none⟩ [.pointer (some ⟨b, 0, none⟩)] :: cellsH ⟨X2, 0, none⟩ [.int .i64 h0, .int .i64 (room : Int)] :: (ramL ⟨b, 0, none⟩ (r, none) ++ (ramL ⟨cp, 0, none⟩ (r6, none) ++ (cellsH ⟨X, 0, none⟩ [.int .i64 q.n, .int .u64 q.d, .int .u64 q.a, .int .u64 q.u, .bool q.rdy, .int .i64 q.fet, .int .i64 q.us, .bool q.ev, .bool q.ind] :: [])))) from s8.emp.wk)
        clear s8 sA
        refine c_qServe wr_run (dev_wr RB YB PB X2 b h0 (room : Int) ⟨by omega, by omega⟩) q (room, []) ⟨by show room ≤ 100; omega, by show 0 + 511 * room ≤ 60000; omega, none, 0, empH, OwnS.nil 3, rfl⟩ s9 ?_
        intro f hf w10 H10 X10 r10 l10 le10 hX10 hm10 hz10 hl10 s10
        clear s9 le10 hl10
        obtain ⟨_, hlen, A10, c10, hp10, own10, rfl⟩ := hX10
        simp only [List.cons_append, List.nil_append] at s10
        have hok : q.okP 8192 := QuM.okP_chk.2 hCK.out
        have hn := QuM.okP_bd hok
        have hus := hok.2
        obtain ⟨tch1, tch2⟩ := wr_touch (bt := h0) (size := r.size) ⟨by omega, by omega⟩ 65537 q room [] r.mem r.hmem
        have tch3 := wr_lies (bt := h0) (size := r.size) ⟨by omega, by omega⟩ 65537 q room [] r.mem r.hmem (fun s hs => by cases hs)
        have tch4 := serveP_kin (dev := wrDev h0) (size := r.size) (q0 := q) 65537 q (room, []) r.mem (QuM.Kin.refl q)
        rw [hf] at tch2 tch3 tch4
        rw [hz.out] at tch3
        obtain ⟨segs, hsegs⟩ : ∃ l, f.st.2 = l := ⟨_, rfl⟩
        rw [hsegs] at tch2 tch3 own10 s10 hlen
        have htc : ∀ y, r10.mem y ≠ r.mem y → inUsed q y 1 ∨ inAny segs y = true := fun y hy => by
          rw [hm10] at hy
          unfold endM at hy
          by_cases h3 : f.e = 0 ∧ f.q.rdy = true
          · rw [if_pos h3] at hy
            by_cases h4 : askM f.q f.mem y = f.mem y
            · rw [h4] at hy
              exact (tch2 y hy).imp id inAny_true
            · exact .inl (tch4.used.1 (askM_in (q := f.q) (by rw [tch4.1]; exact hn.1) h4))
          · rw [if_neg h3] at hy
            exact (tch2 y hy).imp id inAny_true
        have hss : r10.size = r6.size := hz10.trans hz6.out.symm
        obtain ⟨out, hout⟩ : ∃ out, difR r6 r10 9000 = out := ⟨_, rfl⟩
        have hpl := aside (show ∀ s ∈ out, 1 ≤ s.2 ∧ 2147483648 ≤ s.1 ∧ s.1 + s.2 ≤ 4294967296 ∧ ∀ y, s.1 ≤ y → y < s.1 + s.2 → inUsed q y 1 ∨ inAny segs y = true from fun s hs => by
          rw [← hout] at hs
          obtain ⟨h1, h2⟩ := difL_places s hs
          have hin : ∀ y, s.1 ≤ y → y < s.1 + s.2 → (2147483648 ≤ y ∧ y < 2147483648 + r6.size) ∧ (inUsed q y 1 ∨ inAny segs y = true) := fun y a b => by
            have h3 := mem_dfrom.1 (h2 y a b)
            have h4 := r6.hsize
            refine ⟨by omega, htc y ?_⟩
            have hne := h3.2.2
            rw [hm6.out] at hne
            exact fun h => hne h.symm
          have h4 := r6.hsize
          have a1 := (hin s.1 (by omega) (by omega)).1
          have a2 := (hin (s.1 + s.2 - 1) (by omega) (by omega)).1
          exact ⟨h1, a1.1, by omega, fun y a b => (hin y a b).2⟩)
        have hn6 := aside (show q.n ≤ 256 from hn.2)
        have hub := aside (show 0 ≤ q.u ∧ q.u + (8 * q.n + 6) ≤ 2147483648 + 8192 from by unfold liesP hasP at hus; omega)
        have hn1 : 0 ≤ q.n ∧ q.n ≤ 1048576 := by omega
        have hsg := aside (show ∀ s ∈ segs, 2147483648 ≤ s.1 ∧ s.1 + s.2.1 ≤ 2147483648 + 8192 ∧ 0 ≤ s.2.1 from fun s hs => by have := tch3 s hs; unfold hasP at this; omega)
        have s11 : Sat W w10 H10 (ramL ⟨cp, 0, none⟩ (r6, none) ++ (ramL ⟨b, 0, none⟩ (r10, l10) ++ (cellsH ⟨YB, 0, none⟩ [.slice A10 segs.length c10] :: hp10 :: cellsH ⟨PB, 0, none⟩ [.pointer (some ⟨b, 0, none⟩)] :: cellsH ⟨X, 0, none⟩ [.int .i64 q.n, .int .u64 q.d, .int .u64 q.a, .int .u64 q.u, .bool q.rdy, .int .i64 q.fet, .int .i64 q.us, .bool q.ev, .bool q.ind] :: []))) := s10.wk
        have rdg := own10.rdG
        obtain ⟨_, _, _, gg⟩ := rdg.seg
        obtain ⟨L, hL⟩ : ∃ L, segs.length = L := ⟨_, rfl⟩
        have hL6 : L ≤ 60000 := by omega
        rw [hL] at s11
        have x0 := s11.cel X 0 0 rfl
        have x1 := s11.cel X 0 1 rfl
        have x2 := s11.cel X 0 2 rfl
        have x3 := s11.cel X 0 3 rfl
        simp only [Nat.zero_add] at x0 x1 x2 x3
        have p0 := s11.cel PB 0 0 rfl
        simp only [Nat.zero_add] at p0
        clear s10 own10 rdg tch1 tch2 tch3 tch4 htc hok hn hus hf hm10 hz10 hsegs
        replace gg := aside (show ∀ (i : Nat) (hi : i < L), _ from fun i hi => gg i (by omega))
        replace hL := aside hL
        replace hout := aside hout
        replace hss := aside hss
        go_wp2_with fail
        refine c_refAreas s11 q.n q.d q.a q.u hn1 ?_
        intro w12 g12 s12
        simp only [areaVs] at s12
        have s13 : Sat W w12 H10 (ramL ⟨cp, 0, none⟩ (r6, none) ++ (ramL ⟨b, 0, none⟩ (r10, l10) ++ (cellsH ⟨g12, 0, none⟩ [.int .u64 q.d, .int .u64 (16 * q.n), .int .u64 q.a, .int .u64 (2 * q.n + 6), .int .u64 q.u, .int .u64 (8 * q.n + 6)] :: cellsH ⟨YB, 0, none⟩ [.slice A10 L c10] :: hp10 :: cellsH ⟨PB, 0, none⟩ [.pointer (some ⟨b, 0, none⟩)] :: []))) := s12.wk
        have p0 := s13.cel PB 0 0 rfl
        simp only [Nat.zero_add] at p0
        clear s11 s12 x0 x1 x2 x3
        go_wp2_with fail
        refine c_ramDiffer s13 hss.out 9000 (by omega) ?_
        intro w14 v14 h14 own14 s14
        rw [hout.out] at own14
        have rd14 := own14.rdS
        obtain ⟨A14, c14, rfl, rd14⟩ := rd14.open_
        obtain ⟨hn14, hc71, hc72, g14⟩ := rd14.span
        clear hn14
        obtain ⟨M, hM⟩ : ∃ M, out.length = M := ⟨_, rfl⟩
        rw [hM] at hc71 ⊢
        have hM9 : (M : Int) ≤ 9223372036854775807 := by omega
        replace hM := aside hM
        obtain ⟨UN, hUN⟩ : ∃ y, 8 * q.n + 6 = y := ⟨_, rfl⟩
        obtain ⟨UA, hUA⟩ : ∃ y, q.u = y := ⟨_, rfl⟩
        rw [hUN, hUA] at s14 hub
        replace hpl := aside (show ∀ s ∈ out, 1 ≤ s.2 ∧ 2147483648 ≤ s.1 ∧ s.1 + s.2 ≤ 4294967296 ∧ ∀ y, s.1 ≤ y → y < s.1 + s.2 → (decide (UA ≤ y) && decide (y < UA + UN) || inAny segs y) = true from fun s hs => by
          obtain ⟨z1, z2, z3, z4⟩ := hpl.out s hs
          refine ⟨z1, z2, z3, fun y a b => ?_⟩
          rcases z4 y a b with h | h
          · unfold inUsed at h
            rw [decide_eq_true (show UA ≤ y by omega), decide_eq_true (show y < UA + UN by omega)]; rfl
          · rw [h, Bool.or_true])
        have hub2 : 0 ≤ UN ∧ UN ≤ 3000 := by have := hn6.out; rw [← hUN]; omega
        clear s13 own14 rd14 p0 hn1
        replace g14 := aside g14
        replace hc71 := aside hc71
        replace hUN := aside hUN
        replace hUA := aside hUA
        replace hub2 := aside hub2
        generalize 16 * q.n = E16 at s14
        generalize 2 * q.n + 6 = E2 at s14
        have s15 : Sat W w14 H10 (h14 :: cellsH ⟨g12, 0, none⟩ [.int .u64 q.d, .int .u64 E16, .int .u64 q.a, .int .u64 E2, .int .u64 UA, .int .u64 UN] :: cellsH ⟨YB, 0, none⟩ [.slice A10 L c10] :: hp10 :: []) := s14.wk
        clear s14
        go_wp2
        go_loopg [15] M (fun q9 v15 w' => ∃ (j : Nat), q9 + j = M ∧ v15 = .int .i64 j ∧ Sat W w' H10 (h14 :: cellsH ⟨g12, 0, none⟩ [.int .u64 q.d, .int .u64 E16, .int .u64 q.a, .int .u64 E2, .int .u64 UA, .int .u64 UN] :: cellsH ⟨YB, 0, none⟩ [.slice A10 L c10] :: hp10 :: []))
        case atStart => exact ⟨0, by simp, rfl, s15⟩
        clear s15
        case round =>
          obtain ⟨j, hqj, rfl, s'⟩ := hrel
          by_cases hj : j < M
          · have hj2 : (0 : Int) ≤ j ∧ (j : Int) < M := by omega
            obtain ⟨b7, o7, rfl, hc0, hc1⟩ := g14.out j (by have := hM.out; omega)
            have hp := hpl.out (out[j]'(by have := hM.out; omega)) (List.getElem_mem _)
            have d0 := (Sat.pull (h := h14) s').head.cell hc0
            obtain ⟨p, hp1⟩ : ∃ p, (out[j]'(by have := hM.out; omega)).1 = p := ⟨_, rfl⟩
            obtain ⟨k, hk1⟩ : ∃ k : Nat, (out[j]'(by have := hM.out; omega)).2 = k := ⟨(out[j]'(by have := hM.out; omega)).2.toNat, by omega⟩
            rw [hp1] at d0 hp hc0
            rw [hk1] at hp hc1
            have hpb : 2147483648 ≤ p ∧ p + k ≤ 4294967296 := ⟨hp.2.1, hp.2.2.1⟩
            replace hp := aside hp.2.2.2
            clear hp1 hk1
            obtain ⟨ko, rfl⟩ : ∃ ko : Nat, ko = gk := ⟨_, rfl⟩
            have hqj2 := aside (show ko - 1 + (j + 1) = M ∧ ko - 1 < ko by omega)
            clear hqj
            replace hc0 := aside hc0
            replace hc1 := aside hc1
            go_wp2
            clear d0
            go_loopg [16] k (fun g v16 w' => ∃ (x : Nat) (y : Int), g + x = k ∧ y = p + x ∧ v16 = .int .u64 y ∧ Sat W w' H10 (h14 :: cellsH ⟨g12, 0, none⟩ [.int .u64 q.d, .int .u64 E16, .int .u64 q.a, .int .u64 E2, .int .u64 UA, .int .u64 UN] :: cellsH ⟨YB, 0, none⟩ [.slice A10 L c10] :: hp10 :: []))
            case atStart => exact ⟨0, p, by simp, by simp, rfl, s'⟩
            clear s'
            case round =>
              obtain ⟨x, y, hqx, hy, rfl, s'⟩ := hrel
              have d0 := (Sat.pull (h := h14) s').head.cell hc0.out
              have d1 := (Sat.pull (h := h14) s').head.cell hc1.out
              have ey : IntKind.u64.wrap (y - p) = x := by rw [wrap_u64]; omega
              have ey1 : IntKind.u64.wrap (y + 1) = y + 1 := by rw [wrap_u64]; omega
              have hyb : 0 ≤ y ∧ y ≤ 4294967296 := by omega
              by_cases hx : x < k
              · have hx2 : (x : Int) < k := by omega
                have hin := aside (hp.out y (by omega) (by omega))
                obtain ⟨km, rfl⟩ : ∃ km : Nat, km = gk := ⟨_, rfl⟩
                have hqx2 := aside (show km - 1 + (x + 1) = k ∧ km - 1 < km by omega)
                clear hqx
                replace hy := aside hy
                replace hpb := aside hpb
                go_wp2
                go_quiet (fail)
                have s2 := s'.drewN nq
                generalize World.drewN wr nq = wq at s2 ⊢
                clear s' d0 d1 ey
                have u0 := s2.cel g12 0 0 rfl
                have u1 := s2.cel g12 0 1 rfl
                have u2 := s2.cel g12 0 2 rfl
                have u3 := s2.cel g12 0 3 rfl
                have u4 := s2.cel g12 0 4 rfl
                have u5 := s2.cel g12 0 5 rfl
                simp only [Nat.zero_add] at u0 u1 u2 u3 u4 u5
                obtain ⟨YU, hYU⟩ : ∃ z, IntKind.u64.wrap (y - UA) = z := ⟨_, rfl⟩
                have hyu : YU < UN ↔ (UA ≤ y ∧ y < UA + UN) := by rw [← hYU]; exact behind hyb (by have := hub.out; have := hub2.out; omega) (by have := hub2.out; omega)
                have eI : decide (YU < UN) = (decide (UA ≤ y) && decide (y < UA + UN)) := by
                  by_cases h : YU < UN
                  · have := hyu.1 h; rw [decide_eq_true h, decide_eq_true this.1, decide_eq_true this.2]; rfl
                  · rw [decide_eq_false h]
                    by_cases h1 : UA ≤ y
                    · rw [decide_eq_true h1, decide_eq_false (fun h2 => h (hyu.2 ⟨h1, h2⟩))]; rfl
                    · rw [decide_eq_false h1]; rfl
                rw [← eI] at hin
                clear eI hyu
                obtain ⟨I0, hI0⟩ : ∃ z, decide (YU < UN) = z := ⟨_, rfl⟩
                rw [hI0] at hin
                go_wp2
                go_quiet (fail)
                have s3 := s2.drewN nq
                generalize World.drewN wq nq = wz at s3 ⊢
                have hyb2 := aside hyb
                clear s2 u0 u1 u2 u3 u4 u5 hI0 hYU hyb
                go_wp2
                go_loopg [17, 18] L (fun g v17 v18 w' => ∃ (e : Nat), g + e = L ∧ v18 = .int .i64 e ∧ v17 = .bool (I0 || inAny (segs.take e) y) ∧ Sat W w' H10 (h14 :: cellsH ⟨g12, 0, none⟩ [.int .u64 q.d, .int .u64 E16, .int .u64 q.a, .int .u64 E2, .int .u64 UA, .int .u64 UN] :: cellsH ⟨YB, 0, none⟩ [.slice A10 L c10] :: hp10 :: []))
                case atStart => exact ⟨0, by simp, rfl, by simp [inAny], s3⟩
                clear s3
                case round =>
                  obtain ⟨e, hqk, rfl, rfl, s'⟩ := hrel
                  have v0 := s'.cel YB 0 0 rfl
                  simp only [Nat.zero_add] at v0
                  obtain ⟨I, hI⟩ : ∃ z, (I0 || inAny (segs.take e) y) = z := ⟨_, rfl⟩
                  by_cases hk : e < L
                  · have i1 : (0 : Int) ≤ e ∧ (e : Int) < L := by omega
                    have hqk2 := aside (show gk - 1 + (e + 1) = L ∧ gk - 1 < gk by omega)
                    clear hqk
                    have hin1 := aside (inAny_one (l := segs) (i := e) y (by rw [hL.out]; exact hk))
                    rw [hI]
                    cases I with
                    | true =>
                      clear hI hin1
                      go_wp2
                      go_roundg (km - 1)
                      case measure => exact hqx2.out.2
                      case rel => exact ⟨x + 1, y + 1, hqx2.out.1, by have := hy.out; omega, by go_num, s'⟩
                    | false =>
                      obtain ⟨b', o', rfl, d0, d1, d2⟩ := gg.out e hk
                      have H1 := (Sat.pull (h := hp10) s').head
                      have q0 := H1.cell d0
                      have q1 := H1.cell d1
                      have q2 := H1.cell d2
                      have hseg := hsg.out _ (List.getElem_mem (by rw [hL.out]; exact hk : e < segs.length))
                      obtain ⟨⟨k1, k2, k3⟩, hk1⟩ : ∃ z, (segs[e]'(by rw [hL.out]; exact hk)) = z := ⟨_, rfl⟩
                      rw [hk1] at q0 q1 q2 hin1 hseg
                      simp only at q0 q1 q2 hin1 hseg
                      clear hk1 d0 d1 d2 H1
                      obtain ⟨T, hT⟩ : ∃ z, IntKind.u64.wrap (y - k1) = z := ⟨_, rfl⟩
                      have hTk : T < k2 ↔ (k1 ≤ y ∧ y < k1 + k2) := by rw [← hT]; exact behind hyb2.out (by omega) (by omega)
                      have eI : (I0 || inAny (segs.take (e + 1)) y) = (k3 && decide (T < k2)) := by
                        have h0 := (Bool.or_eq_false_iff.1 hI)
                        rw [hin1.out, h0.1, h0.2, Bool.false_or, Bool.false_or]
                        congr 1
                        by_cases h : T < k2
                        · have := hTk.1 h; rw [decide_eq_true h, decide_eq_true this.1, decide_eq_true (show y - k1 < k2 by omega)]; rfl
                        · rw [decide_eq_false h]
                          by_cases h1 : k1 ≤ y
                          · rw [decide_eq_true h1, decide_eq_false (fun h2 => h (hTk.2 ⟨h1, by omega⟩))]; rfl
                          · rw [decide_eq_false h1]; rfl
                      clear hin1 hTk hI hseg
                      replace eI := aside eI
                      cases k3 with
                      | false =>
                        go_wp2
                        go_quiet (fail)
                        have s4 := s'.drewN nq
                        go_wp2
                        go_roundg (gk - 1)
                        case measure => exact hqk2.out.2
                        case rel => exact ⟨e + 1, hqk2.out.1, by go_num, by rw [eI.out]; rfl, s4⟩
                      | true =>
                        go_wp2
                        go_quiet (fail)
                        have s4 := s'.drewN nq
                        go_wp2
                        go_roundg (gk - 1)
                        case measure => exact hqk2.out.2
                        case rel => exact ⟨e + 1, hqk2.out.1, by go_num, by rw [eI.out, Bool.true_and], s4⟩
                  · obtain rfl : e = L := by omega
                    have e1 : segs.take e = segs := by rw [← hL.out]; exact List.take_length
                    rw [e1, hin.out]
                    clear e1 hI
                    go_wp2
                    go_roundg (km - 1)
                    case measure => exact hqx2.out.2
                    case rel => exact ⟨x + 1, y + 1, hqx2.out.1, by have := hy.out; omega, by go_num, s'⟩
              · obtain rfl : x = k := by omega
                go_wp2
                go_quiet (fail)
                have s2 := s'.drewN nq
                clear s' d0 d1 ey
                go_wp2
                go_roundg (ko - 1)
                case measure => exact hqj2.out.2
                case rel => exact ⟨j + 1, hqj2.out.1, by go_num, s2⟩
          · obtain rfl : j = M := by omega
            go_wp2
            go_ret
            exact ⟨rfl, hX ▸ s'.below⟩
      · have hne : (CK != 0) = true := by simp [hc0]
        have s4 := s5
        replace hCK := aside hCK
        go_wp2
        go_ret
        exact ⟨rfl, hX ▸ s4.below⟩
    · have hf : rdy = false := by simpa using hrd
      rw [hf] at x4
      clear hrd hf
      go_wp2
      go_ret
      exact ⟨rfl, hX ▸ s4.below⟩
  · rw [decide_eq_false hr]
    clear hr
    go_wp2
    go_ret
    exact ⟨rfl, hX ▸ s4.below⟩
end Go.Proofs.Ytiibiamobkhlbaa
