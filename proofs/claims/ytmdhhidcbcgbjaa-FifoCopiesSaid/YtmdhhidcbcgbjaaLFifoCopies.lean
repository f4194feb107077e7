/-
  FifoCopies returns true for every room, script and call; no condition.
-/
import Derived.Test.YtmdhhidcbcgbjaaVge
import Derived.Test.YtmdhhidcbcgbjaaVgc
namespace Go.Proofs.Ytmdhhidcbcgbjaa
open Go.RowKit
set_option linter.unusedVariables false

/-- a row whose first n cells are bytes -/
def ByteRowF (n : Nat) (us : List Value) : Prop := n ≤ us.length ∧ ∀ i, i < n → ∃ x, us[i]? = some (.int .u8 x)
theorem ByteRowF.of (ds : List Int) (sp : List Value) : ByteRowF ds.length (ds.map (.int .u8) ++ sp) := by
  refine ⟨by simp, fun i hi => ⟨ds[i], ?_⟩⟩
  rw [List.getElem?_append_left (by simpa using hi)]
  simp [hi]
theorem ByteRowF.set {n : Nat} {us : List Value} (h : ByteRowF n us) (i : Nat) (x : Int) : ByteRowF n (us.set i (.int .u8 x)) := by
  refine ⟨by rw [List.length_set]; exact h.1, fun j hj => ?_⟩
  by_cases e : i = j
  · subst e
    exact ⟨x, by rw [List.getElem?_set_self (by have := h.1; omega)]⟩
  · rw [List.getElem?_set_ne e]; exact h.2 j hj

set_option maxRecDepth 100000 in
set_option maxHeartbeats 4000000 in
theorem law_FifoCopies (W : World) {v0 v1 : Value} {cs2 : Array Value} {room : Int} {os : List OpF} {op : OpF} (e0 : intE (look W) room [v0]) (e1 : sliceE opfE 3 (look W) os [v1]) (e2 : opfE (look W) op cs2.toList) :
    Calls Try.prog 8 #[v0, v1, .agg cs2] W fun e w' => e = .returned (.bool true) ∧ Below W.heap.size W w' := by
  obtain ⟨h0, a0, b0⟩ := e0
  obtain rfl : v0 = _ := List.cons.inj h0 |>.1
  clear h0
  obtain ⟨_, hv1, e1⟩ := e1
  obtain rfl := (List.cons.inj hv1).1
  clear hv1
  obtain ⟨dv, hcs, rdv⟩ := e2
  obtain rfl : cs2 = (op.vals dv).toArray := by apply Array.ext'; simpa using hcs
  clear hcs
  obtain ⟨E, ec, rfl, rdv⟩ := rdv.open_
  have hdl : (op.data.length : Int) ≤ 9223372036854775807 := by obtain ⟨_, h1, h2, _⟩ := rdv.u8; omega
  have s0 := (Sat.start W).alloc (c := op.vals (.slice E op.data.length ec)) (t := 53)
  obtain ⟨X, hX⟩ : ∃ X, W.heap.size = X := ⟨_, rfl⟩
  rw [hX] at s0
  have hop : op.vals (.slice E op.data.length ec) = [.int .i64 op.kind, .int .i64 op.n, .slice E op.data.length ec] := rfl
  rw [hop] at s0 ⊢
  go_enter Try.func8, Try.ntmps8
  go_wp2_with fail
  refine c_fifoAwake s0 ?_; intro w1 s1
  go_wp2_with fail
  refine c_lawFPlayed s1 room ⟨a0, b0⟩ e1 ?_ ?_
  · intro w2 H2 B n c ro lo ta le s2
    have s3 := s2.alloc (c := [.slice B n c, .int .i64 ro, .int .u64 lo, .int .u64 ta]) (t := 48)
    have y2 := s3.cel X 0 2 rfl
    simp only [Nat.zero_add] at y2
    go_wp2
    go_ret
    exact ⟨rfl, hX ▸ s3.below⟩
  · intro w2 H2 v2 b f le rf s2
    have rfe := rf
    obtain ⟨B, n, c, ro, lo, ta, rfl⟩ := rf.shape
    have s3 := s2.alloc (c := [.slice B n c, .int .i64 ro, .int .u64 lo, .int .u64 ta]) (t := 48)
    obtain ⟨Y, hY⟩ : ∃ Y, w2.heap.size = Y := ⟨_, rfl⟩
    rw [hY] at s3
    have y2 := s3.cel X 0 2 rfl
    simp only [Nat.zero_add] at y2
    have rdw := rdv.mono u8E_mono le
    clear s0 s1 s2
    by_cases hbig : (op.data.length : Int) ≤ 200
    · go_wp2_with fail
      refine c_fifoCopy s3 ?_
      intro w4 f4 g4 hx4 hr4 hl4 ht4 s4
      have rf4 : RefF H2 (.agg #[.slice B n c, .int .i64 ro, .int .u64 lo, .int .u64 ta]) f4.xs f4.room f4.lost f4.taken := by rw [hx4, hr4, hl4, ht4]; exact rf
      have y0 := s4.cel Y 0 0 rfl
      have y1 := s4.cel Y 0 1 rfl
      have y2 := s4.cel Y 0 2 rfl
      have y3 := s4.cel Y 0 3 rfl
      simp only [Nat.zero_add] at y0 y1 y2 y3
      clear s3
      go_wp2_with fail
      refine c_lawFSame s4 rf4 ?_
      intro w5 s5
      go_wp2_with fail
      refine c_fifoSame s5 ?_
      intro n5
      rw [decide_eq_true hx4]
      have s6 := s5.drewN n5
      generalize World.drewN w5 n5 = w6 at s6 ⊢
      clear s5 s4 y0 y1 y2 y3
      go_wp2_with fail
      refine c_fifoPeek s6 9 ?_
      intro w7 v7 h7 m7 hm7 own7 s7
      obtain ⟨P, pc, sp, rfl, hmp, hpc, hml, _, hP, hrow⟩ := id own7
      simp only [List.length_map, Nat.mul_one] at hml
      have br := ByteRowF.of (f4.xs.take m7) sp
      rw [hml] at br
      rw [hrow] at s7
      generalize (f4.xs.take m7).map (Value.int .u8) ++ sp = us at br s7
      have hm9 : (m7 : Int) ≤ 9 := by omega
      clear s6 hrow own7 hm7 hml
      have s8 : Sat W w7 H2 (rowH P us :: (fifoL ⟨g4, 0, none⟩ f4 ++ (fifoL ⟨b, 0, none⟩ f ++ (cellsH ⟨Y, 0, none⟩ [.slice B n c, .int .i64 ro, .int .u64 lo, .int .u64 ta] :: cellsH ⟨X, 0, none⟩ [.int .i64 op.kind, .int .i64 op.n, .slice E op.data.length ec] :: [])))) := s7.wk
      clear s7
      go_wp2
      go_loopg [12] m7 (fun q v12 w' => ∃ (i : Nat) (us : List Value), q + i = m7 ∧ v12 = .int .i64 i ∧ ByteRowF m7 us ∧ Sat W w' H2 (rowH P us :: (fifoL ⟨g4, 0, none⟩ f4 ++ (fifoL ⟨b, 0, none⟩ f ++ (cellsH ⟨Y, 0, none⟩ [.slice B n c, .int .i64 ro, .int .u64 lo, .int .u64 ta] :: cellsH ⟨X, 0, none⟩ [.int .i64 op.kind, .int .i64 op.n, .slice E op.data.length ec] :: [])))))
      case atStart => exact ⟨0, us, by simp, rfl, br, s8⟩
      clear br s8 us
      case round =>
        obtain ⟨i, us, hq, rfl, br, s'⟩ := hrel
        by_cases hi : i < m7
        · obtain ⟨B, ob, rfl⟩ := hP (by omega)
          obtain ⟨x, hx⟩ := br.2 i hi
          have hlu : i < us.length := by have := br.1; omega
          have cc := Sat.c (vs := us) s' i hx
          go_wp2
          go_roundg (gk - 1)
          case measure => omega
          case rel => exact ⟨i + 1, _, by omega, by go_num, br.set i _, Sat.s (vs := us) s' i hlu _⟩
        · obtain rfl : i = m7 := by omega
          have s9 := s'.tail1
          have y0 := s9.cel Y 0 0 rfl
          have y1 := s9.cel Y 0 1 rfl
          have y2 := s9.cel Y 0 2 rfl
          have y3 := s9.cel Y 0 3 rfl
          have z0 := s9.cel X 0 0 rfl
          have z1 := s9.cel X 0 1 rfl
          have z2 := s9.cel X 0 2 rfl
          simp only [Nat.zero_add] at y0 y1 y2 y3 z0 z1 z2
          clear s' br hP
          go_wp2_with fail
          refine c_lawFDo s9 rf4 op (by omega) rdw ?_
          intro w10 H10 v10 f10 le10 hr10 rf10 s10
          have rfb := rf.mono le10
          obtain ⟨B10, n10, c10, ro10, lo10, ta10, rfl⟩ := rf10.shape
          have s11 := s10.alloc (c := [.slice B10 n10 c10, .int .i64 ro10, .int .u64 lo10, .int .u64 ta10]) (t := 48)
          obtain ⟨Q, hQ⟩ : ∃ Q, w10.heap.size = Q := ⟨_, rfl⟩
          rw [hQ] at s11
          clear s9 y0 y1 y2 y3 z0 z1 z2 s10
          go_wp2
          try simp only [hQ]
          generalize World.alloc w10 _ = w11 at s11 ⊢
          have y0 := s11.cel Y 0 0 rfl
          have y1 := s11.cel Y 0 1 rfl
          have y2 := s11.cel Y 0 2 rfl
          have y3 := s11.cel Y 0 3 rfl
          have z0 := s11.cel Q 0 0 rfl
          have z1 := s11.cel Q 0 1 rfl
          have z2 := s11.cel Q 0 2 rfl
          have z3 := s11.cel Q 0 3 rfl
          simp only [Nat.zero_add] at y0 y1 y2 y3 z0 z1 z2 z3
          have ra : Rd u8E 1 H10 (.slice B10 n10 c10) f10.xs := by obtain ⟨B', c', e, r⟩ := rf10.open_; injection e with e; injection e with e; rw [(List.cons.inj e).1]; exact r
          have rb : Rd u8E 1 H10 (.slice B n c) f.xs := by obtain ⟨B', c', e, r⟩ := rfb.open_; injection e with e; injection e with e; rw [(List.cons.inj e).1]; exact r
          have eqq : ∀ p : Bool, (p == p) = true := fun p => by simp
          go_region_held3 (fun w' => w'.cell? ⟨Y, 0, none⟩ = some (.slice B n c) ∧ w'.cell? ⟨Y, 1, none⟩ = some (.int .i64 ro) ∧ w'.cell? ⟨Y, 2, none⟩ = some (.int .u64 lo) ∧ w'.cell? ⟨Y, 3, none⟩ = some (.int .u64 ta) ∧ w'.cell? ⟨Q, 0, none⟩ = some (.slice B10 n10 c10) ∧ w'.cell? ⟨Q, 1, none⟩ = some (.int .i64 ro10) ∧ w'.cell? ⟨Q, 2, none⟩ = some (.int .u64 lo10) ∧ w'.cell? ⟨Q, 3, none⟩ = some (.int .u64 ta10))
            (first
              | exact ⟨y0.1, y1.1, y2.1, y3.1, z0.1, z1.1, z2.1, z3.1⟩
              | exact ⟨(s15.cel Y 0 0 rfl).1, (s15.cel Y 0 1 rfl).1, (s15.cel Y 0 2 rfl).1, (s15.cel Y 0 3 rfl).1, (s15.cel Q 0 0 rfl).1, (s15.cel Q 0 1 rfl).1, (s15.cel Q 0 2 rfl).1, (s15.cel Q 0 3 rfl).1⟩
              | exact ⟨(s14.cel Y 0 0 rfl).1, (s14.cel Y 0 1 rfl).1, (s14.cel Y 0 2 rfl).1, (s14.cel Y 0 3 rfl).1, (s14.cel Q 0 0 rfl).1, (s14.cel Q 0 1 rfl).1, (s14.cel Q 0 2 rfl).1, (s14.cel Q 0 3 rfl).1⟩
              | exact ⟨(s13.cel Y 0 0 rfl).1, (s13.cel Y 0 1 rfl).1, (s13.cel Y 0 2 rfl).1, (s13.cel Y 0 3 rfl).1, (s13.cel Q 0 0 rfl).1, (s13.cel Q 0 1 rfl).1, (s13.cel Q 0 2 rfl).1, (s13.cel Q 0 3 rfl).1⟩
              | exact ⟨(s12.cel Y 0 0 rfl).1, (s12.cel Y 0 1 rfl).1, (s12.cel Y 0 2 rfl).1, (s12.cel Y 0 3 rfl).1, (s12.cel Q 0 0 rfl).1, (s12.cel Q 0 1 rfl).1, (s12.cel Q 0 2 rfl).1, (s12.cel Q 0 3 rfl).1⟩)
            (first
              | (go_at_call 22; have hs := s14; refine c_Bytes s14.ro s14.ro ra rb ?_; intro n15; have s15 := s14.drewN n15; generalize World.drewN w14 n15 = w15 at s15 ⊢; rw [hbb.out])
              | (go_at_call 31; refine c_fifoSame s13 ?_; intro n14; have s14 := s13.drewN n14; generalize World.drewN w13 n14 = w14 at s14 ⊢
                 obtain ⟨bb, hbb⟩ : ∃ bb, decide (f10.xs = f.xs) = bb := ⟨_, rfl⟩
                 rw [hbb]
                 have hb2 := eqq bb
                 replace hbb := aside hbb)
              | (go_at_call 30; have hs := s12; refine c_lawFSame s12 rf10 ?_; intro w13 s13)
              | (go_at_call 30; refine c_lawFSame s11.drew rfb ?_; intro w12 s12))
          all_goals
            go_wp2
            go_ret
            exact ⟨rfl, hX ▸ s15.below⟩
    · go_wp2
      go_ret
      exact ⟨rfl, hX ▸ s3.below⟩
end Go.Proofs.Ytmdhhidcbcgbjaa
