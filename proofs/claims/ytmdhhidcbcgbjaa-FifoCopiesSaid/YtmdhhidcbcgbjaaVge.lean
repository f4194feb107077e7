/-
  A row of bytes and the document's: a script played at both (vireolaw14.played); FifoPlays.
-/
import Derived.Test.YtmdhhidcbcgbjaaVgd
import Derived.Test.YtmdhhidcbcgbjaaLFifoRooms
namespace Go.Proofs.Ytmdhhidcbcgbjaa
open Go.RowKit
set_option linter.unusedVariables false

section
variable {R : Ending → World → Prop} {W0 w : World} {H : Hp} {A : List Hp}

set_option maxRecDepth 100000 in
set_option maxHeartbeats 4000000 in
theorem c_lawFPlayed (s : Sat W0 w H A) (room : Int) (hroom : -9223372036854775808 ≤ room ∧ room ≤ 9223372036854775807) {v0 : Value} {os : List OpF} (rd : Rd opfE 3 H v0 os)
    (k1 : ∀ w' H' B n c ro lo ta, (∀ l c, H l = some c → H' l = some c) → Sat W0 w' H' A → R (.returned (.tuple #[.pointer none, .agg #[.slice B n c, .int .i64 ro, .int .u64 lo, .int .u64 ta], .bool true])) w')
    (k2 : ∀ w' H' v' b (f : FifoG), (∀ l c, H l = some c → H' l = some c) → RefF H' v' f.xs f.room f.lost f.taken → Sat W0 w' H' (fifoL ⟨b, 0, none⟩ f ++ A) → R (.returned (.tuple #[.pointer (some ⟨b, 0, none⟩), v', .bool true])) w') :
    Calls Try.prog 28 #[.int .i64 room, v0] w R := by
  obtain ⟨D, dc, rfl, rd⟩ := rd.open_
  obtain ⟨A', c', hv, hc, hc2, hat⟩ := id rd
  injection hv with ea eb ec
  subst ea ec
  have hlen : (os.length : Int) ≤ 9223372036854775807 := by omega
  obtain ⟨Z, hZ⟩ : ∃ Z, w.heap.size = Z := ⟨_, rfl⟩
  by_cases hbad : room < 1 ∨ 100 < room
  · have s7 := (s.alloc (c := [.slice none 0 0, .int .i64 room, .int .u64 0, .int .u64 0]) (t := 48)).alloc (c := [.slice none 0 0, .int .i64 room, .int .u64 0, .int .u64 0]) (t := 48)
    rw [World.size_alloc, hZ] at s7
    have f0 := s7.cel Z 0 0 rfl
    have f1 := s7.cel Z 0 1 rfl
    have f2 := s7.cel Z 0 2 rfl
    have f3 := s7.cel Z 0 3 rfl
    simp only [Nat.zero_add] at f0 f1 f2 f3
    clear hat rd
    by_cases hlow : room < 1
    all_goals
      have hlow' : room < 1 ∨ 1 ≤ room := by omega
      have hbad' : room < 1 ∨ 100 < room := by omega
      go_enter Try.func28, Try.ntmps28
      go_wp2
      all_goals try (exfalso; omega)
      all_goals
        go_region_law (fail)
        all_goals
          try simp only [Act.put, List.getElem_toArray, List.getElem_cons_succ, List.getElem_cons_zero, List.setIfInBounds_toArray, List.set_cons_succ, List.set_cons_zero]
          go_wp2
          refine bodyPost_ret (by simp [results, Try.results28, go_sem, f0.1, f1.1, f2.1, f3.1]; try rfl) rfl ?_
          exact k1 _ H _ _ _ _ _ _ (fun _ _ h => h) s7.drew.wk
  · have hr1 : 1 ≤ room := by omega
    have hr2 : room ≤ 100 := by omega
    have s1 := (s.alloc (c := [.slice none 0 0, .int .i64 0, .int .u64 0, .int .u64 0]) (t := 48)).alloc (c := [.slice none 0 0, .int .i64 room, .int .u64 0, .int .u64 0]) (t := 48)
    rw [World.size_alloc, hZ] at s1
    clear hbad
    go_enter Try.func28, Try.ntmps28
    go_wp2_with fail
    refine c_fifoNew_ok s1 room hr1 (by omega) ?_
    intro w2 f b hx hfr hfl hft s3
    obtain ⟨Y, hY⟩ : ∃ Y, Z + 1 = Y := ⟨_, rfl⟩
    simp only [hY] at s3 ⊢
    clear s1 s
    go_wp2
    go_loopg [10] os.length (fun q v10 w' => ∃ (i : Nat) (H' : Hp) (f : FifoG) (B : Option Addr) (n c : Nat) (ro lo ta : Int), q + i = os.length ∧ i ≤ 40 ∧ v10 = .int .i64 i ∧ (∀ l c, H l = some c → H' l = some c) ∧ RefF H' (.agg #[.slice B n c, .int .i64 ro, .int .u64 lo, .int .u64 ta]) f.xs f.room f.lost f.taken ∧
      Sat W0 w' H' (fifoL ⟨b, 0, none⟩ f ++ (cellsH ⟨Y, 0, none⟩ [.slice B n c, .int .i64 ro, .int .u64 lo, .int .u64 ta] :: cellsH ⟨Z, 0, none⟩ [.slice none 0 0, .int .i64 0, .int .u64 0, .int .u64 0] :: A)))
    case atStart => exact ⟨0, H, f, none, 0, 0, room, 0, 0, by simp, by omega, rfl, fun _ _ h => h, ⟨_, by rw [hfr, hfl, hft], by rw [hx]; exact Rd.nil⟩, s3.wk⟩
    clear s3 hx hfr hfl hft
    case round =>
      obtain ⟨i, H', f, B, n, c, ro, lo, ta, hq, hi40, rfl, le, rf, s'⟩ := hrel
      have y0 := s'.cel Y 0 0 rfl
      have y1 := s'.cel Y 0 1 rfl
      have y2 := s'.cel Y 0 2 rfl
      have y3 := s'.cel Y 0 3 rfl
      have z0 := s'.cel Z 0 0 rfl
      have z1 := s'.cel Z 0 1 rfl
      have z2 := s'.cel Z 0 2 rfl
      have z3 := s'.cel Z 0 3 rfl
      have s7 := ((((Sat.pull (h := cellsH ⟨Z, 0, none⟩ [.slice none 0 0, .int .i64 0, .int .u64 0, .int .u64 0]) s').s0 (.slice B n c)).s 1 (by simp) (.int .i64 ro)).s 2 (by simp) (.int .u64 lo)).s 3 (by simp) (.int .u64 ta)
      simp only [List.set_cons_succ, List.set_cons_zero, Nat.zero_add] at s7 y0 y1 y2 y3 z0 z1 z2 z3
      have f0 := s7.c0
      have f1 := s7.c 1 rfl
      have f2 := s7.c 2 rfl
      have f3 := s7.c 3 rfl
      simp only [Nat.zero_add] at f0 f1 f2 f3
      by_cases hi : i < os.length ∧ i < 40
      · obtain ⟨hi1, hi2⟩ := hi
        obtain ⟨bb, ob, vs, rfl, ⟨dv, rfl, rdv⟩, _, hcell⟩ := hat i os[i] (by simp [hi1])
        have hcl := fun j u hu => (hcell j u hu).imp fun fr hf => le _ _ hf
        have rdv' := rdv.mono u8E_mono le
        have x0 := s'.ro.cell (hcl 0 _ rfl)
        have x1 := s'.ro.cell (hcl 1 _ rfl)
        have x2 := s'.ro.cell (hcl 2 _ rfl)
        generalize os[i] = op at *
        rw [Nat.add_zero] at x0
        obtain ⟨E, ec, rfl, rdw⟩ := rdv'.open_
        have hdl : (op.data.length : Int) ≤ 9223372036854775807 := by obtain ⟨_, h1, h2, _⟩ := rdw.u8; omega
        clear hcell hat rd rdv
        by_cases hsm : (op.data.length : Int) ≤ 200
        · clear s7 f0 f1 f2 f3 z0 z1 z2 z3
          have s6a := s'.alloc (c := [.slice none 0 0, .int .i64 0, .int .u64 0, .int .u64 0]) (t := 48)
          obtain ⟨Q, hQ⟩ : ∃ Q, wr.heap.size = Q := ⟨_, rfl⟩
          rw [hQ] at s6a
          go_wp2
          go_region_held3 (fun w' => w'.cell? ⟨Y, 0, none⟩ = some (.slice B n c) ∧ w'.cell? ⟨Y, 1, none⟩ = some (.int .i64 ro) ∧ w'.cell? ⟨Y, 2, none⟩ = some (.int .u64 lo) ∧ w'.cell? ⟨Y, 3, none⟩ = some (.int .u64 ta) ∧ w'.cell? ⟨bb, ob + i * 3, none⟩ = some (.int .i64 op.kind) ∧ w'.cell? ⟨bb, ob + i * 3 + 1, none⟩ = some (.int .i64 op.n) ∧ w'.cell? ⟨bb, ob + i * 3 + 2, none⟩ = some (.slice E op.data.length ec))
            (first
              | exact ⟨y0.1, y1.1, y2.1, y3.1, x0, x1, x2⟩
              | exact ⟨(s6a.cel Y 0 0 rfl).1, (s6a.cel Y 0 1 rfl).1, (s6a.cel Y 0 2 rfl).1, (s6a.cel Y 0 3 rfl).1, s6a.ro.cell (hcl 0 _ rfl), s6a.ro.cell (hcl 1 _ rfl), s6a.ro.cell (hcl 2 _ rfl)⟩
              | exact ⟨(s8.cel Y 0 0 rfl).1, (s8.cel Y 0 1 rfl).1, (s8.cel Y 0 2 rfl).1, (s8.cel Y 0 3 rfl).1, s8.ro.cell ((hcl 0 _ rfl).imp fun fr hf => le7 _ _ hf), s8.ro.cell ((hcl 1 _ rfl).imp fun fr hf => le7 _ _ hf), s8.ro.cell ((hcl 2 _ rfl).imp fun fr hf => le7 _ _ hf)⟩
              | exact ⟨(s7a.cel Y 0 0 rfl).1, (s7a.cel Y 0 1 rfl).1, (s7a.cel Y 0 2 rfl).1, (s7a.cel Y 0 3 rfl).1, s7a.ro.cell ((hcl 0 _ rfl).imp fun fr hf => le7 _ _ hf), s7a.ro.cell ((hcl 1 _ rfl).imp fun fr hf => le7 _ _ hf), s7a.ro.cell ((hcl 2 _ rfl).imp fun fr hf => le7 _ _ hf)⟩
              | exact ⟨(s7.cel Y 0 0 rfl).1, (s7.cel Y 0 1 rfl).1, (s7.cel Y 0 2 rfl).1, (s7.cel Y 0 3 rfl).1, s7.ro.cell ((hcl 0 _ rfl).imp fun fr hf => le7 _ _ hf), s7.ro.cell ((hcl 1 _ rfl).imp fun fr hf => le7 _ _ hf), s7.ro.cell ((hcl 2 _ rfl).imp fun fr hf => le7 _ _ hf)⟩)
            (first
              | (go_at_call 33; refine c_lawFDo s'.drew rf op (by omega) rdw ?_; intro w7 H7 v7 f7 le7 hr7 rf7 s7; obtain ⟨B7, n7, c7, ro7, lo7, ta7, rfl⟩ := rf7.shape; have s7a := s7.alloc (c := [.slice none 0 0, .int .i64 0, .int .u64 0, .int .u64 0]) (t := 48); have s8 := s7.alloc (c := [.slice B7 n7 c7, .int .i64 ro7, .int .u64 lo7, .int .u64 ta7]) (t := 48))
              | (go_at_call 33; refine c_lawFDo s6a.drew rf op (by omega) rdw ?_; intro w7 H7 v7 f7 le7 hr7 rf7 s7; obtain ⟨B7, n7, c7, ro7, lo7, ta7, rfl⟩ := rf7.shape
                 have q0 := s7.cel Q 0 0 rfl
                 have s7b := (Sat.pull (h := cellsH ⟨Q, 0, none⟩ [.slice none 0 0, .int .i64 0, .int .u64 0, .int .u64 0]) s7).s0 (.slice B7 n7 c7)
                 have q1 := s7b.c 1 rfl
                 have s7c := s7b.s 1 (by simp) (.int .i64 ro7)
                 have q2 := s7c.c 2 rfl
                 have s7d := s7c.s 2 (by simp) (.int .u64 lo7)
                 have q3 := s7d.c 3 rfl
                 have s8 := s7d.s 3 (by simp) (.int .u64 ta7)
                 simp only [List.set_cons_succ, List.set_cons_zero, Nat.zero_add] at s8 q0 q1 q2 q3))
          · obtain ⟨P, hP⟩ : ∃ P, w7.heap.size = P := ⟨_, rfl⟩
            rw [hP] at s8
            simp only [hP]
            have b0 := s8.cel P 0 0 rfl
            have b1 := s8.cel P 0 1 rfl
            have b2 := s8.cel P 0 2 rfl
            have b3 := s8.cel P 0 3 rfl
            simp only [Nat.zero_add] at b0 b1 b2 b3
            clear s7 s' y0 y1 y2 y3 x0 x1 x2
            generalize hW8 : World.alloc w7 _ = w8 at s8 b0 b1 b2 b3 ⊢
            clear hW8
            go_wp2_with fail
            refine c_lawFSame s8 rf7 ?_
            intro w9 s9
            have b0 := s9.cel P 0 0 rfl
            have b1 := s9.cel P 0 1 rfl
            have b2 := s9.cel P 0 2 rfl
            have b3 := s9.cel P 0 3 rfl
            have u0 := s9.cel Y 0 0 rfl
            have u1 := s9.cel Y 0 1 rfl
            have u2 := s9.cel Y 0 2 rfl
            have u3 := s9.cel Y 0 3 rfl
            have s10 := ((((Sat.pull (h := cellsH ⟨Y, 0, none⟩ [.slice B n c, .int .i64 ro, .int .u64 lo, .int .u64 ta]) s9).s0 (.slice B7 n7 c7)).s 1 (by simp) (.int .i64 ro7)).s 2 (by simp) (.int .u64 lo7)).s 3 (by simp) (.int .u64 ta7)
            simp only [List.set_cons_succ, List.set_cons_zero, Nat.zero_add] at s10 b0 b1 b2 b3 u0 u1 u2 u3
            clear s8
            go_wp2
            go_roundg (gk - 1)
            case measure => omega
            case rel => exact ⟨i + 1, H7, f7, B7, n7, c7, ro7, lo7, ta7, by omega, by omega, by go_num, fun l c h => le7 _ _ (le l c h), rf7, s10.wk⟩
          · skip
            have b0 := s8.cel Q 0 0 rfl
            have b1 := s8.cel Q 0 1 rfl
            have b2 := s8.cel Q 0 2 rfl
            have b3 := s8.cel Q 0 3 rfl
            simp only [Nat.zero_add] at b0 b1 b2 b3
            clear s7 s' y0 y1 y2 y3 x0 x1 x2
            generalize hW8 : World.setCell (World.setCell (World.setCell (World.setCell w7 _ _) _ _) _ _) _ _ = w8 at s8 b0 b1 b2 b3 ⊢
            clear hW8
            go_wp2_with fail
            refine c_lawFSame s8 rf7 ?_
            intro w9 s9
            have b0 := s9.cel Q 0 0 rfl
            have b1 := s9.cel Q 0 1 rfl
            have b2 := s9.cel Q 0 2 rfl
            have b3 := s9.cel Q 0 3 rfl
            have u0 := s9.cel Y 0 0 rfl
            have u1 := s9.cel Y 0 1 rfl
            have u2 := s9.cel Y 0 2 rfl
            have u3 := s9.cel Y 0 3 rfl
            have s10 := ((((Sat.pull (h := cellsH ⟨Y, 0, none⟩ [.slice B n c, .int .i64 ro, .int .u64 lo, .int .u64 ta]) s9).s0 (.slice B7 n7 c7)).s 1 (by simp) (.int .i64 ro7)).s 2 (by simp) (.int .u64 lo7)).s 3 (by simp) (.int .u64 ta7)
            simp only [List.set_cons_succ, List.set_cons_zero, Nat.zero_add] at s10 b0 b1 b2 b3 u0 u1 u2 u3
            clear s8
            go_wp2
            go_roundg (gk - 1)
            case measure => omega
            case rel => exact ⟨i + 1, H7, f7, B7, n7, c7, ro7, lo7, ta7, by omega, by omega, by go_num, fun l c h => le7 _ _ (le l c h), rf7, s10.wk⟩
        · go_wp2
          go_region_law (fail)
          all_goals
            try simp only [Act.put, List.getElem_toArray, List.getElem_cons_succ, List.getElem_cons_zero, List.setIfInBounds_toArray, List.set_cons_succ, List.set_cons_zero]
            go_wp2
            refine bodyPost_ret (by simp [results, Try.results28, go_sem, f0.1, f1.1, f2.1, f3.1]; try rfl) rfl ?_
            exact k1 _ H' _ _ _ _ _ _ le s7.drew.wk
      · clear hat rd
        by_cases hx : (i : Int) < os.length
        all_goals
          go_wp2
          go_region_law (fail)
          all_goals
            try simp only [Act.put, List.getElem_toArray, List.getElem_cons_succ, List.getElem_cons_zero, List.setIfInBounds_toArray, List.set_cons_succ, List.set_cons_zero]
            go_wp2
            refine bodyPost_ret (by simp [results, Try.results28, go_sem, f0.1, f1.1, f2.1, f3.1]; try rfl) rfl ?_
            exact k2 _ H' _ b f le rf s7.drew.wk
end

set_option maxRecDepth 100000 in
set_option maxHeartbeats 4000000 in
theorem law_FifoPlays (W : World) {v0 v1 : Value} {room : Int} {os : List OpF} (e0 : intE (look W) room [v0]) (e1 : sliceE opfE 3 (look W) os [v1]) :
    Calls Try.prog 7 #[v0, v1] W fun e w' => e = .returned (.bool true) ∧ Below W.heap.size W w' := by
  obtain ⟨h0, a0, b0⟩ := e0
  obtain rfl : v0 = _ := List.cons.inj h0 |>.1
  clear h0
  obtain ⟨_, hv1, e1⟩ := e1
  obtain rfl := (List.cons.inj hv1).1
  clear hv1
  go_enter Try.func7, Try.ntmps7
  go_wp2_with fail
  refine c_fifoAwake (Sat.start W) ?_; intro w1 s1
  go_wp2_with fail
  refine c_lawFPlayed s1 room ⟨a0, b0⟩ e1 ?_ ?_
  · intro w2 H2 B n c ro lo ta le s2
    have s3 := s2.alloc (c := [.slice B n c, .int .i64 ro, .int .u64 lo, .int .u64 ta]) (t := 48)
    go_wp2
    go_ret
    exact ⟨rfl, s3.below⟩
  · intro w2 H2 v2 b f le rf s2
    obtain ⟨B, n, c, ro, lo, ta, rfl⟩ := rf.shape
    have s3 := s2.alloc (c := [.slice B n c, .int .i64 ro, .int .u64 lo, .int .u64 ta]) (t := 48)
    go_wp2
    go_ret
    exact ⟨rfl, s3.below⟩
end Go.Proofs.Ytmdhhidcbcgbjaa
