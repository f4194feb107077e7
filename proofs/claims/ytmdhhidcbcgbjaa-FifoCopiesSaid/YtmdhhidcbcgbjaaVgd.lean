/-
  A row of bytes and the document's: one call at both (vireolaw14.do).
-/
import Derived.Test.YtmdhhidcbcgbjaaVgs
import Derived.Test.YtmdhhidcbcgbjaaVc
namespace Go.Proofs.Ytmdhhidcbcgbjaa
open Go.RowKit
set_option linter.unusedVariables false

structure OpF where
  kind : Int
  n : Int
  data : List Int
  hk : -9223372036854775808 ≤ kind ∧ kind ≤ 9223372036854775807
  hn : -9223372036854775808 ≤ n ∧ n ≤ 9223372036854775807

def OpF.vals (o : OpF) (dv : Value) : List Value := [.int .i64 o.kind, .int .i64 o.n, dv]
def opfE : El OpF := fun h o vs => ∃ dv, vs = o.vals dv ∧ Rd u8E 1 h dv o.data
theorem opfE_mono : ElMono opfE := fun _ _ _ _ le ⟨dv, h1, h2⟩ => ⟨dv, h1, h2.mono u8E_mono le⟩

theorem opn_opf : Opn Try.prog 53 opfE :=
  opn_struct Try.underlying53 fun H enc w fuel cs hlen hf => by
    obtain ⟨y0, h0⟩ := hf 0 _ rfl
    obtain ⟨y1, h1⟩ := hf 1 _ rfl
    obtain ⟨y2, h2⟩ := hf 2 _ rfl
    obtain ⟨a, ha, ha1⟩ := opn_i64 Try.underlying3 H enc w fuel _ y0.1 y0.2 h0
    obtain ⟨f, hff, hf1⟩ := opn_i64 Try.underlying3 H enc w fuel _ y1.1 y1.2 h1
    obtain ⟨d, hd⟩ := opn_slice (size := 1) Try.underlying37 (by kernel_rfl) (by decide) (opn_u8 Try.underlying5) H enc w fuel _ y2.1 y2.2 h2
    have e : Try.prog.cellsOf 53 = 3 := by kernel_rfl
    have e2 : Try.prog.cellsOf 3 = 1 := by kernel_rfl
    have e3 : Try.prog.cellsOf 37 = 1 := by kernel_rfl
    rw [e] at hlen
    obtain ⟨c0, c1, c2, rfl⟩ := len3 hlen
    rw [e2] at ha hff
    rw [e3] at hd
    obtain rfl : c0 = .int .i64 a := (List.cons.inj ha).1
    obtain rfl : c1 = .int .i64 f := (List.cons.inj hff).1
    obtain ⟨dv, hdv, hrd⟩ := hd
    obtain rfl : c2 = dv := (List.cons.inj hdv).1
    exact ⟨⟨a, f, d, ha1, hf1⟩, _, rfl, hrd⟩

theorem RefF.shape {H : Hp} {v : Value} {xs : List Int} {room : Nat} {lost taken : Int} (r : RefF H v xs room lost taken) : ∃ B n c ro lo ta, v = .agg #[.slice B n c, .int .i64 ro, .int .u64 lo, .int .u64 ta] := by
  obtain ⟨B, c, rfl, _⟩ := r.open_
  exact ⟨B, _, c, _, _, _, rfl⟩

section
variable {R : Ending → World → Prop} {W0 w : World} {H : Hp} {A F : List Hp} {v : Value} {f : FifoG} {b : Nat}

def zF : List Value := [.slice none 0 0, .int .i64 0, .int .u64 0, .int .u64 0]

set_option maxRecDepth 100000 in
set_option maxHeartbeats 4000000 in
theorem c_lawFDo (s : Sat W0 w H A) [fr : FrK (κ := Addr) (ρ := fun _ => FifoG) fifoL ⟨b, 0, none⟩ A f F] (rf : RefF H v f.xs f.room f.lost f.taken) (op : OpF) (hd : op.data.length ≤ 1000) {dv : Value} (rd : Rd u8E 1 H dv op.data)
    (k : ∀ w' H' v' (f' : FifoG), (∀ l c, H l = some c → H' l = some c) → f'.room = f.room → RefF H' v' f'.xs f'.room f'.lost f'.taken → Sat W0 w' H' (fifoL ⟨b, 0, none⟩ f' ++ F) → R (.returned (.tuple #[v', .bool true])) w') :
    Calls Try.prog 33 #[.pointer (some ⟨b, 0, none⟩), v, .agg (op.vals dv).toArray] w R := by
  have s0 := s.front (mk := fifoL) (k := ⟨b, 0, none⟩)
  obtain ⟨D, dc, rfl, rd⟩ := rd.open_
  have hfx : f.xs.length ≤ 5000 := by have := f.fits; have := f.hroom; omega
  have hfb := f.hx
  have hft := f.fits
  have hfr := f.hroom
  have hfl := f.hlost
  obtain ⟨B0, n0, c0, ro, lo, ta, rfl⟩ := rf.shape
  have s3 := ((s0.alloc (c := [.slice B0 n0 c0, .int .i64 ro, .int .u64 lo, .int .u64 ta]) (t := 48)).alloc (c := op.vals (.slice D op.data.length dc)) (t := 53)).alloc (c := [.slice none 0 0, .int .i64 0, .int .u64 0, .int .u64 0]) (t := 48)
  have s8 := ((s0.alloc (c := [.slice B0 n0 c0, .int .i64 ro, .int .u64 lo, .int .u64 ta]) (t := 48)).alloc (c := op.vals (.slice D op.data.length dc)) (t := 53)).alloc (c := [.slice B0 n0 c0, .int .i64 ro, .int .u64 lo, .int .u64 ta]) (t := 48)
  simp only [World.size_alloc] at s3 s8
  obtain ⟨X, hX⟩ : ∃ X, w.heap.size = X := ⟨_, rfl⟩
  rw [hX] at s3 s8
  obtain ⟨kind, n, data, hk, hn⟩ := op
  simp only [OpF.vals] at *
  have hdl : (data.length : Int) ≤ 1000 := by omega
  have p0 := s3.cel X 0 0 rfl
  have p1 := s3.cel X 0 1 rfl
  have p2 := s3.cel X 0 2 rfl
  have p3 := s3.cel X 0 3 rfl
  have y0 := s3.cel (X + 1) 0 0 rfl
  have y1 := s3.cel (X + 1) 0 1 rfl
  have y2 := s3.cel (X + 1) 0 2 rfl
  simp only [Nat.zero_add] at p0 p1 p2 p3 y0 y1 y2
  clear s s0 fr
  by_cases k0 : kind = 0
  · subst k0
    go_enter Try.func33, Try.ntmps33
    go_wp2_with fail
    refine c_refFPut s3 rf rd hft hfr hfl hd ?_
    intro w4 H4 v4 m le4 hm4 r4 s4
    obtain ⟨B4, n4, c4, ro4, lo4, ta4, rfl⟩ := r4.shape
    clear p0 p1 p2 p3 y0 y1 y2 s3
    go_wp2
    have s5 := s4.alloc (c := [.slice B4 n4 c4, .int .i64 ro4, .int .u64 lo4, .int .u64 ta4]) (t := 48)
    obtain ⟨Y, hY⟩ : ∃ Y, w4.heap.size = Y := ⟨_, rfl⟩
    rw [hY] at s5
    simp only [hY]
    generalize hW5 : World.alloc w4 _ = w5 at s5 ⊢
    have y2 := s5.cel (X + 1) 0 2 rfl
    have z0 := s5.cel Y 0 0 rfl
    have z1 := s5.cel Y 0 1 rfl
    have z2 := s5.cel Y 0 2 rfl
    have z3 := s5.cel Y 0 3 rfl
    have rd4 := rd.mono u8E_mono le4
    simp only [Nat.zero_add] at y2 z0 z1 z2 z3
    clear s4 hW5
    go_region_held3 (fun w' => w'.cell? ⟨X + 1, 2, none⟩ = some (.slice D data.length dc) ∧ w'.cell? ⟨Y, 0, none⟩ = some (.slice B4 n4 c4) ∧ w'.cell? ⟨Y, 1, none⟩ = some (.int .i64 ro4) ∧ w'.cell? ⟨Y, 2, none⟩ = some (.int .u64 lo4) ∧ w'.cell? ⟨Y, 3, none⟩ = some (.int .u64 ta4))
      (first
        | exact ⟨y2.1, z0.1, z1.1, z2.1, z3.1⟩
        | exact ⟨(s7.cel (X + 1) 0 2 rfl).1, (s7.cel Y 0 0 rfl).1, (s7.cel Y 0 1 rfl).1, (s7.cel Y 0 2 rfl).1, (s7.cel Y 0 3 rfl).1⟩
        | exact ⟨(s6.cel (X + 1) 0 2 rfl).1, (s6.cel Y 0 0 rfl).1, (s6.cel Y 0 1 rfl).1, (s6.cel Y 0 2 rfl).1, (s6.cel Y 0 3 rfl).1⟩)
      (first
        | (go_at_call 25; refine c_fifoPut s5.drew s5.drew.ro rd4 ?_; intro w6 f6 m6 hm6 hx6 hr6 hl6 ht6 s6; have em : m6 = m := by rw [hm6, hm4]
           rw [em]
           have q0 := s6.cel (X + 1 + 1) 0 0 rfl
           have s6a := (Sat.pull (h := cellsH ⟨X + 1 + 1, 0, none⟩ [.slice none 0 0, .int .i64 0, .int .u64 0, .int .u64 0]) s6).s0 (.slice B4 n4 c4)
           have q1 := s6a.c 1 rfl
           have s6b := s6a.s 1 (by simp) (.int .i64 ro4)
           have q2 := s6b.c 2 rfl
           have s6c := s6b.s 2 (by simp) (.int .u64 lo4)
           have q3 := s6c.c 3 rfl
           have s7 := s6c.s 3 (by simp) (.int .u64 ta4)
           simp only [List.set_cons_succ, List.set_cons_zero, Nat.zero_add] at s7 q0 q1 q2 q3))
    all_goals
      have f0 := s7.c0
      have f1 := s7.c 1 rfl
      have f2 := s7.c 2 rfl
      have f3 := s7.c 3 rfl
      simp only [Nat.zero_add] at f0 f1 f2 f3
      go_wp2
      refine bodyPost_ret (by simp [results, Try.results33, go_sem, f0.1, f1.1, f2.1, f3.1]; try rfl) rfl ?_
      exact k _ _ _ f6 le4 hr6 (by rw [hx6, hr6, hl6, ht6, em]; exact r4) s7.wk
  by_cases k1 : kind = 1
  · subst k1
    go_enter Try.func33, Try.ntmps33
    go_wp2_with fail
    refine c_refFTake s3 rf hfx n ?_
    intro w4 H4 v4 v2 h4 m le4 hm4 r4 own4 s4
    obtain ⟨B4, n4, c4, ro4, lo4, ta4, rfl⟩ := r4.shape
    obtain ⟨C2, cc2, sp2, rfl, _⟩ := id own4
    clear p0 p1 p2 p3 y0 y1 y2 s3
    go_wp2
    have s5 := s4.alloc (c := [.slice B4 n4 c4, .int .i64 ro4, .int .u64 lo4, .int .u64 ta4]) (t := 48)
    obtain ⟨Y, hY⟩ : ∃ Y, w4.heap.size = Y := ⟨_, rfl⟩
    rw [hY] at s5
    simp only [hY]
    generalize hW5 : World.alloc w4 _ = w5 at s5 ⊢
    have y1 := s5.cel (X + 1) 0 1 rfl
    have z0 := s5.cel Y 0 0 rfl
    have z1 := s5.cel Y 0 1 rfl
    have z2 := s5.cel Y 0 2 rfl
    have z3 := s5.cel Y 0 3 rfl
    simp only [Nat.zero_add] at y1 z0 z1 z2 z3
    have rdb := own4.rd (fun x hx => hfb x (List.mem_of_mem_take hx))
    replace hm4 := aside hm4
    clear s4 hW5
    go_region_held3 (fun w' => w'.cell? ⟨X + 1, 1, none⟩ = some (.int .i64 n) ∧ w'.cell? ⟨Y, 0, none⟩ = some (.slice B4 n4 c4) ∧ w'.cell? ⟨Y, 1, none⟩ = some (.int .i64 ro4) ∧ w'.cell? ⟨Y, 2, none⟩ = some (.int .u64 lo4) ∧ w'.cell? ⟨Y, 3, none⟩ = some (.int .u64 ta4))
      (first
        | exact ⟨y1.1, z0.1, z1.1, z2.1, z3.1⟩
        | exact ⟨(s7.cel (X + 1) 0 1 rfl).1, (s7.cel Y 0 0 rfl).1, (s7.cel Y 0 1 rfl).1, (s7.cel Y 0 2 rfl).1, (s7.cel Y 0 3 rfl).1⟩
        | exact ⟨(s6c.cel (X + 1) 0 1 rfl).1, (s6c.cel Y 0 0 rfl).1, (s6c.cel Y 0 1 rfl).1, (s6c.cel Y 0 2 rfl).1, (s6c.cel Y 0 3 rfl).1⟩
        | exact ⟨(s6.cel (X + 1) 0 1 rfl).1, (s6.cel Y 0 0 rfl).1, (s6.cel Y 0 1 rfl).1, (s6.cel Y 0 2 rfl).1, (s6.cel Y 0 3 rfl).1⟩)
      (first
        | (go_at_call 26; refine c_fifoTake s5.drew n ?_; intro w6 v6 h6 m6 f6 hm6 own6 hx6 hr6 hl6 ht6 s6; have em : m6 = m := by have := hm4.out; omega
           rw [em] at own6 hx6 ht6
           have rda := own6.rd (fun x hx => hfb x (List.mem_of_mem_take hx)))
        | (go_at_call 22; refine c_Bytes (Sat.pull (h := h6) s6).head (Sat.pull (h := h4) s6).head rda rdb ?_; intro n8; rw [decide_eq_true rfl]; have s6c := s6.drewN n8; generalize World.drewN w6 n8 = w6c at s6c ⊢
           have q0 := s6c.cel (X + 1 + 1) 0 0 rfl
           have s6d := (Sat.pull (h := cellsH ⟨X + 1 + 1, 0, none⟩ [.slice none 0 0, .int .i64 0, .int .u64 0, .int .u64 0]) s6c).s0 (.slice B4 n4 c4)
           have q1 := s6d.c 1 rfl
           have s6e := s6d.s 1 (by simp) (.int .i64 ro4)
           have q2 := s6e.c 2 rfl
           have s6f := s6e.s 2 (by simp) (.int .u64 lo4)
           have q3 := s6f.c 3 rfl
           have s7 := s6f.s 3 (by simp) (.int .u64 ta4)
           simp only [List.set_cons_succ, List.set_cons_zero, Nat.zero_add] at s7 q0 q1 q2 q3))
    all_goals
      have f0 := s7.c0
      have f1 := s7.c 1 rfl
      have f2 := s7.c 2 rfl
      have f3 := s7.c 3 rfl
      simp only [Nat.zero_add] at f0 f1 f2 f3
      go_wp2
      refine bodyPost_ret (by simp [results, Try.results33, go_sem, f0.1, f1.1, f2.1, f3.1]; try rfl) rfl ?_
      exact k _ _ _ f6 le4 hr6 (by rw [hx6, hr6, hl6, ht6]; exact r4) s7.wk
  by_cases k2 : kind = 2
  · subst k2
    go_enter Try.func33, Try.ntmps33
    go_wp2
    go_region_held3 (fun w' => w'.cell? ⟨X + 1, 1, none⟩ = some (.int .i64 n) ∧ w'.cell? ⟨X, 0, none⟩ = some (.slice B0 n0 c0) ∧ w'.cell? ⟨X, 1, none⟩ = some (.int .i64 ro) ∧ w'.cell? ⟨X, 2, none⟩ = some (.int .u64 lo) ∧ w'.cell? ⟨X, 3, none⟩ = some (.int .u64 ta))
      (first
        | exact ⟨y1.1, p0.1, p1.1, p2.1, p3.1⟩
        | exact ⟨(s7.cel (X + 1) 0 1 rfl).1, (s7.cel X 0 0 rfl).1, (s7.cel X 0 1 rfl).1, (s7.cel X 0 2 rfl).1, (s7.cel X 0 3 rfl).1⟩
        | exact ⟨(s6c.cel (X + 1) 0 1 rfl).1, (s6c.cel X 0 0 rfl).1, (s6c.cel X 0 1 rfl).1, (s6c.cel X 0 2 rfl).1, (s6c.cel X 0 3 rfl).1⟩
        | exact ⟨(s6.cel (X + 1) 0 1 rfl).1, (s6.cel X 0 0 rfl).1, (s6.cel X 0 1 rfl).1, (s6.cel X 0 2 rfl).1, (s6.cel X 0 3 rfl).1⟩
        | exact ⟨(s5.cel (X + 1) 0 1 rfl).1, (s5.cel X 0 0 rfl).1, (s5.cel X 0 1 rfl).1, (s5.cel X 0 2 rfl).1, (s5.cel X 0 3 rfl).1⟩)
      (first
        | (go_at_call 32; refine c_fifoPeek s3.drew n ?_; intro w5 v5 h5 m5 hm5 own5 s5; replace hm5 := aside hm5
           have rda := own5.rd (fun x hx => hfb x (List.mem_of_mem_take hx)))
        | (go_at_call 62; refine c_refFPeek s5 rf hfx n ?_; intro w6 v6 h6 m6 hm6 own6 s6; have em : m6 = m5 := by have := hm5.out; omega
           rw [em] at own6
           have rdb := own6.rd (fun x hx => hfb x (List.mem_of_mem_take hx)))
        | (go_at_call 22; refine c_Bytes (Sat.pull (h := h5) s6).head (Sat.pull (h := h6) s6).head rda rdb ?_; intro n8; rw [decide_eq_true rfl]; have s6c := s6.drewN n8; generalize World.drewN w6 n8 = w6c at s6c ⊢
           have q0 := s6c.cel (X + 1 + 1) 0 0 rfl
           have s6d := (Sat.pull (h := cellsH ⟨X + 1 + 1, 0, none⟩ [.slice none 0 0, .int .i64 0, .int .u64 0, .int .u64 0]) s6c).s0 (.slice B0 n0 c0)
           have q1 := s6d.c 1 rfl
           have s6e := s6d.s 1 (by simp) (.int .i64 ro)
           have q2 := s6e.c 2 rfl
           have s6f := s6e.s 2 (by simp) (.int .u64 lo)
           have q3 := s6f.c 3 rfl
           have s7 := s6f.s 3 (by simp) (.int .u64 ta)
           simp only [List.set_cons_succ, List.set_cons_zero, Nat.zero_add] at s7 q0 q1 q2 q3))
    all_goals
      have f0 := s7.c0
      have f1 := s7.c 1 rfl
      have f2 := s7.c 2 rfl
      have f3 := s7.c 3 rfl
      simp only [Nat.zero_add] at f0 f1 f2 f3
      go_wp2
      refine bodyPost_ret (by simp [results, Try.results33, go_sem, f0.1, f1.1, f2.1, f3.1]; try rfl) rfl ?_
      exact k _ _ _ f (fun _ _ h => h) rfl rf s7.wk
  have e0 : (kind == 0) = false := by simp [k0]
  have e1 : (kind == 1) = false := by simp [k1]
  have e2 : (kind == 2) = false := by simp [k2]
  clear k0 k1 k2
  by_cases k3 : kind = 3
  · subst k3
    go_enter Try.func33, Try.ntmps33
    go_wp2_with fail
    refine c_fifoClear s3 ?_
    intro w4 f4 hx4 hr4 hl4 ht4 s4
    have p0 := s4.cel X 0 0 rfl
    have p1 := s4.cel X 0 1 rfl
    have p2 := s4.cel X 0 2 rfl
    have p3 := s4.cel X 0 3 rfl
    have q0 := s4.cel (X + 1 + 1) 0 0 rfl
    have q1 := s4.cel (X + 1 + 1) 0 1 rfl
    have q2 := s4.cel (X + 1 + 1) 0 2 rfl
    have q3 := s4.cel (X + 1 + 1) 0 3 rfl
    have s5 := (Sat.pull (h := cellsH ⟨X, 0, none⟩ [.slice B0 n0 c0, .int .i64 ro, .int .u64 lo, .int .u64 ta]) s4).s0 (.slice none 0 0)
    have s7 := ((((Sat.pull (h := cellsH ⟨X + 1 + 1, 0, none⟩ [.slice none 0 0, .int .i64 0, .int .u64 0, .int .u64 0]) s5).s0 (.slice none 0 0)).s 1 (by simp) (.int .i64 ro)).s 2 (by simp) (.int .u64 lo)).s 3 (by simp) (.int .u64 ta)
    simp only [List.set_cons_succ, List.set_cons_zero, Nat.zero_add] at s7 p0 p1 p2 p3 q0 q1 q2 q3
    have f0 := s7.c0
    have f1 := s7.c 1 rfl
    have f2 := s7.c 2 rfl
    have f3 := s7.c 3 rfl
    simp only [Nat.zero_add] at f0 f1 f2 f3
    have rf' : RefF H (.agg #[.slice none 0 0, .int .i64 ro, .int .u64 lo, .int .u64 ta]) f4.xs f4.room f4.lost f4.taken := by
      obtain ⟨sl, e, _⟩ := rf
      rw [hx4, hr4, hl4, ht4]
      refine ⟨.slice none 0 0, ?_, Rd.nil⟩
      injection e with e
      injection e with e
      have ea := (List.cons.inj e).2
      obtain ⟨e1, ea⟩ := List.cons.inj ea
      obtain ⟨e2, ea⟩ := List.cons.inj ea
      obtain ⟨e3, ea⟩ := List.cons.inj ea
      rw [e1, e2, e3]
    have K := k _ _ _ f4 (fun _ _ h => h) hr4 rf' s7.wk
    clear s3 s4 s5 s7 s8 k rf'
    go_wp2
    refine bodyPost_ret (by simp [results, Try.results33, go_sem, f0.1, f1.1, f2.1, f3.1]; try rfl) rfl ?_
    exact K
  have e3 : (kind == 3) = false := by simp [k3]
  clear k3 s3
  have f0 := s8.c0
  have f1 := s8.c 1 rfl
  have f2 := s8.c 2 rfl
  have f3 := s8.c 3 rfl
  simp only [Nat.zero_add] at f0 f1 f2 f3
  have K := k _ _ _ f (fun _ _ h => h) rfl rf s8.wk
  clear s8 k
  go_enter Try.func33, Try.ntmps33
  go_wp2
  refine bodyPost_ret (by simp [results, Try.results33, go_sem, f0.1, f1.1, f2.1, f3.1]; try rfl) rfl ?_
  exact K
end
end Go.Proofs.Ytmdhhidcbcgbjaa
