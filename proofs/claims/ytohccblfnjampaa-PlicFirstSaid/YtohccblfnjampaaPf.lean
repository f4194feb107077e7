/-
  WHOLE ROWS of values, loaded, stored and handed back; the document's gate.
-/
import Derived.Test.YtohccblfnjampaaPr
import Derived.Test.YtohccblfnjampaaVmk
import Derived.Deep.MidRow
import Derived.Deep.LoopGhost
import Derived.Outline
namespace Go.Proofs.Ytohccblfnjampaa
open Go.RowKit
set_option linter.unusedVariables false
set_option linter.unusedSimpArgs false

section
variable {P : Program} {W0 w : World} {H : Hp} {F : List Hp}
theorem wpList_loadS {ops : Array Oper} {rest : List Oper} {op : Oper} {a : Act} {Q : Exit → Act → World → Prop} (hgd : op.guard = none) (ty : TypeId) (x : Operand) (ho : op.op = .load ty x)
    (b o : Nat) (hx : a.eval x = .pointer (some ⟨b, o, none⟩)) {cs : List Value} {d : TypeDesc} (s : Sat W0 w H (cellsH ⟨b, o, none⟩ cs :: F))
    (hu : P.underlying ty = some d) (hd : d.isRow = true) (hi : (P.info? ty).map (·.size) = some cs.length)
    (h : wpList P ops Q rest (a.put op.dst (.agg cs.toArray)) w) : wpList P ops Q (op :: rest) a w :=
  wpList_load_mid hgd ty x ho b o hx cs d (fun j v hv => (s.c j hv).1) hu hd hi h

theorem wpList_storeS {ops : Array Oper} {rest : List Oper} {op : Oper} {a : Act} {Q : Exit → Act → World → Prop} (hgd : op.guard = none) (ty : TypeId) (x y : Operand) (ho : op.op = .store ty x y)
    (b o : Nat) {vs us : List Value} (hx : a.eval x = .pointer (some ⟨b, o, none⟩)) (hy : a.eval y = .agg us.toArray) (s : Sat W0 w H (cellsH ⟨b, 0, none⟩ vs :: F)) (hl : o + us.length ≤ vs.length)
    (hi : (P.info? ty).map (·.size) = some us.length) (h1 : ∀ v ∈ us, v.oneCell' = true)
    (h : ∀ w', Sat W0 w' H (cellsH ⟨b, 0, none⟩ (setR vs o us) :: F) → wpList P ops Q rest (a.put op.dst undef) w') : wpList P ops Q (op :: rest) a w := by
  refine wpList_store_mid hgd ty x y ho b o us.toArray hx hy (fun j hj => ?_) (by rw [List.size_toArray]; exact hi) (all_oneCell_toArray h1) ?_
  · rw [List.size_toArray] at hj
    have := s.c (o + j) (List.getElem?_eq_getElem (by omega))
    simp only [Nat.zero_add] at this
    exact ⟨by rw [this.1]; rfl, this.2⟩
  · exact h _ (Sat.setCells us o _ _ s hl)
theorem setR_all {vs us : List Value} (h : us.length = vs.length) : setR vs 0 us = us := by
  unfold setR; rw [List.take_zero, List.nil_append, List.drop_eq_nil_of_le (by omega), List.append_nil]

theorem results_S1 {fn : Func} {p : Tmp} {ty : TypeId} (h : fn.results = #[.cell p ty]) (tmps : Array Value) (b : Nat) {cs : List Value} {d : TypeDesc}
    (hp : tmps.getD p undef = .pointer (some ⟨b, 0, none⟩)) (s : Sat W0 w H (cellsH ⟨b, 0, none⟩ cs :: F)) (hu : P.underlying ty = some d) (hd : d.isRow = true) (hi : (P.info? ty).map (·.size) = some cs.length) :
    (results fn tmps).run P w = .ok (.agg cs.toArray) w := by
  have hp' : tmps[p]?.getD undef = .pointer (some ⟨b, 0, none⟩) := by simpa using hp
  have hl := run_loadVar_mid (P := P) w b 0 ty cs d (fun j v hv => (s.c j hv).1) hu hd hi
  simp [results, h, hp', asAddr, hl]
theorem results_S2 {fn : Func} {p u : Tmp} {ty : TypeId} (h : fn.results = #[.cell p ty, .tmp u]) (tmps : Array Value) (b : Nat) {cs : List Value} {d : TypeDesc} {x : Value}
    (hp : tmps.getD p undef = .pointer (some ⟨b, 0, none⟩)) (hx : tmps.getD u undef = x) (s : Sat W0 w H (cellsH ⟨b, 0, none⟩ cs :: F)) (hu : P.underlying ty = some d) (hd : d.isRow = true) (hi : (P.info? ty).map (·.size) = some cs.length) :
    (results fn tmps).run P w = .ok (.tuple #[.agg cs.toArray, x]) w := by
  have hp' : tmps[p]?.getD undef = .pointer (some ⟨b, 0, none⟩) := by simpa using hp
  have hx' : tmps[u]?.getD undef = x := by simpa using hx
  have hl := run_loadVar_mid (P := P) w b 0 ty cs d (fun j v hv => (s.c j hv).1) hu hd hi
  simp [results, h, hp', hx', asAddr, hl]
theorem results_S3 {fn : Func} {p u v : Tmp} {ty : TypeId} (h : fn.results = #[.cell p ty, .tmp u, .tmp v]) (tmps : Array Value) (b : Nat) {cs : List Value} {d : TypeDesc} {x y : Value}
    (hp : tmps.getD p undef = .pointer (some ⟨b, 0, none⟩)) (hx : tmps.getD u undef = x) (hy : tmps.getD v undef = y) (s : Sat W0 w H (cellsH ⟨b, 0, none⟩ cs :: F)) (hu : P.underlying ty = some d) (hd : d.isRow = true) (hi : (P.info? ty).map (·.size) = some cs.length) :
    (results fn tmps).run P w = .ok (.tuple #[.agg cs.toArray, x, y]) w := by
  have hp' : tmps[p]?.getD undef = .pointer (some ⟨b, 0, none⟩) := by simpa using hp
  have hx' : tmps[u]?.getD undef = x := by simpa using hx
  have hy' : tmps[v]?.getD undef = y := by simpa using hy
  have hl := run_loadVar_mid (P := P) w b 0 ty cs d (fun j v hv => (s.c j hv).1) hu hd hi
  simp [results, h, hp', hx', hy', asAddr, hl]
end

set_option maxRecDepth 100000 in
theorem plr_size : (Try.prog.info? 104).map (·.size) = some 194 := by kernel_rfl
theorem PlS.r_size (s : PlS) : (Try.prog.info? 104).map (·.size) = some s.ref.length := by rw [s.ref_len]; exact plr_size
def plZero : List Value := List.replicate 32 (.int .i64 0) ++ List.replicate 160 (.bool false) ++ [.int .i64 0, .int .i64 0]
theorem plZero_len : plZero.length = 194 := by unfold plZero; rw [List.length_append, List.length_append, List.length_replicate, List.length_replicate]; rfl
set_option maxRecDepth 100000 in
theorem plZero_eq : plZero.toArray = Try.zeroCells104 := by kernel_rfl
theorem one_map {α : Type} {f : α → Value} (hf : ∀ x, (f x).oneCell' = true) (l : List α) : ∀ v ∈ l.map f, v.oneCell' = true := by
  intro v hv; obtain ⟨x, _, rfl⟩ := List.mem_map.1 hv; exact hf x
theorem one_mk32 (x : W32) : ∀ v ∈ mk32 x, v.oneCell' = true := one_map (fun _ => rfl) _
theorem refV_one (p : List Int) (hi wa se l0 l1 : W32) (a b : Int) : ∀ v ∈ refV p hi wa se l0 l1 a b, v.oneCell' = true := by
  intro v hv
  unfold refV at hv
  simp only [List.mem_append] at hv
  rcases hv with (((((h | h) | h) | h) | h) | h) | h
  · exact one_map (f := Value.int .i64) (fun _ => rfl) _ v h
  · exact one_mk32 _ v h
  · exact one_mk32 _ v h
  · exact one_mk32 _ v h
  · exact one_mk32 _ v h
  · exact one_mk32 _ v h
  · simp at h; rcases h with rfl | rfl <;> rfl
theorem PlS.r_one (s : PlS) : ∀ v ∈ s.ref, v.oneCell' = true := refV_one _ _ _ _ _ _ _ _

section
variable {R : Ending → World → Prop} {W0 w : World} {H : Hp} {A F : List Hp} {s : PlS}

def PlS.wt (s : PlS) (x : W32) : PlS := { s with waits := x }
theorem PlS.wt_set (s : PlS) {i : Nat} (h : i < 32) : s.ref.set (64 + i) (.bool true) = (s.wt (s.waits ||| tw i)).ref := by
  rw [s.ref_V]; exact refV_wa s.plen h (mk32_on h)
theorem PlS.gate_end (s : PlS) : s.wt (gtW s.high s.serving s.waits 31) = s.gate := by rw [gtW_end]; rfl

set_option maxRecDepth 100000 in
set_option maxHeartbeats 4000000 in
theorem c_rpGate (t : Sat W0 w H A) (k : ∀ w', Sat W0 w' H A → R (.returned (.agg s.gate.ref.toArray)) w') :
    Calls Try.prog 126 #[.agg s.ref.toArray] w R := by
  have t1 := (t.alloc (c := s.ref) (t := 104)).alloc (c := plZero) (t := 104)
  rw [plZero_eq] at t1
  obtain ⟨Z, hZ⟩ : ∃ Z, w.heap.size = Z := ⟨_, rfl⟩
  simp only [World.size_alloc] at t1
  rw [hZ] at t1
  obtain ⟨L, hL⟩ : ∃ L, s.ref = L := ⟨_, rfl⟩
  obtain ⟨LZ, hLZ⟩ : ∃ L, plZero = L := ⟨_, rfl⟩
  have hg := s.gate_end
  rw [hL] at t1 ⊢
  rw [hLZ] at t1
  replace hg := aside hg
  go_enter Try.func126, Try.ntmps126
  go_wp2
  go_loopg [3] 31 (fun q v3 w' => ∃ n : Nat, q + n = 32 ∧ 1 ≤ n ∧ v3 = .int .i64 n ∧ Sat W0 w' H (cellsH ⟨Z + 1, 0, none⟩ LZ :: cellsH ⟨Z, 0, none⟩ (s.wt (gtW s.high s.serving s.waits (n - 1))).ref :: A))
  case atStart => exact ⟨1, rfl, by omega, rfl, by subst hL; exact t1⟩
  clear t1 t
  case round =>
    obtain ⟨n, hq, hn1, rfl, t⟩ := hrel
    by_cases hn : n < 32
    · have t2 := t.swap
      have y1 := t2.c (32 + n) (PlS.rH _ hn)
      have y2 := t2.c (96 + n) (PlS.rS _ hn)
      have y3 := t2.c (64 + n) (PlS.rW _ hn)
      simp only [Nat.zero_add] at y1 y2 y3
      have i1 : (0 : Int) ≤ n ∧ (n : Int) < 32 := by omega
      have hS : gtW s.high s.serving s.waits n = if s.high.getLsbD n = true ∧ s.serving.getLsbD n = false then gtW s.high s.serving s.waits (n - 1) ||| tw n else gtW s.high s.serving s.waits (n - 1) := by
        obtain ⟨j, rfl⟩ : ∃ j, n = j + 1 := ⟨n - 1, by omega⟩
        rfl
      have t3 := t2.s (64 + n) (by rw [PlS.ref_len]; omega) (.bool true)
      rw [PlS.wt_set _ hn] at t3
      simp only [Nat.zero_add] at t3
      change wr.cell? _ = some (.bool (s.high.getLsbD n)) ∧ _ at y1
      change wr.cell? _ = some (.bool (s.serving.getLsbD n)) ∧ _ at y2
      cases h1 : s.high.getLsbD n with
      | false =>
        rw [h1] at hS y1
        rw [if_neg (by simp)] at hS
        clear y2 t2 t3
        replace hS := aside hS
        replace hL := aside hL
        replace hLZ := aside hLZ
        go_wp2
        go_roundg (gk - 1)
        case measure => omega
        case rel => exact ⟨n + 1, by omega, by omega, by go_num, by rw [Nat.add_sub_cancel, hS.out]; exact t⟩
      | true =>
        rw [h1] at hS y1
        cases h2 : s.serving.getLsbD n with
        | true =>
          rw [h2] at hS y2
          rw [if_neg (by simp)] at hS
          clear t2 t3
          replace hS := aside hS
          replace hL := aside hL
          replace hLZ := aside hLZ
          go_wp2
          go_roundg (gk - 1)
          case measure => omega
          case rel => exact ⟨n + 1, by omega, by omega, by go_num, by rw [Nat.add_sub_cancel, hS.out]; exact t⟩
        | false =>
          rw [h2] at hS y2
          rw [if_pos ⟨rfl, rfl⟩] at hS
          clear t2
          replace hS := aside hS
          replace hL := aside hL
          replace hLZ := aside hLZ
          go_wp2
          go_roundg (gk - 1)
          case measure => omega
          case rel => exact ⟨n + 1, by omega, by omega, by go_num, by rw [Nat.add_sub_cancel, hS.out]; exact t3.swap⟩
    · obtain rfl : n = 32 := by omega
      have t2 := t.swap
      rw [show 32 - 1 = 31 from rfl, hg.out] at t2
      rw [show 32 - 1 = 31 from rfl, hg.out] at t
      have hlz : LZ.length = 194 := by rw [← hLZ]; exact plZero_len
      have hgl := s.gate.r_size
      have hgn := s.gate.ref_len
      have hgo := s.gate.r_one
      obtain ⟨G, hG⟩ : ∃ G, s.gate.ref = G := ⟨_, rfl⟩
      rw [hG] at t t2 hgl hgn hgo k
      replace k := aside k
      replace hL := aside hL
      replace hLZ := aside hLZ
      replace hG := aside hG
      replace hgl := aside hgl
      replace hgn := aside hgn
      replace hgo := aside hgo
      replace hlz := aside hlz
      clear hq hn hn1
      go_wp2_with (first
        | (refine wpList_loadS rfl 104 (.tmp 1) rfl Z 0 rfl t2 Try.underlying104 rfl hgl.out ?_)
        | (refine wpList_storeS rfl 104 (.tmp 2) (.tmp 22) rfl (Z + 1) 0 rfl rfl t (by rw [hlz.out, hgn.out]; decide) hgl.out hgo.out ?_; intro w9 t9; rw [setR_all (by rw [hlz.out, hgn.out])] at t9))
      refine bodyPost_ret (results_S1 Try.results126 _ (Z + 1) rfl t9 Try.underlying104 rfl hgl.out) rfl ?_
      exact k.out _ t9.wk
end
end Go.Proofs.Ytohccblfnjampaa
