/-
  TtyTells returns true for every number; no condition.
-/
import Derived.Test.YtiibiamobkhlbaaUMk
import Derived.Test.YtiibiamobkhlbaaUMi
import Derived.Test.YtiibiamobkhlbaaG1
set_option linter.unusedVariables false
set_option linter.unusedSimpArgs false
namespace Go.Proofs.Ytiibiamobkhlbaa
open Go.RowKit
set_option linter.unusedVariables false
set_option linter.unusedSimpArgs false


theorem RefT.row {H : Hp} {v : Value} {f : FifoG} {out : List Int} {lost : Int} (h : RefT H v ttyR f out lost) : ∃ G : List Value, v = .agg G.toArray ∧ 19 = G.length ∧ ∀ v ∈ G, v.oneCell' = true := by
  obtain ⟨size, MB, mn, mc, cs, Q, qc, S, sn, sc, FB, fc, OB, on, oc, rfl, rfl, _⟩ := h
  refine ⟨_, rfl, rfl, fun v hv => ?_⟩
  simp only [RegM.dvals, List.cons_append, List.nil_append, List.mem_cons, List.not_mem_nil, or_false] at hv
  rcases hv with h | h | h | h | h | h | h | h | h | h | h | h | h | h | h | h | h | h | h <;> subst h <;> rfl
set_option maxRecDepth 100000 in
theorem tty_off : ((ttyR.off : Nat) : Int) = 5100273664 := by
  have : ttyR.off = 5100273664 := by decide +kernel
  rw [this]; rfl
set_option maxRecDepth 100000 in
set_option maxHeartbeats 4000000 in
theorem law_TtyTells (W : World) {v0 : Value} {n : Int} (e0 : intE (look W) n [v0]) :
    Calls Try.prog 9 #[v0] W fun e w' => e = .returned (.bool true) ∧ Below W.heap.size W w' := by
  obtain ⟨e0, hnb⟩ := e0
  obtain rfl : v0 = .int .i64 n := (List.cons.inj e0).1
  clear e0 hnb
  have s0 := Sat.start W
  obtain ⟨X, hX⟩ : ∃ X, W.heap.size = X := ⟨_, rfl⟩
  go_enter Try.func9, Try.ntmps9
  go_wp2_with fail
  refine c_ttyAwake s0 ?_
  intro w1 s1
  clear s0
  go_wp2_with fail
  refine c_ramNew2 s1 _ (by omega) ?_
  intro w2 mb r hz hm s2
  clear s1 hz hm
  go_wp2_with fail
  refine c_ttyNew s2 mb ?_
  intro w3 tb rb fb p f hp hf1 hf2 hf3 hf4 s3
  clear s2
  replace hp := aside hp
  replace hf1 := aside hf1
  replace hf2 := aside hf2
  replace hf3 := aside hf3
  replace hf4 := aside hf4
  by_cases h0 : n = 0
  · subst h0
    go_wp2_with fail
    refine c_ref20New s3 4096 none 0 0 ?_
    intro w4 H4 v4 le4 hv s4
    have hv2 := hv f hf1.out (by have := hf2.out; omega) hf3.out hf4.out
    clear hv
    obtain ⟨G, hv4, hGl, hGo⟩ := hv2.row
    subst hv4
    have hv3 := aside (hp.out ▸ hv2 : RefT H4 _ p.g f [] 0)
    clear hv2
    have hGi : ((Try.prog).info? 127).map (·.size) = some G.length := by rw [← hGl]; rfl
    replace hGl := aside hGl
    replace hGo := aside hGo
    replace hGi := aside hGi
    have s5 := (s4.alloc (c := [.int .u64 0, .slice none 0 0, .int .u32 0, .int .u32 0, .int .u32 0, .int .u32 0, .int .u32 0, .int .u32 0, .int .u32 0, .int .u64 0, .int .u64 0, .slice none 0 0, .slice none 0 0, .slice none 0 0, .int .i64 0, .int .u64 0, .int .u64 0, .slice none 0 0, .int .u64 0]) (t := 127))
    obtain ⟨Y, hY⟩ : ∃ Y, w4.heap.size = Y := ⟨_, rfl⟩
    rw [hY] at s5
    clear s4 s3
    go_wp2_with (first | (refine wpList_loadRow rfl 127 (.tmp 6) rfl Y rfl s9 Try.underlying127 rfl hGi.out ?_) | (refine wpList_storeRow rfl 127 (.tmp 6) (.tmp 31) rfl Y rfl rfl s5 (by rw [← hGl.out]; rfl) hGi.out hGo.out ?_; intro w5 s9))
    have s6 := s9.tail1.emp
    have s7 := aside (s6.perm (List.Perm.swap ..))
    clear s6
    refine c_ttySame s7.out (OwnS.zero 1 _) (fun x hx => by cases hx) (by simp) rfl hv3.out ?_
    intro w6 s8
    have t0 := (s8.cells (a := ⟨tb, 0, none⟩) (vs := ttyV rb fb mb (.slice none 0 0) 0) (by simp) (i := 0) rfl).1
    have r1 := (s8.cells (a := ⟨rb, 0, none⟩) (vs := p.g.vals p.qb p.cq p.spv) (by simp [regL]) (i := 1) rfl).1
    have r6 := (s8.cells (a := ⟨rb, 0, none⟩) (vs := p.g.vals p.qb p.cq p.spv) (by simp [regL]) (i := 6) rfl).1
    rw [hp.out, Nat.zero_add] at r1 r6
    rw [show ((ttyR.off : Nat) : Int) = 5100273664 from tty_off] at r1
    rw [show ttyR.qs.length = 2 from rfl] at r6
    rw [Nat.zero_add] at t0
    have hbel := aside s8.below
    clear s8
    go_wp2
    go_ret
    exact ⟨rfl, hX ▸ hbel.out⟩
  by_cases h1 : n = 1
  · subst h1
    go_wp2_with fail
    refine c_ref20New s3 4096 none 0 0 ?_
    intro w4 H4 v4 le4 hv s4
    have hv2 := hv f hf1.out (by have := hf2.out; omega) hf3.out hf4.out
    clear hv
    obtain ⟨G, hv4, hGl, hGo⟩ := hv2.row
    subst hv4
    have hv3 := aside (hp.out ▸ hv2 : RefT H4 _ p.g f [] 0)
    clear hv2
    have hGi : ((Try.prog).info? 127).map (·.size) = some G.length := by rw [← hGl]; rfl
    replace hGl := aside hGl
    replace hGo := aside hGo
    replace hGi := aside hGi
    have s5 := (s4.alloc (c := [.int .u64 0, .slice none 0 0, .int .u32 0, .int .u32 0, .int .u32 0, .int .u32 0, .int .u32 0, .int .u32 0, .int .u32 0, .int .u64 0, .int .u64 0, .slice none 0 0, .slice none 0 0, .slice none 0 0, .int .i64 0, .int .u64 0, .int .u64 0, .slice none 0 0, .int .u64 0]) (t := 127))
    obtain ⟨Y, hY⟩ : ∃ Y, w4.heap.size = Y := ⟨_, rfl⟩
    rw [hY] at s5
    clear s4 s3
    go_wp2_with (first | (refine wpList_loadRow rfl 127 (.tmp 6) rfl Y rfl s9 Try.underlying127 rfl hGi.out ?_) | (refine wpList_storeRow rfl 127 (.tmp 6) (.tmp 31) rfl Y rfl rfl s5 (by rw [← hGl.out]; rfl) hGi.out hGo.out ?_; intro w5 s9))
    have s6 := s9.tail1.emp
    have s7 := aside (s6.perm (List.Perm.swap ..))
    clear s6
    refine c_ttySame s7.out (OwnS.zero 1 _) (fun x hx => by cases hx) (by simp) rfl hv3.out ?_
    intro w6 s8
    have t0 := (s8.cells (a := ⟨tb, 0, none⟩) (vs := ttyV rb fb mb (.slice none 0 0) 0) (by simp) (i := 0) rfl).1
    have r1 := (s8.cells (a := ⟨rb, 0, none⟩) (vs := p.g.vals p.qb p.cq p.spv) (by simp [regL]) (i := 1) rfl).1
    have r6 := (s8.cells (a := ⟨rb, 0, none⟩) (vs := p.g.vals p.qb p.cq p.spv) (by simp [regL]) (i := 6) rfl).1
    rw [hp.out, Nat.zero_add] at r1 r6
    rw [show ((ttyR.off : Nat) : Int) = 5100273664 from tty_off] at r1
    rw [show ttyR.qs.length = 2 from rfl] at r6
    rw [Nat.zero_add] at t0
    have hbel := aside s8.below
    clear s8
    go_wp2
    go_ret
    exact ⟨rfl, hX ▸ hbel.out⟩
  · have e0 : (n != 0) = true := by simpa using h0
    have e1 : (n != 1) = true := by simpa using h1
    go_wp2_with fail
    refine c_notifiedNo h0 h1 ?_
    go_wp2_with fail
    refine c_ref20New s3 4096 none 0 0 ?_
    intro w4 H4 v4 le4 hv s4
    have hv2 := hv f hf1.out (by have := hf2.out; omega) hf3.out hf4.out
    clear hv
    obtain ⟨G, hv4, hGl, hGo⟩ := hv2.row
    subst hv4
    have hv3 := aside (hp.out ▸ hv2 : RefT H4 _ p.g f [] 0)
    clear hv2
    have hGi : ((Try.prog).info? 127).map (·.size) = some G.length := by rw [← hGl]; rfl
    replace hGl := aside hGl
    replace hGo := aside hGo
    replace hGi := aside hGi
    have s5 := (s4.alloc (c := [.int .u64 0, .slice none 0 0, .int .u32 0, .int .u32 0, .int .u32 0, .int .u32 0, .int .u32 0, .int .u32 0, .int .u32 0, .int .u64 0, .int .u64 0, .slice none 0 0, .slice none 0 0, .slice none 0 0, .int .i64 0, .int .u64 0, .int .u64 0, .slice none 0 0, .int .u64 0]) (t := 127))
    obtain ⟨Y, hY⟩ : ∃ Y, w4.heap.size = Y := ⟨_, rfl⟩
    rw [hY] at s5
    clear s4 s3
    go_wp2_with (first | (refine wpList_loadRow rfl 127 (.tmp 6) rfl Y rfl s9 Try.underlying127 rfl hGi.out ?_) | (refine wpList_storeRow rfl 127 (.tmp 6) (.tmp 31) rfl Y rfl rfl s5 (by rw [← hGl.out]; rfl) hGi.out hGo.out ?_; intro w5 s9))
    have s6 := s9.tail1.emp
    have s7 := aside (s6.perm (List.Perm.swap ..))
    clear s6
    refine c_ttySame s7.out (OwnS.zero 1 _) (fun x hx => by cases hx) (by simp) rfl hv3.out ?_
    intro w6 s8
    have t0 := (s8.cells (a := ⟨tb, 0, none⟩) (vs := ttyV rb fb mb (.slice none 0 0) 0) (by simp) (i := 0) rfl).1
    have r1 := (s8.cells (a := ⟨rb, 0, none⟩) (vs := p.g.vals p.qb p.cq p.spv) (by simp [regL]) (i := 1) rfl).1
    have r6 := (s8.cells (a := ⟨rb, 0, none⟩) (vs := p.g.vals p.qb p.cq p.spv) (by simp [regL]) (i := 6) rfl).1
    rw [hp.out, Nat.zero_add] at r1 r6
    rw [show ((ttyR.off : Nat) : Int) = 5100273664 from tty_off] at r1
    rw [show ttyR.qs.length = 2 from rfl] at r6
    rw [Nat.zero_add] at t0
    have hbel := aside s8.below
    clear s8
    go_wp2
    go_ret
    exact ⟨rfl, hX ▸ hbel.out⟩
end Go.Proofs.Ytiibiamobkhlbaa
