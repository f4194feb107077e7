/-
  The ring's laws: a memory with bytes put into it, and the document's (vireolaw15.Memory).
-/
import Derived.Test.YtippipfogbgemaaVt
import Derived.Test.YtippipfogbgemaaVs
import Derived.Test.YtippipfogbgemaaVc
namespace Go.Proofs.Ytippipfogbgemaa
open Go.RowKit
set_option linter.unusedVariables false

structure PutM where
  at' : Int
  data : List Int
  ha : 0 ≤ at' ∧ at' ≤ 18446744073709551615
def putE : El PutM := fun h o vs => ∃ dv, vs = [.int .u64 o.at', dv] ∧ Rd u8E 1 h dv o.data
theorem putE_mono : ElMono putE := fun _ _ _ _ le ⟨dv, h1, h2⟩ => ⟨dv, h1, h2.mono u8E_mono le⟩

theorem opn_put : Opn Try.prog 163 putE :=
  opn_struct Try.underlying163 fun H enc w fuel cs hlen hf => by
    obtain ⟨y1, h1⟩ := hf 0 _ rfl
    obtain ⟨y4, h4⟩ := hf 1 _ rfl
    obtain ⟨l, hl, hl1⟩ := opn_u64 Try.underlying25 H enc w fuel _ y1.1 y1.2 h1
    obtain ⟨d, hd⟩ := opn_slice (size := 1) Try.underlying36 (by kernel_rfl) (by decide) (opn_u8 Try.underlying5) H enc w fuel _ y4.1 y4.2 h4
    have e : Try.prog.cellsOf 163 = 2 := by kernel_rfl
    have e1 : Try.prog.cellsOf 25 = 1 := by kernel_rfl
    have e3 : Try.prog.cellsOf 36 = 1 := by kernel_rfl
    rw [e] at hlen
    obtain ⟨c1, c4, rfl⟩ := len2 hlen
    rw [e1] at hl
    rw [e3] at hd
    obtain rfl : c1 = .int .u64 l := (List.cons.inj hl).1
    obtain ⟨dv, hdv, hrd⟩ := hd
    obtain rfl : c4 = dv := (List.cons.inj hdv).1
    exact ⟨⟨l, d, hl1⟩, _, rfl, hrd⟩

section
variable {R : Ending → World → Prop} {W0 w : World} {H : Hp} {A F : List Hp} {b : Nat} {r : RamG} {v : Value} {size : Int} {m : Int → Int} {L : Nat}

theorem RefM.shapeM (h : RefM H v size m L) : ∃ B n c, v = .agg #[.int .u64 size, .slice B n c] := by
  obtain ⟨sl, bs, rfl, rd, _⟩ := h
  obtain ⟨B, c, rfl, _⟩ := rd.open_
  exact ⟨B, _, c, rfl⟩
theorem RefM.leM (h : RefM H v size m L) {L' : Nat} (hl : L ≤ L') : RefM H v size m L' := by
  obtain ⟨sl, bs, h1, h2, h3, h4⟩ := h
  exact ⟨sl, bs, h1, h2, h3, by omega⟩

theorem c_refWriteM (s : Sat W0 w H A) (rm : RefM H v size m L) (hL : L ≤ 900000) (hz : 0 ≤ size ∧ size ≤ 268435456) (a : Int) (h0 : 0 ≤ a ∧ a ≤ 18446744073709551615) {dv : Value} {ds : List Int} (rd : Rd u8E 1 H dv ds) (hd : ds.length ≤ 200)
    (k : ∀ w' H' v', (∀ l c, H l = some c → H' l = some c) → RefM H' v' size (if hasP size a ds.length then putB m a ds else m) (L + 200) → Sat W0 w' H' A → R (.returned (.tuple #[v', .bool (decide (hasP size a ds.length))])) w') : Calls Try.prog 68 #[v, .int .u64 a, dv] w R := by
  refine c_refWrite s rm hz a h0 rd (by omega) (fun _ s => s.ro) (fun hc w' s' => ?_) (fun hc w' H' v' le r' s' => ?_)
  · have := k w' H v (fun _ _ h => h) (by rw [if_neg hc]; exact rm.leM (by omega)) s'
    rwa [decide_eq_false hc] at this
  · have := k w' H' v' le (by rw [if_pos hc]; exact r'.leM (by omega)) s'
    rwa [decide_eq_true hc] at this

theorem c_ramWriteM (s : Sat W0 w H A) [fr : FrK (κ := Addr) (ρ := fun _ => RamG × Option LogG) ramL ⟨b, 0, none⟩ A (r, none) F] (a : Int) (h0 : 0 ≤ a ∧ a ≤ 18446744073709551615) {dv : Value} {ds : List Int} (rd : Rd u8E 1 H dv ds)
    (k : ∀ w' r', r'.mem = (if hasP r.size a ds.length then putB r.mem a ds else r.mem) → r'.size = r.size → Sat W0 w' H (ramL ⟨b, 0, none⟩ (r', none) ++ F) → R (.returned (.bool (decide (hasP r.size a ds.length)))) w') : Calls Try.prog 41 #[.pointer (some ⟨b, 0, none⟩), .int .u64 a, dv] w R := by
  have e := has_iff r a ds.length (by omega)
  refine c_ramWrite s a h0 rd (fun _ s => s.ro) (fun hc => ?_) (fun hc w' r' l' hm hz hl s' => ?_)
  · have hc' : ¬ hasP r.size a ds.length := fun h => hc (e.2 h)
    have := k w r (by rw [if_neg hc']) rfl (s.front (mk := ramL) (k := ⟨b, 0, none⟩))
    rwa [decide_eq_false hc'] at this
  · have hc' := e.1 hc
    have hn : l' = none := by
      cases l' with
      | none => rfl
      | some x => simp [lgs, addW] at hl
    subst hn
    have := k w' r' (by rw [if_pos hc']; exact hm) hz s'
    rwa [decide_eq_true hc'] at this

set_option maxRecDepth 100000 in
set_option maxHeartbeats 4000000 in
theorem c_Memory (s : Sat W0 w H A) {v0 : Value} {ps : List PutM} (rd : Rd putE 2 H v0 ps)
    (k1 : ∀ w' H' v' m', (∀ l c, H l = some c → H' l = some c) → RefM H' v' 8192 m' 13000 → Sat W0 w' H' A → R (.returned (.tuple #[.pointer none, v'])) w')
    (k2 : ∀ w' H' v' b (r : RamG), (∀ l c, H l = some c → H' l = some c) → r.size = 8192 → RefM H' v' 8192 r.mem 13000 → Sat W0 w' H' (ramL ⟨b, 0, none⟩ (r, none) ++ A) → R (.returned (.tuple #[.pointer (some ⟨b, 0, none⟩), v'])) w') :
    Calls Try.prog 25 #[v0] w R := by
  obtain ⟨D, dc, rfl, rd⟩ := rd.open_
  obtain ⟨A', c', hv, hc, hc2, hat⟩ := id rd
  injection hv with ea eb ec
  subst ea ec
  have hlen : (ps.length : Int) ≤ 9223372036854775807 := by omega
  have s1 := (s.alloc (c := [.int .u64 0, .slice none 0 0]) (t := 28)).alloc (c := [.int .u64 8192, .slice none 0 0]) (t := 28)
  rw [World.size_alloc] at s1
  obtain ⟨Z, hZ⟩ : ∃ Z, w.heap.size = Z := ⟨_, rfl⟩
  rw [hZ] at s1
  clear s
  go_enter Try.func25, Try.ntmps25
  go_wp2_with fail
  refine c_ramNew2 s1 _ (by omega) ?_; intro w2 b r hz hm s2
  clear s1
  by_cases hlong : (ps.length : Int) ≤ 60
  · go_wp2
    go_loopg [7] ps.length (fun q v7 w' => ∃ (i : Nat) (H' : Hp) (r : RamG) (B : Option Addr) (n c : Nat), q + i = ps.length ∧ v7 = .int .i64 i ∧ (∀ l c, H l = some c → H' l = some c) ∧ r.size = 8192 ∧ RefM H' (.agg #[.int .u64 8192, .slice B n c]) 8192 r.mem (i * 200) ∧
      Sat W0 w' H' (ramL ⟨b, 0, none⟩ (r, none) ++ (cellsH ⟨Z + 1, 0, none⟩ [.int .u64 8192, .slice B n c] :: cellsH ⟨Z, 0, none⟩ [.int .u64 0, .slice none 0 0] :: A)))
    case atStart => exact ⟨0, H, r, none, 0, 0, by simp, rfl, fun _ _ h => h, hz, ⟨_, [], rfl, Rd.nil, by rw [hm]; rfl, by simp⟩, s2.wk⟩
    clear s2 hm hz
    case round =>
      obtain ⟨i, H', r, B, n, c, hq, rfl, le, hz, rm, s'⟩ := hrel
      have y0 := s'.cel (Z + 1) 0 0 rfl
      have y1 := s'.cel (Z + 1) 0 1 rfl
      have z0 := s'.cel Z 0 0 rfl
      have z1 := (Sat.s0 (Sat.pull (h := cellsH ⟨Z, 0, none⟩ [.int .u64 0, .slice none 0 0]) s') (.int .u64 8192)).c 1 rfl
      have s7 := (Sat.s0 (Sat.pull (h := cellsH ⟨Z, 0, none⟩ [.int .u64 0, .slice none 0 0]) s') (.int .u64 8192)).s 1 (by simp) (.slice B n c)
      simp only [List.set_cons_succ, List.set_cons_zero, Nat.zero_add] at s7 y0 y1 z0 z1
      have f0 := s7.c0
      have f1 := s7.c 1 rfl
      simp only [Nat.zero_add] at f0 f1
      by_cases hi : i < ps.length
      · obtain ⟨bb, ob, vs, rfl, ⟨dv, rfl, rdv⟩, _, hcell⟩ := hat i ps[i] (by simp [hi])
        have hcl := fun j u hu => (hcell j u hu).imp fun fr hf => le _ _ hf
        have rdv' := rdv.mono u8E_mono le
        have x0 := s'.ro.cell (hcl 0 _ rfl)
        have x1 := s'.ro.cell (hcl 1 _ rfl)
        generalize ps[i] = op at *
        rw [Nat.add_zero] at x0
        obtain ⟨E, ec, rfl, rdw⟩ := rdv'.open_
        obtain ⟨_, hec, hec2, _⟩ := rdw.u8
        have hdl : (op.data.length : Int) ≤ 9223372036854775807 := by omega
        clear hcell hat rd rdv
        by_cases hbig : (op.data.length : Int) ≤ 200
        · clear s7 f0 f1 z1
          go_wp2
          go_region_held3 (fun w' => w'.cell? ⟨bb, ob + i * 2, none⟩ = some (.int .u64 op.at') ∧ w'.cell? ⟨bb, ob + i * 2 + 1, none⟩ = some (.slice E op.data.length ec))
            (first
              | exact ⟨x0, x1⟩
              | exact ⟨s6.ro.cell (hcl 0 _ rfl), s6.ro.cell (hcl 1 _ rfl)⟩)
            (first
              | (go_at_call 41; refine c_ramWriteM s'.drew op.at' op.ha rdw ?_; intro w6 r6 hm6 hz6 s6; rw [hz] at hm6))
          all_goals
            have yy0 := s6.cel (Z + 1) 0 0 rfl
            have yy1 := s6.cel (Z + 1) 0 1 rfl
            have xx0 := s6.ro.cell (hcl 0 _ rfl)
            have xx1 := s6.ro.cell (hcl 1 _ rfl)
            simp only [Nat.zero_add] at yy0 yy1
            rw [Nat.add_zero] at xx0
            have hz7 : r6.size = 8192 := by omega
            clear s' y0 y1 z0 x0 x1
            go_wp2
            go_region_with
              (first
                | (go_at_call 68; refine c_refWriteM s6.drew rm (by omega) (by omega) op.at' op.ha rdw (by omega) ?_; intro w8 H8 v8 le8 rm8 s8; obtain ⟨B8, n8, c8, rfl⟩ := rm8.shapeM; have q0 := s8.cel (Z + 1) 0 0 rfl; have q1 := (Sat.s0 (Sat.pull (h := cellsH ⟨Z + 1, 0, none⟩ [.int .u64 8192, .slice B n c]) s8) (.int .u64 8192)).c 1 rfl; have s9 := (Sat.s0 (Sat.pull (h := cellsH ⟨Z + 1, 0, none⟩ [.int .u64 8192, .slice B n c]) s8) (.int .u64 8192)).s 1 (by simp) (.slice B8 n8 c8); simp only [List.set_cons_succ, List.set_cons_zero, Nat.zero_add] at s9 q0 q1))
            all_goals
              rw [← hm6] at rm8
              have rm9 := rm8.leM (show i * 200 + 200 ≤ (i + 1) * 200 by omega)
              go_wp2
              go_roundg (gk - 1)
              case measure => omega
              case rel => exact ⟨i + 1, H8, r6, B8, n8, c8, by omega, by go_num, fun l c h => le8 _ _ (le l c h), hz7, rm9, s9.wk⟩
        · go_wp2
          go_region_law (fail)
          all_goals
            try simp only [Act.put, List.getElem_toArray, List.getElem_cons_succ, List.getElem_cons_zero, List.setIfInBounds_toArray, List.set_cons_succ, List.set_cons_zero]
            go_wp2
            refine bodyPost_ret (by simp [results, Try.results25, go_sem, f0.1, f1.1]; try rfl) rfl ?_
            exact k1 _ H' _ r.mem le (rm.leM (by omega)) s7.drew.wk
      · obtain rfl : i = ps.length := by omega
        clear hat rd
        go_wp2
        go_region_law (fail)
        all_goals
          try simp only [Act.put, List.getElem_toArray, List.getElem_cons_succ, List.getElem_cons_zero, List.setIfInBounds_toArray, List.set_cons_succ, List.set_cons_zero]
          go_wp2
          refine bodyPost_ret (by simp [results, Try.results25, go_sem, f0.1, f1.1]; try rfl) rfl ?_
          exact k2 _ H' _ b r le hz (rm.leM (by omega)) s7.drew.wk
  · have y0 := s2.cel (Z + 1) 0 0 rfl
    have y1 := s2.cel (Z + 1) 0 1 rfl
    have z0 := s2.cel Z 0 0 rfl
    have z1 := (Sat.s0 (Sat.pull (h := cellsH ⟨Z, 0, none⟩ [.int .u64 0, .slice none 0 0]) s2) (.int .u64 8192)).c 1 rfl
    have s7 := (Sat.s0 (Sat.pull (h := cellsH ⟨Z, 0, none⟩ [.int .u64 0, .slice none 0 0]) s2) (.int .u64 8192)).s 1 (by simp) (.slice none 0 0)
    simp only [List.set_cons_succ, List.set_cons_zero, Nat.zero_add] at s7 y0 y1 z0 z1
    have f0 := s7.c0
    have f1 := s7.c 1 rfl
    simp only [Nat.zero_add] at f0 f1
    go_wp2
    go_region_law (fail)
    all_goals
      try simp only [Act.put, List.getElem_toArray, List.getElem_cons_succ, List.getElem_cons_zero, List.setIfInBounds_toArray, List.set_cons_succ, List.set_cons_zero]
      go_wp2
      refine bodyPost_ret (by simp [results, Try.results25, go_sem, f0.1, f1.1]; try rfl) rfl ?_
      exact k1 _ H _ (fun _ => 0) (fun _ _ h => h) ⟨_, [], rfl, Rd.nil, rfl, by simp⟩ s7.drew.wk
end
end Go.Proofs.Ytippipfogbgemaa
