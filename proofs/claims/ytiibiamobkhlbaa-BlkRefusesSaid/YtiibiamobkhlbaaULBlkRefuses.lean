/-
  BlkRefuses returns true for every start, memory and chain; no condition.
-/
import Derived.Test.YtiibiamobkhlbaaG5
import Derived.Test.YtiibiamobkhlbaaUBg
import Derived.Test.YtiibiamobkhlbaaUBr
import Derived.Test.YtiibiamobkhlbaaUBt
import Derived.Test.YtiibiamobkhlbaaUBu
import Derived.Test.YtiibiamobkhlbaaG2
import Derived.Test.YtiibiamobkhlbaaUVco
import Derived.Test.YtiibiamobkhlbaaUVct
set_option linter.unusedVariables false
set_option linter.unusedSimpArgs false
namespace Go.Proofs.Ytiibiamobkhlbaa
open Go.RowKit
set_option linter.unusedVariables false
set_option linter.unusedSimpArgs false


set_option maxRecDepth 100000 in
set_option maxHeartbeats 4000000 in
theorem law_BlkRefuses (W : World) {cs0 : Array Value} {v1 v2 : Value} {st : StartM} {ps : List PutM} {pc : List PieceM} (e0 : startE (look W) st cs0.toList) (e1 : sliceE putE 2 (look W) ps [v1]) (e2 : sliceE pieceE 3 (look W) pc [v2]) :
    Calls Try.prog 4 #[.agg cs0, v1, v2] W fun e w' => e = .returned (.bool true) ∧ Below W.heap.size W w' := by
  obtain ⟨_, hv1, e1⟩ := e1
  obtain rfl := (List.cons.inj hv1).1
  clear hv1
  replace e1 : Rd putE 2 (look W) v1 ps := e1
  obtain ⟨_, hv2, e2⟩ := e2
  obtain rfl := (List.cons.inj hv2).1
  clear hv2
  replace e2 : Rd pieceE 3 (look W) v2 pc := e2
  obtain ⟨E, ec, rfl, rd2⟩ := e2.open_
  clear e2
  obtain ⟨dv, hcs, rdv⟩ := e0
  obtain rfl : cs0 = (st.vals dv).toArray := by apply Array.ext'; simpa using hcs
  clear hcs
  obtain ⟨lk, sd, f, nm, hf, hnm⟩ := st
  simp only [StartM.vals] at *
  obtain ⟨D, dc, rfl, rdv⟩ := rdv.open_
  obtain ⟨M, hM⟩ : ∃ M, sd.length = M := ⟨_, rfl⟩
  have s0 := (Sat.start W).alloc (c := [.bool lk, .slice D sd.length dc, .int .u64 f, .string nm]) (t := 59)
  obtain ⟨X, hX⟩ : ∃ X, W.heap.size = X := ⟨_, rfl⟩
  rw [hX] at s0
  rw [hM] at s0 rdv ⊢
  replace hM := aside hM
  replace rd2 := aside rd2
  replace rdv := aside rdv
  replace e1 := aside e1
  go_enter Try.func4, Try.ntmps4
  go_wp2_with fail
  refine c_blkAwake s0 ?_
  intro wA s1
  clear s0
  go_wp2_with fail
  refine c_Memory s1 e1.out ?_ ?_
  · intro w2 H2 v2 m2 le2 r2 s2
    obtain ⟨B, n2, c, rfl⟩ := r2.shapeM
    have s3 := s2.alloc (c := [.int .u64 8192, .slice B n2 c]) (t := 32)
    obtain ⟨Y, hY⟩ : ∃ Y, w2.heap.size = Y := ⟨_, rfl⟩
    rw [hY] at s3
    have x0 := s3.cel X 0 0 rfl
    have x1 := s3.cel X 0 1 rfl
    have x2 := s3.cel X 0 2 rfl
    have x3 := s3.cel X 0 3 rfl
    simp only [Nat.zero_add] at x0 x1 x2 x3
    clear s1 s2
    go_wp2_with fail
    refine c_lawDisk s3 lk (rdv.out.mono u8E_mono le2) f hf nm hnm ?_ ?_
    · intro w4 H4 B4 N4 c4 le4 s4
      have s5 := s4.alloc (c := [.slice B4 N4 c4, .bool lk, .int .u64 0, .int .u64 0, .int .u64 0]) (t := 63)
      clear s3
      go_wp2
      go_ret
      exact ⟨rfl, hX ▸ s5.below⟩
    · intro hs64 hs100 w4 H4 v4 db d le4 hc4 hl4 hf4 hm4 rf4 s4
      obtain ⟨B4, N4, c4, rfl, hN4, _⟩ := rf4.open_
      have s5 := s4.alloc (c := [.slice B4 N4 c4, .bool lk, .int .u64 f, .int .u64 0, .int .u64 0]) (t := 63)
      clear s3 hN4 rf4
      go_wp2
      go_ret
      exact ⟨rfl, hX ▸ s5.below⟩
  intro w2 H2 v2 mb r le2 hz rm s2
  obtain ⟨B, n2, c2, rfl⟩ := rm.shapeM
  have s3 := s2.alloc (c := [.int .u64 8192, .slice B n2 c2]) (t := 32)
  obtain ⟨Y, hY⟩ : ∃ Y, w2.heap.size = Y := ⟨_, rfl⟩
  rw [hY] at s3
  have x0 := s3.cel X 0 0 rfl
  have x1 := s3.cel X 0 1 rfl
  have x2 := s3.cel X 0 2 rfl
  have x3 := s3.cel X 0 3 rfl
  simp only [Nat.zero_add] at x0 x1 x2 x3
  have rdv2 := aside (rdv.out.mono u8E_mono le2)
  replace le2 := aside le2
  replace rm := aside rm
  replace hz := aside hz
  clear s1 s2
  go_wp2_with fail
  refine c_lawDisk s3 lk rdv2.out f hf nm hnm ?_ ?_
  · intro w4 H4 B4 N4 c4 le4 s4
    have s5 := s4.alloc (c := [.slice B4 N4 c4, .bool lk, .int .u64 0, .int .u64 0, .int .u64 0]) (t := 63)
    clear s3
    go_wp2
    go_ret
    exact ⟨rfl, hX ▸ s5.below⟩
  intro hs64 hs100 w4 H4 v4 db d le4 hc4 hl4 hf4 hm4 rf4 s4
  obtain ⟨B4, N4, c4, rfl, hN4, _⟩ := rf4.open_
  have hc4' := aside hc4
  clear hs64 hs100 hm4 hN4 rf4 hc4 hl4 hf4
  have s5 := s4.alloc (c := [.slice B4 N4 c4, .bool lk, .int .u64 f, .int .u64 0, .int .u64 0]) (t := 63)
  have y0 := s5.cel Y 0 0 rfl
  have y1 := s5.cel Y 0 1 rfl
  simp only [Nat.zero_add] at y0 y1
  have rdp := aside ((rd2.out.mono (fun _ _ _ _ _ e => e) le2.out).mono (fun _ _ _ _ _ e => e) le4)
  replace le4 := aside le4
  clear s3 s4 x0 x1 x2 x3
  go_wp2_with fail
  refine c_lawChains s5 rdp.out (by omega) ?_ ?_
  · intro w6 X1 X2 n1 n2 c1 c2 s6
    have sz := (s6.alloc (c := [.slice none 0 0, .int .u64 0, .int .u64 0]) (t := 50)).alloc (c := [.slice none 0 0, .int .u64 0, .int .u64 0]) (t := 66)
    obtain ⟨T1, hT1⟩ : ∃ T1, w6.heap.size = T1 := ⟨_, rfl⟩
    obtain ⟨T2, hT2⟩ : ∃ y, T1 + 1 = y := ⟨_, rfl⟩
    simp only [World.size_alloc, hT1, hT2] at sz
    have s7q0 := sz.cel T1 0 0 rfl
    have s7t0 := (sz.pc T1 0).s0 (.slice X1 n1 c1)
    have s7q1 := s7t0.c 1 rfl
    have s7t1 := s7t0.s 1 (by simp) (.int .u64 0)
    have s7q2 := s7t1.c 2 rfl
    have s7 := s7t1.s 2 (by simp) (.int .u64 0)
    simp only [List.set_cons_succ, List.set_cons_zero, Nat.zero_add] at s7 s7q0 s7q1 s7q2
    have s8q0 := s7.cel T2 0 0 rfl
    have s8t0 := (s7.pc T2 0).s0 (.slice X2 n2 c2)
    have s8q1 := s8t0.c 1 rfl
    have s8t1 := s8t0.s 1 (by simp) (.int .u64 0)
    have s8q2 := s8t1.c 2 rfl
    have s8 := s8t1.s 2 (by simp) (.int .u64 0)
    simp only [List.set_cons_succ, List.set_cons_zero, Nat.zero_add] at s8 s8q0 s8q1 s8q2
    clear s5 y0 y1
    go_wp2
    go_ret
    exact ⟨rfl, hX ▸ s8.below⟩
  intro h12 hgood hord w6 X1 X2 c1 c2' h1 h2 own1 own2 s6
  obtain ⟨segs, hsegs⟩ : ∃ l, pc.map PieceM.seg = l := ⟨_, rfl⟩
  have hpl : pc.length = segs.length := by rw [← hsegs, List.length_map]
  rw [hsegs] at hgood hord own1 own2
  rw [hpl] at h12 own1 own2 ⊢
  have rd1 := aside own1.rdG
  have rdX := aside own2.rdG
  obtain ⟨N, hN⟩ : ∃ N, segs.length = N := ⟨_, rfl⟩
  rw [hN] at h12 own1 own2 rd1 rdX ⊢
  have sz := (s6.alloc (c := [.slice none 0 0, .int .u64 0, .int .u64 0]) (t := 50)).alloc (c := [.slice none 0 0, .int .u64 0, .int .u64 0]) (t := 66)
  obtain ⟨T1, hT1⟩ : ∃ T1, w6.heap.size = T1 := ⟨_, rfl⟩
  obtain ⟨T2, hT2⟩ : ∃ y, T1 + 1 = y := ⟨_, rfl⟩
  simp only [World.size_alloc, hT1, hT2] at sz
  have s7q0 := sz.cel T1 0 0 rfl
  have s7t0 := (sz.pc T1 0).s0 (.slice X1 N c1)
  have s7q1 := s7t0.c 1 rfl
  have s7t1 := s7t0.s 1 (by simp) (.int .u64 0)
  have s7q2 := s7t1.c 2 rfl
  have s7 := s7t1.s 2 (by simp) (.int .u64 0)
  simp only [List.set_cons_succ, List.set_cons_zero, Nat.zero_add] at s7 s7q0 s7q1 s7q2
  have s8q0 := s7.cel T2 0 0 rfl
  have s8t0 := (s7.pc T2 0).s0 (.slice X2 N c2')
  have s8q1 := s8t0.c 1 rfl
  have s8t1 := s8t0.s 1 (by simp) (.int .u64 0)
  have s8q2 := s8t1.c 2 rfl
  have s8 := s8t1.s 2 (by simp) (.int .u64 0)
  simp only [List.set_cons_succ, List.set_cons_zero, Nat.zero_add] at s8 s8q0 s8q1 s8q2
  have x3 := s8.cel X 0 3 rfl
  simp only [Nat.zero_add] at x3
  clear s5 y0 y1 own1 own2
  replace hgood := aside hgood
  replace hord := aside hord
  replace hsegs := aside hsegs
  replace hpl := aside hpl
  replace hN := aside hN
  go_wp2_with fail
  refine c_blkNew s8 mb nm ?_
  intro w9 bb rb qb sv h6 own6 s9
  rw [nameV_nmB] at s9
  clear s8 s7 sz s6 own6 x3
  go_wp2_with fail
  refine c_diskCopy s9 ?_
  intro w10 cp d10 hlk10 hm10 s10
  have hcp := aside (show d10.count = d.count ∧ d10.mem = d.mem from ⟨hlk10.count, hm10⟩)
  clear s9 hlk10 hm10
  have sB : Sat W w10 H4 (cellsH ⟨bb, 0, none⟩ (blkV rb db mb ((nmB nm).map (Value.int .u8)) (.slice none 0 0)) :: empH :: (ramL ⟨mb, 0, none⟩ (r, none) ++ (diskL ⟨db, 0, none⟩ d ++ (h1 :: (diskL ⟨cp, 0, none⟩ d10 ++ (cellsH ⟨T1, 0, none⟩ [.slice X1 N c1, .int .u64 0, .int .u64 0] :: cellsH ⟨T2, 0, none⟩ [.slice X2 N c2', .int .u64 0, .int .u64 0] :: h2 :: [])))))) := s10.emp.wk
  have t0 := sB.cel T1 0 0 rfl
  have t1 := sB.cel T1 0 1 rfl
  have t2 := sB.cel T1 0 2 rfl
  simp only [Nat.zero_add] at t0 t1 t2
  have hbs := aside (show segs.length ≤ 511 ∧ ∀ x ∈ segs, hasP r.size x.1 x.2.1 ∧ 0 ≤ x.2.1 from ⟨by have := hN.out; omega, fun x hx => by rw [hz.out]; exact ⟨(hgood.out x hx).1, (hgood.out x hx).2.1⟩⟩)
  clear s10
  go_wp2_with fail
  refine c_use bb rb db mb (nmB_len nm) (nmB_bd nm) (ls := []) (OwnS.nil 4) (by simp) rd1.out sB (fun w' t => t.head) hbs.out hord.out 0 0 ?_
  intro w11 H11 r11 d11 lv11 h11 l11 le11 hlg11 hm11 hz11 hd11 own11 s11
  obtain rfl := hlg11.none rfl
  have huc := useP_cases segs r.mem d.raw (nmB nm)
  obtain ⟨U, hU⟩ : ∃ u, useP segs r.mem d.raw (nmB nm) = u := ⟨_, rfl⟩
  rw [hU] at huc hm11 hd11 own11 ⊢
  obtain ⟨L, LC, LL, rfl, hLL, hLC⟩ := own11.shape
  have hct : d11.count = U.dk.count := congrArg DkP.count hd11
  have hmm : d11.mem = U.dk.mem := congrArg DkP.mem hd11
  clear sB t0 t1 t2 hd11 hbs
  replace hU := aside hU
  replace le11 := aside le11
  rcases huc with ⟨u1, u2, u3, u4⟩ | ⟨hr16, hw1, KD, SC, ST, CT, m1, b1, b2, b3, b4, u1, u2, u3, u5, u6⟩
  · rw [u1]
    rw [u2] at own11 hLL
    have hLL0 : LL = 0 := hLL
    clear hLL
    subst hLL0
    have hsame : sameD d11 d10 = true := by
      rw [sameD_bytes (C := 4) (by rw [hct, u3]; exact hc4'.out.symm) (by rw [hcp.out.1]; exact hc4'.out.symm), decide_eq_true_eq]
      rw [hmm, u3, hcp.out.2]; rfl
    replace hct := aside hct
    replace hmm := aside hmm
    replace u1 := aside u1
    replace u2 := aside u2
    replace u3 := aside u3
    replace u4 := aside u4
    replace own11 := aside own11
    replace hsame := aside hsame
    go_wp2_with fail
    refine c_blkLog bb rb db mb (by rw [List.length_map, nmB_len]) s11 ?_
    intro w12 s12
    have s13 : Sat W w12 H11 (diskL ⟨db, 0, none⟩ d11 ++ (diskL ⟨cp, 0, none⟩ d10 ++ [])) := s12.wk
    clear s11 s12
    go_wp2_with fail
    refine c_diskSame s13 ?_
    intro w14 s14
    rw [hsame.out]
    clear s13
    go_wp2
    go_ret
    exact ⟨rfl, hX ▸ s14.below⟩
  · rw [u1]
    rw [u2] at own11 hLL
    have hLL0 : LL = 1 := hLL
    clear hLL
    subst hLL0
    have own12 : OwnS 4 (.slice L 1 LC) 1 [.int .u32 KD, .int .u64 SC, .int .u8 ST, .int .u32 CT] h11 := own11
    have hct0 : ¬ CT = 0 := by omega
    have hct1 : (CT == 0) = false := by simp; omega
    have hct2 : (CT != CT) = false := by simp
    have hD : ST = 0 ∧ KD = 1 ∨ sameD d11 d10 = true := u6.imp id fun h => by
      rw [sameD_bytes (C := 4) (by rw [hct, u5]; exact hc4'.out.symm) (by rw [hcp.out.1]; exact hc4'.out.symm), decide_eq_true_eq]
      rw [hmm, h, hcp.out.2]; rfl
    have hN1 : 1 ≤ N := by
      rw [← hN.out]
      cases hsg : segs with
      | nil => rw [hsg] at hw1; simp [wsum] at hw1
      | cons a b => simp
    rw [u3] at hm11
    have hz11' := aside (hz11.trans hz.out)
    replace hm11 := aside hm11
    replace hct := aside hct
    replace hmm := aside hmm
    replace u1 := aside u1
    replace u2 := aside u2
    replace u3 := aside u3
    replace u5 := aside u5
    replace u6 := aside u6
    replace own11 := aside own11
    replace hD := aside hD
    replace hw1 := aside hw1
    replace hz11 := aside hz11
    go_wp2_with fail
    refine c_blkLog bb rb db mb (by rw [List.length_map, nmB_len]) s11 ?_
    intro w12 s12
    have hrow : RowR w12 L [.int .u32 KD, .int .u64 SC, .int .u8 ST, .int .u32 CT] := by
      have := own12.row0 (Sat.pull (h := h11) s12).head 4
      exact this
    obtain ⟨bl, ol, rfl, hat⟩ := hrow (by simp)
    have g3 := hat 3 _ rfl
    replace own12 := aside own12
    have s13 : Sat W w12 H11 (cellsH ⟨T2, 0, none⟩ [.slice X2 N c2', .int .u64 0, .int .u64 0] :: h2 :: h11 :: (ramL ⟨mb, 0, none⟩ (r11, none) ++ (diskL ⟨db, 0, none⟩ d11 ++ (diskL ⟨cp, 0, none⟩ d10 ++ [])))) := s12.wk
    have gg := rdX.out.seg.2.2.2
    have ge : ∀ (w' : World) (A' : List Hp), Sat W w' H11 A' → h2 ∈ A' → ∀ (j : Nat) (hj : j < segs.length), ∃ b' o', X2 = some ⟨b', o', none⟩ ∧ w'.cell? ⟨b', o' + j * 3, none⟩ = some (.int .u64 segs[j].1) ∧ w'.cell? ⟨b', o' + j * 3 + 1, none⟩ = some (.int .u64 segs[j].2.1) ∧ w'.cell? ⟨b', o' + j * 3 + 2, none⟩ = some (.bool segs[j].2.2) := fun w' A' t hm j hj => by
      obtain ⟨b', o', e1, e2, e3, e4⟩ := gg j hj
      have hh := (t.each h2 hm).1
      exact ⟨b', o', e1, hh.cell e2, hh.cell e3, hh.cell e4⟩
    clear s11 s12 gg
    obtain ⟨b', o', hX2, q0, q1, q2⟩ := ge w12 _ s13 (by simp) (N - 1) (by rw [hN.out]; omega)
    subst hX2
    obtain ⟨xl, hxl⟩ : ∃ x, segs[N - 1]'(by rw [hN.out]; omega) = x := ⟨_, rfl⟩
    rw [hxl] at q0 q1 q2
    have hxl2 : segs[N - 1]? = some xl := by rw [List.getElem?_eq_getElem (by rw [hN.out]; omega), hxl]
    clear hxl
    have ei : IntKind.i64.wrap ((N : Int) - 1) = ((N - 1 : Nat) : Int) := by simp [IntKind.wrap, IntKind.bits, IntKind.signed]; omega
    have eb : (0 : Int) ≤ ((N - 1 : Nat) : Int) ∧ ((N - 1 : Nat) : Int) < N := by omega
    have t0 := s13.cel T2 0 0 rfl
    simp only [Nat.zero_add] at t0
    have s14 := s13.alloc (c := [.int .u64 xl.1, .int .u64 xl.2.1, .bool xl.2.2]) (t := 81)
    obtain ⟨V, hV⟩ : ∃ V, w12.heap.size = V := ⟨_, rfl⟩
    rw [hV] at s14
    have tt := s14.cel T2 0 0 rfl
    simp only [Nat.zero_add] at tt
    replace ge := aside ge
    replace hxl2 := aside hxl2
    go_wp2
    clear s13 tt t0 g3 hat q0 q1 q2 ei eb
    go_loopg [20] N (fun p v20 w' => v20 = .int .i64 ((p : Int) - 1) ∧ ∃ (J : Nat) (x : SegM), Aside (segs[J]? = some x) ∧ Aside (p = N ∧ J = N - 1 ∨ p < N ∧ J = p) ∧ Aside (∀ j' y, J < j' → segs[j']? = some y → y.2.1 = 0) ∧ Sat W w' H11 (cellsH ⟨V, 0, none⟩ [.int .u64 x.1, .int .u64 x.2.1, .bool x.2.2] :: cellsH ⟨T2, 0, none⟩ [.slice (some ⟨b', o', none⟩) N c2', .int .u64 0, .int .u64 0] :: h2 :: h11 :: (ramL ⟨mb, 0, none⟩ (r11, none) ++ (diskL ⟨db, 0, none⟩ d11 ++ (diskL ⟨cp, 0, none⟩ d10 ++ [])))))
    case atStart => exact ⟨by congr 1; omega, N - 1, xl, hxl2, aside (.inl ⟨rfl, rfl⟩), aside (fun j' y hj hy => by have := (List.getElem?_eq_some_iff.1 hy).1; rw [hN.out] at this; omega), s14⟩
    clear s14
    case round =>
      obtain ⟨rfl, J, x, hxJ, hJ, hz0, t⟩ := hrel
      have v0 := t.cel V 0 0 rfl
      have v1 := t.cel V 0 1 rfl
      have v2 := t.cel V 0 2 rfl
      simp only [Nat.zero_add] at v0 v1 v2
      have t0 := t.cel T2 0 0 rfl
      simp only [Nat.zero_add] at t0
      have hgx := hgood.out x (List.mem_of_getElem? hxJ.out)
      by_cases hl : x.2.1 = 0
      · by_cases hp : 0 < gk
        · obtain ⟨K, rfl⟩ : ∃ K, gk = K + 1 := ⟨gk - 1, by omega⟩
          have e1 : (((K + 1 : Nat) : Int) - 1) = (K : Int) := by omega
          rw [e1]
          have hKN : K < N := by rcases hJ.out with h | h <;> omega
          have eK : (0 : Int) ≤ K ∧ (K : Int) < N := by omega
          have ewK : IntKind.i64.wrap ((K : Int) - 1) = K - 1 := by simp [IntKind.wrap, IntKind.bits, IntKind.signed]; omega
          obtain ⟨b'', o'', e2, q0, q1, q2⟩ := ge.out wr _ t (by simp) K (by rw [hN.out]; exact hKN)
          injection e2 with e2
          injection e2 with e4 e5
          subst e4 e5
          obtain ⟨y, hy⟩ : ∃ y, segs[K]'(by rw [hN.out]; exact hKN) = y := ⟨_, rfl⟩
          have hyK : segs[K]? = some y := by rw [List.getElem?_eq_getElem (by rw [hN.out]; exact hKN), hy]
          rw [hy] at q0 q1 q2
          have t8 := ((t.s0 (.int .u64 y.1)).s 1 (by simp) (.int .u64 y.2.1)).s 2 (by simp) (.bool y.2.2)
          simp only [List.set_cons_succ, List.set_cons_zero, Nat.zero_add] at t8
          have hz1 := aside (show ∀ j' z, K < j' → segs[j']? = some z → z.2.1 = 0 from fun j' z hj hzz => by
            rcases hJ.out with ⟨h1, h2⟩ | ⟨h1, h2⟩
            · have := (List.getElem?_eq_some_iff.1 hzz).1
              rw [hN.out] at this
              omega
            · by_cases h3 : j' = J
              · subst h3
                have := hxJ.out
                rw [hzz] at this
                rw [Option.some.inj this]; exact hl
              · exact hz0.out j' z (by omega) hzz)
          replace hyK := aside hyK
          rw [hl] at v1
          clear hy e1 hl hp hgx hJ hz0 hxJ
          go_wp2
          go_roundg K
          case measure => omega
          case rel => exact ⟨rfl, K, y, hyK, aside (.inr ⟨hKN, rfl⟩), hz1, t8⟩
        · exfalso
          obtain rfl : gk = 0 := by omega
          have hJ0 : J = 0 := by rcases hJ.out with h | h <;> omega
          subst hJ0
          have hw0 := wsum_zero (l := segs) (fun y hy _ => by
            obtain ⟨i, hi⟩ := List.getElem?_of_mem hy
            by_cases h3 : i = 0
            · subst h3
              have := hxJ.out
              rw [hi] at this
              rw [Option.some.inj this]; exact hl
            · exact hz0.out i y (by omega) hi)
          have := hw1.out
          omega
      · have hxw : x.2.2 = true := last_write hord.out hw1.out hxJ.out hz0.out
        have hv := scP_last (ST := ST) (l := segs) (beg := 0) (m := m1) (fun y hy => (hgood.out y hy).2.1) (Int.le_refl 0) hxJ.out (by omega) hxw hz0.out
        rw [Int.zero_add, ← hm11.out] at hv
        have hld := aside (show ofB (rdB r11.mem (x.1 + x.2.1 - 1) (1 : Int).toNat) = ST by
          show ofB (rdB r11.mem (x.1 + x.2.1 - 1) 1) = ST
          simp only [rdB, ofB, List.nil_append, Int.mul_zero, Int.add_zero]
          rw [show x.1 + x.2.1 - 1 + ((0 : Nat) : Int) = x.1 + x.2.1 - 1 by omega, hv])
        have hhas := aside (show sizedP 1 ∧ r11.has (x.1 + x.2.1 - 1) 1 from ⟨.inl rfl, by have := hgx.1; unfold hasP at this; unfold RamG.has; rw [hz11'.out]; omega⟩)
        have hab := aside (show 0 ≤ x.1 + x.2.1 - 1 ∧ x.1 + x.2.1 - 1 ≤ 18446744073709551615 by have := hgx.1; unfold hasP at this; omega)
        have ew1 : IntKind.u64.wrap (x.1 + x.2.1) = x.1 + x.2.1 := by have := hgx.1; unfold hasP at this; rw [wrap_u64]; omega
        have ew2 : IntKind.u64.wrap (x.1 + x.2.1 - 1) = x.1 + x.2.1 - 1 := by have := hgx.1; unfold hasP at this; rw [wrap_u64]; omega
        have eST : IntKind.u64.wrap ST = ST := by rw [wrap_u64]; omega
        have eST2 : (ST == ST) = true := by simp
        have hrow : RowR wr (some ⟨bl, ol, none⟩) [.int .u32 KD, .int .u64 SC, .int .u8 ST, .int .u32 CT] := by
          have := own12.out.row0 (Sat.pull (h := h11) t).head 4
          exact this
        obtain ⟨bl2, ol2, e2, hat⟩ := hrow (by simp)
        injection e2 with e2
        injection e2 with e4 e5
        subst e4 e5
        have g0 := hat 0 _ rfl
        have g2 := hat 2 _ rfl
        simp only [Nat.add_zero] at g0
        have sD : Sat W wr H11 (diskL ⟨db, 0, none⟩ d11 ++ (diskL ⟨cp, 0, none⟩ d10 ++ [])) := t.wk
        clear hat hv hgx hJ hz0
        by_cases hp : (0 : Int) ≤ (gk : Int) - 1
        · skip
          have hD2 := aside (show ¬ (ST = 0 ∧ KD = 1) → sameD d11 d10 = true from fun h => hD.out.elim (fun h2 => absurd h2 h) id)
          replace hld := hld
          go_wp2_with fail
          refine c_ramLoad t (x.1 + x.2.1 - 1) 1 hab.out (by omega) (fun h => absurd hhas.out h) (fun _ => ?_)
          rw [hld.out]
          clear t v0 v1 v2 t0 ew1 ew2
          by_cases c1 : ST = 0
          · subst c1
            by_cases c2 : KD = 1
            · subst c2
              go_wp2
              go_ret
              exact ⟨rfl, hX ▸ sD.below⟩
            · have hsm := aside (hD2.out (fun h => c2 h.2))
              go_wp2_with fail
              refine c_diskSame sD ?_
              intro w16 s16
              rw [hsm.out]
              clear sD
              go_wp2
              go_ret
              exact ⟨rfl, hX ▸ s16.below⟩
          · have hsm := aside (hD2.out (fun h => c1 h.1))
            go_wp2_with fail
            refine c_diskSame sD ?_
            intro w16 s16
            rw [hsm.out]
            clear sD
            go_wp2
            go_ret
            exact ⟨rfl, hX ▸ s16.below⟩
        · skip
          have hD2 := aside (show ¬ (ST = 0 ∧ KD = 1) → sameD d11 d10 = true from fun h => hD.out.elim (fun h2 => absurd h2 h) id)
          replace hld := hld
          go_wp2_with fail
          refine c_ramLoad t (x.1 + x.2.1 - 1) 1 hab.out (by omega) (fun h => absurd hhas.out h) (fun _ => ?_)
          rw [hld.out]
          clear t v0 v1 v2 t0 ew1 ew2
          by_cases c1 : ST = 0
          · subst c1
            by_cases c2 : KD = 1
            · subst c2
              go_wp2
              go_ret
              exact ⟨rfl, hX ▸ sD.below⟩
            · have hsm := aside (hD2.out (fun h => c2 h.2))
              go_wp2_with fail
              refine c_diskSame sD ?_
              intro w16 s16
              rw [hsm.out]
              clear sD
              go_wp2
              go_ret
              exact ⟨rfl, hX ▸ s16.below⟩
          · have hsm := aside (hD2.out (fun h => c1 h.1))
            go_wp2_with fail
            refine c_diskSame sD ?_
            intro w16 s16
            rw [hsm.out]
            clear sD
            go_wp2
            go_ret
            exact ⟨rfl, hX ▸ s16.below⟩
end Go.Proofs.Ytiibiamobkhlbaa
