/-
  DISK's laws: what was written is read, and changes no other sector (DiskBack returns true for every script and every request).
-/
import Derived.Test.YtohccblfnjampaaVej
import Derived.Test.YtohccblfnjampaaVcs
namespace Go.Proofs.Ytohccblfnjampaa
open Go.RowKit
set_option linter.unusedVariables false
set_option linter.unusedSimpArgs false

theorem rdB_putB_same (m : Int → Int) (a : Int) (bs : List Int) : rdB (putB m a bs) a bs.length = bs := by
  apply List.ext_getElem?
  intro i
  rcases Nat.lt_or_ge i bs.length with h | h
  · rw [rdB_get _ _ _ _ h]
    unfold putB
    rw [if_pos (by omega), show (a + (i : Int) - a).toNat = i by omega, List.getElem?_eq_getElem h]
    rfl
  · rw [List.getElem?_eq_none (by rw [rdB_len]; exact h), List.getElem?_eq_none h]

theorem rdB_putB_out (m : Int → Int) (a b : Int) (bs : List Int) (n : Nat) (h : b + n ≤ a ∨ a + bs.length ≤ b) : rdB (putB m a bs) b n = rdB m b n := by
  apply List.ext_getElem?
  intro i
  rcases Nat.lt_or_ge i n with hi | hi
  · rw [rdB_get _ _ _ _ hi, rdB_get _ _ _ _ hi]
    unfold putB
    congr 1
    split
    · rw [List.getElem?_eq_none (by omega)]; rfl
    · rfl
  · rw [List.getElem?_eq_none (by rw [rdB_len]; exact hi), List.getElem?_eq_none (by rw [rdB_len]; exact hi)]

set_option maxRecDepth 100000 in
set_option maxHeartbeats 4000000 in
theorem law_DiskBack (W : World) {v0 : Value} {cs1 : Array Value} {os : List OpD} {o : OpD} (e0 : sliceE opdE 4 (look W) os [v0]) (e1 : opdE (look W) o cs1.toList) :
    Calls Try.prog 6 #[v0, .agg cs1] W fun e w' => e = .returned (.bool true) ∧ Below W.heap.size W w' := by
  obtain ⟨_, hv1, e0⟩ := e0
  obtain rfl := (List.cons.inj hv1).1
  clear hv1
  obtain ⟨dv, hcs, rd1⟩ := e1
  obtain rfl : cs1 = (o.vals dv).toArray := Array.ext' hcs
  clear hcs
  obtain ⟨D, dc, rfl, rd1⟩ := rd1.open_
  have s0 := (Sat.start W).alloc (c := o.vals (.slice D o.data.length dc)) (t := 71)
  obtain ⟨Z, hZ⟩ : ∃ Z, W.heap.size = Z := ⟨_, rfl⟩
  rw [hZ] at s0
  simp only [OpD.vals] at s0
  go_enter Try.func6, Try.ntmps6
  simp only [OpD.vals]
  go_wp2_with fail
  refine c_diskAwake s0 ?_; intro w1 s1
  go_wp2_with fail
  refine c_lawDPlayed s1 false e0 ?_ ?_
  · intro w2 H2 B N c lk f q fl le s2
    have s3 := s2.alloc (c := [.slice B N c, .bool lk, .int .u64 f, .int .u64 q, .int .u64 fl]) (t := 51)
    clear s1 s0 s2
    go_wp2
    go_ret
    exact ⟨rfl, hZ ▸ s3.below⟩
  · intro w2 H2 v2 b d le hc rf s2
    obtain ⟨B, N, c, lk, f, q, fl, rfl⟩ := rf.shape
    have s3 := s2.alloc (c := [.slice B N c, .bool lk, .int .u64 f, .int .u64 q, .int .u64 fl]) (t := 51)
    have rd := rd1.mono u8E_mono le
    have z0 := s3.cel Z 0 0 rfl
    have z1 := s3.cel Z 0 1 rfl
    have z2 := s3.cel Z 0 2 rfl
    have z3 := s3.cel Z 0 3 rfl
    simp only [Nat.zero_add] at z0 z1 z2 z3
    replace hc := aside hc
    clear s1 s2 s0 rf
    go_wp2_with fail
    refine c_smallD s3 o rd ?_
    intro w4 s4
    by_cases hsm : o.small
    · rw [decide_eq_true hsm]
      have hdb := rd.bytes
      clear s3
      go_wp2_with fail
      refine c_diskFail s4 0 (by omega) ?_
      intro w5 s5
      obtain ⟨d1, hd1⟩ : ∃ d1, d.failing 0 (by omega) = d1 := ⟨_, rfl⟩
      rw [hd1] at s5
      have hc1 : d1.count = 4 := by rw [← hd1]; exact hc.out.1
      have hf1 : d1.fault = 0 := by rw [← hd1]; rfl
      clear hd1 s4
      go_wp2_with fail
      refine c_diskCopy s5 ?_
      intro w6 g dg lk6 hm6 s6
      have z0 := s6.cel Z 0 0 rfl
      have z1 := s6.cel Z 0 1 rfl
      have z2 := s6.cel Z 0 2 rfl
      have z3 := s6.cel Z 0 3 rfl
      simp only [Nat.zero_add] at z0 z1 z2 z3
      replace hc1 := aside hc1
      replace hf1 := aside hf1
      replace lk6 := aside lk6
      replace hm6 := aside hm6
      replace hsm := aside hsm
      clear s5
      go_wp2_with fail
      refine c_over s6 o.kind o.at' o.n ⟨hsm.out.1, hsm.out.2.1⟩ rd (by have := hsm.out.1; have h4 := hsm.out.2.2.2; rw [show o.n = ((o.n.toNat : Nat) : Int) by omega] at h4; exact_mod_cast h4) ?_
      intro w7 v7 h7 own7 s7
      obtain ⟨ds, hds⟩ : ∃ ds, overL o.data o.n.toNat = ds := ⟨_, rfl⟩
      rw [hds] at own7
      have hob : ∀ x ∈ ds, 0 ≤ x ∧ x ≤ 255 := by rw [← hds]; exact overL_bd hdb _
      have hl7 : ds.length ≤ 4096 := by
        rw [← hds, overL_len]
        have h1 := hsm.out.1; have h4 := hsm.out.2.2.2; rw [show o.n = ((o.n.toNat : Nat) : Int) by omega] at h4; exact_mod_cast h4
      have s8 := s7.freeze
      have rd8 := (own7.rd hob).mono u8E_mono (Sat.frozenD s7)
      obtain ⟨H8, hH8⟩ : ∃ H8, un H2 h7 = H8 := ⟨_, rfl⟩
      rw [hH8] at s8 rd8
      obtain ⟨O7, oc7, rfl, rd8⟩ := rd8.open_
      have z1 := s8.cel Z 0 1 rfl
      simp only [Nat.zero_add] at z1
      have ha := o.ha
      obtain ⟨at', hat⟩ : ∃ at', o.at' = at' := ⟨_, rfl⟩
      obtain ⟨nn, hnn⟩ : ∃ nn, o.n = nn := ⟨_, rfl⟩
      obtain ⟨kd, hkd⟩ : ∃ kd, o.kind = kd := ⟨_, rfl⟩
      rw [hat] at ha
      simp only [hat, hnn, hkd] at s8 z1 ⊢
      have ecn := aside (show oc7 ≤ 9223372036854775807 from rd8.u8.2.2.1)
      replace hds := aside hds
      replace hob := aside hob
      replace hl7 := aside hl7
      clear own7 s7 s6 z0 z2 z3 rd1 rd hat hnn hkd hsm hdb hH8
      by_cases hw : wrC d1 at' ds.length = 0
      · have hwp : pieceC d1.count at' ds.length = 0 ∧ d1.locked = false := by
          unfold wrC at hw
          rw [hf1.out, if_neg (by omega)] at hw
          split at hw
          · cases hw
          · rename_i h; exact ⟨hw, by simpa using h⟩
        have hp := pieceC_ok hwp.1
        rw [hc1.out] at hp
        replace hw := aside hw
        replace hwp := aside hwp
        replace hp := aside hp
        go_wp2_with fail
        refine c_diskWriteOk s8 at' ha rd8 (by rw [hf1.out]; omega) hwp.out.2 hwp.out.1 ?_
        intro w9 d9 lk9 hm9 s9
        have hc9 := aside (show d9.count = 4 from lk9.count.trans hc1.out)
        have hf9 := aside (show d9.fault = 0 by rw [lk9.fault]; show nextF d1.fault = 0; rw [hf1.out]; rfl)
        have hcg := aside (show dg.count = 4 from lk6.out.count.trans hc1.out)
        replace hm9 := aside hm9
        have z1 := s9.cel Z 0 1 rfl
        simp only [Nat.zero_add] at z1
        clear s8
        obtain ⟨N, hN⟩ : ∃ N, ds.length = N := ⟨_, rfl⟩
        rw [hN] at hl7 rd8 hp hwp
        replace hN := aside hN
        have eN : IntKind.u64.wrap (N : Int) = N := by rw [wrap_u64]; have := hl7.out; omega
        rw [hN.out]
        go_wp2_with fail
        refine c_diskReadOk s9 at' N ha (by have := hl7.out; omega) (by rw [hf9.out]; omega) (by rw [hc9.out, ← hc1.out]; exact hwp.out.1) ?_
        intro w10 v10 h10 own10 s10
        rw [Int.toNat_natCast] at own10
        have e10 : rdB d9.mem (512 * at') N = ds := by rw [hm9.out, ← hN.out]; exact rdB_putB_same ..
        rw [e10, ← hN.out] at own10
        obtain ⟨d10, hd10⟩ : ∃ d10, d9.asked = d10 := ⟨_, rfl⟩
        have hc10 := aside (show d10.count = 4 by rw [← hd10]; exact hc9.out)
        have hm10 := aside (show d10.mem = putB d1.mem (512 * at') ds by rw [← hd10]; exact hm9.out)
        rw [hd10] at s10
        clear s9 e10 hd10 hf9
        go_wp2_with fail
        refine c_Bytes s10.head s10.ro (own10.rd hob.out) rd8 ?_
        intro n11
        rw [decide_eq_true rfl]
        have s11 := (s10.drewN n11).tail1
        generalize World.drewN w10 n11 = w11 at s11 ⊢
        obtain ⟨O10, oc10, rfl⟩ : ∃ O10 oc10, v10 = .slice O10 N oc10 := by rw [← hN.out]; obtain ⟨A, c, _, rfl, _⟩ := own10; exact ⟨A, c, rfl⟩
        clear s10 own10 z1
        go_wp2
        go_loopg [12] 4 (fun q v12 w' => ∃ (i : Nat), q + i = 4 ∧ v12 = .int .u64 i ∧ Sat W w' H8 (diskL ⟨b, 0, none⟩ d10 ++ (diskL ⟨g, 0, none⟩ dg ++ (cellsH ⟨Z, 0, none⟩ [.int .i64 kd, .int .u64 at', .int .i64 nn, .slice D o.data.length dc] :: []))))
        case atStart => exact ⟨0, rfl, rfl, s11.wk⟩
        clear s11
        case round =>
          obtain ⟨i, hq, rfl, s'⟩ := hrel
          have ei1 : IntKind.u64.wrap ((i : Int) + 1) = (i : Int) + 1 := by rw [wrap_u64]; omega
          by_cases hi : i < 4
          · have hi2 : (i : Int) < 4 := by omega
            go_wp2_with fail
            refine c_diskSector (b := g) (d := dg) s' i (by omega) (fun h => absurd h (by rw [hcg.out]; omega)) ?_
            intro _ w12 x12 h12 own12 s12
            go_wp2_with fail
            refine c_diskSector (b := b) (d := d10) s12 i (by omega) (fun h => absurd h (by rw [hc10.out]; omega)) ?_
            intro _ w13 y13 h13 own13 s13
            have z1 := s13.cel Z 0 1 rfl
            simp only [Nat.zero_add] at z1
            have hq2 := aside (show gk - 1 + (i + 1) = 4 ∧ gk - 1 < gk by omega)
            replace hq := aside hq
            clear s' s12
            have hm12 := hm6.out
            have hm13 := hm10.out
            obtain ⟨X12, hX12⟩ : ∃ X, rdB dg.mem (512 * (i : Int)) 512 = X := ⟨_, rfl⟩
            obtain ⟨X13, hX13⟩ : ∃ X, rdB d10.mem (512 * (i : Int)) 512 = X := ⟨_, rfl⟩
            have hb12 := aside (show ∀ x ∈ X12, 0 ≤ x ∧ x ≤ 255 by rw [← hX12]; exact rdB_bd dg.hmem _ _)
            have hb13 := aside (show ∀ x ∈ X13, 0 ≤ x ∧ x ≤ 255 by rw [← hX13]; exact rdB_bd d10.hmem _ _)
            rw [hX12] at own12
            rw [hX13] at own13
            have hl12 : X12.length = 512 := by rw [← hX12]; exact rdB_len ..
            have hl13 : X13.length = 512 := by rw [← hX13]; exact rdB_len ..
            have r12 := aside (show Rd u8E 1 h12 x12 X12 from own12.rd hb12.out)
            have r13 := aside (show Rd u8E 1 h13 y13 X13 from own13.rd hb13.out)
            clear own12 own13 hb12 hb13 hl12 hl13
            by_cases h1 : (i : Int) < at'
            · have hsame : X12 = X13 := by rw [← hX12, ← hX13, hm13, hm12, rdB_putB_out _ _ _ _ _ (by omega)]
              clear hm12 hm13 hX12 hX13
              have hsm := aside hsame
              clear hsame
              go_wp2_with fail
              · have hsame := hsm.out
                refine c_Bytes (Sat.pull (h := h12) s13).head (Sat.pull (h := h13) s13).head r12.out r13.out ?_
                intro n14
                rw [decide_eq_true hsame]
                have s14 := (show Sat W (World.drewN w13 n14) H8 (diskL ⟨b, 0, none⟩ d10 ++ (diskL ⟨g, 0, none⟩ dg ++ (cellsH ⟨Z, 0, none⟩ [.int .i64 kd, .int .u64 at', .int .i64 nn, .slice D o.data.length dc] :: []))) from (s13.drewN n14).wk)
                generalize World.drewN w13 n14 = w14 at s14 ⊢
                clear s13 hsame z1
                go_wp2
                go_roundg (gk - 1)
                case measure => exact hq2.out.2
                case rel => exact ⟨i + 1, hq2.out.1, by go_num, s14⟩
            · have h1' : at' ≤ (i : Int) := by omega
              obtain ⟨Dv, hDv⟩ : ∃ Dv, (i : Int) - at' = Dv := ⟨_, rfl⟩
              have ew : IntKind.u64.wrap ((i : Int) - at') = Dv := by rw [wrap_u64]; omega
              obtain ⟨M, hM⟩ : ∃ M : Nat, N = 512 * M := ⟨N / 512, by have := hp.out.1; omega⟩
              have hM2 : (N : Int) / 512 = M := by omega
              have eMw : IntKind.u64.wrap (M : Int) = M := by rw [wrap_u64]; have := hl7.out; omega
              replace hM := aside hM
              by_cases h2 : Dv < M
              · clear hm12 hm13 hX12 hX13
                replace hDv := aside hDv
                have s14 := (show Sat W w13 H8 (diskL ⟨b, 0, none⟩ d10 ++ (diskL ⟨g, 0, none⟩ dg ++ (cellsH ⟨Z, 0, none⟩ [.int .i64 kd, .int .u64 at', .int .i64 nn, .slice D o.data.length dc] :: []))) from s13.wk)
                clear s13
                go_wp2
                go_roundg (gk - 1)
                case measure => exact hq2.out.2
                case rel => exact ⟨i + 1, hq2.out.1, by go_num, s14⟩
              · have hsame : X12 = X13 := by rw [← hX12, ← hX13, hm13, hm12, rdB_putB_out _ _ _ _ _ (by have := hN.out; have := hM.out; omega)]
                have hsm := aside hsame
                replace hDv := aside hDv
                clear hsame hm12 hm13 hX12 hX13
                go_wp2_with fail
                have hsame := hsm.out
                refine c_Bytes (Sat.pull (h := h12) s13).head (Sat.pull (h := h13) s13).head r12.out r13.out ?_
                intro n14
                rw [decide_eq_true hsame]
                have s14 := (show Sat W (World.drewN w13 n14) H8 (diskL ⟨b, 0, none⟩ d10 ++ (diskL ⟨g, 0, none⟩ dg ++ (cellsH ⟨Z, 0, none⟩ [.int .i64 kd, .int .u64 at', .int .i64 nn, .slice D o.data.length dc] :: []))) from (s13.drewN n14).wk)
                generalize World.drewN w13 n14 = w14 at s14 ⊢
                clear s13 hsame z1
                go_wp2
                go_roundg (gk - 1)
                case measure => exact hq2.out.2
                case rel => exact ⟨i + 1, hq2.out.1, by go_num, s14⟩
          · obtain rfl : i = 4 := by omega
            go_wp2
            go_ret
            exact ⟨rfl, hZ ▸ s'.below⟩
      · replace hw := aside hw
        go_wp2_with fail
        refine c_diskWriteBad s8 at' ha rd8 hw.out ?_
        intro w9 s9
        have hw2 := hw.out
        obtain ⟨e9, he9⟩ : ∃ e9, wrC d1 at' ds.length = e9 := ⟨_, rfl⟩
        rw [he9] at hw2 ⊢
        clear s8 z1 hw he9
        go_wp2
        go_ret
        exact ⟨rfl, hZ ▸ s9.below⟩
    · rw [decide_eq_false hsm]
      clear s3
      go_wp2
      go_ret
      exact ⟨rfl, hZ ▸ s4.below⟩
end Go.Proofs.Ytohccblfnjampaa
