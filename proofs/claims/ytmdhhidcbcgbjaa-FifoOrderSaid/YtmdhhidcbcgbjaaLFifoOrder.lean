/-
  FifoOrder returns true for every room, every puts and takes; no condition.
-/
import Derived.Test.YtmdhhidcbcgbjaaVft
import Derived.Test.YtmdhhidcbcgbjaaLFifoRooms
namespace Go.Proofs.Ytmdhhidcbcgbjaa
open Go.RowKit
set_option linter.unusedVariables false

def bytesE : El (List Int) := fun h xs vs => ∃ v, vs = [v] ∧ Rd u8E 1 h v xs

theorem bytesE_mono : ElMono bytesE := fun _ _ _ _ le ⟨v, h1, h2⟩ => ⟨v, h1, h2.mono u8E_mono le⟩

set_option maxRecDepth 100000 in
set_option maxHeartbeats 4000000 in
theorem law_FifoOrder (W : World) {v0 v1 v2 : Value} {room : Int} {ps : List (List Int)} {ts : List Int} (e0 : intE (look W) room [v0]) (e1 : sliceE bytesE 1 (look W) ps [v1]) (e2 : sliceE intE 1 (look W) ts [v2]) :
    Calls Try.prog 6 #[v0, v1, v2] W fun e w' => e = .returned (.bool true) ∧ Below W.heap.size W w' := by
  obtain ⟨h0, a0, b0⟩ := e0
  obtain rfl : v0 = _ := List.cons.inj h0 |>.1
  clear h0
  obtain ⟨_, hv1, e1⟩ := e1
  obtain rfl := (List.cons.inj hv1).1
  clear hv1
  obtain ⟨_, hv2, e2⟩ := e2
  obtain rfl := (List.cons.inj hv2).1
  clear hv2
  obtain ⟨D, dc, rfl, rd1⟩ := e1.open_
  obtain ⟨E, ec, rfl, rd2⟩ := e2.open_
  obtain ⟨A1, c1, hv1, hc1, hcc1, hat1⟩ := id rd1
  injection hv1 with ea eb ecc
  subst ea ecc
  obtain ⟨A2, c2, hv2, hc2, hcc2, hat2⟩ := id rd2
  injection hv2 with ea eb ecc
  subst ea ecc
  have hl1 : (ps.length : Int) ≤ 9223372036854775807 := by omega
  have hl2 : (ts.length : Int) ≤ 9223372036854775807 := by omega
  clear rd1 rd2 e1 e2
  have s0 := Sat.start W
  by_cases hbad : (room < 1 ∨ 4096 < room) ∨ (30 < (ps.length : Int) ∨ 30 < (ts.length : Int))
  · clear hat1 hat2
    by_cases q1 : room < 1 <;> by_cases q2 : 4096 < room <;> by_cases q3 : 30 < (ps.length : Int) <;> by_cases q4 : 30 < (ts.length : Int)
    all_goals try (exfalso; omega)
    all_goals
      go_enter Try.func6, Try.ntmps6
      go_wp2_with fail
      refine c_fifoAwake s0 ?_; intro w1 s1
      go_wp2
      go_ret
      exact ⟨rfl, s1.below⟩
  · have r1 : 1 ≤ room := by omega
    have r2 : room ≤ 4096 := by omega
    have r3 : (ps.length : Int) ≤ 30 := by omega
    have r4 : (ts.length : Int) ≤ 30 := by omega
    clear hbad
    go_enter Try.func6, Try.ntmps6
    go_wp2_with fail
    refine c_fifoAwake s0 ?_; intro w1 s1
    go_wp2_with fail
    refine c_fifoNew_ok s1 room r1 r2 ?_
    intro w2 f b hx hr hlo hta s2
    clear s1 s0
    go_wp2
    go_loopg [9, 10, 11] (max ps.length ts.length) (fun q v9 v10 v11 w' => ∃ (i : Nat) (f : FifoG) (C G : List Int) (hc hg : Hp), q + i = max ps.length ts.length ∧ v11 = .int .i64 i ∧ OwnS 1 v9 C.length (C.map (Value.int .u8)) hc ∧ OwnS 1 v10 G.length (G.map (Value.int .u8)) hg ∧
      Aside (C = G ++ f.xs) ∧ Aside ((f.room : Int) = room) ∧ Aside (f.taken = (G.length : Int)) ∧ C.length ≤ i * 300 ∧ (∀ x ∈ C, 0 ≤ x ∧ x ≤ 255) ∧ Sat W w' (look W) (hc :: hg :: (fifoL ⟨b, 0, none⟩ f ++ [])))
    case atStart => exact ⟨0, f, [], [], empH, empH, by simp, rfl, OwnS.nil 1, OwnS.nil 1, by show _ = _; rw [hx]; rfl, hr, hta, by simp, by simp, s2.emp.emp.wk⟩
    clear s2 hx hr hlo hta f
    case round =>
      obtain ⟨i, f, C, G, hc, hg, hq, rfl, ownC, ownG, hCG, hr, hta, hCl, hCb, s'⟩ := hrel
      obtain ⟨CA, Cc, Csp, rfl, _⟩ := id ownC
      obtain ⟨GA, Gc, Gsp, rfl, _⟩ := id ownG
      have hGl : G.length ≤ C.length := by rw [hCG.out]; simp
      have hxl : f.xs.length ≤ C.length := by rw [hCG.out]; simp
      have hi30 : i ≤ 30 := by omega
      by_cases hi : i < ps.length
      · obtain ⟨bb, ob, vs, rfl, ⟨dv, rfl, rdv⟩, _, hcell⟩ := hat1 i ps[i] (by simp [hi])
        have hcl := hcell 0 _ rfl
        rw [show ob + i * 1 + 0 = ob + i by omega] at hcl
        have x0 := s'.ro.cell hcl
        generalize ps[i] = ds at *
        obtain ⟨P, pc, rfl, rdw⟩ := rdv.open_
        have hdl : (ds.length : Int) ≤ 9223372036854775807 := by obtain ⟨_, h1, h2, _⟩ := rdw.u8; omega
        have hpc : (ds.length : Int) ≤ pc := by obtain ⟨_, h1, h2, _⟩ := rdw.u8; omega
        have hdb := rdw.bytes
        clear hcell rdv hat1
        by_cases hbig : (ds.length : Int) ≤ 300
        · go_wp2_with fail
          refine c_fifoPut s' s'.ro rdw ?_
          intro w4 f4 n hn hx4 hr4 hlo4 hta4 s4
          have hnl : (n : Int) ≤ ds.length := by omega
          have hnp : (n : Int) ≤ pc := by omega
          have x0 := s4.ro.cell hcl
          have hrow := rdw.row s4.ro n
          have hl4 : f4.xs.length = f.xs.length + n := by rw [hx4]; simp; omega
          have hCG4 := aside (show C ++ ds.take n = G ++ f4.xs by rw [hx4, hCG.out, List.append_assoc])
          have hr4' := aside (show (f4.room : Int) = room by rw [hr4]; exact hr.out)
          have hta4' := aside (show f4.taken = (G.length : Int) by rw [hta4]; exact hta.out)
          have hC4 : ∀ x ∈ C ++ ds.take n, 0 ≤ x ∧ x ≤ 255 := fun x hx => by
            rcases List.mem_append.1 hx with h | h
            · exact hCb x h
            · exact hdb x (List.mem_of_mem_take h)
          have htl : (ds.take n).length = n := by rw [List.length_take]; omega
          replace hn := aside hn
          clear hx4 hr4 hlo4 hta4 s'
          by_cases hj : i < ts.length
          · obtain ⟨bt, ot, vs, rfl, ⟨rfl, hzl, hzh⟩, _, hcell⟩ := hat2 i ts[i] (by simp [hj])
            have hct := hcell 0 _ rfl
            rw [show ot + i * 1 + 0 = ot + i by omega] at hct
            generalize ts[i] = z at *
            clear hcell hat2
            go_wp2_with (at_builtin; refine append8 rfl (.tmp 81) (.tmp 87) rfl rfl ownC s4 rfl (ds.take n) htl hrow (by omega) ?_; intro A5 cap5 w5 h5 o5 s5; have x1 := s5.ro.cell hct)
            have o5' : OwnS 1 (.slice A5 (C.length + n) cap5) (C ++ ds.take n).length ((C ++ ds.take n).map (Value.int .u8)) h5 := by rw [List.length_append, htl, List.map_append]; exact o5
            clear o5 s4 ownC hrow x0
            generalize hCC : C ++ ds.take n = C' at *
            have hC'l : C'.length = C.length + n := by rw [← hCC, List.length_append, htl]
            skip
            replace hCC := aside hCC
            refine c_fifoTake s5 z ?_
            intro w6 v6 h6 m f6 hm own6 hx6 hr6 hlo6 hta6 s6
            obtain ⟨T, tc, tsp, rfl, _⟩ := id own6
            have rd6 := own6.rd (fun x hx => f4.hx x (List.mem_of_mem_take hx))
            have hml : m ≤ f4.xs.length := by omega
            have htl6 : (f4.xs.take m).length = m := by rw [List.length_take]; omega
            have hrow6 := rd6.row (Sat.pull (h := h6) s6).head m
            rw [List.take_of_length_le (by omega)] at hrow6
            have hm9 : m ≤ 9300 := by omega
            replace hm := aside hm
            go_wp2_with (at_builtin; refine append8 rfl (.tmp 93) (.tmp 99) rfl rfl ownG s6 rfl (f4.xs.take m) htl6 hrow6 (by omega) ?_; intro A7 cap7 w7 h7 o7 s7)
            have o7' : OwnS 1 (.slice A7 (G.length + m) cap7) (G ++ f4.xs.take m).length ((G ++ f4.xs.take m).map (Value.int .u8)) h7 := by rw [List.length_append, htl6, List.map_append]; exact o7
            go_roundg (gk - 1)
            case measure => omega
            case rel => exact ⟨i + 1, f6, C', G ++ f4.xs.take m, h5, h7, by omega, by go_num, o5', o7', by show _ = _; rw [hx6, hCG4.out, List.append_assoc, List.take_append_drop], by show _ = _; rw [hr6]; exact hr4'.out, by show _ = _; rw [hta6, hta4'.out, List.length_append, htl6]; omega, by omega, hC4, s7.wk⟩
          · clear hat2
            go_wp2_with (at_builtin; refine append8 rfl (.tmp 81) (.tmp 87) rfl rfl ownC s4 rfl (ds.take n) htl hrow (by omega) ?_; intro A5 cap5 w5 h5 o5 s5)
            have o5' : OwnS 1 (.slice A5 (C.length + n) cap5) (C ++ ds.take n).length ((C ++ ds.take n).map (Value.int .u8)) h5 := by rw [List.length_append, htl, List.map_append]; exact o5
            clear o5 s4 ownC hrow x0
            generalize hCC : C ++ ds.take n = C' at *
            have hC'l : C'.length = C.length + n := by rw [← hCC, List.length_append, htl]
            skip
            replace hCC := aside hCC
            go_roundg (gk - 1)
            case measure => omega
            case rel => exact ⟨i + 1, f4, C', G, h5, hg, by omega, by go_num, o5', ownG, hCG4, hr4', hta4', by omega, hC4, s5.wk⟩
        · go_wp2
          go_ret
          exact ⟨rfl, s'.below⟩
      · by_cases hj : i < ts.length
        · obtain ⟨bt, ot, vs, rfl, ⟨rfl, hzl, hzh⟩, _, hcell⟩ := hat2 i ts[i] (by simp [hj])
          have hct := hcell 0 _ rfl
          rw [show ot + i * 1 + 0 = ot + i by omega] at hct
          have x1 := s'.ro.cell hct
          generalize ts[i] = z at *
          clear hcell hat2 hat1
          go_wp2_with fail
          refine c_fifoTake s' z ?_
          intro w6 v6 h6 m f6 hm own6 hx6 hr6 hlo6 hta6 s6
          obtain ⟨T, tc, tsp, rfl, _⟩ := id own6
          have rd6 := own6.rd (fun x hx => f.hx x (List.mem_of_mem_take hx))
          have hml : m ≤ f.xs.length := by omega
          have htl6 : (f.xs.take m).length = m := by rw [List.length_take]; omega
          have hrow6 := rd6.row (Sat.pull (h := h6) s6).head m
          rw [List.take_of_length_le (by omega)] at hrow6
          have hm9 : m ≤ 9300 := by omega
          replace hm := aside hm
          go_wp2_with (at_builtin; refine append8 rfl (.tmp 93) (.tmp 99) rfl rfl ownG s6 rfl (f.xs.take m) htl6 hrow6 (by omega) ?_; intro A7 cap7 w7 h7 o7 s7)
          have o7' : OwnS 1 (.slice A7 (G.length + m) cap7) (G ++ f.xs.take m).length ((G ++ f.xs.take m).map (Value.int .u8)) h7 := by rw [List.length_append, htl6, List.map_append]; exact o7
          go_roundg (gk - 1)
          case measure => omega
          case rel => exact ⟨i + 1, f6, C, G ++ f.xs.take m, hc, h7, by omega, by go_num, ownC, o7', by show _ = _; rw [hx6, List.append_assoc, List.take_append_drop]; exact hCG.out, by show _ = _; rw [hr6]; exact hr.out, by show _ = _; rw [hta6, hta.out, List.length_append, htl6]; omega, by omega, hCb, s7.wk⟩
        · clear hat1 hat2
          go_wp2_with fail
          refine c_fifoTake s' room ?_
          intro w6 v6 h6 m f6 hm own6 hx6 hr6 hlo6 hta6 s6
          obtain ⟨T, tc, tsp, rfl, _⟩ := id own6
          obtain rfl : m = f.xs.length := by have := f.fits; have := hr.out; omega
          rw [List.take_length] at own6
          rw [List.drop_length] at hx6
          have rd6 := own6.rd f.hx
          have hrow6 := rd6.row (Sat.pull (h := h6) s6).head f.xs.length
          rw [List.take_length] at hrow6
          have hta' : f6.taken = (C.length : Int) := by rw [hta6, hta.out, hCG.out, List.length_append]; omega
          have hx6l : f6.xs.length = 0 := by rw [hx6]; rfl
          clear hta6 hx6 hm
          go_wp2_with (at_builtin; refine append8 rfl (.tmp 101) (.tmp 104) rfl rfl ownG s6 rfl f.xs rfl hrow6 (by omega) ?_; intro A7 cap7 w7 h7 o7 s7)
          have o7' : OwnS 1 (.slice A7 (G.length + f.xs.length) cap7) (G.length + f.xs.length) (C.map (Value.int .u8)) h7 := by rw [hCG.out, List.map_append]; exact o7
          have h63 : IntKind.u64.wrap (C.length : Int) = C.length := by rw [wrap_u64]; omega
          refine c_Bytes (Sat.pull (h := h7) s7).head (Sat.pull (h := hc) s7).head (o7'.rd hCb) (ownC.rd hCb) ?_
          intro n8
          rw [decide_eq_true rfl]
          have s8 := s7.drewN n8
          go_wp2_with fail
          refine c_fifoLen s8 ?_
          rw [hx6l]
          go_wp2_with fail
          refine c_fifoTaken s8 ?_
          rw [hta']
          go_wp2
          go_ret
          exact ⟨rfl, s8.below⟩
end Go.Proofs.Ytmdhhidcbcgbjaa
