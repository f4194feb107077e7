/-
  DISK's laws: a request that is refused leaves all sectors (DiskRefuses returns true for every disk, every script and every request).
-/
import Derived.Test.YtohccblfnjampaaVej
import Derived.Test.YtohccblfnjampaaVcs
namespace Go.Proofs.Ytohccblfnjampaa
open Go.RowKit
set_option linter.unusedVariables false
set_option linter.unusedSimpArgs false

theorem sameD_mem {d o : DiskG} (hc : d.count = o.count) (hm : d.mem = o.mem) : sameD d o = true := by
  unfold sameD underD alikeAt
  simp [hc, hm]

set_option maxRecDepth 100000 in
set_option maxHeartbeats 4000000 in
theorem law_DiskRefuses (W : World) {v0 v1 : Value} {l : Bool} {cs1 : Array Value} {os : List OpD} {o : OpD} (e00 : boolE (look W) l [v0]) (e0 : sliceE opdE 4 (look W) os [v1]) (e1 : opdE (look W) o cs1.toList) :
    Calls Try.prog 7 #[v0, v1, .agg cs1] W fun e w' => e = .returned (.bool true) ∧ Below W.heap.size W w' := by
  obtain rfl : v0 = _ := List.cons.inj e00 |>.1
  clear e00
  obtain ⟨_, hv1, e0⟩ := e0
  obtain rfl := (List.cons.inj hv1).1
  clear hv1
  obtain ⟨dv, hcs, rd1⟩ := e1
  obtain rfl : cs1 = (o.vals dv).toArray := Array.ext' hcs
  clear hcs
  obtain ⟨D, dc, rfl, rd1⟩ := rd1.open_
  have s0 := (Sat.start W).alloc (c := o.vals (.slice D o.data.length dc)) (t := 71)
  obtain ⟨Z, hZ⟩ : ∃ Z, W.heap.size = Z := ⟨_, rfl⟩
  rw [hZ] at s0
  simp only [OpD.vals] at s0
  go_enter Try.func7, Try.ntmps7
  simp only [OpD.vals]
  go_wp2_with fail
  refine c_diskAwake s0 ?_; intro w1 s1
  go_wp2_with fail
  refine c_lawDPlayed s1 l e0 ?_ ?_
  · intro w2 H2 B N c lk f q fl le s2
    have s3 := s2.alloc (c := [.slice B N c, .bool lk, .int .u64 f, .int .u64 q, .int .u64 fl]) (t := 51)
    clear s1 s0 s2
    go_wp2
    go_ret
    exact ⟨rfl, hZ ▸ s3.below⟩
  · intro w2 H2 v2 b d le hc rf s2
    obtain ⟨B, N, c, lk, f, q, fl, rfl⟩ := rf.shape
    have s3 := s2.alloc (c := [.slice B N c, .bool lk, .int .u64 f, .int .u64 q, .int .u64 fl]) (t := 51)
    have rd := rd1.mono u8E_mono le
    have z0 := s3.cel Z 0 0 rfl
    have z1 := s3.cel Z 0 1 rfl
    have z2 := s3.cel Z 0 2 rfl
    have z3 := s3.cel Z 0 3 rfl
    simp only [Nat.zero_add] at z0 z1 z2 z3
    replace hc := aside hc
    clear s1 s2 s0 rf
    go_wp2_with fail
    refine c_smallD s3 o rd ?_
    intro w4 s5
    by_cases hsm : o.small
    · rw [decide_eq_true hsm]
      have hdb := rd.bytes
      have hc1 := hc
      clear s3
      go_wp2_with fail
      refine c_diskCopy s5 ?_
      intro w6 g dg lk6 hm6 s6
      have z0 := s6.cel Z 0 0 rfl
      have z1 := s6.cel Z 0 1 rfl
      have z2 := s6.cel Z 0 2 rfl
      have z3 := s6.cel Z 0 3 rfl
      simp only [Nat.zero_add] at z0 z1 z2 z3
      replace lk6 := aside lk6
      replace hm6 := aside hm6
      replace hsm := aside hsm
      clear s5
      go_wp2_with fail
      refine c_diskRequests s6 ?_
      obtain ⟨rq, hrq⟩ : ∃ rq, d.reqs = rq := ⟨_, rfl⟩
      rw [hrq]
      replace hrq := aside hrq
      obtain ⟨ds, hds⟩ : ∃ ds, overL o.data o.n.toNat = ds := ⟨_, rfl⟩
      have hob : ∀ x ∈ ds, 0 ≤ x ∧ x ≤ 255 := by rw [← hds]; exact overL_bd hdb _
      have ha := o.ha
      have smA := hsm.out.1
      have smB := hsm.out.2.1
      have smC : o.n.toNat * o.data.length ≤ 4096 := by have h4 := hsm.out.2.2.2; rw [show o.n = ((o.n.toNat : Nat) : Int) by omega] at h4; exact_mod_cast h4
      have hl7 : ds.length ≤ 4096 := by rw [← hds, overL_len]; exact smC
      obtain ⟨at', hat'⟩ : ∃ at', o.at' = at' := ⟨_, rfl⟩
      obtain ⟨nn, hnn⟩ : ∃ nn, o.n = nn := ⟨_, rfl⟩
      obtain ⟨kd, hkd⟩ : ∃ kd, o.kind = kd := ⟨_, rfl⟩
      rw [hat'] at ha
      rw [hnn] at smA smB smC hds
      simp only [hat', hnn, hkd] at s6 ⊢
      replace hds := aside hds
      replace hob := aside hob
      replace hl7 := aside hl7
      replace smA := aside smA
      replace smB := aside smB
      replace smC := aside smC
      clear z0 z1 z2 z3 rd1 hat' hnn hkd hsm hdb
      obtain ⟨rq1, hrq1⟩ : ∃ rq1, upQ d.reqs = rq1 := ⟨_, rfl⟩
      have erq : IntKind.u64.wrap (rq + 1) = rq1 := by rw [wrap_u64, ← hrq1, hrq.out]; rfl
      replace hrq1 := aside hrq1
      have s6d := s6.drew
      have g6 := (And.intro ((s6d.cel Z 0 0 rfl).1) (And.intro ((s6d.cel Z 0 1 rfl).1) (And.intro ((s6d.cel Z 0 2 rfl).1) ((s6d.cel Z 0 3 rfl).1))))
      simp only [Nat.zero_add, Nat.add_zero] at g6
      have le2 := le
      replace le2 := aside le2
      clear s6
      by_cases hw : wrC d at' ds.length = 0
      · have hwp : d.fault ≠ 1 ∧ pieceC d.count at' ds.length = 0 ∧ d.locked = false := by
          unfold wrC at hw
          split at hw
          · cases hw
          · rename_i h1
            split at hw
            · cases hw
            · rename_i h; exact ⟨h1, hw, by simpa using h⟩
        have hp := pieceC_ok hwp.2.1
        replace hw := aside hw
        replace hwp := aside hwp
        replace hp := aside hp
        go_wp2
        go_region_held3 (fun w' => w'.cell? ⟨Z, 0, none⟩ = some (.int .i64 kd) ∧ w'.cell? ⟨Z, 1, none⟩ = some (.int .u64 at') ∧ w'.cell? ⟨Z, 2, none⟩ = some (.int .i64 nn) ∧ w'.cell? ⟨Z, 3, none⟩ = some (.slice D o.data.length dc))
          (first
            | with_reducible exact g6
            | with_reducible exact g8
            | with_reducible exact g9)
          (first
            | (go_at_call 41; with_reducible (refine c_over s6d kd at' nn ⟨smA.out, smB.out⟩ rd smC.out ?_); intro w7 v7 h7 own7 s7
               rw [hds.out] at own7
               have s8 := s7.freeze
               have rd8 := (own7.rd hob.out).mono u8E_mono (Sat.frozenD s7)
               have le8 := aside (show ∀ l c, H2 l = some c → un H2 h7 l = some c from un_leftD)
               generalize un H2 h7 = H8 at s8 rd8 le8
               obtain ⟨O7, oc7, rfl, rd8⟩ := rd8.open_
               have ecn := aside (show oc7 ≤ 9223372036854775807 from rd8.u8.2.2.1)
               have g8 := (And.intro ((s8.cel Z 0 0 rfl).1) (And.intro ((s8.cel Z 0 1 rfl).1) (And.intro ((s8.cel Z 0 2 rfl).1) ((s8.cel Z 0 3 rfl).1))))
               simp only [Nat.zero_add, Nat.add_zero] at g8
               clear own7 s7)
            | (go_at_call 42; with_reducible (refine c_diskWriteOk s8 at' ha rd8 hwp.out.1 hwp.out.2.2 hwp.out.2.1 ?_); intro w9 d9 lk9 hm9 s9
               have g9 := (And.intro ((s9.cel Z 0 0 rfl).1) (And.intro ((s9.cel Z 0 1 rfl).1) (And.intro ((s9.cel Z 0 2 rfl).1) ((s9.cel Z 0 3 rfl).1))))
               simp only [Nat.zero_add, Nat.add_zero] at g9
               have arm : True := trivial))
        all_goals
          have hrq9 := aside (show d9.reqs = rq1 by rw [lk9.reqs]; exact hrq1.out)
          have hlk9 : l = false := hc.out.2.symm.trans hwp.out.2.2
          replace hm9 := aside hm9
          replace lk9 := aside lk9
          replace hlk9 := aside hlk9
          clear s8 g6 g8 g9 s6d
          have z0 := s9.cel Z 0 0 rfl
          have z1 := s9.cel Z 0 1 rfl
          have z2 := s9.cel Z 0 2 rfl
          have z3 := s9.cel Z 0 3 rfl
          simp only [Nat.zero_add] at z0 z1 z2 z3
          go_wp2_with fail
          refine c_diskRequests s9 ?_
          rw [hrq9.out, hlk9.out]
          have rdo := rd.mono u8E_mono le8.out
          go_wp2_with fail
          refine c_over s9 kd at' nn ⟨smA.out, smB.out⟩ rdo smC.out ?_
          intro w10 v10 h10 own10 s10
          rw [hds.out] at own10
          obtain ⟨N, hN⟩ : ∃ N, ds.length = N := ⟨_, rfl⟩
          rw [hN] at own10
          obtain ⟨O10, oc10, sp10, rfl, _⟩ := own10
          have hp1 := hp.out.1
          have hl1 := hl7.out
          rw [hN] at hp1 hl1
          have hp2 : (N : Int).tmod 512 = 0 := by rw [Int.tmod_eq_emod_of_nonneg (by omega)]; exact hp1
          replace hN := aside hN
          clear s9 z0 z1 z2 z3
          go_wp2
          go_ret
          exact ⟨rfl, hZ ▸ s10.below⟩
      · have hw2 := hw
        replace hw := aside hw
        obtain ⟨e9, he9⟩ : ∃ e9, wrC d at' ds.length = e9 := ⟨_, rfl⟩
        rw [he9] at hw2
        replace he9 := aside he9
        go_wp2
        go_region_held3 (fun w' => w'.cell? ⟨Z, 0, none⟩ = some (.int .i64 kd) ∧ w'.cell? ⟨Z, 1, none⟩ = some (.int .u64 at') ∧ w'.cell? ⟨Z, 2, none⟩ = some (.int .i64 nn) ∧ w'.cell? ⟨Z, 3, none⟩ = some (.slice D o.data.length dc))
          (first
            | with_reducible exact g6
            | with_reducible exact g8
            | with_reducible exact g9)
          (first
            | (go_at_call 41; with_reducible (refine c_over s6d kd at' nn ⟨smA.out, smB.out⟩ rd smC.out ?_); intro w7 v7 h7 own7 s7
               rw [hds.out] at own7
               have s8 := s7.freeze
               have rd8 := (own7.rd hob.out).mono u8E_mono (Sat.frozenD s7)
               have le8 := aside (show ∀ l c, H2 l = some c → un H2 h7 l = some c from un_leftD)
               generalize un H2 h7 = H8 at s8 rd8 le8
               obtain ⟨O7, oc7, rfl, rd8⟩ := rd8.open_
               have ecn := aside (show oc7 ≤ 9223372036854775807 from rd8.u8.2.2.1)
               have g8 := (And.intro ((s8.cel Z 0 0 rfl).1) (And.intro ((s8.cel Z 0 1 rfl).1) (And.intro ((s8.cel Z 0 2 rfl).1) ((s8.cel Z 0 3 rfl).1))))
               simp only [Nat.zero_add, Nat.add_zero] at g8
               clear own7 s7)
            | (go_at_call 42; with_reducible (refine c_diskWriteBad s8 at' ha rd8 hw.out ?_); intro w9 s9; rw [he9.out]
               have g9 := (And.intro ((s9.cel Z 0 0 rfl).1) (And.intro ((s9.cel Z 0 1 rfl).1) (And.intro ((s9.cel Z 0 2 rfl).1) ((s9.cel Z 0 3 rfl).1))))
               simp only [Nat.zero_add, Nat.add_zero] at g9
               have arm : True := trivial))
        all_goals
          clear s8 g6 g8 g9 s6d
          go_wp2_with fail
          refine c_diskRequests s9 ?_
          rw [show d.asked.reqs = rq1 from hrq1.out]
          have sd := (show Sat W w9 H8 (diskL ⟨b, 0, none⟩ d.asked ++ (diskL ⟨g, 0, none⟩ dg ++ (cellsH ⟨Z, 0, none⟩ [.int .i64 kd, .int .u64 at', .int .i64 nn, .slice D o.data.length dc] :: []))) from s9.wk)
          clear s9
          go_wp2_with fail
          refine c_diskSame sd ?_
          intro w10 s10
          rw [sameD_mem (show d.asked.count = dg.count from lk6.out.count.symm) (show d.asked.mem = dg.mem from hm6.out.symm)]
          clear sd
          go_wp2
          go_ret
          exact ⟨rfl, hZ ▸ s10.below⟩
    · rw [decide_eq_false hsm]
      clear s3
      go_wp2
      go_ret
      exact ⟨rfl, hZ ▸ s5.below⟩
end Go.Proofs.Ytohccblfnjampaa
