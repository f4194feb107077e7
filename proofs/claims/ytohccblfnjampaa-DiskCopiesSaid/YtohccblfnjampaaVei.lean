/-
  DISK's laws: one call at both (do); is it as the document's (Same)?
-/
import Derived.Test.YtohccblfnjampaaVehn
import Derived.Test.YtohccblfnjampaaVeh0
import Derived.Test.YtohccblfnjampaaVeh1b
import Derived.Test.YtohccblfnjampaaVeh1k
import Derived.Test.YtohccblfnjampaaVeh2
import Derived.Test.YtohccblfnjampaaVeh3
import Derived.Test.YtohccblfnjampaaVeh4
namespace Go.Proofs.Ytohccblfnjampaa
open Go.RowKit
set_option linter.unusedVariables false

theorem Rd.take8D {H : Hp} {A : Option Addr} {n c : Nat} {xs : List Int} (r : Rd u8E 1 H (.slice A n c) xs) (m : Nat) (hm : m ≤ n) : Rd u8E 1 H (.slice A m c) (xs.take m) := by
  obtain ⟨rfl, hc, hc2, g⟩ := r.u8
  refine ⟨_, _, by rw [List.length_take, Nat.min_eq_left hm], by rw [List.length_take]; omega, by omega, fun i x hx => ?_⟩
  rw [List.getElem?_take] at hx
  by_cases hi : i < m
  · rw [if_pos hi, List.getElem?_eq_getElem (by omega)] at hx
    obtain rfl := Option.some.inj hx
    obtain ⟨b, o, rfl, hcell, h0, h1⟩ := g i (by omega)
    refine ⟨b, o, [.int .u8 xs[i]], rfl, ⟨rfl, h0, h1⟩, rfl, fun j u hu => ?_⟩
    cases j with
    | succ j => simp at hu
    | zero =>
      simp at hu
      subst hu
      rw [show o + i * 1 + 0 = o + i by omega]; exact hcell
  · rw [if_neg hi] at hx; cases hx

theorem rdB_mid (m : Int → Int) (N q : Nat) (h : q + 512 ≤ N) : ((rdB m 0 N).drop q).take 512 = rdB m q 512 := by
  obtain ⟨p, rfl⟩ : ∃ p, N = q + (512 + p) := ⟨N - q - 512, by omega⟩
  rw [rdB_appD m 0 q, List.drop_left' (rdB_len _ _ _), rdB_appD m _ 512 p, List.take_left' (rdB_len _ _ _), Int.zero_add]

section
variable {R : Ending → World → Prop} {W0 w : World} {H : Hp} {A F : List Hp} {b : Nat} {d : DiskG} {v : Value} {C : Nat}

theorem c_lawDDo (s : Sat W0 w H A) [fr : FrK (κ := Addr) (ρ := fun _ => DiskG) diskL ⟨b, 0, none⟩ A d F] (rf : RefD H v C d.mem d.locked d.fault d.reqs d.flushes) (hC : (C : Int) = d.count) (hC2 : C ≤ 64) (op : OpD) (hsm : op.small) {dv : Value} (rd : Rd u8E 1 H dv op.data)
    (k : ∀ w' H' v' d', (∀ l c, H l = some c → H' l = some c) → DiskG.Kin d d' → RefD H' v' C d'.mem d'.locked d'.fault d'.reqs d'.flushes → Sat W0 w' H' (diskL ⟨b, 0, none⟩ d' ++ F) → R (.returned (.tuple #[v', .bool true])) w') :
    Calls Try.prog 67 #[.pointer (some ⟨b, 0, none⟩), v, .agg (op.vals dv).toArray] w R := by
  by_cases h0 : op.kind = 0
  · exact c_lawDDo0 s rf hC hC2 op hsm rd h0 k
  by_cases h1 : op.kind = 1
  · by_cases hw : wrD C d.locked d.fault op.at' (overL op.data op.n.toNat).length = 0
    · exact c_lawDDo1k s rf hC hC2 op hsm rd h1 hw k
    · exact c_lawDDo1b s rf hC hC2 op hsm rd h1 hw k
  by_cases h2 : op.kind = 2
  · exact c_lawDDo2 s rf hC hC2 op hsm rd h2 k
  by_cases h3 : op.kind = 3
  · exact c_lawDDo3 s rf hC hC2 op hsm rd h3 k
  by_cases h4 : op.kind = 4
  · exact c_lawDDo4 s rf hC hC2 op hsm rd h4 k
  exact c_lawDDoN s rf hC hC2 op hsm rd h0 h1 h2 h3 h4 k

set_option maxRecDepth 100000 in
set_option maxHeartbeats 4000000 in
theorem c_lawDSame (s : Sat W0 w H A) [fr : FrK (κ := Addr) (ρ := fun _ => DiskG) diskL ⟨b, 0, none⟩ A d F] (rf : RefD H v C d.mem d.locked d.fault d.reqs d.flushes) (hC : (C : Int) = d.count) (hC2 : C ≤ 64)
    (k : ∀ w', Sat W0 w' H (diskL ⟨b, 0, none⟩ d ++ F) → R (.returned (.bool true)) w') :
    Calls Try.prog 26 #[.pointer (some ⟨b, 0, none⟩), v] w R := by
  have s0 := s.front (mk := diskL) (k := ⟨b, 0, none⟩)
  obtain ⟨B, N, c, rfl, hN, rdb⟩ := rf.open_
  obtain ⟨hNq, hc1, hc2, _⟩ := rdb.u8
  clear hNq
  obtain ⟨lk, hlk⟩ : ∃ y, d.locked = y := ⟨_, rfl⟩
  obtain ⟨f, hff⟩ : ∃ y, d.fault = y := ⟨_, rfl⟩
  obtain ⟨q, hqf⟩ : ∃ y, d.reqs = y := ⟨_, rfl⟩
  obtain ⟨fl, hflf⟩ : ∃ y, d.flushes = y := ⟨_, rfl⟩
  rw [hlk, hff, hqf, hflf] at rf ⊢
  have s1 := s0.alloc (c := [.slice B N c, .bool lk, .int .u64 f, .int .u64 q, .int .u64 fl]) (t := 51)
  obtain ⟨Z, hZ⟩ : ∃ Z, w.heap.size = Z := ⟨_, rfl⟩
  rw [hZ] at s1
  have eN : IntKind.u64.wrap (N : Int) = N := by rw [wrap_u64]; omega
  have eC : (N : Int) / 512 = C := by omega
  have eC2 : (N : Int).tdiv 512 = C := by rw [Int.tdiv_eq_ediv_of_nonneg (by omega)]; omega
  have eCw : IntKind.u64.wrap (C : Int) = C := by rw [wrap_u64]; omega
  have eCi : IntKind.i64.wrap (C : Int) = C := by simp [IntKind.wrap, IntKind.bits, IntKind.signed]; omega
  have hNA := aside hN
  have hcN := aside hc1
  replace hC := aside hC
  have hC2A := aside hC2
  have hb := d.hmem
  replace hlk := aside hlk
  replace hqf := aside hqf
  replace hflf := aside hflf
  clear s s0 fr rf hN hc1 hC2 hff
  have s1d := s1.drew
  have f1 := And.intro (s1d.cel Z 0 0 rfl).1 (And.intro (s1d.cel Z 0 1 rfl).1 (And.intro (s1d.cel Z 0 2 rfl).1 (And.intro (s1d.cel Z 0 3 rfl).1 (s1d.cel Z 0 4 rfl).1)))
  simp only [Nat.zero_add] at f1
  go_enter Try.func26, Try.ntmps26
  go_wp2
  go_region_held3 (fun w' => w'.cell? ⟨Z, 0, none⟩ = some (.slice B N c) ∧ w'.cell? ⟨Z, 1, none⟩ = some (.bool lk) ∧ w'.cell? ⟨Z, 2, none⟩ = some (.int .u64 f) ∧ w'.cell? ⟨Z, 3, none⟩ = some (.int .u64 q) ∧ w'.cell? ⟨Z, 4, none⟩ = some (.int .u64 fl))
    (first
      | exact f1)
    (first
      | (go_at_call 77; refine c_diskCount s1d ?_; rw [← hC.out])
      | (go_at_call 78; refine c_diskLocked s1d ?_; rw [hlk.out])
      | (go_at_call 46; refine c_diskRequests s1d ?_; rw [hqf.out])
      | (go_at_call 79; refine c_diskFlushes s1d ?_; rw [hflf.out]))
  all_goals
    clear s1 f1
    generalize World.drew _ = w2 at s1d ⊢
    go_wp2
    go_loopg [5, 6, 7] C (fun q' v5 v6 v7 w' => ∃ (i : Nat), q' + i = C ∧ v5 = .int .i64 i ∧ Sat W0 w' H (diskL ⟨b, 0, none⟩ d ++ (cellsH ⟨Z, 0, none⟩ [.slice B N c, .bool lk, .int .u64 f, .int .u64 q, .int .u64 fl] :: F)))
    case atStart => exact ⟨0, by simp, rfl, s1d.wk⟩
    clear s1d
    case round =>
      obtain ⟨i, hq, rfl, s'⟩ := hrel
      have z0 := s'.cel Z 0 0 rfl
      simp only [Nat.zero_add] at z0
      have hN1 := hNA.out
      have hc1 := hcN.out
      have hC1 := hC.out
      have hC21 := hC2A.out
      by_cases hi : i < C
      · have ei : IntKind.u64.wrap (i : Int) = i := by rw [wrap_u64]; omega
        obtain ⟨p, hp⟩ : ∃ p : Nat, 512 * i = p := ⟨_, rfl⟩
        obtain ⟨p2, hp2⟩ : ∃ p2 : Nat, p + 512 = p2 := ⟨_, rfl⟩
        have e1 : IntKind.i64.wrap (512 * (i : Int)) = (p : Int) := by simp [IntKind.wrap, IntKind.bits, IntKind.signed]; omega
        have e2 : IntKind.i64.wrap ((p : Int) + 512) = (p2 : Int) := by simp [IntKind.wrap, IntKind.bits, IntKind.signed]; omega
        have hib := aside (show 0 ≤ (i : Int) ∧ (i : Int) ≤ 18446744073709551615 by omega)
        have hlt := aside (show (i : Int) < d.count by omega)
        have ei1 : IntKind.i64.wrap ((i : Int) + 1) = (i : Int) + 1 := by simp [IntKind.wrap, IntKind.bits, IntKind.signed]; omega
        have r1 : (p : Int) ≤ p2 := by omega
        have r2 : (p2 : Int) ≤ N := by omega
        have r3 : (p2 : Int) ≤ c := by omega
        have r4 : ¬ c = p := by omega
        have rdp := rdb.drop8D p (by omega)
        rw [if_neg r4] at rdp
        have rdp2 := rdp.take8D 512 (by omega)
        rw [rdB_mid d.mem N p (by omega), show 512 = p2 - p by omega] at rdp2
        have hcut := aside (show rdB d.mem (512 * (i : Int)) 512 = rdB d.mem (p : Int) (p2 - p) by rw [show 512 * (i : Int) = (p : Int) by omega, show p2 - p = 512 by omega])
        have hi2 : (i : Int) < C := by omega
        have hq2 := aside (show gk - 1 + (i + 1) = C ∧ gk - 1 < gk by omega)
        clear hN1 hc1 hC1 hC21 hi hq hp hp2 rdp
        go_wp2_with fail
        refine c_diskSector s' i hib.out (fun h => absurd h (Int.not_le.2 hlt.out)) ?_
        intro _ w5 v5 h5 own5 s5
        obtain ⟨O5, oc5, osp5, rfl, _⟩ := id own5
        have rd5 := own5.rd (rdB_bd hb _ _)
        rw [hcut.out] at rd5
        have z0 := s5.cel Z 0 0 rfl
        simp only [Nat.zero_add] at z0
        clear s'
        go_wp2_with fail
        refine c_Bytes s5.head s5.ro rd5 rdp2 ?_
        intro n6
        rw [decide_eq_true rfl]
        have s6 := s5.drewN n6
        generalize World.drewN w5 n6 = w6 at s6 ⊢
        clear s5 own5 rd5 rdp2
        go_wp2
        go_roundg (gk - 1)
        case measure => exact hq2.out.2
        case rel => exact ⟨i + 1, hq2.out.1, by go_num, s6.tail1⟩
      · obtain rfl : C = i := by omega
        clear hN1 hc1 hC21 hi hq
        have hdc := d.hcount
        have hdw : IntKind.u64.wrap d.count = d.count := by rw [wrap_u64]; omega
        have hdb := aside (show 0 ≤ d.count ∧ d.count ≤ 18446744073709551615 by omega)
        clear hdc hC1
        go_wp2_with fail
        refine c_diskCount s' ?_
        go_wp2_with fail
        refine c_diskSector s' d.count hdb.out ?_ (fun h => absurd h (by omega))
        intro _
        go_wp2
        exact s'.wk
end
end Go.Proofs.Ytohccblfnjampaa
