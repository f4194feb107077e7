/-
  DISK: under, Same.
-/
import Derived.Test.YtiibiamobkhlbaaG6
import Derived.Test.YtiibiamobkhlbaaUVco
set_option linter.unusedVariables false
set_option linter.unusedSimpArgs false
namespace Go.Proofs.Ytiibiamobkhlbaa
open Go.RowKit
set_option linter.unusedVariables false
set_option linter.unusedSimpArgs false

/-- whether an entry's sector is alike in two -/
def alikeAt (d o : DiskG) (e : Ent) : Prop := rdB d.mem ((512 * e.key : Nat) : Int) 512 = rdB o.mem ((512 * e.key : Nat) : Int) 512
instance (d o : DiskG) (e : Ent) : Decidable (alikeAt d o e) := by unfold alikeAt; exact inferInstance
def underD (d o : DiskG) : Bool := decide (∀ e ∈ d.ents, alikeAt d o e)

theorem pages_mid {w : World} {ents : List Ent} {mem : Int → Int} (hpg : Holds w (pagesH 0 512 ents mem)) (hb : ents.Pairwise (·.blk ≠ ·.blk)) {e : Ent} (he : e ∈ ents) {CS : List Value} (hCS : (rdB mem ((512 * e.key : Nat) : Int) 512).map (Value.int .u8) = CS) : w.rangeAt e.blk 0 CS := fun j v hv => by
  obtain ⟨b1, o1, h1, h2⟩ := pages_row hpg hb he (by intro h; rw [List.map_eq_nil_iff] at h; have := congrArg List.length h; rw [rdB_len] at this; cases this)
  cases h1
  rw [show (512 * (e.key : Int)) = ((512 * e.key : Nat) : Int) by omega, hCS] at h2
  exact h2 j v hv

section
variable {R : Ending → World → Prop} {W0 w : World} {H : Hp} {A F : List Hp} {a b : Nat} {d o : DiskG}

set_option maxRecDepth 100000 in
set_option maxHeartbeats 4000000 in
theorem c_under (s : Sat W0 w H (diskL ⟨a, 0, none⟩ d ++ (diskL ⟨b, 0, none⟩ o ++ F)))
    (k : ∀ w', Sat W0 w' H (diskL ⟨a, 0, none⟩ d ++ (diskL ⟨b, 0, none⟩ o ++ F)) → R (.returned (.bool (underD d o))) w') :
    Calls Try.prog 79 #[.pointer (some ⟨a, 0, none⟩), .pointer (some ⟨b, 0, none⟩)] w R := by
  obtain ⟨X, hX⟩ : ∃ X, w.heap.size = X := ⟨_, rfl⟩
  simp only [diskL, List.cons_append, List.nil_append] at s k
  have c2 := s.c 2 rfl
  simp only [Nat.zero_add] at c2
  have hob := s.obj (b := d.mb) (o := .map (d.ents.map Ent.me).toArray d.ck) (by simp)
  have hrange := run_range_map (P := Try.prog) _ 160 23 163 d.mb _ d.ck Try.underlying160 hob
  have s2 := s.allocO (o := .mapIter (some d.mb) d.ck #[] d.ck) (by intro c t f h; cases h)
  rw [hX] at s2 hrange
  have s3 := (show Sat W0 _ H (objH X (.mapIter (some d.mb) d.ck #[] d.ck) :: objH d.mb (.map (d.ents.map Ent.me).toArray d.ck) :: (cellsH ⟨a, 0, none⟩ [.int .u64 d.count, .bool d.locked, .map (some d.mb), .int .u64 d.fault, .int .u64 d.reqs, .int .u64 d.flushes] :: pagesH 0 512 d.ents d.mem :: (cellsH ⟨b, 0, none⟩ [.int .u64 o.count, .bool o.locked, .map (some o.mb), .int .u64 o.fault, .int .u64 o.reqs, .int .u64 o.flushes] :: objH o.mb (.map (o.ents.map Ent.me).toArray o.ck) :: pagesH 0 512 o.ents o.mem :: F))) from s2.wk)
  have hold : ∀ x ∈ ((d.ents.map Ent.me).toArray).toList, x.born < d.ck := fun x hx => by
    simp at hx
    obtain ⟨e, he, rfl⟩ := hx
    exact d.hborn.2 e he
  have hnod : (((d.ents.map Ent.me).toArray).toList.map (·.born)).Nodup := by
    simp only [List.map_map]
    rw [List.nodup_iff_pairwise_ne, List.pairwise_map]
    exact d.hborn.1.imp (fun h => h)
  clear s s2 hob
  go_enter Try.func79, Try.ntmps79
  go_wp2
  generalize World.alloc w _ = W3 at s3 ⊢
  go_loopg [] (leftOf (d.ents.map Ent.me).toArray #[]).size (fun q w' => ∃ (seen : Array Nat), q = (leftOf (d.ents.map Ent.me).toArray seen).size ∧ Aside (∀ e ∈ d.ents, seen.contains e.born = true → alikeAt d o e) ∧ Sat W0 w' H (objH X (.mapIter (some d.mb) d.ck seen d.ck) :: objH d.mb (.map (d.ents.map Ent.me).toArray d.ck) :: (cellsH ⟨a, 0, none⟩ [.int .u64 d.count, .bool d.locked, .map (some d.mb), .int .u64 d.fault, .int .u64 d.reqs, .int .u64 d.flushes] :: pagesH 0 512 d.ents d.mem :: (cellsH ⟨b, 0, none⟩ [.int .u64 o.count, .bool o.locked, .map (some o.mb), .int .u64 o.fault, .int .u64 o.reqs, .int .u64 o.flushes] :: objH o.mb (.map (o.ents.map Ent.me).toArray o.ck) :: pagesH 0 512 o.ents o.mem :: F))))
  case atStart => exact ⟨#[], rfl, fun e _ h => by simp at h, s3⟩
  clear s3
  case round =>
    obtain ⟨seen, rfl, hal, s'⟩ := hrel
    rcases next_sat (P := Try.prog) 0 s' hold (Nat.le_refl _) with ⟨h0, hrun⟩ | ⟨e, hin, w1, hrun, s2⟩
    · have hall : ∀ e ∈ d.ents, seen.contains e.born = true := fun e he => by
        rcases Bool.eq_false_or_eq_true (seen.contains e.born) with h | h
        · exact h
        · exfalso
          have : Ent.me e ∈ (leftOf (d.ents.map Ent.me).toArray seen) := by
            unfold leftOf
            simp only [Array.mem_filter]
            exact ⟨by simp; exact ⟨e, he, rfl⟩, by rw [show (Ent.me e).born = e.born from rfl, h]; rfl⟩
          have h1 : 0 < (leftOf (d.ents.map Ent.me).toArray seen).size := Array.size_pos_of_mem this
          omega
      have K := k wr s'.tail1.wk
      rw [show underD d o = true by unfold underD; simp only [decide_eq_true_eq]; exact fun e he => hal.out e he (hall e he)] at K
      clear s' hall
      go_wp2
      exact K
    · obtain ⟨hin1, hin2⟩ := mem_left hin
      have hsh := left_shrinks _ _ _ hin
      simp only [List.mem_map] at hin1
      obtain ⟨e0, he0, rfl⟩ := hin1
      have hent := entry_sat (P := Try.prog) s2 (by simp; exact ⟨e0, he0, rfl⟩) hnod
      have hpg := (Sat.pull (h := pagesH 0 512 d.ents d.mem) s2).head
      have hpo := (Sat.pull (h := pagesH 0 512 o.ents o.mem) s2).head
      obtain ⟨BS, hBS⟩ : ∃ BS, rdB d.mem ((512 * e0.key : Nat) : Int) 512 = BS := ⟨_, rfl⟩
      obtain ⟨BT, hBT⟩ : ∃ BT, rdB o.mem ((512 * e0.key : Nat) : Int) 512 = BT := ⟨_, rfl⟩
      have hBl : BS.length = 512 := by rw [← hBS]; exact rdB_len ..
      have hTl : BT.length = 512 := by rw [← hBT]; exact rdB_len ..
      have heq : ∀ W, (Op.equalIn 10000 165 (.agg (BS.map (Value.int .u8)).toArray) (.agg (BT.map (Value.int .u8)).toArray)).run Try.prog W = .ok (decide (BS = BT)) W := run_equalIn_bytes Try.underlying165 Try.underlying5 hz8D 9998 BS BT hBl hTl
      obtain ⟨CS, hCS⟩ : ∃ CS, BS.map (Value.int .u8) = CS := ⟨_, rfl⟩
      obtain ⟨CT, hCT⟩ : ∃ CT, BT.map (Value.int .u8) = CT := ⟨_, rfl⟩
      have hCl : CS.length = 512 := by rw [← hCS, List.length_map, hBl]
      have hDl : CT.length = 512 := by rw [← hCT, List.length_map, hTl]
      have hmid := pages_mid hpg d.hblk he0 (by rw [hBS, hCS])
      have hobo := s2.obj (b := o.mb) (o := .map (o.ents.map Ent.me).toArray o.ck) (by simp)
      have cb := s2.cel b 0 2 rfl
      simp only [Nat.zero_add] at cb
      have hsz : (Try.prog.info? 165).map (·.size) = some CS.length := by rw [hCl]; exact sect_size
      have hsz2 : (Try.prog.info? 165).map (·.size) = some CT.length := by rw [hDl]; exact sect_size
      rw [hCS, hCT] at heq
      have hu := Try.underlying165
      have hiff : alikeAt d o e0 ↔ BS = BT := by unfold alikeAt; rw [hBS, hBT]
      have hK0 : ¬ BS = BT → underD d o = false := fun h => by
        unfold underD
        rw [decide_eq_false_iff_not]
        exact fun q => h (hiff.1 (q e0 he0))
      have hK1 : BS = BT → ∀ e ∈ d.ents, (seen.push e0.born).contains e.born = true → alikeAt d o e := fun h e he hs => by
        simp only [Array.contains_push, Bool.or_eq_true, beq_iff_eq] at hs
        rcases hs with hs | hs
        · exact hal.out e he hs
        · obtain ⟨i, hi⟩ := List.getElem?_of_mem he
          obtain ⟨j, hj⟩ := List.getElem?_of_mem he0
          have : e = e0 := by
            rcases Nat.decEq i j with hij | hij
            · exact absurd hs (pairwise_get (R := fun a b : Ent => a.born ≠ b.born) (fun a b h => h.symm) d.hborn.1 i j e e0 hij hi hj)
            · subst hij; rw [hi] at hj; exact Option.some.inj hj
          subst this
          exact hiff.2 h
      replace hK0 := aside hK0
      replace hK1 := aside hK1
      obtain ⟨bb, hbb⟩ : ∃ bb, decide (BS = BT) = bb := ⟨_, rfl⟩
      rw [hbb] at heq
      have hsh2 := aside hsh
      simp only [Ent.me] at hrun hent s2
      by_cases hx : ∃ e1 ∈ o.ents, e1.key = e0.key
      · obtain ⟨e1, hm1, hk1⟩ := hx
        have hl := run_lookup_yes (w := w1) Try.underlying160 Try.underlying23 hobo o.hkey hm1
        have hmid2 := pages_mid hpo o.hblk hm1 (CS := CT) (by rw [hk1, hBT, hCT])
        rw [hk1] at hl
        have s7 := s2.tail1
        have s9 := s2
        have hmidW : ∀ W, (∃ n, W = w1.drewN n) → W.rangeAt e0.blk 0 CS := by rintro W ⟨n, rfl⟩; intro j v hv; simpa using hmid j v hv
        have hmidW2 : ∀ W, (∃ n, W = w1.drewN n) → W.rangeAt e1.blk 0 CT := by rintro W ⟨n, rfl⟩; intro j v hv; simpa using hmid2 j v hv
        have hgt : Try.prog.eqGuardType Try.prog.depth 165 = false := by kernel_rfl
        clear hpg hpo hBS hBT s2 s' hal hin hin2 hobo hiff hsh hCl hDl c2 hrange hold hnod hmid hmid2
        go_wp2
        refine wp_region_quiet_lit (by kernel_rfl) (by kernel_rfl) ?_
        quiet_step (fail)
        quiet_step (fail)
        (refine BigFrame.wpQuiet_want (by rfl) (fun K hK => ?_); refine quiet_load_mid 165 (.tmp 33) rfl e0.blk 0 rfl CS _ hmidW hu rfl hsz ?_; refine hK _ ?_; clear hK K)
        quiet_step (fail)
        quiet_step (fail)
        (refine BigFrame.wpQuiet_want (by rfl) (fun K hK => ?_); refine quiet_load_mid 165 (.tmp 36) rfl e1.blk 0 rfl CT _ hmidW2 hu rfl hsz2 ?_; refine hK _ ?_; clear hK K)
        (refine BigFrame.wpQuiet_want (by rfl) (fun K hK => ?_); refine quiet_neq_bytes 165 5 (.tmp 34) (.tmp 37) rfl BS BT (by rw [hCS]; rfl) (by rw [hCT]; rfl) hu Try.underlying5 hz8D hgt hBl hTl ?_; refine hK _ ?_; clear hK K)
        refine wpQuiet_nil ?_
        intro _ hw'
        obtain ⟨nq, hw''⟩ := hw'
        subst hw''
        rw [hbb]
        simp only [Act.put, List.getElem_toArray, List.getElem_cons_succ, List.getElem_cons_zero, List.setIfInBounds_toArray, List.set_cons_succ, List.set_cons_zero]
        replace hbb := aside hbb
        cases bb
        · have K := k _ (s7.drewN nq).wk
          rw [hK0.out (of_decide_eq_false hbb.out)] at K
          clear s7 k
          go_wp2
          exact K
        · have hK2 := aside (hK1.out (of_decide_eq_true hbb.out))
          have s8 := s9.drewN nq
          clear s7 s9 k
          go_wp2
          go_roundg (leftOf (List.map Ent.me d.ents).toArray (seen.push e0.born)).size
          case measure => exact hsh2.out
          case rel => exact ⟨seen.push e0.born, rfl, hK2, s8⟩
      · have hno : ∀ e ∈ o.ents, e.key ≠ e0.key := fun e hm h => hx ⟨e, hm, h⟩
        have hl := run_lookup_no (w := w1) (z := .pointer none) Try.underlying160 Try.underlying23 hobo hno (zero_sector w1)
        have hzz : BT = List.replicate 512 0 := by rw [← hBT]; have := o.sect_zero hno; rwa [show (512 * (e0.key : Int)) = ((512 * e0.key : Nat) : Int) by omega] at this
        have hzc : sectZ = CT.toArray := by rw [← hCT, hzz, List.map_replicate]; rfl
        have hpb := run_sectBuild
        rw [hzc] at hpb
        have s4 := s2.alloc (c := CT) (t := 165)
        obtain ⟨P, hP⟩ : ∃ P, w1.heap.size = P := ⟨_, rfl⟩
        rw [hP, show CT.toArray = Try.zeroCells165 from hzc.symm.trans sect_zero] at s4
        have hmid0 : (w1.alloc (.cells Try.zeroCells165 165)).rangeAt e0.blk 0 CS := World.rangeAt_alloc hmid _
        have hmid2 : (w1.alloc (.cells Try.zeroCells165 165)).rangeAt P 0 CT := fun j v hv => (s4.c j hv).1
        replace s2 := s4.tail1
        clear s4 hzz hzc
        have s7 := s2.tail1
        have s9 := s2
        have hmidW : ∀ W, (∃ n, W = (w1.alloc (.cells Try.zeroCells165 165)).drewN n) → W.rangeAt e0.blk 0 CS := by rintro W ⟨n, rfl⟩; intro j v hv; simpa using hmid0 j v hv
        have hmidW2 : ∀ W, (∃ n, W = (w1.alloc (.cells Try.zeroCells165 165)).drewN n) → W.rangeAt P 0 CT := by rintro W ⟨n, rfl⟩; intro j v hv; simpa using hmid2 j v hv
        have hgt : Try.prog.eqGuardType Try.prog.depth 165 = false := by kernel_rfl
        clear hpg hpo hBS hBT s2 s' hal hin hin2 hobo hiff hsh hCl hDl c2 hrange hold hnod hmid hmid0 hmid2
        go_wp2
        refine wp_region_quiet_lit (by kernel_rfl) (by kernel_rfl) ?_
        quiet_step (fail)
        quiet_step (fail)
        (refine BigFrame.wpQuiet_want (by rfl) (fun K hK => ?_); refine quiet_load_mid 165 (.tmp 33) rfl e0.blk 0 rfl CS _ hmidW hu rfl hsz ?_; refine hK _ ?_; clear hK K)
        quiet_step (fail)
        quiet_step (fail)
        (refine BigFrame.wpQuiet_want (by rfl) (fun K hK => ?_); refine quiet_load_mid 165 (.tmp 36) rfl P 0 rfl CT _ hmidW2 hu rfl hsz2 ?_; refine hK _ ?_; clear hK K)
        (refine BigFrame.wpQuiet_want (by rfl) (fun K hK => ?_); refine quiet_neq_bytes 165 5 (.tmp 34) (.tmp 37) rfl BS BT (by rw [hCS]; rfl) (by rw [hCT]; rfl) hu Try.underlying5 hz8D hgt hBl hTl ?_; refine hK _ ?_; clear hK K)
        refine wpQuiet_nil ?_
        intro _ hw'
        obtain ⟨nq, hw''⟩ := hw'
        subst hw''
        rw [hbb]
        simp only [Act.put, List.getElem_toArray, List.getElem_cons_succ, List.getElem_cons_zero, List.setIfInBounds_toArray, List.set_cons_succ, List.set_cons_zero]
        replace hbb := aside hbb
        cases bb
        · have K := k _ (s7.drewN nq).wk
          rw [hK0.out (of_decide_eq_false hbb.out)] at K
          clear s7 k
          go_wp2
          exact K
        · have hK2 := aside (hK1.out (of_decide_eq_true hbb.out))
          have s8 := s9.drewN nq
          clear s7 s9 k
          go_wp2
          go_roundg (leftOf (List.map Ent.me d.ents).toArray (seen.push e0.born)).size
          case measure => exact hsh2.out
          case rel => exact ⟨seen.push e0.born, rfl, hK2, s8⟩

def sameD (d o : DiskG) : Bool := decide (d.count = o.count) && (underD d o && underD o d)

theorem sat_swap {L1 L2 : List Hp} (s : Sat W0 w H (diskL ⟨a, 0, none⟩ d ++ (diskL ⟨b, 0, none⟩ o ++ F))) : Sat W0 w H (diskL ⟨b, 0, none⟩ o ++ (diskL ⟨a, 0, none⟩ d ++ F)) := by
  simp only [diskL, List.cons_append, List.nil_append] at s ⊢
  exact s.wk

set_option maxRecDepth 100000 in
set_option maxHeartbeats 4000000 in
theorem c_diskSame (s : Sat W0 w H (diskL ⟨a, 0, none⟩ d ++ (diskL ⟨b, 0, none⟩ o ++ F)))
    (k : ∀ w', Sat W0 w' H (diskL ⟨a, 0, none⟩ d ++ (diskL ⟨b, 0, none⟩ o ++ F)) → R (.returned (.bool (sameD d o))) w') :
    Calls Try.prog 27 #[.pointer (some ⟨a, 0, none⟩), .pointer (some ⟨b, 0, none⟩)] w R := by
  have c0 := (show Sat W0 w H (cellsH ⟨a, 0, none⟩ _ :: _) from s).c0
  have e0 := (show Sat W0 w H (cellsH ⟨b, 0, none⟩ _ :: _) from sat_swap (L1 := []) (L2 := []) s).c0
  have sw := fun (w' : World) (q : Sat W0 w' H (diskL ⟨b, 0, none⟩ o ++ (diskL ⟨a, 0, none⟩ d ++ F))) => k w' (sat_swap (L1 := []) (L2 := []) q)
  obtain ⟨c, hcd⟩ : ∃ c, d.count = c := ⟨_, rfl⟩
  rw [hcd] at c0
  by_cases hc : d.count = o.count
  · have hcell : ∀ {w' : World}, Sat W0 w' H (diskL ⟨a, 0, none⟩ d ++ (diskL ⟨b, 0, none⟩ o ++ F)) → w'.cell? ⟨a, 0, none⟩ = some (.int .u64 c) ∧ w'.cell? ⟨b, 0, none⟩ = some (.int .u64 c) := fun {w'} q => by
      have g0 := (show Sat W0 w' H (cellsH ⟨a, 0, none⟩ _ :: _) from q).c0
      have g1 := (show Sat W0 w' H (cellsH ⟨b, 0, none⟩ _ :: _) from sat_swap (L1 := []) (L2 := []) q).c0
      rw [hcd] at g0
      rw [← hc, hcd] at g1
      exact ⟨g0.1, g1.1⟩
    rw [← hc, hcd] at e0
    replace hc := aside hc
    replace hcd := aside hcd
    cases hu1 : underD d o
    · replace hu1 := aside hu1
      have K := fun w' q => k w' q
      rw [show sameD d o = false by unfold sameD; rw [hu1.out]; simp] at K
      clear k sw
      go_enter Try.func27, Try.ntmps27
      go_wp2
      first | (go_region_with ((have hs := s.drew; (with_reducible (refine c_under hs ?_)); intro w2 s2; rw [hu1.out]))) | fail
      all_goals
        simp only [Act.put, List.getElem_toArray, List.getElem_cons_succ, List.getElem_cons_zero, List.setIfInBounds_toArray, List.set_cons_succ, List.set_cons_zero]
        have K2 := K _ s2
        clear K s2
        go_wp2
        exact K2
    · replace hu1 := aside hu1
      have K := fun w' (q : Sat W0 w' H (diskL ⟨b, 0, none⟩ o ++ (diskL ⟨a, 0, none⟩ d ++ F))) => sw w' q
      rw [show sameD d o = underD o d by unfold sameD; rw [hu1.out, hc.out]; simp] at K
      clear k sw
      go_enter Try.func27, Try.ntmps27
      go_wp2
      first | (go_region_with (first | (have hs := sat_swap (L1 := []) (L2 := []) s2; (with_reducible (refine c_under hs ?_)); intro w3 s3) | (have hs := s.drew; (with_reducible (refine c_under hs ?_)); intro w2 s2; rw [hu1.out]))) | fail
      all_goals
        simp only [Act.put, List.getElem_toArray, List.getElem_cons_succ, List.getElem_cons_zero, List.setIfInBounds_toArray, List.set_cons_succ, List.set_cons_zero]
        have K2 := K _ s3
        clear K s2 s3
        go_wp2
        exact K2
  · replace hc := aside hc
    have hne : ¬ c = o.count := by rw [← hcd]; exact hc.out
    obtain ⟨c2, hc2⟩ : ∃ c2, o.count = c2 := ⟨_, rfl⟩
    rw [hc2] at hne e0
    have K := k _ s.drew
    rw [show sameD d o = false by unfold sameD; rw [decide_eq_false hc.out]; simp] at K
    clear k sw
    replace hcd := aside hcd
    replace hc2 := aside hc2
    go_enter Try.func27, Try.ntmps27
    go_wp2
    first | (go_region_with (fail)) | fail
    all_goals
      simp only [Act.put, List.getElem_toArray, List.getElem_cons_succ, List.getElem_cons_zero, List.setIfInBounds_toArray, List.set_cons_succ, List.set_cons_zero]
      go_wp2
      exact K
end
end Go.Proofs.Ytiibiamobkhlbaa
