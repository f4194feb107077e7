/-
  RAM: under, Same.
-/
import Derived.Test.YtippipfogbgemaaVcq
import Derived.Test.YtippipfogbgemaaWa
namespace Go.Proofs.Ytippipfogbgemaa
open Go.RowKit
set_option linter.unusedVariables false
set_option linter.unusedSimpArgs false

/-- whether an entry's sector is alike in two -/
def alikeR (d o : RamG) (e : Ent) : Prop := rdB d.mem ((2147483648 + 4096 * e.key : Nat) : Int) 4096 = rdB o.mem ((2147483648 + 4096 * e.key : Nat) : Int) 4096
instance (d o : RamG) (e : Ent) : Decidable (alikeR d o e) := by unfold alikeR; exact inferInstance
def underR (d o : RamG) : Bool := decide (∀ e ∈ d.ents, alikeR d o e)

theorem pages_midR {w : World} {ents : List Ent} {mem : Int → Int} (hpg : Holds w (pagesH 2147483648 4096 ents mem)) (hb : ents.Pairwise (·.blk ≠ ·.blk)) {e : Ent} (he : e ∈ ents) {CS : List Value} (hCS : (rdB mem ((2147483648 + 4096 * e.key : Nat) : Int) 4096).map (Value.int .u8) = CS) : w.rangeAt e.blk 0 CS := fun j v hv => by
  obtain ⟨b1, o1, h1, h2⟩ := pages_rowR hpg hb he (by intro h; rw [List.map_eq_nil_iff] at h; have := congrArg List.length h; rw [rdB_len] at this; cases this)
  cases h1
  rw [hCS] at h2
  exact h2 j v hv

section
variable {R : Ending → World → Prop} {W0 w : World} {H : Hp} {A F : List Hp} {a b : Nat} {d o : RamG} {l l2 : Option LogG}

set_option maxRecDepth 100000 in
set_option maxHeartbeats 4000000 in
theorem c_underR (s : Sat W0 w H (ramL ⟨a, 0, none⟩ (d, l) ++ (ramL ⟨b, 0, none⟩ (o, l2) ++ F)))
    (k : ∀ w', Sat W0 w' H (ramL ⟨a, 0, none⟩ (d, l) ++ (ramL ⟨b, 0, none⟩ (o, l2) ++ F)) → R (.returned (.bool (underR d o))) w') :
    Calls Try.prog 65 #[.pointer (some ⟨a, 0, none⟩), .pointer (some ⟨b, 0, none⟩)] w R := by
  obtain ⟨X, hX⟩ : ∃ X, w.heap.size = X := ⟨_, rfl⟩
  simp only [ramL, List.cons_append, List.nil_append] at s k
  obtain ⟨LG, hLG⟩ : ∃ LG, logL l = LG := ⟨_, rfl⟩
  obtain ⟨LO, hLO⟩ : ∃ LO, logL l2 = LO := ⟨_, rfl⟩
  obtain ⟨lp, hlp⟩ : ∃ lp : Option Addr, (l.map fun l => (⟨l.pb, l.po, none⟩ : Addr)) = lp := ⟨_, rfl⟩
  obtain ⟨lq, hlq⟩ : ∃ lq : Option Addr, (l2.map fun l => (⟨l.pb, l.po, none⟩ : Addr)) = lq := ⟨_, rfl⟩
  simp only [hLG, hlp, hLO, hlq] at s k
  replace hLG := aside hLG
  replace hLO := aside hLO
  replace hlp := aside hlp
  replace hlq := aside hlq
  have c2 := s.c 1 rfl
  simp only [Nat.zero_add] at c2
  have hob := s.obj (b := d.mb) (o := .map (d.ents.map Ent.me).toArray d.ck) (by simp)
  have hrange := run_range_map (P := Try.prog) _ 146 25 149 d.mb _ d.ck Try.underlying146 hob
  have s2 := s.allocO (o := .mapIter (some d.mb) d.ck #[] d.ck) (by intro c t f h; cases h)
  rw [hX] at s2 hrange
  have s3 := (show Sat W0 _ H (objH X (.mapIter (some d.mb) d.ck #[] d.ck) :: objH d.mb (.map (d.ents.map Ent.me).toArray d.ck) :: (cellsH ⟨a, 0, none⟩ [.int .u64 d.size, .map (some d.mb), .pointer lp] :: pagesH 2147483648 4096 d.ents d.mem :: (LG ++ (cellsH ⟨b, 0, none⟩ [.int .u64 o.size, .map (some o.mb), .pointer lq] :: objH o.mb (.map (o.ents.map Ent.me).toArray o.ck) :: pagesH 2147483648 4096 o.ents o.mem :: (LO ++ F))))) from s2.wk)
  have hold : ∀ x ∈ ((d.ents.map Ent.me).toArray).toList, x.born < d.ck := fun x hx => by
    simp at hx
    obtain ⟨e, he, rfl⟩ := hx
    exact d.hborn.2 e he
  have hnod : (((d.ents.map Ent.me).toArray).toList.map (·.born)).Nodup := by
    simp only [List.map_map]
    rw [List.nodup_iff_pairwise_ne, List.pairwise_map]
    exact d.hborn.1.imp (fun h => h)
  clear s s2 hob
  go_enter Try.func65, Try.ntmps65
  go_wp2
  generalize World.alloc w _ = W3 at s3 ⊢
  go_loopg [] (leftOf (d.ents.map Ent.me).toArray #[]).size (fun q w' => ∃ (seen : Array Nat), q = (leftOf (d.ents.map Ent.me).toArray seen).size ∧ Aside (∀ e ∈ d.ents, seen.contains e.born = true → alikeR d o e) ∧ Sat W0 w' H (objH X (.mapIter (some d.mb) d.ck seen d.ck) :: objH d.mb (.map (d.ents.map Ent.me).toArray d.ck) :: (cellsH ⟨a, 0, none⟩ [.int .u64 d.size, .map (some d.mb), .pointer lp] :: pagesH 2147483648 4096 d.ents d.mem :: (LG ++ (cellsH ⟨b, 0, none⟩ [.int .u64 o.size, .map (some o.mb), .pointer lq] :: objH o.mb (.map (o.ents.map Ent.me).toArray o.ck) :: pagesH 2147483648 4096 o.ents o.mem :: (LO ++ F))))))
  case atStart => exact ⟨#[], rfl, fun e _ h => by simp at h, s3⟩
  clear s3
  case round =>
    obtain ⟨seen, rfl, hal, s'⟩ := hrel
    rcases next_sat (P := Try.prog) 0 s' hold (Nat.le_refl _) with ⟨h0, hrun⟩ | ⟨e, hin, w1, hrun, s2⟩
    · have hall : ∀ e ∈ d.ents, seen.contains e.born = true := fun e he => by
        rcases Bool.eq_false_or_eq_true (seen.contains e.born) with h | h
        · exact h
        · exfalso
          have : Ent.me e ∈ (leftOf (d.ents.map Ent.me).toArray seen) := by
            unfold leftOf
            simp only [Array.mem_filter]
            exact ⟨by simp; exact ⟨e, he, rfl⟩, by rw [show (Ent.me e).born = e.born from rfl, h]; rfl⟩
          have h1 : 0 < (leftOf (d.ents.map Ent.me).toArray seen).size := Array.size_pos_of_mem this
          omega
      have K := k wr s'.tail1.wk
      rw [show underR d o = true by unfold underR; simp only [decide_eq_true_eq]; exact fun e he => hal.out e he (hall e he)] at K
      clear s' hall
      go_wp2
      exact K
    · obtain ⟨hin1, hin2⟩ := mem_left hin
      have hsh := left_shrinks _ _ _ hin
      simp only [List.mem_map] at hin1
      obtain ⟨e0, he0, rfl⟩ := hin1
      have hent := entry_sat (P := Try.prog) s2 (by simp; exact ⟨e0, he0, rfl⟩) hnod
      have hpg := (Sat.pull (h := pagesH 2147483648 4096 d.ents d.mem) s2).head
      have hpo := (Sat.pull (h := pagesH 2147483648 4096 o.ents o.mem) s2).head
      obtain ⟨BS, hBS⟩ : ∃ BS, rdB d.mem ((2147483648 + 4096 * e0.key : Nat) : Int) 4096 = BS := ⟨_, rfl⟩
      obtain ⟨BT, hBT⟩ : ∃ BT, rdB o.mem ((2147483648 + 4096 * e0.key : Nat) : Int) 4096 = BT := ⟨_, rfl⟩
      have hBl : BS.length = 4096 := by rw [← hBS]; exact rdB_len ..
      have hTl : BT.length = 4096 := by rw [← hBT]; exact rdB_len ..
      have heq : ∀ W, (Op.equalIn 10000 151 (.agg (BS.map (Value.int .u8)).toArray) (.agg (BT.map (Value.int .u8)).toArray)).run Try.prog W = .ok (decide (BS = BT)) W := run_equalIn_bytes Try.underlying151 Try.underlying5 hz8R 9998 BS BT hBl hTl
      obtain ⟨CS, hCS⟩ : ∃ CS, BS.map (Value.int .u8) = CS := ⟨_, rfl⟩
      obtain ⟨CT, hCT⟩ : ∃ CT, BT.map (Value.int .u8) = CT := ⟨_, rfl⟩
      have hCl : CS.length = 4096 := by rw [← hCS, List.length_map, hBl]
      have hDl : CT.length = 4096 := by rw [← hCT, List.length_map, hTl]
      have hmid := pages_midR hpg d.hblk he0 (by rw [hBS, hCS])
      have hobo := s2.obj (b := o.mb) (o := .map (o.ents.map Ent.me).toArray o.ck) (by simp)
      have cb := s2.cel b 0 1 rfl
      simp only [Nat.zero_add] at cb
      have hsz : (Try.prog.info? 151).map (·.size) = some CS.length := by rw [hCl]; exact page_size
      have hsz2 : (Try.prog.info? 151).map (·.size) = some CT.length := by rw [hDl]; exact page_size
      rw [hCS, hCT] at heq
      have hu := Try.underlying151
      have hiff : alikeR d o e0 ↔ BS = BT := by unfold alikeR; rw [hBS, hBT]
      have hK0 : ¬ BS = BT → underR d o = false := fun h => by
        unfold underR
        rw [decide_eq_false_iff_not]
        exact fun q => h (hiff.1 (q e0 he0))
      have hK1 : BS = BT → ∀ e ∈ d.ents, (seen.push e0.born).contains e.born = true → alikeR d o e := fun h e he hs => by
        simp only [Array.contains_push, Bool.or_eq_true, beq_iff_eq] at hs
        rcases hs with hs | hs
        · exact hal.out e he hs
        · obtain ⟨i, hi⟩ := List.getElem?_of_mem he
          obtain ⟨j, hj⟩ := List.getElem?_of_mem he0
          have : e = e0 := by
            rcases Nat.decEq i j with hij | hij
            · exact absurd hs (pairwise_get (R := fun a b : Ent => a.born ≠ b.born) (fun a b h => h.symm) d.hborn.1 i j e e0 hij hi hj)
            · subst hij; rw [hi] at hj; exact Option.some.inj hj
          subst this
          exact hiff.2 h
      replace hK0 := aside hK0
      replace hK1 := aside hK1
      obtain ⟨bb, hbb⟩ : ∃ bb, decide (BS = BT) = bb := ⟨_, rfl⟩
      rw [hbb] at heq
      have hsh2 := aside hsh
      simp only [Ent.me] at hrun hent s2
      by_cases hx : ∃ e1 ∈ o.ents, e1.key = e0.key
      · obtain ⟨e1, hm1, hk1⟩ := hx
        have hl := run_lookup_yes (w := w1) Try.underlying146 Try.underlying25 hobo o.hkey hm1
        have hmid2 := pages_midR hpo o.hblk hm1 (CS := CT) (by rw [hk1, hBT, hCT])
        rw [hk1] at hl
        have s7 := s2.tail1
        have s9 := s2
        have hmidW : ∀ W, (∃ n, W = w1.drewN n) → W.rangeAt e0.blk 0 CS := by rintro W ⟨n, rfl⟩; intro j v hv; simpa using hmid j v hv
        have hmidW2 : ∀ W, (∃ n, W = w1.drewN n) → W.rangeAt e1.blk 0 CT := by rintro W ⟨n, rfl⟩; intro j v hv; simpa using hmid2 j v hv
        have hgt : Try.prog.eqGuardType Try.prog.depth 151 = false := by kernel_rfl
        clear hpg hpo hBS hBT s2 s' hal hin hin2 hobo hiff hsh hCl hDl c2 hrange hold hnod hmid hmid2
        go_wp2
        refine wp_region_quiet_lit (by kernel_rfl) (by kernel_rfl) ?_
        quiet_step (fail)
        quiet_step (fail)
        (refine BigFrame.wpQuiet_want (by rfl) (fun K hK => ?_); refine quiet_load_mid 151 (.tmp 33) rfl e0.blk 0 rfl CS _ hmidW hu rfl hsz ?_; refine hK _ ?_; clear hK K)
        quiet_step (fail)
        quiet_step (fail)
        (refine BigFrame.wpQuiet_want (by rfl) (fun K hK => ?_); refine quiet_load_mid 151 (.tmp 36) rfl e1.blk 0 rfl CT _ hmidW2 hu rfl hsz2 ?_; refine hK _ ?_; clear hK K)
        (refine BigFrame.wpQuiet_want (by rfl) (fun K hK => ?_); refine quiet_neq_bytes 151 5 (.tmp 34) (.tmp 37) rfl BS BT (by rw [hCS]; rfl) (by rw [hCT]; rfl) hu Try.underlying5 hz8R hgt hBl hTl ?_; refine hK _ ?_; clear hK K)
        refine wpQuiet_nil ?_
        intro _ hw'
        obtain ⟨nq, hw''⟩ := hw'
        subst hw''
        rw [hbb]
        simp only [Act.put, List.getElem_toArray, List.getElem_cons_succ, List.getElem_cons_zero, List.setIfInBounds_toArray, List.set_cons_succ, List.set_cons_zero]
        replace hbb := aside hbb
        cases bb
        · have K := k _ (s7.drewN nq).wk
          rw [hK0.out (of_decide_eq_false hbb.out)] at K
          clear s7 k
          go_wp2
          exact K
        · have hK2 := aside (hK1.out (of_decide_eq_true hbb.out))
          have s8 := s9.drewN nq
          clear s7 s9 k
          go_wp2
          go_roundg (leftOf (List.map Ent.me d.ents).toArray (seen.push e0.born)).size
          case measure => exact hsh2.out
          case rel => exact ⟨seen.push e0.born, rfl, hK2, s8⟩
      · have hno : ∀ e ∈ o.ents, e.key ≠ e0.key := fun e hm h => hx ⟨e, hm, h⟩
        have hl := run_lookup_no (w := w1) (z := .pointer none) Try.underlying146 Try.underlying25 hobo hno (zero_page w1)
        have hzz : BT = List.replicate 4096 0 := by rw [← hBT]; exact o.page_zeroR hno
        have hzc : pageZ = CT.toArray := by rw [← hCT, hzz, List.map_replicate]; rfl
        have hpb := run_pageBuild
        rw [hzc] at hpb
        have s4 := s2.alloc (c := CT) (t := 151)
        obtain ⟨P, hP⟩ : ∃ P, w1.heap.size = P := ⟨_, rfl⟩
        rw [hP, show CT.toArray = Try.zeroCells151 from hzc.symm.trans page_zero] at s4
        have hmid0 : (w1.alloc (.cells Try.zeroCells151 151)).rangeAt e0.blk 0 CS := World.rangeAt_alloc hmid _
        have hmid2 : (w1.alloc (.cells Try.zeroCells151 151)).rangeAt P 0 CT := fun j v hv => (s4.c j hv).1
        replace s2 := s4.tail1
        clear s4 hzz hzc
        have s7 := s2.tail1
        have s9 := s2
        have hmidW : ∀ W, (∃ n, W = (w1.alloc (.cells Try.zeroCells151 151)).drewN n) → W.rangeAt e0.blk 0 CS := by rintro W ⟨n, rfl⟩; intro j v hv; simpa using hmid0 j v hv
        have hmidW2 : ∀ W, (∃ n, W = (w1.alloc (.cells Try.zeroCells151 151)).drewN n) → W.rangeAt P 0 CT := by rintro W ⟨n, rfl⟩; intro j v hv; simpa using hmid2 j v hv
        have hgt : Try.prog.eqGuardType Try.prog.depth 151 = false := by kernel_rfl
        clear hpg hpo hBS hBT s2 s' hal hin hin2 hobo hiff hsh hCl hDl c2 hrange hold hnod hmid hmid0 hmid2
        go_wp2
        refine wp_region_quiet_lit (by kernel_rfl) (by kernel_rfl) ?_
        quiet_step (fail)
        quiet_step (fail)
        (refine BigFrame.wpQuiet_want (by rfl) (fun K hK => ?_); refine quiet_load_mid 151 (.tmp 33) rfl e0.blk 0 rfl CS _ hmidW hu rfl hsz ?_; refine hK _ ?_; clear hK K)
        quiet_step (fail)
        quiet_step (fail)
        (refine BigFrame.wpQuiet_want (by rfl) (fun K hK => ?_); refine quiet_load_mid 151 (.tmp 36) rfl P 0 rfl CT _ hmidW2 hu rfl hsz2 ?_; refine hK _ ?_; clear hK K)
        (refine BigFrame.wpQuiet_want (by rfl) (fun K hK => ?_); refine quiet_neq_bytes 151 5 (.tmp 34) (.tmp 37) rfl BS BT (by rw [hCS]; rfl) (by rw [hCT]; rfl) hu Try.underlying5 hz8R hgt hBl hTl ?_; refine hK _ ?_; clear hK K)
        refine wpQuiet_nil ?_
        intro _ hw'
        obtain ⟨nq, hw''⟩ := hw'
        subst hw''
        rw [hbb]
        simp only [Act.put, List.getElem_toArray, List.getElem_cons_succ, List.getElem_cons_zero, List.setIfInBounds_toArray, List.set_cons_succ, List.set_cons_zero]
        replace hbb := aside hbb
        cases bb
        · have K := k _ (s7.drewN nq).wk
          rw [hK0.out (of_decide_eq_false hbb.out)] at K
          clear s7 k
          go_wp2
          exact K
        · have hK2 := aside (hK1.out (of_decide_eq_true hbb.out))
          have s8 := s9.drewN nq
          clear s7 s9 k
          go_wp2
          go_roundg (leftOf (List.map Ent.me d.ents).toArray (seen.push e0.born)).size
          case measure => exact hsh2.out
          case rel => exact ⟨seen.push e0.born, rfl, hK2, s8⟩

def sameR (d o : RamG) : Bool := decide (d.size = o.size) && (underR d o && underR o d)

theorem sat_swapR (s : Sat W0 w H (ramL ⟨a, 0, none⟩ (d, l) ++ (ramL ⟨b, 0, none⟩ (o, l2) ++ F))) : Sat W0 w H (ramL ⟨b, 0, none⟩ (o, l2) ++ (ramL ⟨a, 0, none⟩ (d, l) ++ F)) := by
  rw [← List.append_assoc] at s ⊢
  exact s.perm (List.Perm.append_right F List.perm_append_comm)

set_option maxRecDepth 100000 in
set_option maxHeartbeats 4000000 in
theorem c_ramSame (s : Sat W0 w H (ramL ⟨a, 0, none⟩ (d, l) ++ (ramL ⟨b, 0, none⟩ (o, l2) ++ F)))
    (k : ∀ w', Sat W0 w' H (ramL ⟨a, 0, none⟩ (d, l) ++ (ramL ⟨b, 0, none⟩ (o, l2) ++ F)) → R (.returned (.bool (sameR d o))) w') :
    Calls Try.prog 18 #[.pointer (some ⟨a, 0, none⟩), .pointer (some ⟨b, 0, none⟩)] w R := by
  have c0 := (show Sat W0 w H (cellsH ⟨a, 0, none⟩ _ :: _) from s).c0
  have e0 := (show Sat W0 w H (cellsH ⟨b, 0, none⟩ _ :: _) from sat_swapR s).c0
  have sw := fun (w' : World) (q : Sat W0 w' H (ramL ⟨b, 0, none⟩ (o, l2) ++ (ramL ⟨a, 0, none⟩ (d, l) ++ F))) => k w' (sat_swapR q)
  obtain ⟨c, hcd⟩ : ∃ c, d.size = c := ⟨_, rfl⟩
  simp only [] at c0 e0
  rw [hcd] at c0
  by_cases hc : d.size = o.size
  · rw [← hc, hcd] at e0
    replace hc := aside hc
    replace hcd := aside hcd
    cases hu1 : underR d o
    · replace hu1 := aside hu1
      have K := fun w' q => k w' q
      rw [show sameR d o = false by unfold sameR; rw [hu1.out]; simp] at K
      clear k sw
      go_enter Try.func18, Try.ntmps18
      go_wp2
      go_quiet (fail)
      have s2 := s.drewN nq
      clear s c0 e0
      go_wp2_with fail
      refine c_underR s2 ?_
      intro w3 s3
      rw [hu1.out]
      clear s2
      go_wp2
      exact s3
    · replace hu1 := aside hu1
      have K := fun w' (q : Sat W0 w' H (ramL ⟨b, 0, none⟩ (o, l2) ++ (ramL ⟨a, 0, none⟩ (d, l) ++ F))) => sw w' q
      rw [show sameR d o = underR o d by unfold sameR; rw [hu1.out, hc.out]; simp] at K
      clear k sw
      go_enter Try.func18, Try.ntmps18
      go_wp2
      go_quiet (fail)
      have s2 := s.drewN nq
      clear s c0 e0
      go_wp2_with fail
      refine c_underR s2 ?_
      intro w3 s3
      rw [hu1.out]
      clear s2
      have s4 := sat_swapR s3
      clear s3
      go_wp2_with fail
      refine c_underR s4 ?_
      intro w5 s5
      clear s4
      go_wp2
      exact s5
  · replace hc := aside hc
    have hne : ¬ c = o.size := by rw [← hcd]; exact hc.out
    obtain ⟨c2, hc2⟩ : ∃ c2, o.size = c2 := ⟨_, rfl⟩
    rw [hc2] at hne e0
    have K := fun w' q => k w' q
    rw [show sameR d o = false by unfold sameR; rw [decide_eq_false hc.out]; simp] at K
    clear k sw
    replace hcd := aside hcd
    replace hc2 := aside hc2
    go_enter Try.func18, Try.ntmps18
    go_wp2
    go_quiet (fail)
    have s2 := s.drewN nq
    clear s c0 e0
    go_wp2
    exact s2
end
end Go.Proofs.Ytippipfogbgemaa
