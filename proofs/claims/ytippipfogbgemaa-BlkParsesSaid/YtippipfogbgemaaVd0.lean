/-
  DISK: the object (its count, its map of sectors, what was asked); New, ask, piece, Flush, Fail, and what they tell.
-/
import Derived.Test.YtippipfogbgemaaVn
namespace Go.Proofs.Ytippipfogbgemaa
open Go.RowKit
set_option linter.unusedVariables false

structure DiskG where
  count : Int
  locked : Bool
  mb : Nat
  ck : Nat
  ents : List Ent
  mem : Int → Int
  fault : Int
  reqs : Int
  flushes : Int
  hcount : 1 ≤ count ∧ count ≤ 65536
  hkey : ents.Pairwise (·.key ≠ ·.key)
  hblk : ents.Pairwise (·.blk ≠ ·.blk)
  hborn : ents.Pairwise (·.born ≠ ·.born) ∧ ∀ e ∈ ents, e.born < ck
  hin : ∀ e ∈ ents, (e.key : Int) < count
  hmem : ∀ a, 0 ≤ mem a ∧ mem a ≤ 255
  hzero : ∀ k : Nat, (∀ e ∈ ents, e.key ≠ k) → ∀ o, o < 512 → mem ((0 + 512 * k + o : Nat) : Int) = 0
  hfault : 0 ≤ fault ∧ fault ≤ 18446744073709551615
  hreqs : 0 ≤ reqs ∧ reqs ≤ 18446744073709551615
  hflushes : 0 ≤ flushes ∧ flushes ≤ 18446744073709551615

def diskL (p : Addr) (d : DiskG) : List Hp :=
  [cellsH p [.int .u64 d.count, .bool d.locked, .map (some d.mb), .int .u64 d.fault, .int .u64 d.reqs, .int .u64 d.flushes], objH d.mb (.map (d.ents.map Ent.me).toArray d.ck), pagesH 0 512 d.ents d.mem]

def DiskG.new (count : Int) (locked : Bool) (mb : Nat) (h : 1 ≤ count ∧ count ≤ 65536) : DiskG := ⟨count, locked, mb, 0, [], fun _ => 0, 0, 0, 0, h, by simp, by simp, ⟨by simp, by simp⟩, by simp, by simp, by simp, by omega, by omega, by omega⟩
def nextF (f : Int) : Int := if f = 0 then 0 else f - 1
def askC (f : Int) : Int := if f = 1 then 133 else 0
def upQ (q : Int) : Int := (q + 1) % 18446744073709551616
theorem nextF_bd {f : Int} (h : 0 ≤ f ∧ f ≤ 18446744073709551615) : 0 ≤ nextF f ∧ nextF f ≤ 18446744073709551615 := by unfold nextF; split <;> omega
theorem upQ_bd (q : Int) : 0 ≤ upQ q ∧ upQ q ≤ 18446744073709551615 := by unfold upQ; omega
def DiskG.asked (d : DiskG) : DiskG := { d with fault := nextF d.fault, reqs := upQ d.reqs, hfault := nextF_bd d.hfault, hreqs := upQ_bd _ }
def DiskG.failing (d : DiskG) (f : Int) (h : 0 ≤ f ∧ f ≤ 18446744073709551615) : DiskG := { d with fault := f, hfault := h }
def DiskG.flushed (d : DiskG) : DiskG := { d with flushes := upQ d.flushes, hflushes := upQ_bd _ }
def pieceC (count a n : Int) : Int := if n % 512 = 0 then (if a + n / 512 ≤ count then 0 else 131) else 20

theorem pagesH_noneD (base sz : Nat) (m : Int → Int) : pagesH base sz [] m = empH := by
  funext x; cases x <;> rfl

section
variable {R : Ending → World → Prop} {W0 w : World} {H : Hp} {A F : List Hp} {b : Nat} {d : DiskG}

set_option maxRecDepth 100000 in
set_option maxHeartbeats 4000000 in
theorem c_diskNewBad (n : Int) (l : Bool) (h0 : 0 ≤ n ∧ n ≤ 18446744073709551615) (hr : n < 1 ∨ 65536 < n)
    (k : R (.returned (.tuple #[.pointer none, .int .i64 130])) w) : Calls Try.prog 81 #[.int .u64 n, .bool l] w R := by
  by_cases h1 : n < 1
  · go_enter Try.func81, Try.ntmps81
    go_wp2
    exact k
  · have h2 : 65536 < n := by omega
    have h3 : 1 ≤ n := by omega
    clear hr h1
    go_enter Try.func81, Try.ntmps81
    go_wp2
    exact k

set_option maxRecDepth 100000 in
set_option maxHeartbeats 4000000 in
theorem c_diskNew (s : Sat W0 w H A) (n : Int) (l : Bool) (hr : 1 ≤ n ∧ n ≤ 65536)
    (k : ∀ w' b mb, Sat W0 w' H (diskL ⟨b, 0, none⟩ (DiskG.new n l mb hr) ++ A) → R (.returned (.tuple #[.pointer (some ⟨b, 0, none⟩), .int .i64 0])) w') : Calls Try.prog 81 #[.int .u64 n, .bool l] w R := by
  have hmm : ∀ W, (Instr.makeMap 204 none).run Try.prog W = .ok (.map (some W.heap.size)) (W.alloc (.map #[] 0)) := fun W => run_makeMap _ W
  have s1 := ((s.allocO (o := .map #[] 0) (by intro c t f h; cases h)).alloc (c := [.int .u64 n, .bool l, .map (some w.heap.size), .int .u64 0, .int .u64 0, .int .u64 0]) (t := 206)).emp
  rw [← pagesH_noneD 0 512 (fun _ => 0), World.size_alloc] at s1
  have K := k _ (w.heap.size + 1) w.heap.size (by
    show Sat W0 _ H (cellsH ⟨w.heap.size + 1, 0, none⟩ [.int .u64 n, .bool l, .map (some w.heap.size), .int .u64 0, .int .u64 0, .int .u64 0] :: objH w.heap.size (.map #[] 0) :: pagesH 0 512 [] (fun _ => 0) :: A)
    exact s1.wk)
  clear s s1 k
  go_enter Try.func81, Try.ntmps81
  go_wp2
  exact K

theorem c_diskCount (s : Sat W0 w H A) [fr : FrK (κ := Addr) (ρ := fun _ => DiskG) diskL ⟨b, 0, none⟩ A d F] (k : R (.returned (.int .u64 d.count)) w) :
    Calls Try.prog 91 #[.pointer (some ⟨b, 0, none⟩)] w R := by
  have c0 := (s.front (mk := diskL) (k := ⟨b, 0, none⟩)).c0
  clear s fr
  go_enter Try.func91, Try.ntmps91
  go_wp2
  exact k
theorem c_diskLocked (s : Sat W0 w H A) [fr : FrK (κ := Addr) (ρ := fun _ => DiskG) diskL ⟨b, 0, none⟩ A d F] (k : R (.returned (.bool d.locked)) w) :
    Calls Try.prog 88 #[.pointer (some ⟨b, 0, none⟩)] w R := by
  have c0 := (s.front (mk := diskL) (k := ⟨b, 0, none⟩)).c 1 rfl
  clear s fr
  go_enter Try.func88, Try.ntmps88
  go_wp2
  exact k
set_option maxRecDepth 100000 in
set_option maxHeartbeats 4000000 in
theorem c_diskFail (s : Sat W0 w H A) [fr : FrK (κ := Addr) (ρ := fun _ => DiskG) diskL ⟨b, 0, none⟩ A d F] (f : Int) (hf : 0 ≤ f ∧ f ≤ 18446744073709551615)
    (k : ∀ w', Sat W0 w' H (diskL ⟨b, 0, none⟩ (d.failing f hf) ++ F) → R (.returned (.tuple #[])) w') :
    Calls Try.prog 86 #[.pointer (some ⟨b, 0, none⟩), .int .u64 f] w R := by
  have s1 := s.front (mk := diskL) (k := ⟨b, 0, none⟩)
  simp only [diskL, List.cons_append, List.nil_append] at s1
  have c3 := s1.c 3 rfl
  have s2 := s1.s 3 (by simp) (.int .u64 f)
  simp only [List.set_cons_succ, List.set_cons_zero, Nat.zero_add] at s2 c3
  have K := k _ s2
  clear s fr s1 s2 k
  go_enter Try.func86, Try.ntmps86
  go_wp2
  go_end0
  exact K

set_option maxRecDepth 100000 in
set_option maxHeartbeats 4000000 in
theorem c_ask (s : Sat W0 w H A) [fr : FrK (κ := Addr) (ρ := fun _ => DiskG) diskL ⟨b, 0, none⟩ A d F]
    (k : ∀ w', Sat W0 w' H (diskL ⟨b, 0, none⟩ d.asked ++ F) → R (.returned (.int .i64 (askC d.fault))) w') :
    Calls Try.prog 144 #[.pointer (some ⟨b, 0, none⟩)] w R := by
  have s1 := s.front (mk := diskL) (k := ⟨b, 0, none⟩)
  simp only [diskL, List.cons_append, List.nil_append] at s1
  have hf := d.hfault
  have c3 := s1.c 3 rfl
  have c4 := s1.c 4 rfl
  have s2 := s1.s 4 (by simp) (.int .u64 (upQ d.reqs))
  simp only [List.set_cons_succ, List.set_cons_zero, Nat.zero_add] at s2 c3 c4
  have ew : IntKind.u64.wrap (d.reqs + 1) = upQ d.reqs := wrap_u64 _
  by_cases f0 : d.fault = 0
  · have K := k _ (by
      show Sat W0 _ H (cellsH ⟨b, 0, none⟩ [.int .u64 d.count, .bool d.locked, .map (some d.mb), .int .u64 (nextF d.fault), .int .u64 (upQ d.reqs), .int .u64 d.flushes] :: objH d.mb (.map (d.ents.map Ent.me).toArray d.ck) :: pagesH 0 512 d.ents d.mem :: F)
      have e : nextF d.fault = d.fault := by rw [f0]; rfl
      rw [e]; exact s2)
    rw [show askC d.fault = 0 by rw [f0]; rfl] at K
    obtain ⟨q, hq⟩ : ∃ q, d.fault = q := ⟨_, rfl⟩
    rw [hq] at c3 f0
    clear s fr s1 s2 k hf hq
    go_enter Try.func144, Try.ntmps144
    go_wp2
    exact K
  · have s3 := s2.s 3 (by simp) (.int .u64 (d.fault - 1))
    simp only [List.set_cons_succ, List.set_cons_zero, Nat.zero_add] at s3
    have K := k _ (by
      show Sat W0 _ H (cellsH ⟨b, 0, none⟩ [.int .u64 d.count, .bool d.locked, .map (some d.mb), .int .u64 (nextF d.fault), .int .u64 (upQ d.reqs), .int .u64 d.flushes] :: objH d.mb (.map (d.ents.map Ent.me).toArray d.ck) :: pagesH 0 512 d.ents d.mem :: F)
      have e : nextF d.fault = d.fault - 1 := by unfold nextF; rw [if_neg f0]
      rw [e]; exact s3)
    have e0 : (d.fault == 0) = false := by simp [f0]
    have ew2 : IntKind.u64.wrap (d.fault - 1) = d.fault - 1 := by rw [wrap_u64]; omega
    by_cases f1 : d.fault = 1
    · have e1 : (d.fault - 1 == 0) = true := by simp [f1]
      rw [show askC d.fault = 133 by rw [f1]; rfl] at K
      clear s fr s1 s2 s3 k hf f0 f1
      go_enter Try.func144, Try.ntmps144
      go_wp2
      exact K
    · have e1 : (d.fault - 1 == 0) = false := by simp; omega
      rw [show askC d.fault = 0 by unfold askC; rw [if_neg f1]] at K
      clear s fr s1 s2 s3 k hf f0 f1
      go_enter Try.func144, Try.ntmps144
      go_wp2
      exact K

set_option maxRecDepth 100000 in
set_option maxHeartbeats 4000000 in
theorem c_piece (s : Sat W0 w H A) [fr : FrK (κ := Addr) (ρ := fun _ => DiskG) diskL ⟨b, 0, none⟩ A d F] (a n : Int) (ha : 0 ≤ a ∧ a ≤ 18446744073709551615) (hn : 0 ≤ n ∧ n ≤ 18446744073709551615)
    (k : R (.returned (.int .i64 (pieceC d.count a n))) w) :
    Calls Try.prog 147 #[.pointer (some ⟨b, 0, none⟩), .int .u64 a, .int .u64 n] w R := by
  have c0 := (s.front (mk := diskL) (k := ⟨b, 0, none⟩)).c0
  have hc := d.hcount
  obtain ⟨ct, hct⟩ : ∃ ct, d.count = ct := ⟨_, rfl⟩
  rw [hct] at c0 hc k
  clear s fr hct
  by_cases h5 : n % 512 = 0
  · obtain ⟨q, hq⟩ : ∃ q, n / 512 = q := ⟨_, rfl⟩
    have hqb : 0 ≤ q ∧ q ≤ 18446744073709551615 := by omega
    unfold pieceC at k
    rw [if_pos h5, hq] at k
    by_cases hw : a + q ≤ ct
    · rw [if_pos hw] at k
      go_enter Try.func147, Try.ntmps147
      go_wp2_with fail
      refine c_Aligned n 512 9 rfl (by omega) hn ?_
      rw [decide_eq_true h5]
      go_wp2_with fail
      refine c_Within a q 0 ct ha hqb (by omega) (by omega) ?_
      rw [decide_eq_true (by omega)]
      go_wp2
      exact k
    · rw [if_neg hw] at k
      go_enter Try.func147, Try.ntmps147
      go_wp2_with fail
      refine c_Aligned n 512 9 rfl (by omega) hn ?_
      rw [decide_eq_true h5]
      go_wp2_with fail
      refine c_Within a q 0 ct ha hqb (by omega) (by omega) ?_
      rw [decide_eq_false (by omega)]
      go_wp2
      exact k
  · unfold pieceC at k
    rw [if_neg h5] at k
    go_enter Try.func147, Try.ntmps147
    go_wp2_with fail
    refine c_Aligned n 512 9 rfl (by omega) hn ?_
    rw [decide_eq_false h5]
    go_wp2
    exact k

set_option maxRecDepth 100000 in
set_option maxHeartbeats 4000000 in
theorem c_diskFlush (s : Sat W0 w H A) [fr : FrK (κ := Addr) (ρ := fun _ => DiskG) diskL ⟨b, 0, none⟩ A d F]
    (k1 : d.fault = 1 → ∀ w', Sat W0 w' H (diskL ⟨b, 0, none⟩ d.asked ++ F) → R (.returned (.int .i64 133)) w')
    (k0 : d.fault ≠ 1 → ∀ w', Sat W0 w' H (diskL ⟨b, 0, none⟩ d.asked.flushed ++ F) → R (.returned (.int .i64 0)) w') :
    Calls Try.prog 121 #[.pointer (some ⟨b, 0, none⟩)] w R := by
  by_cases f1 : d.fault = 1
  · have K := k1 f1
    clear k0 k1
    go_enter Try.func121, Try.ntmps121
    go_wp2_with fail
    refine c_ask s ?_
    intro w2 s2
    rw [show askC d.fault = 133 by rw [f1]; rfl]
    go_wp2
    exact s2
  · have K := k0 f1
    clear k0 k1
    go_enter Try.func121, Try.ntmps121
    go_wp2_with fail
    refine c_ask s ?_
    intro w2 s2
    rw [show askC d.fault = 0 by unfold askC; rw [if_neg f1]]
    simp only [diskL, List.cons_append, List.nil_append] at s2
    have c5 := s2.c 5 rfl
    have s3 := s2.s 5 (by simp) (.int .u64 (upQ d.asked.flushes))
    simp only [List.set_cons_succ, List.set_cons_zero, Nat.zero_add] at s3 c5
    have ew : IntKind.u64.wrap (d.asked.flushes + 1) = upQ d.asked.flushes := wrap_u64 _
    clear s s2
    go_wp2
    exact s3

set_option maxRecDepth 100000 in
set_option maxHeartbeats 4000000 in
theorem c_diskReadBad (s : Sat W0 w H A) [fr : FrK (κ := Addr) (ρ := fun _ => DiskG) diskL ⟨b, 0, none⟩ A d F] (a n : Int) (ha : 0 ≤ a ∧ a ≤ 18446744073709551615) (hn : 0 ≤ n ∧ n ≤ 18446744073709551615)
    (hbad : d.fault = 1 ∨ pieceC d.count a n ≠ 0)
    (k : ∀ w', Sat W0 w' H (diskL ⟨b, 0, none⟩ d.asked ++ F) → R (.returned (.tuple #[.slice none 0 0, .int .i64 (if d.fault = 1 then 133 else pieceC d.count a n)])) w') :
    Calls Try.prog 142 #[.pointer (some ⟨b, 0, none⟩), .int .u64 a, .int .u64 n] w R := by
  by_cases f1 : d.fault = 1
  · rw [if_pos f1] at k
    go_enter Try.func142, Try.ntmps142
    go_wp2_with fail
    refine c_ask s ?_
    intro w2 s2
    rw [show askC d.fault = 133 by rw [f1]; rfl]
    go_wp2
    exact s2
  · rw [if_neg f1] at k
    have hb : pieceC d.count a n ≠ 0 := hbad.resolve_left f1
    obtain ⟨p, hp⟩ : ∃ p, pieceC d.count a n = p := ⟨_, rfl⟩
    rw [hp] at k hb
    have hpb : (p != 0) = true := by simp [hb]
    go_enter Try.func142, Try.ntmps142
    go_wp2_with fail
    refine c_ask s ?_
    intro w2 s2
    rw [show askC d.fault = 0 by unfold askC; rw [if_neg f1]]
    go_wp2_with fail
    refine c_piece s2 a n ha hn ?_
    rw [show pieceC d.asked.count a n = p from hp]
    clear hb hp
    go_wp2
    exact s2

end
end Go.Proofs.Ytippipfogbgemaa
