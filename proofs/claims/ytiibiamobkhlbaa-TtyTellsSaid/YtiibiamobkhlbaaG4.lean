/-
  DISK: the object (its count, its map of sectors, what was asked); New, ask, piece, Flush, Fail, and what they tell.
  DISK: plain laws: a sector put into the map; the pages then; copy at a place.
  DISK: a sector told; bytes read.
  DISK: bytes read.
  DISK: a sector put, as the pieces go; bytes written.
  DISK: bytes written.
  DISK: what stands on it at the beginning (Fill); a Write that is refused.
  The document's disk (vireoref13): as a value; ask, piece, Flush, New.
  The document's disk (vireoref13): lay, Fill, Write, Read.
  The document's disk (vireoref13): Fill, Write, Read.
-/
import Derived.Test.YtiibiamobkhlbaaG1
import Derived.Deep.RegionLaw
import Derived.Test.YtiibiamobkhlbaaG2
set_option linter.unusedVariables false
set_option linter.unusedSimpArgs false
namespace Go.Proofs.Ytiibiamobkhlbaa
open Go.RowKit
set_option linter.unusedVariables false

structure DiskG where
  count : Int
  locked : Bool
  mb : Nat
  ck : Nat
  ents : List Ent
  mem : Int → Int
  fault : Int
  reqs : Int
  flushes : Int
  hcount : 1 ≤ count ∧ count ≤ 65536
  hkey : ents.Pairwise (·.key ≠ ·.key)
  hblk : ents.Pairwise (·.blk ≠ ·.blk)
  hborn : ents.Pairwise (·.born ≠ ·.born) ∧ ∀ e ∈ ents, e.born < ck
  hin : ∀ e ∈ ents, (e.key : Int) < count
  hmem : ∀ a, 0 ≤ mem a ∧ mem a ≤ 255
  hzero : ∀ k : Nat, (∀ e ∈ ents, e.key ≠ k) → ∀ o, o < 512 → mem ((0 + 512 * k + o : Nat) : Int) = 0
  hfault : 0 ≤ fault ∧ fault ≤ 18446744073709551615
  hreqs : 0 ≤ reqs ∧ reqs ≤ 18446744073709551615
  hflushes : 0 ≤ flushes ∧ flushes ≤ 18446744073709551615

def diskL (p : Addr) (d : DiskG) : List Hp :=
  [cellsH p [.int .u64 d.count, .bool d.locked, .map (some d.mb), .int .u64 d.fault, .int .u64 d.reqs, .int .u64 d.flushes], objH d.mb (.map (d.ents.map Ent.me).toArray d.ck), pagesH 0 512 d.ents d.mem]

def DiskG.new (count : Int) (locked : Bool) (mb : Nat) (h : 1 ≤ count ∧ count ≤ 65536) : DiskG := ⟨count, locked, mb, 0, [], fun _ => 0, 0, 0, 0, h, by simp, by simp, ⟨by simp, by simp⟩, by simp, by simp, by simp, by omega, by omega, by omega⟩
def nextF (f : Int) : Int := if f = 0 then 0 else f - 1
def askC (f : Int) : Int := if f = 1 then 133 else 0
def upQ (q : Int) : Int := (q + 1) % 18446744073709551616
theorem nextF_bd {f : Int} (h : 0 ≤ f ∧ f ≤ 18446744073709551615) : 0 ≤ nextF f ∧ nextF f ≤ 18446744073709551615 := by unfold nextF; split <;> omega
theorem upQ_bd (q : Int) : 0 ≤ upQ q ∧ upQ q ≤ 18446744073709551615 := by unfold upQ; omega
def DiskG.asked (d : DiskG) : DiskG := { d with fault := nextF d.fault, reqs := upQ d.reqs, hfault := nextF_bd d.hfault, hreqs := upQ_bd _ }
def DiskG.failing (d : DiskG) (f : Int) (h : 0 ≤ f ∧ f ≤ 18446744073709551615) : DiskG := { d with fault := f, hfault := h }
def DiskG.flushed (d : DiskG) : DiskG := { d with flushes := upQ d.flushes, hflushes := upQ_bd _ }
def pieceC (count a n : Int) : Int := if n % 512 = 0 then (if a + n / 512 ≤ count then 0 else 131) else 20

theorem pagesH_noneD (base sz : Nat) (m : Int → Int) : pagesH base sz [] m = empH := by
  funext x; cases x <;> rfl

section
variable {R : Ending → World → Prop} {W0 w : World} {H : Hp} {A F : List Hp} {b : Nat} {d : DiskG}

set_option maxRecDepth 100000 in
set_option maxHeartbeats 4000000 in
theorem c_diskNewBad (n : Int) (l : Bool) (h0 : 0 ≤ n ∧ n ≤ 18446744073709551615) (hr : n < 1 ∨ 65536 < n)
    (k : R (.returned (.tuple #[.pointer none, .int .i64 130])) w) : Calls Try.prog 65 #[.int .u64 n, .bool l] w R := by
  by_cases h1 : n < 1
  · go_enter Try.func65, Try.ntmps65
    go_wp2
    exact k
  · have h2 : 65536 < n := by omega
    have h3 : 1 ≤ n := by omega
    clear hr h1
    go_enter Try.func65, Try.ntmps65
    go_wp2
    exact k

set_option maxRecDepth 100000 in
set_option maxHeartbeats 4000000 in
theorem c_diskNew (s : Sat W0 w H A) (n : Int) (l : Bool) (hr : 1 ≤ n ∧ n ≤ 65536)
    (k : ∀ w' b mb, Sat W0 w' H (diskL ⟨b, 0, none⟩ (DiskG.new n l mb hr) ++ A) → R (.returned (.tuple #[.pointer (some ⟨b, 0, none⟩), .int .i64 0])) w') : Calls Try.prog 65 #[.int .u64 n, .bool l] w R := by
  have hmm : ∀ W, (Instr.makeMap 160 none).run Try.prog W = .ok (.map (some W.heap.size)) (W.alloc (.map #[] 0)) := fun W => run_makeMap _ W
  have s1 := ((s.allocO (o := .map #[] 0) (by intro c t f h; cases h)).alloc (c := [.int .u64 n, .bool l, .map (some w.heap.size), .int .u64 0, .int .u64 0, .int .u64 0]) (t := 162)).emp
  rw [← pagesH_noneD 0 512 (fun _ => 0), World.size_alloc] at s1
  have K := k _ (w.heap.size + 1) w.heap.size (by
    show Sat W0 _ H (cellsH ⟨w.heap.size + 1, 0, none⟩ [.int .u64 n, .bool l, .map (some w.heap.size), .int .u64 0, .int .u64 0, .int .u64 0] :: objH w.heap.size (.map #[] 0) :: pagesH 0 512 [] (fun _ => 0) :: A)
    exact s1.wk)
  clear s s1 k
  go_enter Try.func65, Try.ntmps65
  go_wp2
  exact K

theorem c_diskCount (s : Sat W0 w H A) [fr : FrK (κ := Addr) (ρ := fun _ => DiskG) diskL ⟨b, 0, none⟩ A d F] (k : R (.returned (.int .u64 d.count)) w) :
    Calls Try.prog 73 #[.pointer (some ⟨b, 0, none⟩)] w R := by
  have c0 := (s.front (mk := diskL) (k := ⟨b, 0, none⟩)).c0
  clear s fr
  go_enter Try.func73, Try.ntmps73
  go_wp2
  exact k
theorem c_diskLocked (s : Sat W0 w H A) [fr : FrK (κ := Addr) (ρ := fun _ => DiskG) diskL ⟨b, 0, none⟩ A d F] (k : R (.returned (.bool d.locked)) w) :
    Calls Try.prog 70 #[.pointer (some ⟨b, 0, none⟩)] w R := by
  have c0 := (s.front (mk := diskL) (k := ⟨b, 0, none⟩)).c 1 rfl
  clear s fr
  go_enter Try.func70, Try.ntmps70
  go_wp2
  exact k
set_option maxRecDepth 100000 in
set_option maxHeartbeats 4000000 in
theorem c_diskFail (s : Sat W0 w H A) [fr : FrK (κ := Addr) (ρ := fun _ => DiskG) diskL ⟨b, 0, none⟩ A d F] (f : Int) (hf : 0 ≤ f ∧ f ≤ 18446744073709551615)
    (k : ∀ w', Sat W0 w' H (diskL ⟨b, 0, none⟩ (d.failing f hf) ++ F) → R (.returned (.tuple #[])) w') :
    Calls Try.prog 68 #[.pointer (some ⟨b, 0, none⟩), .int .u64 f] w R := by
  have s1 := s.front (mk := diskL) (k := ⟨b, 0, none⟩)
  simp only [diskL, List.cons_append, List.nil_append] at s1
  have c3 := s1.c 3 rfl
  have s2 := s1.s 3 (by simp) (.int .u64 f)
  simp only [List.set_cons_succ, List.set_cons_zero, Nat.zero_add] at s2 c3
  have K := k _ s2
  clear s fr s1 s2 k
  go_enter Try.func68, Try.ntmps68
  go_wp2
  go_end0
  exact K

set_option maxRecDepth 100000 in
set_option maxHeartbeats 4000000 in
theorem c_ask (s : Sat W0 w H A) [fr : FrK (κ := Addr) (ρ := fun _ => DiskG) diskL ⟨b, 0, none⟩ A d F]
    (k : ∀ w', Sat W0 w' H (diskL ⟨b, 0, none⟩ d.asked ++ F) → R (.returned (.int .i64 (askC d.fault))) w') :
    Calls Try.prog 163 #[.pointer (some ⟨b, 0, none⟩)] w R := by
  have s1 := s.front (mk := diskL) (k := ⟨b, 0, none⟩)
  simp only [diskL, List.cons_append, List.nil_append] at s1
  have hf := d.hfault
  have c3 := s1.c 3 rfl
  have c4 := s1.c 4 rfl
  have s2 := s1.s 4 (by simp) (.int .u64 (upQ d.reqs))
  simp only [List.set_cons_succ, List.set_cons_zero, Nat.zero_add] at s2 c3 c4
  have ew : IntKind.u64.wrap (d.reqs + 1) = upQ d.reqs := wrap_u64 _
  by_cases f0 : d.fault = 0
  · have K := k _ (by
      show Sat W0 _ H (cellsH ⟨b, 0, none⟩ [.int .u64 d.count, .bool d.locked, .map (some d.mb), .int .u64 (nextF d.fault), .int .u64 (upQ d.reqs), .int .u64 d.flushes] :: objH d.mb (.map (d.ents.map Ent.me).toArray d.ck) :: pagesH 0 512 d.ents d.mem :: F)
      have e : nextF d.fault = d.fault := by rw [f0]; rfl
      rw [e]; exact s2)
    rw [show askC d.fault = 0 by rw [f0]; rfl] at K
    obtain ⟨q, hq⟩ : ∃ q, d.fault = q := ⟨_, rfl⟩
    rw [hq] at c3 f0
    clear s fr s1 s2 k hf hq
    go_enter Try.func163, Try.ntmps163
    go_wp2
    exact K
  · have s3 := s2.s 3 (by simp) (.int .u64 (d.fault - 1))
    simp only [List.set_cons_succ, List.set_cons_zero, Nat.zero_add] at s3
    have K := k _ (by
      show Sat W0 _ H (cellsH ⟨b, 0, none⟩ [.int .u64 d.count, .bool d.locked, .map (some d.mb), .int .u64 (nextF d.fault), .int .u64 (upQ d.reqs), .int .u64 d.flushes] :: objH d.mb (.map (d.ents.map Ent.me).toArray d.ck) :: pagesH 0 512 d.ents d.mem :: F)
      have e : nextF d.fault = d.fault - 1 := by unfold nextF; rw [if_neg f0]
      rw [e]; exact s3)
    have e0 : (d.fault == 0) = false := by simp [f0]
    have ew2 : IntKind.u64.wrap (d.fault - 1) = d.fault - 1 := by rw [wrap_u64]; omega
    by_cases f1 : d.fault = 1
    · have e1 : (d.fault - 1 == 0) = true := by simp [f1]
      rw [show askC d.fault = 133 by rw [f1]; rfl] at K
      clear s fr s1 s2 s3 k hf f0 f1
      go_enter Try.func163, Try.ntmps163
      go_wp2
      exact K
    · have e1 : (d.fault - 1 == 0) = false := by simp; omega
      rw [show askC d.fault = 0 by unfold askC; rw [if_neg f1]] at K
      clear s fr s1 s2 s3 k hf f0 f1
      go_enter Try.func163, Try.ntmps163
      go_wp2
      exact K

set_option maxRecDepth 100000 in
set_option maxHeartbeats 4000000 in
theorem c_piece (s : Sat W0 w H A) [fr : FrK (κ := Addr) (ρ := fun _ => DiskG) diskL ⟨b, 0, none⟩ A d F] (a n : Int) (ha : 0 ≤ a ∧ a ≤ 18446744073709551615) (hn : 0 ≤ n ∧ n ≤ 18446744073709551615)
    (k : R (.returned (.int .i64 (pieceC d.count a n))) w) :
    Calls Try.prog 171 #[.pointer (some ⟨b, 0, none⟩), .int .u64 a, .int .u64 n] w R := by
  have c0 := (s.front (mk := diskL) (k := ⟨b, 0, none⟩)).c0
  have hc := d.hcount
  obtain ⟨ct, hct⟩ : ∃ ct, d.count = ct := ⟨_, rfl⟩
  rw [hct] at c0 hc k
  clear s fr hct
  by_cases h5 : n % 512 = 0
  · obtain ⟨q, hq⟩ : ∃ q, n / 512 = q := ⟨_, rfl⟩
    have hqb : 0 ≤ q ∧ q ≤ 18446744073709551615 := by omega
    unfold pieceC at k
    rw [if_pos h5, hq] at k
    by_cases hw : a + q ≤ ct
    · rw [if_pos hw] at k
      go_enter Try.func171, Try.ntmps171
      go_wp2_with fail
      refine c_Aligned n 512 9 rfl (by omega) hn ?_
      rw [decide_eq_true h5]
      go_wp2_with fail
      refine c_Within a q 0 ct ha hqb (by omega) (by omega) ?_
      rw [decide_eq_true (by omega)]
      go_wp2
      exact k
    · rw [if_neg hw] at k
      go_enter Try.func171, Try.ntmps171
      go_wp2_with fail
      refine c_Aligned n 512 9 rfl (by omega) hn ?_
      rw [decide_eq_true h5]
      go_wp2_with fail
      refine c_Within a q 0 ct ha hqb (by omega) (by omega) ?_
      rw [decide_eq_false (by omega)]
      go_wp2
      exact k
  · unfold pieceC at k
    rw [if_neg h5] at k
    go_enter Try.func171, Try.ntmps171
    go_wp2_with fail
    refine c_Aligned n 512 9 rfl (by omega) hn ?_
    rw [decide_eq_false h5]
    go_wp2
    exact k

set_option maxRecDepth 100000 in
set_option maxHeartbeats 4000000 in
theorem c_diskFlush (s : Sat W0 w H A) [fr : FrK (κ := Addr) (ρ := fun _ => DiskG) diskL ⟨b, 0, none⟩ A d F]
    (k1 : d.fault = 1 → ∀ w', Sat W0 w' H (diskL ⟨b, 0, none⟩ d.asked ++ F) → R (.returned (.int .i64 133)) w')
    (k0 : d.fault ≠ 1 → ∀ w', Sat W0 w' H (diskL ⟨b, 0, none⟩ d.asked.flushed ++ F) → R (.returned (.int .i64 0)) w') :
    Calls Try.prog 133 #[.pointer (some ⟨b, 0, none⟩)] w R := by
  by_cases f1 : d.fault = 1
  · have K := k1 f1
    clear k0 k1
    go_enter Try.func133, Try.ntmps133
    go_wp2_with fail
    refine c_ask s ?_
    intro w2 s2
    rw [show askC d.fault = 133 by rw [f1]; rfl]
    go_wp2
    exact s2
  · have K := k0 f1
    clear k0 k1
    go_enter Try.func133, Try.ntmps133
    go_wp2_with fail
    refine c_ask s ?_
    intro w2 s2
    rw [show askC d.fault = 0 by unfold askC; rw [if_neg f1]]
    simp only [diskL, List.cons_append, List.nil_append] at s2
    have c5 := s2.c 5 rfl
    have s3 := s2.s 5 (by simp) (.int .u64 (upQ d.asked.flushes))
    simp only [List.set_cons_succ, List.set_cons_zero, Nat.zero_add] at s3 c5
    have ew : IntKind.u64.wrap (d.asked.flushes + 1) = upQ d.asked.flushes := wrap_u64 _
    clear s s2
    go_wp2
    exact s3

set_option maxRecDepth 100000 in
set_option maxHeartbeats 4000000 in
theorem c_diskReadBad (s : Sat W0 w H A) [fr : FrK (κ := Addr) (ρ := fun _ => DiskG) diskL ⟨b, 0, none⟩ A d F] (a n : Int) (ha : 0 ≤ a ∧ a ≤ 18446744073709551615) (hn : 0 ≤ n ∧ n ≤ 18446744073709551615)
    (hbad : d.fault = 1 ∨ pieceC d.count a n ≠ 0)
    (k : ∀ w', Sat W0 w' H (diskL ⟨b, 0, none⟩ d.asked ++ F) → R (.returned (.tuple #[.slice none 0 0, .int .i64 (if d.fault = 1 then 133 else pieceC d.count a n)])) w') :
    Calls Try.prog 161 #[.pointer (some ⟨b, 0, none⟩), .int .u64 a, .int .u64 n] w R := by
  by_cases f1 : d.fault = 1
  · rw [if_pos f1] at k
    go_enter Try.func161, Try.ntmps161
    go_wp2_with fail
    refine c_ask s ?_
    intro w2 s2
    rw [show askC d.fault = 133 by rw [f1]; rfl]
    go_wp2
    exact s2
  · rw [if_neg f1] at k
    have hb : pieceC d.count a n ≠ 0 := hbad.resolve_left f1
    obtain ⟨p, hp⟩ : ∃ p, pieceC d.count a n = p := ⟨_, rfl⟩
    rw [hp] at k hb
    have hpb : (p != 0) = true := by simp [hb]
    go_enter Try.func161, Try.ntmps161
    go_wp2_with fail
    refine c_ask s ?_
    intro w2 s2
    rw [show askC d.fault = 0 by unfold askC; rw [if_neg f1]]
    go_wp2_with fail
    refine c_piece s2 a n ha hn ?_
    rw [show pieceC d.asked.count a n = p from hp]
    clear hb hp
    go_wp2
    exact s2

end
end Go.Proofs.Ytiibiamobkhlbaa

namespace Go.Proofs.Ytiibiamobkhlbaa
open Go.RowKit
set_option linter.unusedVariables false

/-- the pages behind a sector that was put -/
theorem pages_put {ents : List Ent} {mem : Int → Int} {k P ck : Nat} {bs : List Int} (hk : ents.Pairwise (·.key ≠ ·.key)) (hb : ents.Pairwise (·.blk ≠ ·.blk)) (hborn : ents.Pairwise (·.born ≠ ·.born) ∧ ∀ e ∈ ents, e.born < ck) (hf : ∀ x ∈ ents, x.blk ≠ P) (hl : bs.length = 512) :
    un (pagesH 0 512 (ents.filter (fun x => x.key ≠ k)) mem) (cellsH ⟨P, 0, none⟩ (bs.map (Value.int .u8))) = pagesH 0 512 (putEnt ents k P ck) (putB mem ((512 * k : Nat) : Int) bs) := by
  obtain ⟨q1, q2, q3⟩ := putEnt_pw (k := k) hk hb hborn hf
  have hb2 : (ents.filter (fun x => x.key ≠ k)).Pairwise (·.blk ≠ ·.blk) := hb.sublist (List.filter_sublist)
  funext l
  cases l with
  | obj b => simp [un, pagesH, cellsH]
  | cell b o =>
    by_cases hP : b = P
    · subst hP
      obtain ⟨x, hx, hxk, hxb⟩ := putEnt_new (ents := ents) (k := k) (P := b) (ck := ck)
      have h1 : pagesH 0 512 (ents.filter (fun x => x.key ≠ k)) mem (.cell b o) = none := by
        simp only [pagesH, find_none (fun x hm => hf x (List.mem_filter.1 hm).1)]
      have h2 := find_blk q2 hx
      rw [hxb] at h2
      simp only [un, h1, Option.none_or]
      simp only [pagesH, h2, cellsH, Nat.zero_le, and_self, if_true, Nat.sub_zero, List.getElem?_map]
      by_cases ho : o < 512
      · rw [if_pos ho, List.getElem?_eq_getElem (by omega)]
        unfold putB
        rw [hxk, if_pos (by omega), show (((0 + 512 * k + o : Nat) : Int) - ((512 * k : Nat) : Int)).toNat = o by omega, List.getElem?_eq_getElem (by omega)]
        simp
      · rw [if_neg ho, List.getElem?_eq_none (by omega)]; rfl
    · have h3 : cellsH ⟨P, 0, none⟩ (bs.map (Value.int .u8)) (.cell b o) = none := by simp [cellsH, hP]
      simp only [un, h3, Option.or_none]
      by_cases hx : ∃ x ∈ ents, x.key ≠ k ∧ x.blk = b
      · obtain ⟨x, hx, hxk, rfl⟩ := hx
        have hx2 : x ∈ ents.filter (fun x => x.key ≠ k) := List.mem_filter.2 ⟨hx, by simp [hxk]⟩
        simp only [pagesH, find_blk hb2 hx2, find_blk q2 (putEnt_old (P := P) (ck := ck) hx hxk)]
        by_cases ho : o < 512
        · rw [if_pos ho, if_pos ho]
          have e : putB mem ((512 * k : Nat) : Int) bs ((0 + 512 * x.key + o : Nat) : Int) = mem ((0 + 512 * x.key + o : Nat) : Int) := by
            unfold putB
            split
            · rename_i h
              rw [List.getElem?_eq_none (by omega)]; rfl
            · rfl
          rw [e]
        · rw [if_neg ho, if_neg ho]
      · have n1 : (ents.filter (fun x => x.key ≠ k)).find? (fun x => x.blk == b) = none := find_none (fun x hm e => hx ⟨x, (List.mem_filter.1 hm).1, by simpa using (List.mem_filter.1 hm).2, e⟩)
        have n2 : (putEnt ents k P ck).find? (fun x => x.blk == b) = none := find_none (fun x hm e => by
          rcases mem_putEnt hm with ⟨h1, h2⟩ | ⟨h1, h2⟩
          · exact hx ⟨x, h1, h2, e⟩
          · exact hP (e.symm.trans h2))
        simp only [pagesH, n1, n2]

/-- copy into a row of cells, at a place -/
theorem run_copy_at {P : Program} {W0 w : World} {H : Hp} {F : List Hp} (dT sT ty elem : TypeId) (hu : P.underlying dT = some (.slice elem)) (hz : (P.info? elem).map (·.size) = some 1)
    {b o : Nat} {vs : List Value} (s : Sat W0 w H (cellsH ⟨b, o, none⟩ vs :: F)) (off dl dc : Nat) (D X : Option Addr) (m c : Nat) (us : List Value) (hD : 0 < us.length → D = some ⟨b, o + off, none⟩) (hl : us.length = min m dl) (hfit : off + us.length ≤ vs.length) (hus : RowR w X us)
    (h1 : ∀ x ∈ us, x.oneCell' = true) :
    ∃ w', (Builtin.copy_ #[dT, sT] ty #[.slice D dl dc, .slice X m c]).run P w = .ok (goInt us.length) w' ∧ Sat W0 w' H (cellsH ⟨b, o, none⟩ (vs.take off ++ us ++ vs.drop (off + us.length)) :: F) := by
  by_cases h0 : us.length = 0
  · obtain rfl : us = [] := List.eq_nil_of_length_eq_zero h0
    exact ⟨w, run_copy_none w dT sT ty elem _ _ _ _ _ _ hu hz (by simpa using hl.symm), by simpa using s⟩
  · obtain rfl := hD (by omega)
    have hne : us ≠ [] := by rintro rfl; simp at h0
    obtain ⟨b', o', rfl, _⟩ := hus hne
    have hlo := run_loadCells_list (P := P) w ⟨b', o', none⟩ us hus.add
    obtain ⟨w', hr, hs⟩ := run_store_row P (a := ⟨b, o, none⟩) rfl us off 0 vs w s (by omega) h1
    refine ⟨w', ?_, by simpa using hs⟩
    cases hq : P.info? elem with
    | none => simp [hq] at hz
    | some i =>
      have hi : i.size = 1 := by simpa [hq] using hz
      have hmn : Nat.min m dl = us.length := hl.symm
      have hmn2 : min m dl = us.length := hl.symm
      simp [Builtin.copy_, run_underlying hu, Builtin.lenOf, Builtin.firstCells, sizeOf, typeInfo, hq, hi, hmn2, hlo, hr]

theorem wpList_copyAt {P : Program} {ops : Array Oper} {rest : List Oper} {oo : Oper} {a : Act} {Q : Exit → Act → World → Prop} {W0 w : World} {H : Hp} {A F : List Hp} (hgd : oo.guard = none) (d s : Operand) (dT sT elem : TypeId)
    (ho : oo.op = .call { callee := .builtin .copy, args := #[d, s], argTypes := #[dT, sT] }) (hu : P.underlying dT = some (.slice elem)) (hz : (P.info? elem).map (·.size) = some 1)
    {b o : Nat} {vs : List Value} (st : Sat W0 w H A) [fr : FrH (cellsH ⟨b, o, none⟩ vs) A F] (off : Nat) {dl dc : Nat} {D X : Option Addr} {m c : Nat} (hd : a.eval d = .slice D dl dc) (hx : a.eval s = .slice X m c) (us : List Value) (hD : 0 < us.length → D = some ⟨b, o + off, none⟩) (hl : us.length = min m dl) (hfit : off + us.length ≤ vs.length) (hus : RowR w X us)
    (h1 : ∀ x ∈ us, x.oneCell' = true)
    (k : ∀ w', Sat W0 w' H (cellsH ⟨b, o, none⟩ (vs.take off ++ us ++ vs.drop (off + us.length)) :: F) → wpList P ops Q rest (a.put oo.dst (goInt us.length)) w') : wpList P ops Q (oo :: rest) a w := by
  obtain ⟨w', hr, hs'⟩ := run_copy_at (P := P) dT sT oo.type elem hu hz st.pull off dl dc D X m c us hD hl hfit hus h1
  refine wpList_run hgd (v := goInt us.length) (w' := w') ?_ (k w' hs')
  unfold execOp
  rw [ho]
  simp only [resolve, invoke]
  simp [builtin, hd, hx, hr]

theorem step_copyAt {P : Program} {ops : Array Oper} {oo : Oper} {a : Act} {K : Act → World → Prop} {Q : Exit → Act → World → Prop} {E : Prop} {W0 w : World} {H : Hp} {A F : List Hp} (hgd : oo.guard = none) (d s : Operand) (dT sT elem : TypeId)
    (ho : oo.op = .call { callee := .builtin .copy, args := #[d, s], argTypes := #[dT, sT] }) (hu : P.underlying dT = some (.slice elem)) (hz : (P.info? elem).map (·.size) = some 1)
    {b o : Nat} {vs : List Value} (st : Sat W0 w H A) [fr : FrH (cellsH ⟨b, o, none⟩ vs) A F] (off : Nat) {dl dc : Nat} {D X : Option Addr} {m c : Nat} (hd : a.eval d = .slice D dl dc) (hx : a.eval s = .slice X m c) (us : List Value) (hD : 0 < us.length → D = some ⟨b, o + off, none⟩) (hl : us.length = min m dl) (hfit : off + us.length ≤ vs.length) (hus : RowR w X us)
    (h1 : ∀ x ∈ us, x.oneCell' = true)
    (k : ∀ w', Sat W0 w' H (cellsH ⟨b, o, none⟩ (vs.take off ++ us ++ vs.drop (off + us.length)) :: F) → K (a.put oo.dst (goInt us.length)) w') : if Region.wanted oo (yielded ops a.tmps) = true then Oper.wp P oo a w K Q else E := by
  obtain ⟨w', hr, hs'⟩ := run_copy_at (P := P) dT sT oo.type elem hu hz st.pull off dl dc D X m c us hD hl hfit hus h1
  rw [if_pos (by simp [Region.wanted, hgd])]
  have he : (execOp a.eval oo).run P w = .ok (.value (goInt us.length)) w' := by
    unfold execOp
    rw [ho]
    simp only [resolve, invoke]
    simp [builtin, hd, hx, hr]
  unfold Oper.wp
  rw [he]
  exact k w' hs'
end Go.Proofs.Ytiibiamobkhlbaa

namespace Go.Proofs.Ytiibiamobkhlbaa
open Go.RowKit
set_option linter.unusedVariables false

theorem zero_sector (w : World) : (zeroValue 163).run Try.prog w = .ok (.pointer none) w := by kernel_rfl
theorem hz8D : (Try.prog.info? 5).map (·.size) = some 1 := by kernel_rfl

theorem pages_row {w : World} {ents : List Ent} {mem : Int → Int} (hh : Holds w (pagesH 0 512 ents mem)) (hb : ents.Pairwise (·.blk ≠ ·.blk)) {e : Ent} (he : e ∈ ents) : RowR w (some ⟨e.blk, 0, none⟩) ((rdB mem (512 * (e.key : Int)) 512).map (Value.int .u8)) := by
  intro _
  refine ⟨e.blk, 0, rfl, fun j u hu => ?_⟩
  have hj : j < 512 := by
    rcases Nat.lt_or_ge j 512 with h | h
    · exact h
    · rw [List.getElem?_eq_none (by rw [List.length_map, rdB_len]; exact h)] at hu; cases hu
  rw [List.getElem?_map, rdB_get _ _ _ _ hj] at hu
  obtain rfl := Option.some.inj hu
  have := look_cell (hh _ _ (pagesH_at (base := 0) (sz := 512) (mem := mem) hb he hj))
  rw [Nat.zero_add, show 512 * (e.key : Int) + (j : Int) = ((0 + 512 * e.key + j : Nat) : Int) by omega]
  exact this.1

theorem DiskG.sect_zero (d : DiskG) {k : Nat} (h : ∀ e ∈ d.ents, e.key ≠ k) : rdB d.mem (512 * (k : Int)) 512 = List.replicate 512 0 :=
  rdB_zero 512 fun i hi => by
    have := d.hzero k h i hi
    rwa [show ((0 + 512 * k + i : Nat) : Int) = 512 * (k : Int) + (i : Int) by omega] at this

end Go.Proofs.Ytiibiamobkhlbaa

namespace Go.Proofs.Ytiibiamobkhlbaa
open Go.RowKit
set_option linter.unusedVariables false

theorem rdB_appD (m : Int → Int) (a : Int) (i : Nat) : ∀ j, rdB m a (i + j) = rdB m a i ++ rdB m (a + i) j
  | 0 => by simp [rdB]
  | j + 1 => by
    have e : a + (i : Int) + (j : Int) = a + ((i + j : Nat) : Int) := by omega
    rw [show i + (j + 1) = (i + j) + 1 by omega, rdB, rdB, rdB_appD m a i j, e, List.append_assoc]

theorem fill_stepL (X U : List Int) (q N : Nat) (hX : X.length = q) (hU : U.length = 512) (h : q + 512 ≤ N) :
    (fillR X N).take q ++ U.map (Value.int .u8) ++ (fillR X N).drop (q + 512) = fillR (X ++ U) N := by
  unfold fillR
  have e1 : (X.map (Value.int .u8)).length = q := by rw [List.length_map, hX]
  have e2 : N - (X ++ U).length = N - X.length - 512 := by rw [List.length_append, hU]; omega
  have e3 : q + 512 - q = 512 := by omega
  rw [List.take_left' e1, List.drop_append, e1, List.drop_eq_nil_of_le (by rw [e1]; omega), List.nil_append, List.drop_replicate, e3, List.map_append, e2]
theorem fill_step (m : Int → Int) (A : Int) (q N : Nat) (h : q + 512 ≤ N) :
    (fillR (rdB m A q) N).take q ++ (rdB m (A + q) 512).map (Value.int .u8) ++ (fillR (rdB m A q) N).drop (q + 512) = fillR (rdB m A (q + 512)) N := by
  rw [rdB_appD m A q 512]
  exact fill_stepL _ _ q N (rdB_len _ _ _) (rdB_len _ _ _) h
theorem fill_zero (X : List Int) (N : Nat) (h : X.length + 512 ≤ N) : fillR X N = fillR (X ++ List.replicate 512 0) N := by
  unfold fillR
  obtain ⟨j, hj⟩ : ∃ j, N - X.length = 512 + j := ⟨N - X.length - 512, by omega⟩
  have e2 : N - (X ++ List.replicate 512 (0 : Int)).length = j := by rw [List.length_append, List.length_replicate]; omega
  rw [e2, hj, List.map_append, List.map_replicate, List.append_assoc, List.replicate_append_replicate]

section
variable {R : Ending → World → Prop} {W0 w : World} {H : Hp} {A F : List Hp} {b : Nat} {d : DiskG}

set_option maxRecDepth 100000 in
set_option maxHeartbeats 4000000 in
theorem c_diskReadOk (s : Sat W0 w H A) [fr : FrK (κ := Addr) (ρ := fun _ => DiskG) diskL ⟨b, 0, none⟩ A d F] (a n : Int) (ha : 0 ≤ a ∧ a ≤ 18446744073709551615) (hn : 0 ≤ n ∧ n ≤ 18446744073709551615)
    (hf1 : d.fault ≠ 1) (hp0 : pieceC d.count a n = 0)
    (k : ∀ w' v' h', OwnS 1 v' n.toNat ((rdB d.mem (512 * a) n.toNat).map (Value.int .u8)) h' → Sat W0 w' H (h' :: (diskL ⟨b, 0, none⟩ d.asked ++ F)) → R (.returned (.tuple #[v', .int .i64 0])) w') :
    Calls Try.prog 161 #[.pointer (some ⟨b, 0, none⟩), .int .u64 a, .int .u64 n] w R := by
  have hc := d.hcount
  have hpc : n % 512 = 0 ∧ a + n / 512 ≤ d.count := by
    unfold pieceC at hp0
    by_cases h1 : n % 512 = 0
    · rw [if_pos h1] at hp0
      by_cases h2 : a + n / 512 ≤ d.count
      · exact ⟨h1, h2⟩
      · rw [if_neg h2] at hp0; cases hp0
    · rw [if_neg h1] at hp0; cases hp0
  obtain ⟨N, rfl⟩ := Int.eq_ofNat_of_zero_le hn.1
  rw [Int.toNat_natCast] at k
  obtain ⟨M, hM⟩ : ∃ M : Nat, N = 512 * M := ⟨N / 512, by omega⟩
  have hM2 : (N : Int) / 512 = M := by omega
  have hMb : a + M ≤ 65536 := by omega
  have hMc : a + M ≤ d.count := by omega
  have hmk : ∀ W, (Instr.makeSlice 57 (.int .u64 N) (.int .u64 N)).run Try.prog W = .ok (.slice (some ⟨W.heap.size, 0, none⟩) N N) (W.alloc (.cells (List.replicate N (Value.int .u8 0)).toArray 5)) := fun W => by
    have := run_make8 .u64 .u64 N N (by omega) (by omega) (by omega) W
    simpa using this
  have hNb := aside (show 0 ≤ (N : Int) ∧ (N : Int) ≤ 18446744073709551615 by omega)
  replace hM := aside hM
  replace hp0 := aside hp0
  replace hMc := aside hMc
  replace hMb := aside hMb
  replace hf1 := aside hf1
  clear hpc hn
  go_enter Try.func161, Try.ntmps161
  go_wp2_with fail
  refine c_ask s ?_
  intro w2 s2
  rw [show askC d.fault = 0 by unfold askC; rw [if_neg hf1.out]]
  go_wp2_with fail
  refine c_piece s2 a N ha hNb.out ?_
  rw [show pieceC d.asked.count a N = 0 from hp0.out]
  have s3 : Sat W0 _ H (cellsH ⟨w2.heap.size, 0, none⟩ (List.replicate N (.int .u8 0)) :: (diskL ⟨b, 0, none⟩ d.asked ++ F)) := s2.alloc (t := 5)
  obtain ⟨B, hB⟩ : ∃ B, w2.heap.size = B := ⟨_, rfl⟩
  rw [hB] at s3
  clear s s2 fr hp0
  go_wp2
  go_loopg [11] M (fun q v11 w' => ∃ (i : Nat), q + i = M ∧ v11 = .int .u64 i ∧ Sat W0 w' H (cellsH ⟨B, 0, none⟩ (fillR (rdB d.mem (512 * a) (512 * i)) N) :: (diskL ⟨b, 0, none⟩ d.asked ++ F)))
  case atStart => exact ⟨0, by simp, rfl, by simpa [fillR, rdB] using s3⟩
  clear s3
  case round =>
    obtain ⟨i, hq, rfl, s'⟩ := hrel
    have hM1 := hM.out
    have hMb1 := hMb.out
    have hMc1 := hMc.out
    have hNb1 := hNb.out
    have eM : IntKind.u64.wrap (M : Int) = M := by rw [wrap_u64]; omega
    have ei1 : IntKind.u64.wrap ((i : Int) + 1) = (i : Int) + 1 := by rw [wrap_u64]; omega
    by_cases hi : i < M
    · obtain ⟨kk, hkk⟩ : ∃ kk : Nat, a + i = kk := ⟨(a + i).toNat, by omega⟩
      have e1 : IntKind.u64.wrap (a + i) = (kk : Int) := by rw [wrap_u64]; omega
      obtain ⟨q, hqq⟩ : ∃ q : Nat, 512 * i = q := ⟨_, rfl⟩
      have e2 : IntKind.u64.wrap ((i : Int) * 512) = (q : Int) := by rw [wrap_u64]; omega
      have hqN : q + 512 ≤ N := by omega
      have hstep := fill_step d.mem (512 * a) q N hqN
      have hAq : 512 * a + (q : Int) = 512 * (kk : Int) := by omega
      have hq1 : q + 512 = 512 * (i + 1) := by omega
      rw [hAq] at hstep
      rw [hqq] at s'
      obtain ⟨RI, hRI⟩ : ∃ RI, fillR (rdB d.mem (512 * a) q) N = RI := ⟨_, rfl⟩
      have hRl : RI.length = N := by rw [← hRI]; exact fillR_len (by rw [rdB_len]; omega)
      rw [hRI] at s' hstep
      obtain ⟨US, hUS⟩ : ∃ US, (rdB d.mem (512 * (kk : Int)) 512).map (Value.int .u8) = US := ⟨_, rfl⟩
      have hUl : US.length = 512 := by rw [← hUS, List.length_map, rdB_len]
      have hU1 : ∀ x ∈ US, x.oneCell' = true := by rw [← hUS]; exact oneCell_u8 _
      rw [hUS] at hstep
      simp only [diskL, List.cons_append, List.nil_append] at s'
      have c2 := s'.cel b 0 2 rfl
      simp only [Nat.zero_add] at c2
      have ho := s'.obj (b := d.asked.mb) (o := .map (d.asked.ents.map Ent.me).toArray d.asked.ck) (by simp)
      have hp := (Sat.pull (h := pagesH 0 512 d.asked.ents d.asked.mem) s').head
      have hlq : (q : Int) ≤ N := by omega
      have hnq : ¬ N = q := by omega
      by_cases he : ∃ e ∈ d.ents, e.key = kk
      · obtain ⟨e, hm, rfl⟩ := he
        have hl := run_lookup_yes (w := wr) Try.underlying160 Try.underlying23 ho d.hkey hm
        have hrow := pages_row hp d.hblk hm
        rw [show d.asked.mem = d.mem from rfl, hUS] at hrow
        have hU2 := aside hUl
        have hR2 := aside hRl
        have hNq := aside hqN
        rw [show fillR (rdB d.mem (512 * a) (q + 512)) N = fillR (rdB d.mem (512 * a) (512 * (i + 1))) N by rw [hq1]] at hstep
        replace hstep := aside hstep
        clear ho hp hUS hRI hUl hRl hqN hqq hAq hq1 hMc hc hkk hM1 hMb1 hMc1 hNb1 ha
        have hi2 : (i : Int) < M := by omega
        have hq2 := aside (show gk - 1 + (i + 1) = M ∧ gk - 1 < gk by omega)
        have hnn := aside (show 512 ≤ N - q by have := hNq.out; omega)
        clear hq hi
        go_wp2
        go_region_held3 (fun w' => True) (trivial)
          (first | (refine step_copyAt rfl (.tmp 49) (.tmp 52) 57 57 5 rfl Try.underlying57 hz8D (b := B) (o := 0) (vs := RI) s'.drew q rfl rfl US (fun _ => by simp) (by rw [hU2.out]; exact (Nat.min_eq_left hnn.out).symm) (by rw [hU2.out, hR2.out]; exact hNq.out) hrow hU1 ?_; intro w3 s3; rw [hU2.out, hstep.out] at s3))
        all_goals
          try simp only [Act.put, List.getElem_toArray, List.getElem_cons_succ, List.getElem_cons_zero, List.setIfInBounds_toArray, List.set_cons_succ, List.set_cons_zero]
          go_wp2
          go_roundg (gk - 1)
          case measure => exact hq2.out.2
          case rel => exact ⟨i + 1, hq2.out.1, by go_num, s3⟩
      · have hno : ∀ e ∈ d.ents, e.key ≠ kk := fun e hm h => he ⟨e, hm, h⟩
        have hl := run_lookup_no (w := wr) (z := .pointer none) Try.underlying160 Try.underlying23 ho hno (zero_sector wr)
        have hsame : RI = fillR (rdB d.mem (512 * a) (512 * (i + 1))) N := by
          rw [← hRI, ← hq1, rdB_appD, hAq, d.sect_zero hno]
          exact fill_zero _ N (by rw [rdB_len]; exact hqN)
        replace hsame := aside hsame
        clear ho hp hUS hRI hUl hRl hqN hqq hAq hq1 hMc hc hkk hstep hno he hM1 hMb1 hMc1 hNb1
        go_wp2
        go_roundg (gk - 1)
        case measure => omega
        case rel => exact ⟨i + 1, by omega, by go_num, by rw [← hsame.out]; exact s'⟩
    · obtain rfl : i = M := by omega
      have hff : fillR (rdB d.mem (512 * a) (512 * i)) N = (rdB d.mem (512 * a) N).map (.int .u8) ++ [] := by have := fillR_full (xs := rdB d.mem (512 * a) N); rw [rdB_len] at this; rw [← hM1, this, List.append_nil]
      rw [hff] at s'
      have own : OwnS 1 (.slice (some ⟨B, 0, none⟩) N N) N ((rdB d.mem (512 * a) N).map (.int .u8)) (cellsH ⟨B, 0, none⟩ ((rdB d.mem (512 * a) N).map (.int .u8) ++ [])) := OwnS.made [] (Nat.le_refl _) (by omega) (by rw [List.length_map, rdB_len]; omega) (by simp)
      have K := k wr _ _ own s'
      clear own hff s' hM1 hMb1 hMc1 hNb1
      go_wp2
      exact K
end
end Go.Proofs.Ytiibiamobkhlbaa

namespace Go.Proofs.Ytiibiamobkhlbaa
open Go.RowKit
set_option linter.unusedVariables false

theorem putB_app (m : Int → Int) (A : Int) (X Y : List Int) : putB (putB m A X) (A + X.length) Y = putB m A (X ++ Y) := by
  funext x
  unfold putB
  by_cases h1 : A + (X.length : Int) ≤ x
  · rw [if_pos h1, if_pos (by omega), if_pos (by omega), List.getElem?_append_right (by omega), show (x - A).toNat - X.length = (x - (A + X.length)).toNat by omega]
    rw [List.getElem?_eq_none (l := X) (by omega)]; rfl
  · rw [if_neg h1]
    by_cases h2 : A ≤ x
    · rw [if_pos h2, if_pos h2, List.getElem?_append_left (by omega)]
    · rw [if_neg h2, if_neg h2]
section
variable {R : Ending → World → Prop} {W0 w : World} {H : Hp} {A F : List Hp} {b : Nat} {d : DiskG}

structure DiskG.Like (d d' : DiskG) : Prop where
  count : d'.count = d.count
  locked : d'.locked = d.locked
  fault : d'.fault = d.fault
  reqs : d'.reqs = d.reqs
  flushes : d'.flushes = d.flushes
/-- as many sectors, and locked alike -/
def DiskG.Kin (d d' : DiskG) : Prop := d'.count = d.count ∧ d'.locked = d.locked
theorem DiskG.Like.refl (d : DiskG) : DiskG.Like d d := ⟨rfl, rfl, rfl, rfl, rfl⟩
theorem DiskG.Like.trans {d e f : DiskG} (h : DiskG.Like d e) (g : DiskG.Like e f) : DiskG.Like d f := ⟨g.1.trans h.1, g.2.trans h.2, g.3.trans h.3, g.4.trans h.4, g.5.trans h.5⟩

theorem disk_put {P k : Nat} {bs : List Int} (s : Sat W0 w H (cellsH ⟨P, 0, none⟩ (bs.map (Value.int .u8)) :: (diskL ⟨b, 0, none⟩ d ++ F))) (hl : bs.length = 512) (hbs : ∀ x ∈ bs, 0 ≤ x ∧ x ≤ 255) (hk : (k : Int) < d.count) :
    ∃ d', DiskG.Like d d' ∧ d'.mem = putB d.mem ((512 * k : Nat) : Int) bs ∧ d'.mb = d.mb ∧ Sat W0 (setO w d.mb (.map ((putEnt d.ents k P d.ck).map Ent.me).toArray (putCk d.ents k d.ck))) H (diskL ⟨b, 0, none⟩ d' ++ F) := by
  simp only [diskL, List.cons_append, List.nil_append] at s
  have hf : ∀ x ∈ d.ents, x.blk ≠ P := fun x hx e => by
    have hp := (List.pairwise_cons.1 s.apart).1 (pagesH 0 512 d.ents d.mem) (by simp)
    have h1 := pagesH_at (base := 0) (sz := 512) (mem := d.mem) (o := 0) d.hblk hx (by omega)
    rw [e] at h1
    have h2 : ∃ c, cellsH ⟨P, 0, none⟩ (bs.map (Value.int .u8)) (.cell P 0) = some c := by
      simp only [cellsH, Nat.le_refl, and_self, if_true, List.getElem?_map]
      rw [List.getElem?_eq_getElem (by omega)]; exact ⟨_, rfl⟩
    obtain ⟨c, h2⟩ := h2
    rcases hp (.cell P 0) with h | h
    · rw [h2] at h; cases h
    · rw [h1] at h; cases h
  obtain ⟨q1, q2, q3⟩ := putEnt_pw (k := k) d.hkey d.hblk d.hborn hf
  have s2 := (Sat.pull (h := objH d.mb (.map (d.ents.map Ent.me).toArray d.ck)) s).setO (o' := .map ((putEnt d.ents k P d.ck).map Ent.me).toArray (putCk d.ents k d.ck)) (h' := objH d.mb (.map ((putEnt d.ents k P d.ck).map Ent.me).toArray (putCk d.ents k d.ck))) rfl (by intro c t f h; cases h) rfl
  have s3 := (Sat.pull (h := pagesH 0 512 d.ents d.mem) s2).shrink (pages_less d.hblk k)
  have s4 := (Sat.pull (h := pagesH 0 512 (d.ents.filter (fun x => x.key ≠ k)) d.mem) (Sat.pull (h := cellsH ⟨P, 0, none⟩ (bs.map (Value.int .u8))) s3)).merge
  rw [pages_put d.hkey d.hblk d.hborn hf hl] at s4
  refine ⟨⟨d.count, d.locked, d.mb, putCk d.ents k d.ck, putEnt d.ents k P d.ck, putB d.mem ((512 * k : Nat) : Int) bs, d.fault, d.reqs, d.flushes, d.hcount, q1, q2, q3, fun e he => ?_, putB_bd d.hmem _ hbs, fun j hj o ho => ?_, d.hfault, d.hreqs, d.hflushes⟩, ⟨rfl, rfl, rfl, rfl, rfl⟩, rfl, rfl, ?_⟩
  · rcases mem_putEnt he with ⟨h1, _⟩ | ⟨h1, _⟩
    · exact d.hin e h1
    · rw [h1]; exact hk
  · obtain ⟨x, hx, hxk, _⟩ := putEnt_new (ents := d.ents) (k := k) (P := P) (ck := d.ck)
    have hjk : j ≠ k := fun e => hj x hx (by rw [hxk, e])
    have h0 := d.hzero j (fun e he h => hj e (putEnt_old he (by rw [h]; exact hjk)) h) o ho
    have hne : ¬ (j = k) := hjk
    have : putB d.mem ((512 * k : Nat) : Int) bs ((0 + 512 * j + o : Nat) : Int) = d.mem ((0 + 512 * j + o : Nat) : Int) := by
      unfold putB
      split
      · rw [List.getElem?_eq_none (by omega)]; rfl
      · rfl
    rw [this]; exact h0
  · simp only [diskL, List.cons_append, List.nil_append]
    exact s4.wk
end
end Go.Proofs.Ytiibiamobkhlbaa

namespace Go.Proofs.Ytiibiamobkhlbaa
open Go.RowKit
set_option linter.unusedVariables false

def sectZ : Array Value := (List.replicate 512 (.int .u8 0)).toArray
theorem info_sect : ∃ i, Try.prog.info? 165 = some i ∧ i.zero = some (.agg sectZ) := by
  have h : (Try.prog.info? 165).map (fun i => i.zero) = some (some (.agg sectZ)) := by kernel_rfl
  cases hi : Try.prog.info? 165 with
  | none => simp [hi] at h
  | some i => simp [hi] at h; exact ⟨i, rfl, h⟩
theorem run_sectBuild (w : World) : (Instr.build 165 #[]).run Try.prog w = .ok (.agg sectZ) w := by
  obtain ⟨i, hi, hz⟩ := info_sect
  obtain ⟨j, hj, hs⟩ := info_u8s
  simp [Instr.build, zeroValue, typeInfo, hi, hz, run_underlying Try.underlying165, sizeOf, hj, Instr.fill, Value.cells]
theorem sect_zero : sectZ = Try.zeroCells165 := by kernel_rfl

theorem Rd.drop8D {H : Hp} {A : Option Addr} {n c : Nat} {xs : List Int} (r : Rd u8E 1 H (.slice A n c) xs) (m : Nat) (hm : m ≤ n) : Rd u8E 1 H (.slice (if c = m then A else A.map (·.add m)) (n - m) (c - m)) (xs.drop m) := by
  obtain ⟨rfl, hc, hc2, g⟩ := r.u8
  refine ⟨_, _, by rw [List.length_drop], by rw [List.length_drop]; omega, by omega, fun i x hx => ?_⟩
  rw [List.getElem?_drop] at hx
  have hlt : m + i < xs.length := by
    rcases Nat.lt_or_ge (m + i) xs.length with h0 | h0
    · exact h0
    · rw [List.getElem?_eq_none h0] at hx; cases hx
  obtain ⟨b, o, rfl, hcell, h0, h1⟩ := g (m + i) hlt
  rw [List.getElem?_eq_getElem hlt] at hx
  obtain rfl := Option.some.inj hx
  refine ⟨b, o + m, [.int .u8 xs[m + i]], ?_, ⟨rfl, h0, h1⟩, rfl, fun j u hu => ?_⟩
  · rw [if_neg (by omega)]
    show some _ = some _
    unfold Addr.add
    by_cases hz : m = 0
    · simp [hz]
    · simp [hz]
  · cases j with
    | succ j => simp at hu
    | zero =>
      simp at hu
      subst hu
      have e : o + m + i * 1 + 0 = o + (m + i) := by omega
      rw [e]; exact hcell

theorem pieceC_ok {ct a n : Int} (h : pieceC ct a n = 0) : n % 512 = 0 ∧ a + n / 512 ≤ ct := by
  unfold pieceC at h
  by_cases h1 : n % 512 = 0
  · rw [if_pos h1] at h
    by_cases h2 : a + n / 512 ≤ ct
    · exact ⟨h1, h2⟩
    · rw [if_neg h2] at h; cases h
  · rw [if_neg h1] at h; cases h

section
variable {R : Ending → World → Prop} {W0 w : World} {H : Hp} {A F : List Hp} {b : Nat} {d : DiskG}

set_option maxRecDepth 100000 in
set_option maxHeartbeats 4000000 in
theorem c_diskWriteOk (s : Sat W0 w H A) [fr : FrK (κ := Addr) (ρ := fun _ => DiskG) diskL ⟨b, 0, none⟩ A d F] (a : Int) (ha : 0 ≤ a ∧ a ≤ 18446744073709551615) {dv : Value} {ds : List Int} (rd : Rd u8E 1 H dv ds)
    (hf1 : d.fault ≠ 1) (hlk : d.locked = false) (hp0 : pieceC d.count a ds.length = 0)
    (k : ∀ w' d', DiskG.Like d.asked d' → d'.mem = putB d.mem (512 * a) ds → Sat W0 w' H (diskL ⟨b, 0, none⟩ d' ++ F) → R (.returned (.int .i64 0)) w') :
    Calls Try.prog 162 #[.pointer (some ⟨b, 0, none⟩), .int .u64 a, dv] w R := by
  have hc := d.hcount
  have hpc := pieceC_ok hp0
  obtain ⟨E, ec, rfl, rd⟩ := rd.open_
  obtain ⟨_, hec, hec2, _⟩ := rd.u8
  have hdb := rd.bytes
  obtain ⟨N, hN⟩ : ∃ N, ds.length = N := ⟨_, rfl⟩
  rw [hN] at hpc hec rd hp0
  obtain ⟨M, hM⟩ : ∃ M : Nat, N = 512 * M := ⟨N / 512, by omega⟩
  have hM2 : (N : Int) / 512 = M := by omega
  have hMb := aside (show a + M ≤ 65536 ∧ a + M ≤ d.count by omega)
  have hNb := aside (show 0 ≤ (N : Int) ∧ (N : Int) ≤ 18446744073709551615 by omega)
  have eN : IntKind.u64.wrap (N : Int) = N := by rw [wrap_u64]; have := hNb.out; omega
  have ecN := aside hec
  replace hM := aside hM
  replace hp0 := aside hp0
  replace hf1 := aside hf1
  replace hN := aside hN
  clear hpc hc hec
  rw [hN.out]
  go_enter Try.func162, Try.ntmps162
  go_wp2_with fail
  refine c_ask s ?_
  intro w2 s2
  rw [show askC d.fault = 0 by unfold askC; rw [if_neg hf1.out]]
  have c1 := (s2.front (mk := diskL) (k := ⟨b, 0, none⟩)).c 1 rfl
  rw [show d.asked.locked = false from hlk] at c1
  simp only [Nat.zero_add] at c1
  go_wp2_with fail
  refine c_piece s2 a N ha hNb.out ?_
  rw [show pieceC d.asked.count a N = 0 from hp0.out]
  clear s fr hp0 c1
  go_wp2
  go_loopg [9, 10] M (fun q v9 v10 w' => ∃ (i : Nat) (d' : DiskG), q + i = M ∧ v9 = .int .u64 i ∧ DiskG.Like d.asked d' ∧ Aside (d'.mem = putB d.mem (512 * a) (ds.take (512 * i))) ∧ Sat W0 w' H (diskL ⟨b, 0, none⟩ d' ++ F))
  case atStart => exact ⟨0, d.asked, by simp, rfl, DiskG.Like.refl _, by show _ = _; rw [Nat.mul_zero, List.take_zero, putB_nil]; rfl, s2⟩
  clear s2
  case round =>
    obtain ⟨i, d', hq, rfl, lk, hmem, s'⟩ := hrel
    have hM1 := hM.out
    have hMb1 := hMb.out
    have hNb1 := hNb.out
    have eM : IntKind.u64.wrap (M : Int) = M := by rw [wrap_u64]; omega
    have ei1 : IntKind.u64.wrap ((i : Int) + 1) = (i : Int) + 1 := by rw [wrap_u64]; omega
    by_cases hi : i < M
    · obtain ⟨kk, hkk⟩ : ∃ kk : Nat, a + i = kk := ⟨(a + i).toNat, by omega⟩
      have e1 : IntKind.u64.wrap (a + i) = (kk : Int) := by rw [wrap_u64]; omega
      obtain ⟨q, hqq⟩ : ∃ q : Nat, 512 * i = q := ⟨_, rfl⟩
      have e2 : IntKind.u64.wrap ((i : Int) * 512) = (q : Int) := by rw [wrap_u64]; omega
      have hqN := aside (show q + 512 ≤ N by omega)
      have hlq : (q : Int) ≤ N := by omega
      have hnq : ¬ ec = q := by have := ecN.out; omega
      have hkc := aside (show (kk : Int) < d'.count by rw [lk.count]; show (kk : Int) < d.count; omega)
      have hA : 512 * a + (q : Int) = ((512 * kk : Nat) : Int) := by omega
      obtain ⟨BS, hBS⟩ : ∃ BS, (ds.drop q).take 512 = BS := ⟨_, rfl⟩
      have hBl : BS.length = 512 := by rw [← hBS, List.length_take, List.length_drop, hN.out]; omega
      have hBb : ∀ x ∈ BS, 0 ≤ x ∧ x ≤ 255 := by rw [← hBS]; exact fun x hx => hdb x (List.mem_of_mem_drop (List.mem_of_mem_take hx))
      have hmem2 := aside (show putB d'.mem ((512 * kk : Nat) : Int) BS = putB d.mem (512 * a) (ds.take (512 * (i + 1))) by
        rw [hmem.out, ← hA, show 512 * (i + 1) = q + 512 by omega, hqq]
        have e := putB_app d.mem (512 * a) (ds.take q) BS
        rw [show ((ds.take q).length : Int) = q by rw [List.length_take, hN.out]; omega] at e
        rw [e, ← hBS, List.take_add])
      have rdq := rd.drop8D q (by omega)
      rw [if_neg hnq] at rdq
      have hrow0 := fun (w : World) (hh : Holds w H) => rdq.row hh 512
      rw [hBS] at hrow0
      obtain ⟨US, hUS⟩ : ∃ US, BS.map (Value.int .u8) = US := ⟨_, rfl⟩
      have hUl := aside (show US.length = 512 by rw [← hUS, List.length_map]; exact hBl)
      have hU1 : ∀ x ∈ US, x.oneCell' = true := by rw [← hUS]; exact oneCell_u8 _
      rw [hUS] at hrow0
      obtain ⟨ZL, hZL⟩ : ∃ ZL, List.replicate 512 (Value.int .u8 0) = ZL := ⟨_, rfl⟩
      have hZl := aside (show ZL.length = 512 by rw [← hZL]; exact List.length_replicate)
      have s2 : Sat W0 (wr.alloc (.cells sectZ 165)) H (cellsH ⟨wr.heap.size, 0, none⟩ ZL :: (diskL ⟨b, 0, none⟩ d' ++ F)) := by
        have := s'.alloc (c := List.replicate 512 (Value.int .u8 0)) (t := 165)
        rw [hZL] at this
        rw [show sectZ = ZL.toArray by rw [← hZL]; rfl]; exact this
      rw [sect_zero] at s2
      obtain ⟨P, hP⟩ : ∃ P, wr.heap.size = P := ⟨_, rfl⟩
      rw [hP] at s2
      have hfin := aside (show ZL.take 0 ++ US ++ ZL.drop (0 + US.length) = US by rw [List.take_zero, List.nil_append, List.drop_eq_nil_of_le (by have := hUl.out; have := hZl.out; omega), List.append_nil])
      have hrow := hrow0 _ s2.drew.ro
      have hpb := run_sectBuild
      have hi2 : (i : Int) < M := by omega
      have hq2 := aside (show gk - 1 + (i + 1) = M ∧ gk - 1 < gk by omega)
      have hmn := aside (show 512 = min (N - q) 512 by have := hqN.out; omega)
      have hBlA := aside hBl
      replace hUS := aside hUS
      clear hq hi hM1 hMb1 hNb1 hkk hqq hA hBS hBl rdq hZL ha hrow0
      go_wp2
      go_region_held3 (fun w' => True) (trivial)
        (first | (refine step_copyAt rfl (.tmp 41) (.tmp 45) 57 57 5 rfl Try.underlying57 hz8D (b := P) (o := 0) (vs := ZL) s2.drew 0 rfl rfl US (fun _ => rfl) (by rw [hUl.out]; exact hmn.out) (by rw [hUl.out, hZl.out]; omega) hrow hU1 ?_; intro w3 s3; rw [hfin.out] at s3))
      all_goals
        try simp only [Act.put, List.getElem_toArray, List.getElem_cons_succ, List.getElem_cons_zero, List.setIfInBounds_toArray, List.set_cons_succ, List.set_cons_zero]
        rw [← hUS.out] at s3
        have hmap := run_mapPut (w := w3) (ents := d'.ents) (mb := d'.mb) (ck := d'.ck) Try.underlying160 Try.underlying23 d'.hkey (s3.obj (b := d'.mb) (o := .map (d'.ents.map Ent.me).toArray d'.ck) (by simp [diskL])) kk P
        obtain ⟨d2, lk2, hm2, hmb2, s4⟩ := disk_put s3 hBlA.out hBb hkc.out
        have s3t := s3.tail1
        simp only [diskL, List.cons_append, List.nil_append] at s3t
        have c2 := s3t.c 2 rfl
        simp only [Nat.zero_add] at c2
        generalize Obj.map ((putEnt d'.ents kk P d'.ck).map Ent.me).toArray (putCk d'.ents kk d'.ck) = ob at hmap s4
        have hm3 := aside (hm2.trans hmem2.out)
        clear s3 s3t s2 s' hrow hpb hm2 hmem2
        go_wp2
        go_roundg (gk - 1)
        case measure => exact hq2.out.2
        case rel => exact ⟨i + 1, d2, hq2.out.1, by go_num, lk.trans lk2, hm3, s4⟩
    · obtain rfl : i = M := by omega
      have hd : d'.mem = putB d.mem (512 * a) ds := by rw [hmem.out, ← hM1, List.take_of_length_le (by rw [hN.out]; omega)]
      have K := k wr d' lk hd s'
      clear hM1 hMb1 hNb1 s' hd
      go_wp2
      exact K
end
end Go.Proofs.Ytiibiamobkhlbaa

namespace Go.Proofs.Ytiibiamobkhlbaa
open Go.RowKit
set_option linter.unusedVariables false

def padC (ds : List Int) : List Int := ds ++ List.replicate ((ds.length + 511) / 512 * 512 - ds.length) 0
theorem sect_pad (ds : List Int) (q : Nat) (h : q ≤ ds.length) : ((ds ++ List.replicate 512 (0 : Int)).drop q).take 512 = (ds.drop q).take 512 ++ List.replicate (512 - ((ds.drop q).take 512).length) 0 := by
  rw [List.drop_append_of_le_length h, List.take_append, List.take_replicate]
  congr 1
  rw [List.length_take]
  congr 1
  omega
theorem pad_same (ds : List Int) (i : Nat) (m : Int → Int) (ct : Int) (h0 : (i : Int) = ct ∨ ds.length ≤ 512 * i) (h1 : 512 * i < ds.length + 512) (x : Int) (hx : 0 ≤ x ∧ x < 512 * ct) :
    putB m 0 ((ds ++ List.replicate 512 0).take (512 * i)) x = putB m 0 (padC ds) x := by
  unfold putB padC
  rw [if_pos hx.1, if_pos hx.1]
  obtain ⟨j, rfl⟩ := Int.eq_ofNat_of_zero_le hx.1
  rw [Int.sub_zero, Int.toNat_natCast, List.getElem?_take]
  by_cases hj : j < 512 * i
  · rw [if_pos hj]
    by_cases h2 : j < ds.length
    · rw [List.getElem?_append_left h2, List.getElem?_append_left h2]
    · rw [List.getElem?_append_right (by omega), List.getElem?_append_right (by omega), List.getElem?_replicate, List.getElem?_replicate, if_pos (by omega), if_pos (by omega)]
  · rw [if_neg hj, List.getElem?_eq_none (by rw [List.length_append, List.length_replicate]; omega)]

section
variable {R : Ending → World → Prop} {W0 w : World} {H : Hp} {A F : List Hp} {b : Nat} {d : DiskG}

def wrC (d : DiskG) (a n : Int) : Int := if d.fault = 1 then 133 else if d.locked = true then 132 else pieceC d.count a n

set_option maxRecDepth 100000 in
set_option maxHeartbeats 4000000 in
theorem c_diskWriteBad (s : Sat W0 w H A) [fr : FrK (κ := Addr) (ρ := fun _ => DiskG) diskL ⟨b, 0, none⟩ A d F] (a : Int) (ha : 0 ≤ a ∧ a ≤ 18446744073709551615) {dv : Value} {ds : List Int} (rd : Rd u8E 1 H dv ds)
    (hbad : wrC d a ds.length ≠ 0)
    (k : ∀ w', Sat W0 w' H (diskL ⟨b, 0, none⟩ d.asked ++ F) → R (.returned (.int .i64 (wrC d a ds.length))) w') :
    Calls Try.prog 162 #[.pointer (some ⟨b, 0, none⟩), .int .u64 a, dv] w R := by
  obtain ⟨E, ec, rfl, rd⟩ := rd.open_
  obtain ⟨_, hec, hec2, _⟩ := rd.u8
  obtain ⟨N, hN⟩ : ∃ N, ds.length = N := ⟨_, rfl⟩
  rw [hN] at hec hbad k ⊢
  clear rd hN
  have eN : IntKind.u64.wrap (N : Int) = N := by rw [wrap_u64]; omega
  have hNb := aside (show 0 ≤ (N : Int) ∧ (N : Int) ≤ 18446744073709551615 by omega)
  by_cases f1 : d.fault = 1
  · unfold wrC at k
    rw [if_pos f1] at k
    clear hbad
    go_enter Try.func162, Try.ntmps162
    go_wp2_with fail
    refine c_ask s ?_
    intro w2 s2
    rw [show askC d.fault = 133 by rw [f1]; rfl]
    go_wp2
    exact s2
  · unfold wrC at k hbad
    rw [if_neg f1] at k hbad
    by_cases l1 : d.locked = true
    · rw [if_pos l1] at k
      clear hbad
      go_enter Try.func162, Try.ntmps162
      go_wp2_with fail
      refine c_ask s ?_
      intro w2 s2
      rw [show askC d.fault = 0 by unfold askC; rw [if_neg f1]]
      have c1 := (s2.front (mk := diskL) (k := ⟨b, 0, none⟩)).c 1 rfl
      rw [show d.asked.locked = true from l1] at c1
      simp only [Nat.zero_add] at c1
      go_wp2
      exact s2
    · rw [if_neg l1] at k hbad
      have l2 : d.locked = false := by simpa using l1
      obtain ⟨p, hp⟩ : ∃ p, pieceC d.count a N = p := ⟨_, rfl⟩
      rw [hp] at k hbad
      have hpb : (p != 0) = true := by simp [hbad]
      clear l1 hbad
      go_enter Try.func162, Try.ntmps162
      go_wp2_with fail
      refine c_ask s ?_
      intro w2 s2
      rw [show askC d.fault = 0 by unfold askC; rw [if_neg f1]]
      have c1 := (s2.front (mk := diskL) (k := ⟨b, 0, none⟩)).c 1 rfl
      rw [show d.asked.locked = false from l2] at c1
      simp only [Nat.zero_add] at c1
      go_wp2_with fail
      refine c_piece s2 a N ha hNb.out ?_
      rw [show pieceC d.asked.count a N = p from hp]
      clear hp
      go_wp2
      exact s2

set_option maxRecDepth 100000 in
set_option maxHeartbeats 4000000 in
theorem c_diskFill (s : Sat W0 w H A) [fr : FrK (κ := Addr) (ρ := fun _ => DiskG) diskL ⟨b, 0, none⟩ A d F] {dv : Value} {ds : List Int} (rd : Rd u8E 1 H dv ds) (hsm : ds.length ≤ 10000)
    (k : ∀ w' d', DiskG.Like d d' → (∀ x, 0 ≤ x ∧ x < 512 * d.count → d'.mem x = putB d.mem 0 (padC ds) x) → Sat W0 w' H (diskL ⟨b, 0, none⟩ d' ++ F) → R (.returned (.tuple #[])) w') :
    Calls Try.prog 67 #[.pointer (some ⟨b, 0, none⟩), dv] w R := by
  have hc := d.hcount
  obtain ⟨E, ec, rfl, rd⟩ := rd.open_
  obtain ⟨_, hec, hec2, _⟩ := rd.u8
  have hdb := rd.bytes
  obtain ⟨N, hN⟩ : ∃ N, ds.length = N := ⟨_, rfl⟩
  rw [hN] at hec rd hsm
  obtain ⟨C, hC⟩ : ∃ C : Nat, d.count = C := ⟨d.count.toNat, by omega⟩
  have eN : IntKind.u64.wrap (N : Int) = N := by rw [wrap_u64]; omega
  have hCb := aside (show (C : Int) ≤ 65536 ∧ (N : Int) ≤ 10000 by omega)
  have ecN := aside hec
  replace hN := aside hN
  replace hC := aside hC
  clear hc hec hsm
  rw [hN.out]
  go_enter Try.func67, Try.ntmps67
  go_wp2
  go_loopg [4, 5] C (fun q v4 v5 w' => ∃ (i : Nat) (d' : DiskG), q + i = C ∧ v4 = .int .u64 i ∧ DiskG.Like d d' ∧ Aside (512 * i < N + 512) ∧ Aside (d'.mem = putB d.mem 0 ((ds ++ List.replicate 512 0).take (512 * i))) ∧ Sat W0 w' H (diskL ⟨b, 0, none⟩ d' ++ F))
  case atStart => exact ⟨0, d, by simp, rfl, DiskG.Like.refl _, by show _ < _; omega, by show _ = _; rw [Nat.mul_zero, List.take_zero, putB_nil], s.front (mk := diskL) (k := ⟨b, 0, none⟩)⟩
  clear s fr
  case round =>
    obtain ⟨i, d', hq, rfl, lk, hiN, hmem, s'⟩ := hrel
    have hCb1 := hCb.out
    have ei1 : IntKind.u64.wrap ((i : Int) + 1) = (i : Int) + 1 := by rw [wrap_u64]; omega
    have e2 : IntKind.u64.wrap ((i : Int) * 512) = ((512 * i : Nat) : Int) := by rw [wrap_u64]; omega
    obtain ⟨q, hqq⟩ : ∃ q : Nat, 512 * i = q := ⟨_, rfl⟩
    rw [hqq] at e2
    have s't := s'
    simp only [diskL, List.cons_append, List.nil_append] at s't
    have c0 := s't.c0
    rw [show d'.count = (C : Int) from lk.count.trans hC.out] at c0
    by_cases hi : i < C ∧ q < N
    · obtain ⟨hi1, hi2⟩ := hi
      have hlq : (q : Int) ≤ N := by omega
      have hlq2 : (q : Int) < N := by omega
      have hi3 : (i : Int) < C := by omega
      have hnq : ¬ ec = q := by have := ecN.out; omega
      have hkc := aside (show (i : Int) < d'.count by rw [lk.count, hC.out]; omega)
      obtain ⟨US0, hUS0⟩ : ∃ U, (ds.drop q).take 512 = U := ⟨_, rfl⟩
      have hu0 : US0.length = min 512 (N - q) := by rw [← hUS0, List.length_take, List.length_drop, hN.out]
      obtain ⟨BS, hBS⟩ : ∃ BS, US0 ++ List.replicate (512 - US0.length) 0 = BS := ⟨_, rfl⟩
      have hBl : BS.length = 512 := by rw [← hBS, List.length_append, List.length_replicate]; omega
      have hBb : ∀ x ∈ BS, 0 ≤ x ∧ x ≤ 255 := by
        rw [← hBS, ← hUS0]
        intro x hx
        rcases List.mem_append.1 hx with h | h
        · exact hdb x (List.mem_of_mem_drop (List.mem_of_mem_take h))
        · obtain ⟨_, rfl⟩ := List.mem_replicate.1 h; omega
      have hmem2 := aside (show putB d'.mem ((512 * i : Nat) : Int) BS = putB d.mem 0 ((ds ++ List.replicate 512 0).take (512 * (i + 1))) by
        rw [hmem.out, show 512 * (i + 1) = q + 512 by omega, hqq, ← hBS, ← hUS0, ← sect_pad ds q (by rw [hN.out]; omega)]
        have e := putB_app d.mem 0 ((ds ++ List.replicate 512 0).take q) (((ds ++ List.replicate 512 0).drop q).take 512)
        rw [show (((ds ++ List.replicate 512 (0 : Int)).take q).length : Int) = q by rw [List.length_take, List.length_append, List.length_replicate, hN.out]; omega, Int.zero_add] at e
        rw [e, List.take_add])
      have rdq := rd.drop8D q (by omega)
      rw [if_neg hnq] at rdq
      have hrow0 := fun (w : World) (hh : Holds w H) => rdq.row hh 512
      rw [hUS0] at hrow0
      obtain ⟨US, hUS⟩ : ∃ US, US0.map (Value.int .u8) = US := ⟨_, rfl⟩
      have hUl := aside (show US.length = US0.length by rw [← hUS, List.length_map])
      have hU1 : ∀ x ∈ US, x.oneCell' = true := by rw [← hUS]; exact oneCell_u8 _
      rw [hUS] at hrow0
      obtain ⟨ZL, hZL⟩ : ∃ ZL, List.replicate 512 (Value.int .u8 0) = ZL := ⟨_, rfl⟩
      have hZl := aside (show ZL.length = 512 by rw [← hZL]; exact List.length_replicate)
      have s2 : Sat W0 (wr.alloc (.cells sectZ 165)) H (cellsH ⟨wr.heap.size, 0, none⟩ ZL :: (diskL ⟨b, 0, none⟩ d' ++ F)) := by
        have := s'.alloc (c := List.replicate 512 (Value.int .u8 0)) (t := 165)
        rw [hZL] at this
        rw [show sectZ = ZL.toArray by rw [← hZL]; rfl]; exact this
      rw [sect_zero] at s2
      obtain ⟨P, hP⟩ : ∃ P, wr.heap.size = P := ⟨_, rfl⟩
      rw [hP] at s2
      have hfin := aside (show ZL.take 0 ++ US ++ ZL.drop (0 + US.length) = BS.map (Value.int .u8) by
        rw [List.take_zero, List.nil_append, ← hBS, List.map_append, hUS, ← hZL, List.drop_replicate, List.map_replicate, hUl.out, Nat.zero_add])
      have hrow := hrow0 _ s2.drew.ro
      have hpb := run_sectBuild
      have hq2 := aside (show gk - 1 + (i + 1) = C ∧ gk - 1 < gk by omega)
      have hmn := aside (show US0.length = min (N - q) 512 by omega)
      have hfit := aside (show US0.length ≤ 512 by omega)
      have hnx := aside (show 512 * (i + 1) < N + 512 by omega)
      have hBlA := aside hBl
      clear hq hi1 hi2 hCb1 hqq hBS hBl rdq hZL hrow0 hu0 hUS hUS0 hiN
      go_wp2
      go_region_held3 (fun w' => True) (trivial)
        (first | (refine step_copyAt rfl (.tmp 26) (.tmp 30) 57 57 5 rfl Try.underlying57 hz8D (b := P) (o := 0) (vs := ZL) s2.drew 0 rfl rfl US (fun _ => rfl) (by rw [hUl.out]; exact hmn.out) (by rw [hUl.out, hZl.out]; have := hfit.out; omega) hrow hU1 ?_; intro w3 s3; rw [hfin.out] at s3))
      all_goals
        try simp only [Act.put, List.getElem_toArray, List.getElem_cons_succ, List.getElem_cons_zero, List.setIfInBounds_toArray, List.set_cons_succ, List.set_cons_zero]
        have hmap := run_mapPut (w := w3) (ents := d'.ents) (mb := d'.mb) (ck := d'.ck) Try.underlying160 Try.underlying23 d'.hkey (s3.obj (b := d'.mb) (o := .map (d'.ents.map Ent.me).toArray d'.ck) (by simp [diskL])) i P
        obtain ⟨d2, lk2, hm2, hmb2, s4⟩ := disk_put s3 hBlA.out hBb hkc.out
        have s3t := s3.tail1
        simp only [diskL, List.cons_append, List.nil_append] at s3t
        have c2 := s3t.c 2 rfl
        simp only [Nat.zero_add] at c2
        generalize Obj.map ((putEnt d'.ents i P d'.ck).map Ent.me).toArray (putCk d'.ents i d'.ck) = ob at hmap s4
        have hm3 := aside (hm2.trans hmem2.out)
        clear s3 s3t s2 s' s't c0 hrow hpb hm2 hmem2
        go_wp2
        go_roundg (gk - 1)
        case measure => exact hq2.out.2
        case rel => exact ⟨i + 1, d2, hq2.out.1, by go_num, lk.trans lk2, hnx, hm3, s4⟩
    · have hd : ∀ x, 0 ≤ x ∧ x < 512 * d.count → d'.mem x = putB d.mem 0 (padC ds) x := fun x hx => by
        rw [hmem.out]
        exact pad_same ds i d.mem d.count (by rw [hC.out, hN.out]; omega) (by rw [hN.out]; exact hiN.out) x hx
      have K := k wr d' lk hd s'
      by_cases h1 : i < C
      · have h2 : (N : Int) ≤ q := by omega
        have h3 : (i : Int) < C := by omega
        clear hCb1 s' s't hd hi h1 k hq
        go_wp2
        go_end0
        exact K
      · have h3 : (C : Int) ≤ i := by omega
        clear hCb1 s' s't hd hi h1 k hq
        go_wp2
        go_end0
        exact K
end
end Go.Proofs.Ytiibiamobkhlbaa

namespace Go.Proofs.Ytiibiamobkhlbaa
open Go.RowKit
set_option linter.unusedVariables false

def RefD (H : Hp) (v : Value) (C : Nat) (m : Int → Int) (lk : Bool) (f q fl : Int) : Prop :=
  ∃ sl, v = .agg #[sl, .bool lk, .int .u64 f, .int .u64 q, .int .u64 fl] ∧ Rd u8E 1 H sl (rdB m 0 (512 * C))
theorem RefD.mono {H H' : Hp} {v : Value} {C : Nat} {m : Int → Int} {lk : Bool} {f q fl : Int} (r : RefD H v C m lk f q fl) (le : ∀ l c, H l = some c → H' l = some c) : RefD H' v C m lk f q fl := by
  obtain ⟨sl, h1, h2⟩ := r
  exact ⟨sl, h1, h2.mono u8E_mono le⟩
theorem RefD.open_ {H : Hp} {v : Value} {C : Nat} {m : Int → Int} {lk : Bool} {f q fl : Int} (r : RefD H v C m lk f q fl) : ∃ B N c, v = .agg #[.slice B N c, .bool lk, .int .u64 f, .int .u64 q, .int .u64 fl] ∧ N = 512 * C ∧ Rd u8E 1 H (.slice B N c) (rdB m 0 N) := by
  obtain ⟨sl, rfl, h2⟩ := r
  obtain ⟨B, c, rfl, h3⟩ := h2.open_
  rw [rdB_len] at h3
  exact ⟨B, 512 * C, c, by rw [rdB_len], rfl, h3⟩
section
variable {R : Ending → World → Prop} {W0 w : World} {H : Hp} {A : List Hp} {v : Value} {C : Nat} {m : Int → Int} {lk : Bool} {f q fl : Int}

theorem c_refNewD (s : Sat W0 w H A) (C : Nat) (hC : 1 ≤ C ∧ C ≤ 64) (lk : Bool)
    (k : ∀ w' H' v', (∀ l c, H l = some c → H' l = some c) → RefD H' v' C (fun _ => 0) lk 0 0 0 → Sat W0 w' H' A → R (.returned v') w') :
    Calls Try.prog 66 #[.int .u64 C, .bool lk] w R := by
  have s1 := s.alloc (c := [.slice (some ⟨w.heap.size + 1, 0, none⟩) (512 * C) (512 * C), .bool lk, .int .u64 0, .int .u64 0, .int .u64 0]) (t := 63)
  have s2 := s1.alloc (c := List.replicate (512 * C) (.int .u8 0)) (t := 5)
  rw [World.size_alloc] at s2
  have ew : IntKind.u64.wrap (512 * (C : Int)) = ((512 * C : Nat) : Int) := by rw [wrap_u64]; omega
  obtain ⟨N, hN⟩ : ∃ N, 512 * C = N := ⟨_, rfl⟩
  rw [hN] at ew s2
  have hmk : ∀ W, (Instr.makeSlice 57 (.int .u64 N) (.int .u64 N)).run Try.prog W = .ok (.slice (some ⟨W.heap.size, 0, none⟩) N N) (W.alloc (.cells (List.replicate N (Value.int .u8 0)).toArray 5)) := fun W => by
    have := run_make8 .u64 .u64 N N (by omega) (by omega) (by omega) W
    simpa using this
  have hz : rdB (fun _ => 0) 0 N = List.replicate N 0 := rdB_zero N (fun _ _ => rfl)
  have rd : Rd u8E 1 (un H (cellsH ⟨w.heap.size + 1, 0, none⟩ (List.replicate N (.int .u8 0)))) (.slice (some ⟨w.heap.size + 1, 0, none⟩) N N) (rdB (fun _ => 0) 0 N) := by
    have r := Rd.ofCells (b := w.heap.size + 1) (o := 0) (c := N) (xs := List.replicate N (0 : Int)) [] (by intro x hx; obtain ⟨_, rfl⟩ := List.mem_replicate.1 hx; omega) (by simp) (by omega)
    rw [List.length_replicate, List.append_nil, List.map_replicate] at r
    rw [hz]
    exact r.mono u8E_mono (Sat.frozenD s2)
  have K := k _ (un H (cellsH ⟨w.heap.size + 1, 0, none⟩ (List.replicate N (.int .u8 0)))) (.agg #[.slice (some ⟨w.heap.size + 1, 0, none⟩) N N, .bool lk, .int .u64 0, .int .u64 0, .int .u64 0]) un_leftD ⟨_, rfl, by rw [hN]; exact rd⟩ s2.freeze.tail1
  have f0 := s2.cel w.heap.size 0 0 rfl
  have f1 := s2.cel w.heap.size 0 1 rfl
  have f2 := s2.cel w.heap.size 0 2 rfl
  have f3 := s2.cel w.heap.size 0 3 rfl
  have f4 := s2.cel w.heap.size 0 4 rfl
  simp only [Nat.zero_add] at f0 f1 f2 f3 f4
  clear s s1 s2 k hz rd
  go_enter Try.func66, Try.ntmps66
  go_wp2
  refine bodyPost_ret (by simp [results, Try.results66, go_sem]; try rfl) rfl ?_
  exact K
end
end Go.Proofs.Ytiibiamobkhlbaa

namespace Go.Proofs.Ytiibiamobkhlbaa
open Go.RowKit
set_option linter.unusedVariables false

theorem rdB_at (m : Int → Int) {N i : Nat} (h : i < N) : (rdB m 0 N)[i]'(by rw [rdB_len]; exact h) = m i := by
  have := rdB_get m 0 N i h
  rw [List.getElem?_eq_getElem (by rw [rdB_len]; exact h)] at this
  simpa using Option.some.inj this

theorem putB_in (m : Int → Int) (p : Nat) (X : List Int) (i : Nat) (h0 : p ≤ i) (h1 : i - p < X.length) : putB m p X (i : Int) = X[i - p] := by
  unfold putB
  rw [if_pos (by omega), show ((i : Int) - (p : Int)).toNat = i - p by omega, List.getElem?_eq_getElem h1]; rfl
theorem putB_off (m : Int → Int) (p : Nat) (X : List Int) (i : Nat) (h : i < p ∨ p + X.length ≤ i) : putB m p X (i : Int) = m i := by
  unfold putB
  split
  · rw [List.getElem?_eq_none (by omega)]; rfl
  · rfl

section
variable {R : Ending → World → Prop} {W0 w : World} {H : Hp} {A : List Hp} {v : Value} {C : Nat} {m : Int → Int} {lk : Bool} {f q fl : Int}

set_option maxRecDepth 100000 in
set_option maxHeartbeats 4000000 in
theorem c_refLayD (s : Sat W0 w H A) (rf : RefD H v C m lk f q fl) (hC : C ≤ 1000) (p L : Nat) (hp : p ≤ 1000000) (hL2 : L ≤ 1000000) {dv : Value} {ds : List Int} (rd : Rd u8E 1 H dv ds) (hL : ds.length ≤ L)
    (k : ∀ w' H' B N c, (∀ l c, H l = some c → H' l = some c) → RefD H' (.agg #[.slice B N c, .bool lk, .int .u64 f, .int .u64 q, .int .u64 fl]) C (putB m p (ds ++ List.replicate (L - ds.length) 0)) lk f q fl → Sat W0 w' H' A → R (.returned (.agg #[.slice B N c, .bool lk, .int .u64 f, .int .u64 q, .int .u64 fl])) w') :
    Calls Try.prog 127 #[v, .int .i64 p, dv, .int .i64 L] w R := by
  obtain ⟨B, N, c, rfl, hN, rdb⟩ := rf.open_
  obtain ⟨E, ec, rfl, rd⟩ := rd.open_
  obtain ⟨hNq, hc1, hc2, gb⟩ := rdb.u8
  clear hNq
  obtain ⟨_, he1, he2, gd⟩ := rd.u8
  have gb : ∀ i (hi : i < N), ∃ bb ob, B = some ⟨bb, ob, none⟩ ∧ (∃ fr, H (.cell bb (ob + i)) = some (.val (.int .u8 (m i)) fr)) ∧ 0 ≤ m i ∧ m i ≤ 255 := fun i hi => by
    obtain ⟨bb, ob, e, h1, h2, h3⟩ := gb i (by rw [rdB_len]; exact hi)
    rw [rdB_at m hi] at h1 h2 h3
    exact ⟨bb, ob, e, h1, h2, h3⟩
  obtain ⟨PD, hPD⟩ : ∃ PD, ds ++ List.replicate (L - ds.length) 0 = PD := ⟨_, rfl⟩
  have hPl : PD.length = L := by rw [← hPD, List.length_append, List.length_replicate]; omega
  have hP1 : ∀ i (h : i < ds.length), PD[i]'(by omega) = ds[i] := fun i h => by
    have : PD[i]? = ds[i]? := by rw [← hPD, List.getElem?_append_left h]
    rw [List.getElem?_eq_getElem (by omega), List.getElem?_eq_getElem h] at this
    exact Option.some.inj this
  have hP2 : ∀ i (h0 : ds.length ≤ i) (h : i < L), PD[i]'(by omega) = 0 := fun i h0 h => by
    have : PD[i]? = some 0 := by rw [← hPD, List.getElem?_append_right h0, List.getElem?_replicate, if_pos (by omega)]
    rw [List.getElem?_eq_getElem (by omega)] at this
    exact Option.some.inj this
  rw [hPD] at k
  obtain ⟨m2, hm2⟩ : ∃ m2, putB m (p : Int) PD = m2 := ⟨_, rfl⟩
  have hin1 : ∀ i j (hj : j < ds.length), i - p = j → p ≤ i → m2 (i : Int) = ds[j] := fun i j hj e h0 => by
    subst e
    rw [← hm2, putB_in m p PD i h0 (by omega)]; exact hP1 _ hj
  have hin2 : ∀ i j, ds.length ≤ j → j < L → i - p = j → p ≤ i → m2 (i : Int) = 0 := fun i j h1 h2 e h0 => by
    subst e
    rw [← hm2, putB_in m p PD i h0 (by omega)]; exact hP2 _ h1 h2
  have hoff : ∀ i : Nat, i < p ∨ p + L ≤ i → m2 (i : Int) = m i := fun i h => by rw [← hm2]; exact putB_off m p PD i (by rw [hPl]; exact h)
  rw [hm2] at k
  have hNb : N ≤ 512000 := by omega
  have hdl : (ds.length : Int) ≤ 1000000 := by omega
  have s1 := (s.alloc (c := [.slice B N c, .bool lk, .int .u64 (f), .int .u64 (q), .int .u64 (fl)]) (t := 63)).alloc (c := [.slice none 0 0, .bool false, .int .u64 0, .int .u64 0, .int .u64 0]) (t := 63)
  have s2 := s1.alloc (c := List.replicate N (.int .u8 0)) (t := 5)
  rw [World.size_alloc, World.size_alloc] at s2
  obtain ⟨Z, hZ⟩ : ∃ Z, w.heap.size = Z := ⟨_, rfl⟩
  rw [hZ] at s2
  have hmk : ∀ W, (Instr.makeSlice 57 (.int .i64 N) (.int .i64 N)).run Try.prog W = .ok (.slice (some ⟨W.heap.size, 0, none⟩) N N) (W.alloc (.cells (List.replicate N (Value.int .u8 0)).toArray 5)) := fun W => by
    have := run_make8 .i64 .i64 N N (by omega) (by omega) (by omega) W
    simpa using this
  have epl : IntKind.i64.wrap ((p : Int) + (L : Int)) = (p : Int) + L := by simp [IntKind.wrap, IntKind.bits, IntKind.signed]; omega
  replace hN := aside hN
  replace hPD := aside hPD
  replace hm2 := aside hm2
  clear s s1 rf hP1 hP2 hPl
  go_enter Try.func127, Try.ntmps127
  go_wp2
  go_loopg [10] N (fun q' v10 w' => ∃ (i : Nat), q' + i = N ∧ v10 = .int .i64 i ∧ Aside (∀ x ∈ rdB m2 0 i, 0 ≤ x ∧ x ≤ 255) ∧ Sat W0 w' H (cellsH ⟨Z + 1 + 1, 0, none⟩ (fillR (rdB m2 0 i) N) :: cellsH ⟨Z + 1, 0, none⟩ [.slice none 0 0, .bool false, .int .u64 0, .int .u64 0, .int .u64 0] :: cellsH ⟨Z, 0, none⟩ [.slice B N c, .bool lk, .int .u64 (f), .int .u64 (q), .int .u64 (fl)] :: A))
  case atStart => exact ⟨0, by simp, rfl, by intro x hx; simp [rdB] at hx, by simpa [fillR, rdB] using s2⟩
  clear s2
  case round =>
    obtain ⟨i, hq, rfl, hbb, s'⟩ := hrel
    have z0 := s'.cel Z 0 0 rfl
    simp only [Nat.zero_add] at z0
    by_cases hi : i < N
    · obtain ⟨bb, ob, rfl, hcell, hx0, hx1⟩ := gb i hi
      have cc := s'.ro.cell hcell
      have hlen := rdB_len m2 0 i
      have hat := fillR_at (xs := rdB m2 0 i) (n := N) (by omega)
      have hfl : (fillR (rdB m2 0 i) N).length = N := fillR_len (by omega)
      have hst := fillR_set (xs := rdB m2 0 i) (n := N) (by omega)
      rw [hlen] at hat hst
      have hrd1 : rdB m2 0 (i + 1) = rdB m2 0 i ++ [m2 i] := by rw [rdB, Int.zero_add]
      obtain ⟨RI, hRI⟩ : ∃ RI, fillR (rdB m2 0 i) N = RI := ⟨_, rfl⟩
      rw [hRI] at s' hat hfl hst
      have o0 := s'.c i hat
      simp only [Nat.zero_add] at o0
      have s3 := s'.s i (by omega) (.int .u8 (m i))
      simp only [Nat.zero_add] at s3
      have hq2 := aside (show gk - 1 + (i + 1) = N ∧ gk - 1 < gk by omega)
      obtain ⟨y, hy⟩ : ∃ y, m (i : Int) = y := ⟨_, rfl⟩
      rw [hy] at hx0 hx1 cc s3
      have hi2 : (i : Int) < N := by omega
      by_cases hr : p ≤ i ∧ i < p + L
      · obtain ⟨hr1, hr2⟩ := hr
        have c1 := s3.c i (v := .int .u8 y) (by rw [List.getElem?_set_self (by omega)])
        have s4 := s3.s i (by rw [List.length_set]; omega) (.int .u8 0)
        rw [List.set_set] at s4
        simp only [Nat.zero_add] at s4 c1
        have r1 : (p : Int) ≤ i := by omega
        have r2 : (i : Int) < (p : Int) + L := by omega
        have ei : IntKind.i64.wrap ((i : Int) - (p : Int)) = ((i - p : Nat) : Int) := by simp [IntKind.wrap, IntKind.bits, IntKind.signed]; omega
        obtain ⟨j, hj⟩ : ∃ j, i - p = j := ⟨_, rfl⟩
        rw [hj] at ei
        by_cases hd : j < ds.length
        · obtain ⟨bd, od, rfl, hcd, hd0, hd1⟩ := gd j hd
          have cd := s4.ro.cell hcd
          have hm0' := hin1 i j hd hj hr1
          obtain ⟨z, hz⟩ : ∃ z, ds[j] = z := ⟨_, rfl⟩
          rw [hz] at hm0' cd hd0 hd1
          have c2 := s4.c i (v := .int .u8 0) (by rw [List.getElem?_set_self (by omega)])
          have s5 := s4.s i (by rw [List.length_set]; omega) (.int .u8 z)
          have hl5 : RI.set i (.int .u8 z) = fillR (rdB m2 0 (i + 1)) N := by rw [hst z, hrd1, hm0']
          rw [List.set_set, hl5] at s5
          simp only [Nat.zero_add] at s5 c2
          have hb2 := aside (show ∀ x ∈ rdB m2 0 (i + 1), 0 ≤ x ∧ x ≤ 255 by
            rw [hrd1]; intro x hx
            rcases List.mem_append.1 hx with h | h
            · exact hbb.out x h
            · simp at h; rw [h, hm0']; exact ⟨hd0, hd1⟩)
          have hdj : (j : Int) < ds.length := by omega
          have hmz := aside hm0'
          clear hl5 hi hq hat hfl hst hrd1 hRI hmz hlen hcell hcd gb gd hin1 hin2 hoff hm0' hj hr1 hr2 hy hz s3 s4 s' hNb hdl hp hL2 hL k hbb
          go_wp2
          go_roundg (gk - 1)
          case measure => exact hq2.out.2
          case rel => exact ⟨i + 1, hq2.out.1, by go_num, hb2, s5⟩
        · have hm0' := hin2 i j (by omega) (by omega) hj hr1
          have hl4 : RI.set i (.int .u8 0) = fillR (rdB m2 0 (i + 1)) N := by rw [hst 0, hrd1, hm0']
          rw [hl4] at s4
          have hb2 := aside (show ∀ x ∈ rdB m2 0 (i + 1), 0 ≤ x ∧ x ≤ 255 by
            rw [hrd1]; intro x hx
            rcases List.mem_append.1 hx with h | h
            · exact hbb.out x h
            · simp at h; rw [h, hm0']; omega)
          have hdj : (ds.length : Int) ≤ j := by omega
          have hmz := aside hm0'
          clear hl4 hi hq hat hfl hst hrd1 hRI hmz hlen hcell gb gd hin1 hin2 hoff hm0' hj hr1 hr2 hy s3 s' hNb hdl hp hL2 hL k hbb hd
          go_wp2
          go_roundg (gk - 1)
          case measure => exact hq2.out.2
          case rel => exact ⟨i + 1, hq2.out.1, by go_num, hb2, s4⟩
      · have hm0 := hoff i (by omega)
        rw [hy] at hm0
        have hl3 : RI.set i (.int .u8 y) = fillR (rdB m2 0 (i + 1)) N := by rw [hst y, hrd1, hm0]
        rw [hl3] at s3
        have hb2 := aside (show ∀ x ∈ rdB m2 0 (i + 1), 0 ≤ x ∧ x ≤ 255 by
          rw [hrd1]; intro x hx
          rcases List.mem_append.1 hx with h | h
          · exact hbb.out x h
          · simp at h; rw [h, hm0]; exact ⟨hx0, hx1⟩)
        have hmz := aside hm0
        by_cases r1 : p ≤ i
        · have r2 : (p : Int) + L ≤ i := by omega
          have r3 : (p : Int) ≤ i := by omega
          clear hl3 hi hq hat hfl hst hrd1 hRI hmz hlen hcell gb gd hin1 hin2 hoff hm0 hr r1 hy s' hNb hdl hp hL2 hL k hbb
          go_wp2
          go_roundg (gk - 1)
          case measure => exact hq2.out.2
          case rel => exact ⟨i + 1, hq2.out.1, by go_num, hb2, s3⟩
        · have r3 : (i : Int) < p := by omega
          clear hl3 hi hq hat hfl hst hrd1 hRI hmz hlen hcell gb gd hin1 hin2 hoff hm0 hr r1 hy s' hNb hdl hp hL2 hL k hbb
          go_wp2
          go_roundg (gk - 1)
          case measure => exact hq2.out.2
          case rel => exact ⟨i + 1, hq2.out.1, by go_num, hb2, s3⟩
    · obtain rfl : N = i := by omega
      have hff := fillR_full (xs := rdB m2 0 N)
      rw [rdB_len] at hff
      rw [hff] at s'
      have r := Rd.ofCells (b := Z + 1 + 1) (o := 0) (c := N) (xs := rdB m2 0 N) [] hbb.out (by rw [rdB_len]; exact Nat.le_refl _) (by omega)
      rw [rdB_len, List.append_nil] at r
      have r2 := r.mono u8E_mono (Sat.frozenD s')
      have z0 := s'.cel Z 0 0 rfl
      have z1 := s'.cel Z 0 1 rfl
      have z2 := s'.cel Z 0 2 rfl
      have z3 := s'.cel Z 0 3 rfl
      have z4 := s'.cel Z 0 4 rfl
      simp only [Nat.zero_add] at z0 z1 z2 z3 z4
      have u0 := s'.cel (Z + 1) 0 0 rfl
      have u1 := s'.cel (Z + 1) 0 1 rfl
      have u2 := s'.cel (Z + 1) 0 2 rfl
      have u3 := s'.cel (Z + 1) 0 3 rfl
      have u4 := s'.cel (Z + 1) 0 4 rfl
      simp only [Nat.zero_add] at u0 u1 u2 u3 u4
      have s3 := (Sat.pull (h := cellsH ⟨Z, 0, none⟩ [.slice B N c, .bool lk, .int .u64 (f), .int .u64 (q), .int .u64 (fl)]) s').s0 (.slice (some ⟨Z + 1 + 1, 0, none⟩) N N)
      have s4q0 := s3.cel (Z + 1) 0 0 rfl
      have s4t0 := (Sat.pull (h := cellsH ⟨(Z + 1), 0, none⟩ [.slice none 0 0, .bool false, .int .u64 0, .int .u64 0, .int .u64 0]) s3).s0 (.slice (some ⟨Z + 1 + 1, 0, none⟩) N N)
      have s4q1 := s4t0.c 1 rfl
      have s4t1 := s4t0.s 1 (by simp) (.bool lk)
      have s4q2 := s4t1.c 2 rfl
      have s4t2 := s4t1.s 2 (by simp) (.int .u64 (f))
      have s4q3 := s4t2.c 3 rfl
      have s4t3 := s4t2.s 3 (by simp) (.int .u64 (q))
      have s4q4 := s4t3.c 4 rfl
      have s4 := s4t3.s 4 (by simp) (.int .u64 (fl))
      simp only [List.set_cons_succ, List.set_cons_zero, Nat.zero_add] at s4 s4q0 s4q1 s4q2 s4q3 s4q4
      have f0 := s4.c 0 rfl
      have f1 := s4.c 1 rfl
      have f2 := s4.c 2 rfl
      have f3 := s4.c 3 rfl
      have f4 := s4.c 4 rfl
      simp only [Nat.zero_add] at f0 f1 f2 f3 f4
      have s5 := (Sat.pull (h := cellsH ⟨Z + 1 + 1, 0, none⟩ ((rdB m2 0 N).map (.int .u8))) s4).freeze
      have K := k _ (un H (cellsH ⟨Z + 1 + 1, 0, none⟩ ((rdB m2 0 N).map (.int .u8)))) (some ⟨Z + 1 + 1, 0, none⟩) N N un_leftD ⟨_, rfl, by rw [← hN.out]; exact r2⟩ s5.tail1.tail1
      clear k s5 s4 s3 s' r r2 hff gb gd hin1 hin2 hoff hbb
      go_wp2
      refine bodyPost_ret (by simp [results, Try.results127, go_sem, f0.1, f1.1, f2.1, f3.1, f4.1]; try rfl) rfl ?_
      exact K

end
end Go.Proofs.Ytiibiamobkhlbaa

namespace Go.Proofs.Ytiibiamobkhlbaa
open Go.RowKit
set_option linter.unusedVariables false

theorem RefD.same {H : Hp} {v : Value} {C : Nat} {m m' : Int → Int} {lk : Bool} {f q fl : Int} (r : RefD H v C m lk f q fl) (h : ∀ x, 0 ≤ x ∧ x < 512 * (C : Int) → m' x = m x) : RefD H v C m' lk f q fl := by
  obtain ⟨sl, h1, h2⟩ := r
  exact ⟨sl, h1, by rw [rdB_same (m := m) 0 (512 * C) (fun i hi => by rw [Int.zero_add]; exact h i (by omega))]; exact h2⟩

section
variable {R : Ending → World → Prop} {W0 w : World} {H : Hp} {A : List Hp} {v : Value} {C : Nat} {m : Int → Int} {lk : Bool} {f q fl : Int}

set_option maxRecDepth 100000 in
set_option maxHeartbeats 4000000 in
theorem c_refFillD (s : Sat W0 w H A) (rf : RefD H v C m lk f q fl) (hC : C ≤ 1000) {dv : Value} {ds : List Int} (rd : Rd u8E 1 H dv ds) (hd : ds.length ≤ 10000)
    (k : ∀ w' H' B N c, (∀ l c, H l = some c → H' l = some c) → RefD H' (.agg #[.slice B N c, .bool lk, .int .u64 f, .int .u64 q, .int .u64 fl]) C (putB m 0 (padC ds)) lk f q fl → Sat W0 w' H' A → R (.returned (.agg #[.slice B N c, .bool lk, .int .u64 f, .int .u64 q, .int .u64 fl])) w') :
    Calls Try.prog 69 #[v, dv] w R := by
  obtain ⟨B, N, c, rfl, hN, rdb⟩ := rf.open_
  replace hN := aside hN
  obtain ⟨E, ec, rfl, rd⟩ := rd.open_
  have s1 := (s.alloc (c := [.slice B N c, .bool lk, .int .u64 (f), .int .u64 (q), .int .u64 (fl)]) (t := 63)).alloc (c := [.slice none 0 0, .bool false, .int .u64 0, .int .u64 0, .int .u64 0]) (t := 63)
  obtain ⟨Z, hZ⟩ : ∃ Z, w.heap.size = Z := ⟨_, rfl⟩
  rw [World.size_alloc, hZ] at s1
  have y0 := s1.cel Z 0 0 rfl
  have y1 := s1.cel Z 0 1 rfl
  have y2 := s1.cel Z 0 2 rfl
  have y3 := s1.cel Z 0 3 rfl
  have y4 := s1.cel Z 0 4 rfl
  simp only [Nat.zero_add] at y0 y1 y2 y3 y4
  obtain ⟨M, hM⟩ : ∃ M, (ds.length + 511) / 512 = M := ⟨_, rfl⟩
  have e1 : IntKind.i64.wrap ((ds.length : Int) + 511) = (ds.length : Int) + 511 := by simp [IntKind.wrap, IntKind.bits, IntKind.signed]; omega
  have e2 : ((ds.length : Int) + 511).tdiv 512 = M := by rw [Int.tdiv_eq_ediv_of_nonneg (by omega)]; omega
  have e2b : ((ds.length : Int) + 511) / 512 = M := by omega
  have e3 : IntKind.i64.wrap (M : Int) = M := by simp [IntKind.wrap, IntKind.bits, IntKind.signed]; omega
  have e4 : IntKind.i64.wrap ((M : Int) * 512) = ((M * 512 : Nat) : Int) := by simp [IntKind.wrap, IntKind.bits, IntKind.signed]; omega
  obtain ⟨L, hL⟩ : ∃ L, M * 512 = L := ⟨_, rfl⟩
  rw [hL] at e4
  have hL1 := aside (show ds.length ≤ L ∧ L ≤ 1000000 by omega)
  have hpad := aside (show padC ds = ds ++ List.replicate (L - ds.length) 0 by unfold padC; rw [hM, hL])
  clear s hM hL
  go_enter Try.func69, Try.ntmps69
  go_wp2_with fail
  refine c_refLayD s1 rf hC 0 L (by omega) hL1.out.2 rd hL1.out.1 ?_
  intro w2 H2 B2 N2 c2 le2 rf2 s2
  rw [show ((0 : Nat) : Int) = 0 from rfl, ← hpad.out] at rf2
  have s4q0 := s2.cel (Z + 1) 0 0 rfl
  have s4t0 := (Sat.pull (h := cellsH ⟨(Z + 1), 0, none⟩ [.slice none 0 0, .bool false, .int .u64 0, .int .u64 0, .int .u64 0]) s2).s0 (.slice B2 N2 c2)
  have s4q1 := s4t0.c 1 rfl
  have s4t1 := s4t0.s 1 (by simp) (.bool lk)
  have s4q2 := s4t1.c 2 rfl
  have s4t2 := s4t1.s 2 (by simp) (.int .u64 (f))
  have s4q3 := s4t2.c 3 rfl
  have s4t3 := s4t2.s 3 (by simp) (.int .u64 (q))
  have s4q4 := s4t3.c 4 rfl
  have s4 := s4t3.s 4 (by simp) (.int .u64 (fl))
  simp only [List.set_cons_succ, List.set_cons_zero, Nat.zero_add] at s4 s4q0 s4q1 s4q2 s4q3 s4q4
  have f0 := s4.c 0 rfl
  have f1 := s4.c 1 rfl
  have f2 := s4.c 2 rfl
  have f3 := s4.c 3 rfl
  have f4 := s4.c 4 rfl
  simp only [Nat.zero_add] at f0 f1 f2 f3 f4
  have K := k _ H2 B2 N2 c2 le2 rf2 s4.tail1.tail1
  clear k s1 s2 s4
  go_wp2
  refine bodyPost_ret (by simp [results, Try.results69, go_sem, f0.1, f1.1, f2.1, f3.1, f4.1]; try rfl) rfl ?_
  exact K

end
end Go.Proofs.Ytiibiamobkhlbaa
