/-
  RAM: its pieces: the map's block, the pages; a byte read, a byte written.
-/
import Derived.Test.YtippipfogbgemaaVm
namespace Go.Proofs.Ytippipfogbgemaa
open Go.RowKit
set_option linter.unusedVariables false

structure Ent where
  key : Nat
  blk : Nat
  born : Nat

def Ent.me (e : Ent) : MapEntry := { key := .int .u64 e.key, val := .pointer (some ⟨e.blk, 0, none⟩), born := e.born }

/-- the pages' bytes: 'base' the address of page 0, 'sz' a page's bytes -/
def pagesH (base sz : Nat) (ents : List Ent) (mem : Int → Int) : Hp
  | .cell b o => match ents.find? (fun e => e.blk == b) with
    | some e => if o < sz then some (.val (.int .u8 (mem ((base + sz * e.key + o : Nat) : Int))) false) else none
    | none => none
  | .obj _ => none

def updM (m : Int → Int) (a b : Int) : Int → Int := fun x => if x = a then b else m x

theorem find_blk {ents : List Ent} (hb : ents.Pairwise (·.blk ≠ ·.blk)) {e : Ent} (he : e ∈ ents) : ents.find? (fun x => x.blk == e.blk) = some e := by
  induction ents with
  | nil => cases he
  | cons x xs ih =>
    obtain ⟨h1, h2⟩ := List.pairwise_cons.1 hb
    rw [List.find?_cons]
    rcases List.mem_cons.1 he with rfl | he
    · simp
    · have : (x.blk == e.blk) = false := by simp [h1 e he]
      rw [this]; exact ih h2 he

theorem pagesH_at {base sz : Nat} {ents : List Ent} {mem : Int → Int} (hb : ents.Pairwise (·.blk ≠ ·.blk)) {e : Ent} (he : e ∈ ents) {o : Nat} (ho : o < sz) :
    pagesH base sz ents mem (.cell e.blk o) = some (.val (.int .u8 (mem ((base + sz * e.key + o : Nat) : Int))) false) := by
  simp [pagesH, find_blk hb he, ho]

theorem mul_place {sz k k' o o' : Nat} (ho : o < sz) (ho' : o' < sz) (h : sz * k + o = sz * k' + o') : k = k' ∧ o = o' := by
  have h1 : (sz * k + o) / sz = k := by rw [Nat.mul_add_div (by omega), Nat.div_eq_of_lt ho, Nat.add_zero]
  have h2 : (sz * k' + o') / sz = k' := by rw [Nat.mul_add_div (by omega), Nat.div_eq_of_lt ho', Nat.add_zero]
  have : k = k' := by rw [← h1, h, h2]
  subst this
  exact ⟨rfl, by omega⟩

/-- a byte stored into a page -/
theorem upH_pages {base sz : Nat} {ents : List Ent} {mem : Int → Int} (hb : ents.Pairwise (·.blk ≠ ·.blk)) (hk : ents.Pairwise (·.key ≠ ·.key)) {e : Ent} (he : e ∈ ents) {o : Nat} (ho : o < sz) (v : Int) :
    upH (pagesH base sz ents mem) e.blk o (.int .u8 v) = pagesH base sz ents (updM mem ((base + sz * e.key + o : Nat) : Int) v) := by
  funext l
  cases l with
  | obj b => simp [upH, pagesH]
  | cell b i =>
    by_cases hl : b = e.blk ∧ i = o
    · obtain ⟨rfl, rfl⟩ := hl
      simp [upH, pagesH, find_blk hb he, ho, updM]
    · have hne : ¬ (Loc.cell b i = Loc.cell e.blk o) := by intro h; injection h with h1 h2; exact hl ⟨h1, h2⟩
      simp only [upH, if_neg hne, pagesH]
      cases hf : ents.find? (fun x => x.blk == b) with
      | none => rfl
      | some x =>
        have hx := List.mem_of_find?_eq_some hf
        have hxb : x.blk = b := by simpa using List.find?_some hf
        by_cases hi : i < sz
        · simp only [if_pos hi]
          have : ((base + sz * x.key + i : Nat) : Int) ≠ ((base + sz * e.key + o : Nat) : Int) := by
            intro h
            have h' : sz * x.key + i = sz * e.key + o := by omega
            obtain ⟨h1, h2⟩ := mul_place hi ho h'
            -- one key, one entry
            have hxe : x = e := by
              obtain ⟨n, hn⟩ := List.getElem?_of_mem hx
              obtain ⟨m, hm⟩ := List.getElem?_of_mem he
              rcases Nat.decEq n m with hnm | hnm
              · exact absurd h1 (pairwise_get (R := fun a b : Ent => a.key ≠ b.key) (fun a b h => h.symm) hk n m x e hnm hn hm)
              · subst hnm; rw [hn] at hm; injection hm
            exact hl ⟨by rw [← hxb, hxe], h2⟩
          simp only [updM, if_neg this]
        · simp only [if_neg hi]

/-- a new page of zeros -/
theorem pages_new {base sz : Nat} {ents : List Ent} {mem : Int → Int} {e : Ent} (hfresh : ∀ x ∈ ents, x.blk ≠ e.blk) (hz : ∀ o, o < sz → mem ((base + sz * e.key + o : Nat) : Int) = 0) :
    un (pagesH base sz ents mem) (cellsH ⟨e.blk, 0, none⟩ (List.replicate sz (.int .u8 0))) = pagesH base sz (ents ++ [e]) mem := by
  funext l
  cases l with
  | obj b => simp [un, pagesH, cellsH]
  | cell b i =>
    simp only [un, pagesH, cellsH, List.find?_append, List.find?_cons, List.find?_nil]
    cases hf : ents.find? (fun x => x.blk == b) with
    | some x =>
      have hx := List.mem_of_find?_eq_some hf
      have hxb : x.blk = b := by simpa using List.find?_some hf
      have hne : ¬ (b = e.blk) := by rintro rfl; exact hfresh x hx hxb
      by_cases hi : i < sz <;> simp [hi, hne]
    | none =>
      by_cases hb : b = e.blk
      · subst hb
        by_cases hi : i < sz
        · have := hz i hi
          simp only [Int.natCast_add, Int.natCast_mul] at this
          simp [hi, this]
        · simp [hi]
      · have hbe : (e.blk == b) = false := by simp; exact fun h => hb h.symm
        simp [hb, hbe]

/-! ### A look into the map -/
theorem findNow_me (ents : List Ent) (k : Nat) : ∀ i, Instr.findNow (.int .u64) (.int .u64 (k : Int)) (ents.map Ent.me) i = some ((ents.zipIdx i).find? (fun x => x.1.key == k) |>.map fun x => (x.2, (Value.pointer (some ⟨x.1.blk, 0, none⟩)))) := by
  induction ents with
  | nil => intro i; rfl
  | cons e es ih =>
    intro i
    simp only [List.map_cons, Instr.findNow, Ent.me, Instr.sameNow, if_true, List.zipIdx_cons, List.find?_cons]
    by_cases h : e.key = k
    · subst h; simp
    · have h1 : (((k : Int)) == ((e.key : Nat) : Int)) = false := by simp; omega
      have h2 : (e.key == k) = false := by simp [h]
      rw [h1, h2]
      exact ih (i + 1)

theorem findNow_some {ents : List Ent} (hk : ents.Pairwise (·.key ≠ ·.key)) {e : Ent} (he : e ∈ ents) : ∃ j, Instr.findNow (.int .u64) (.int .u64 (e.key : Int)) (ents.map Ent.me) 0 = some (some (j, .pointer (some ⟨e.blk, 0, none⟩))) := by
  rw [findNow_me]
  cases hf : (ents.zipIdx 0).find? (fun x => x.1.key == e.key) with
  | none =>
    exfalso
    rw [List.find?_eq_none] at hf
    obtain ⟨n, hn⟩ := List.getElem?_of_mem he
    exact hf (e, n) (List.mem_zipIdx_iff_getElem?.2 (by simpa using hn)) (by simp)
  | some x =>
    obtain ⟨y, j⟩ := x
    have hx := List.mem_of_find?_eq_some hf
    have hxk : y.key = e.key := by simpa using List.find?_some hf
    have hy : ents[j]? = some y := by simpa using List.mem_zipIdx_iff_getElem?.1 hx
    obtain ⟨m, hm⟩ := List.getElem?_of_mem he
    have : y = e := by
      rcases Nat.decEq j m with hnm | hnm
      · exact absurd hxk (pairwise_get (R := fun a b : Ent => a.key ≠ b.key) (fun a b h => h.symm) hk j m y e hnm hy hm)
      · subst hnm; rw [hy] at hm; injection hm
    subst this
    exact ⟨j, rfl⟩

theorem findNow_none {ents : List Ent} {k : Nat} (h : ∀ e ∈ ents, e.key ≠ k) : Instr.findNow (.int .u64) (.int .u64 (k : Int)) (ents.map Ent.me) 0 = some none := by
  rw [findNow_me]
  have : (ents.zipIdx 0).find? (fun x => x.1.key == k) = none := by
    rw [List.find?_eq_none]
    rintro ⟨y, j⟩ hx
    have hy : ents[j]? = some y := by simpa using List.mem_zipIdx_iff_getElem?.1 hx
    simp [h y (List.mem_of_getElem? hy)]
  rw [this]; rfl

section
variable {P : Program} {w : World} {mt kt vt : TypeId} {mb ck : Nat} {ents : List Ent}

theorem run_checkKey (hk : P.underlying kt = some (.int .u64)) (b : Bool) (n : Nat) (v : Value) : (Instr.checkKey b (n + 1) kt v).run P w = .ok () w := by
  simp [Instr.checkKey, run_underlying hk]

theorem run_lookup_yes (hm : P.underlying mt = some (.map kt vt)) (hk : P.underlying kt = some (.int .u64)) (ho : w.heap[mb]? = some (.map (ents.map Ent.me).toArray ck)) (hp : ents.Pairwise (·.key ≠ ·.key)) {e : Ent} (he : e ∈ ents) :
    (Instr.lookup mt (.map (some mb)) (.int .u64 (e.key : Int)) true).run P w = .ok (.tuple #[.pointer (some ⟨e.blk, 0, none⟩), .bool true]) w := by
  obtain ⟨j, hj⟩ := findNow_some hp he
  simp [Instr.lookup, run_underlying hm, MapKept.run_getObj_map ho, run_checkKey hk, Instr.findKey, run_underlying hk, hj]

theorem run_lookup_no {z : Value} (hm : P.underlying mt = some (.map kt vt)) (hk : P.underlying kt = some (.int .u64)) (ho : w.heap[mb]? = some (.map (ents.map Ent.me).toArray ck)) {k : Nat} (hn : ∀ e ∈ ents, e.key ≠ k)
    (hz : (zeroValue vt).run P w = .ok z w) : (Instr.lookup mt (.map (some mb)) (.int .u64 (k : Int)) true).run P w = .ok (.tuple #[z, .bool false]) w := by
  simp [Instr.lookup, run_underlying hm, MapKept.run_getObj_map ho, run_checkKey hk, Instr.findKey, run_underlying hk, findNow_none hn, hz]

theorem run_mapNew (hm : P.underlying mt = some (.map kt vt)) (hk : P.underlying kt = some (.int .u64)) (ho : w.heap[mb]? = some (.map (ents.map Ent.me).toArray ck)) {k : Nat} (hn : ∀ e ∈ ents, e.key ≠ k) (blk : Nat) :
    (Instr.mapUpdate mt (.map (some mb)) (.int .u64 (k : Int)) (.pointer (some ⟨blk, 0, none⟩))).run P w = .ok () (setO w mb (.map ((ents ++ [Ent.mk k blk ck]).map Ent.me).toArray (ck + 1))) := by
  simp [Instr.mapUpdate, run_underlying hm, MapKept.run_getObj_map ho, run_checkKey hk, Instr.findKey, run_underlying hk, findNow_none hn, MapKept.run_setObj_map _ ho, setO, Ent.me]
end

/-! ### The object -/
structure RamG where
  size : Int
  mb : Nat
  ck : Nat
  ents : List Ent
  mem : Int → Int
  hsize : size % 4096 = 0 ∧ 4096 ≤ size ∧ size ≤ 268435456
  hkey : ents.Pairwise (·.key ≠ ·.key)
  hblk : ents.Pairwise (·.blk ≠ ·.blk)
  hborn : ents.Pairwise (·.born ≠ ·.born) ∧ ∀ e ∈ ents, e.born < ck
  hin : ∀ e ∈ ents, ((4096 * e.key : Nat) : Int) < size
  hmem : ∀ a, 0 ≤ mem a ∧ mem a ≤ 255
  hzero : ∀ k : Nat, (∀ e ∈ ents, e.key ≠ k) → ∀ o, o < 4096 → mem ((2147483648 + 4096 * k + o : Nat) : Int) = 0
  hlow : ∀ a : Int, a < 2147483648 → mem a = 0

/-- what a log holds -/
structure LogG where
  pb : Nat
  po : Nat
  wsl : Value
  wbk : Hp
  ws : List (Int × Int)
  rsl : Value
  rbk : Hp
  rs : List (Int × Int)
  hw : OwnS 2 wsl ws.length (ws.flatMap fun x => [.int .u64 x.1, .int .u64 x.2]) wbk
  hr : OwnS 2 rsl rs.length (rs.flatMap fun x => [.int .u64 x.1, .int .u64 x.2]) rbk

def logL : Option LogG → List Hp
  | none => []
  | some l => [cellsH ⟨l.pb, l.po, none⟩ [l.wsl, l.rsl], l.wbk, l.rbk]

/-- a memory's pieces, but for the log's -/
def ramL (p : Addr) (x : RamG × Option LogG) : List Hp :=
  cellsH p [.int .u64 x.1.size, .map (some x.1.mb), .pointer (x.2.map fun l => ⟨l.pb, l.po, none⟩)] :: objH x.1.mb (.map (x.1.ents.map Ent.me).toArray x.1.ck) :: pagesH 2147483648 4096 x.1.ents x.1.mem :: logL x.2

def RamG.has (r : RamG) (a n : Int) : Prop := 2147483648 ≤ a ∧ n ≤ r.size ∧ a - 2147483648 ≤ r.size - n
instance (r : RamG) (a n : Int) : Decidable (r.has a n) := by unfold RamG.has; infer_instance

def pageZ : Array Value := (List.replicate 4096 (.int .u8 0)).toArray
theorem info_page : ∃ i, Try.prog.info? 151 = some i ∧ i.zero = some (.agg pageZ) := by
  have h : (Try.prog.info? 151).map (fun i => i.zero) = some (some (.agg pageZ)) := by kernel_rfl
  cases hi : Try.prog.info? 151 with
  | none => simp [hi] at h
  | some i => simp [hi] at h; exact ⟨i, rfl, h⟩
theorem info_u8s : ∃ i, Try.prog.info? 5 = some i ∧ i.size = 1 := by
  have h : (Try.prog.info? 5).map (fun i => i.size) = some 1 := by kernel_rfl
  cases hi : Try.prog.info? 5 with
  | none => simp [hi] at h
  | some i => simp [hi] at h; exact ⟨i, rfl, h⟩
theorem run_pageBuild (w : World) : (Instr.build 151 #[]).run Try.prog w = .ok (.agg pageZ) w := by
  obtain ⟨i, hi, hz⟩ := info_page
  obtain ⟨j, hj, hs⟩ := info_u8s
  simp [Instr.build, zeroValue, typeInfo, hi, hz, run_underlying Try.underlying151, sizeOf, hj, Instr.fill, Value.cells]
theorem page_zero : pageZ = Try.zeroCells151 := by kernel_rfl
theorem zero_page (w : World) : (zeroValue 149).run Try.prog w = .ok (.pointer none) w := by kernel_rfl

section
variable {R : Ending → World → Prop} {W0 w : World} {H : Hp} {A F : List Hp} {b o : Nat} {r : RamG} {l : Option LogG}

theorem c_ramHas (s : Sat W0 w H A) [fr : FrK (κ := Addr) (ρ := fun _ => RamG × Option LogG) ramL ⟨b, o, none⟩ A (r, l) F] (a n : Int) (h0 : 0 ≤ a ∧ a ≤ 18446744073709551615) (h1 : 0 ≤ n ∧ n ≤ 18446744073709551615)
    (k : R (.returned (.bool (decide (r.has a n)))) w) : Calls Try.prog 64 #[.pointer (some ⟨b, o, none⟩), .int .u64 a, .int .u64 n] w R := by
  have s1 := s.front (mk := ramL) (k := ⟨b, o, none⟩)
  have c0 := s1.c0
  have hs := r.hsize
  clear s fr s1
  go_enter Try.func64, Try.ntmps64
  go_wp2_with (go_at_call 111; refine c_Within _ _ _ _ h0 h1 (by omega) (by omega) ?_)
  exact ret_b k (by rw [Bool.eq_iff_iff]; simp [RamG.has]; exact decide_eq_true_iff)

/-- a place of the memory, as a page and a place in it -/
theorem place_of {a size : Int} (h0 : 2147483648 ≤ a) (h1 : a - 2147483648 < size) : ∃ k j : Nat, j < 4096 ∧ (a - 2147483648) / 4096 = k ∧ (a - 2147483648) % 4096 = j ∧ a = ((2147483648 + 4096 * k + j : Nat) : Int) := by
  refine ⟨((a - 2147483648) / 4096).toNat, ((a - 2147483648) % 4096).toNat, by omega, by omega, by omega, by omega⟩

theorem c_ramGet (s : Sat W0 w H A) [fr : FrK (κ := Addr) (ρ := fun _ => RamG × Option LogG) ramL ⟨b, o, none⟩ A (r, l) F] (a : Int) (h0 : 2147483648 ≤ a) (h1 : a - 2147483648 < r.size)
    (k : R (.returned (.int .u8 (r.mem a))) w) : Calls Try.prog 66 #[.pointer (some ⟨b, o, none⟩), .int .u64 a] w R := by
  have s1 := s.front (mk := ramL) (k := ⟨b, o, none⟩)
  have c1 := s1.c 1 rfl
  have hs := r.hsize
  obtain ⟨kk, j, hj, e1, e2, e3⟩ := place_of h0 h1
  have ho := s1.obj (b := r.mb) (o := .map (r.ents.map Ent.me).toArray r.ck) (by simp [ramL])
  have hle : a ≤ 2415919104 := by omega
  by_cases he : ∃ e ∈ r.ents, e.key = kk
  · obtain ⟨e, hm, rfl⟩ := he
    have hl := run_lookup_yes (w := w) Try.underlying146 Try.underlying25 ho r.hkey hm
    have hcell := look_cell ((s1.each (pagesH 2147483648 4096 r.ents r.mem) (by simp [ramL])).1 _ _ (pagesH_at r.hblk hm hj))
    rw [← e3] at hcell
    rw [← e1] at hl
    have hjj : ((a - 2147483648) % 4096).toNat = j := by omega
    rw [← hjj] at hcell
    have hc := hcell.1
    have E3 := aside e3
    clear s fr s1 hcell e1 e2 e3 ho hjj
    go_enter Try.func66, Try.ntmps66
    go_wp2
    exact k
  · have hn : ∀ e ∈ r.ents, e.key ≠ kk := fun e hm h => he ⟨e, hm, h⟩
    have hz : r.mem a = 0 := by rw [e3]; exact r.hzero kk hn j hj
    have hl := run_lookup_no (w := w) (z := .pointer none) Try.underlying146 Try.underlying25 ho hn (zero_page w)
    rw [← e1] at hl
    rw [hz] at k
    clear s fr s1 e1 e2 e3 ho he hn hz
    go_enter Try.func66, Try.ntmps66
    go_wp2
    exact k

set_option maxRecDepth 100000 in
set_option maxHeartbeats 4000000 in
theorem c_ramSet (s : Sat W0 w H A) [fr : FrK (κ := Addr) (ρ := fun _ => RamG × Option LogG) ramL ⟨b, o, none⟩ A (r, l) F] (a v : Int) (h0 : 2147483648 ≤ a) (h1 : a - 2147483648 < r.size) (hv : 0 ≤ v ∧ v ≤ 255)
    (k : ∀ w' (r' : RamG), r'.mem = updM r.mem a v → r'.size = r.size → Sat W0 w' H (ramL ⟨b, o, none⟩ (r', l) ++ F) → R (.returned (.tuple #[])) w') :
    Calls Try.prog 93 #[.pointer (some ⟨b, o, none⟩), .int .u64 a, .int .u8 v] w R := by
  have s1 := s.front (mk := ramL) (k := ⟨b, o, none⟩)
  have c1 := s1.c 1 rfl
  have hs := r.hsize
  obtain ⟨kk, j, hj, e1, e2, e3⟩ := place_of h0 h1
  have ho := s1.obj (b := r.mb) (o := .map (r.ents.map Ent.me).toArray r.ck) (by simp [ramL])
  have hle : a ≤ 2415919104 := by omega
  have hjj : ((a - 2147483648) % 4096).toNat = j := by omega
  have hbd : ∀ x, 0 ≤ updM r.mem a v x ∧ updM r.mem a v x ≤ 255 := fun x => by unfold updM; split; exact hv; exact r.hmem x
  have hlo := aside (show ∀ x : Int, x < 2147483648 → updM r.mem a v x = 0 from fun x hx => by unfold updM; rw [if_neg (by omega)]; exact r.hlow x hx)
  by_cases he : ∃ e ∈ r.ents, e.key = kk
  · obtain ⟨e, hm, rfl⟩ := he
    have hl := run_lookup_yes (w := w) Try.underlying146 Try.underlying25 ho r.hkey hm
    have hat := pagesH_at (base := 2147483648) (mem := r.mem) r.hblk hm hj
    have hcell := look_cell ((s1.each (pagesH 2147483648 4096 r.ents r.mem) (by simp [ramL])).1 _ _ hat)
    have s2 : Sat W0 (w.setCell ⟨e.blk, j, none⟩ (.int .u8 v)) H (ramL ⟨b, o, none⟩ (⟨r.size, r.mb, r.ck, r.ents, updM r.mem a v, r.hsize, r.hkey, r.hblk, r.hborn, r.hin, hbd, fun k hk i hi => by
        have := r.hzero k hk i hi
        have hne : ((2147483648 + 4096 * k + i : Nat) : Int) ≠ a := by
          rw [e3]; intro h
          have h' : 4096 * k + i = 4096 * e.key + j := by omega
          exact hk e hm (mul_place hi hj h').1.symm
        unfold updM; rw [if_neg hne]; exact this, hlo⟩, l) ++ F) := by
      have s3 := (Sat.pull (h := pagesH 2147483648 4096 r.ents r.mem) (by simpa only [ramL, List.cons_append] using s1)).set hat (.int .u8 v)
      rw [upH_pages r.hblk r.hkey hm hj, ← e3] at s3
      simp only [ramL, List.cons_append]
      exact s3.wk
    rw [← e1] at hl
    have K := k _ _ (by exact rfl) (by exact rfl) s2
    rw [← hjj] at hcell K
    clear s2 s fr s1 e1 e2 e3 ho hjj hat k
    by_cases hv0 : v = 0
    all_goals
      have hvb : (v == 0) = decide (v = 0) := rfl
      go_enter Try.func93, Try.ntmps93
      go_wp2
      go_end0
      first | exact K | (subst hv0; exact K)
  · have hn : ∀ e ∈ r.ents, e.key ≠ kk := fun e hm h => he ⟨e, hm, h⟩
    have hz : r.mem a = 0 := by rw [e3]; exact r.hzero kk hn j hj
    have hl := run_lookup_no (w := w) (z := .pointer none) Try.underlying146 Try.underlying25 ho hn (zero_page w)
    rw [← e1] at hl
    by_cases hv0 : v = 0
    · subst hv0
      have hm : r.mem = updM r.mem a 0 := by
        funext x
        unfold updM
        by_cases hx : x = a
        · rw [if_pos hx, hx]; exact hz
        · rw [if_neg hx]
      have K := k _ r hm rfl s1
      clear s fr s1 e1 e2 e3 ho he hn hz hbd k hm
      go_enter Try.func93, Try.ntmps93
      go_wp2
      refine bodyPost_ret (results_none rfl _ _ _) rfl ?_
      exact K
    · have hvb : (v == 0) = false := by simp [hv0]
      have hpb := run_pageBuild
      -- the world with the new page, and the map with its entry
      have hblt : r.mb < w.heap.size := by
        have := Array.getElem?_eq_some_iff.1 ho
        exact this.1
      have ho2 : (w.alloc (.cells pageZ 151)).heap[r.mb]? = some (.map (r.ents.map Ent.me).toArray r.ck) := (Below.heap_alloc _ _ _ hblt).trans ho
      have hmu := run_mapNew Try.underlying146 Try.underlying25 ho2 hn w.heap.size
      rw [← e1] at hmu
      have s2 : Sat W0 (w.alloc (.cells pageZ 151)) H (cellsH ⟨w.heap.size, 0, none⟩ (List.replicate 4096 (.int .u8 0)) :: (ramL ⟨b, o, none⟩ (r, l) ++ F)) := s1.alloc
      have hfresh : ∀ x ∈ r.ents, x.blk ≠ w.heap.size := fun x hx => by
        have := look_lt ((s1.each (pagesH 2147483648 4096 r.ents r.mem) (by simp [ramL])).1 _ _ (pagesH_at (base := 2147483648) (mem := r.mem) (o := 0) r.hblk hx (by omega)))
        simp only [Loc.block] at this
        omega
      have hkey' : (r.ents ++ [Ent.mk kk w.heap.size r.ck]).Pairwise (fun x y => x.key ≠ y.key) := List.pairwise_append.2 ⟨r.hkey, by simp, fun x hx y hy => by simp at hy; subst hy; exact hn x hx⟩
      have hblk' : (r.ents ++ [Ent.mk kk w.heap.size r.ck]).Pairwise (fun x y => x.blk ≠ y.blk) := List.pairwise_append.2 ⟨r.hblk, by simp, fun x hx y hy => by simp at hy; subst hy; exact hfresh x hx⟩
      have hborn' : (r.ents ++ [Ent.mk kk w.heap.size r.ck]).Pairwise (fun x y => x.born ≠ y.born) := List.pairwise_append.2 ⟨r.hborn.1, by simp, fun x hx y hy => by simp at hy; subst hy; have := r.hborn.2 x hx; simp only; omega⟩
      have hmem' : Ent.mk kk w.heap.size r.ck ∈ r.ents ++ [Ent.mk kk w.heap.size r.ck] := by simp
      simp only [ramL, List.cons_append] at s2
      have s3 := (Sat.pull (h := objH r.mb (.map (r.ents.map Ent.me).toArray r.ck)) s2).setO (o' := .map ((r.ents ++ [Ent.mk kk w.heap.size r.ck]).map Ent.me).toArray (r.ck + 1)) (h' := objH r.mb (.map ((r.ents ++ [Ent.mk kk w.heap.size r.ck]).map Ent.me).toArray (r.ck + 1))) rfl (by intro c t f h; cases h) rfl
      have s4 := (Sat.pull (h := pagesH 2147483648 4096 r.ents r.mem) (Sat.pull (h := cellsH ⟨w.heap.size, 0, none⟩ (List.replicate 4096 (.int .u8 0))) s3)).merge
      rw [pages_new (e := Ent.mk kk w.heap.size r.ck) hfresh (fun o ho => r.hzero kk hn o ho)] at s4
      have hat := pagesH_at (base := 2147483648) (mem := r.mem) hblk' hmem' hj
      have hcell := look_cell ((s4.each _ (List.mem_cons_self ..)).1 _ _ hat)
      have s5 := s4.set hat (.int .u8 v)
      have e3' : a = ((2147483648 + 4096 * (Ent.mk kk w.heap.size r.ck).key + j : Nat) : Int) := e3
      rw [upH_pages hblk' hkey' hmem' hj, ← e3'] at s5
      have s6 : Sat W0 ((setO (w.alloc (.cells pageZ 151)) r.mb (.map ((r.ents ++ [Ent.mk kk w.heap.size r.ck]).map Ent.me).toArray (r.ck + 1))).setCell ⟨w.heap.size, j, none⟩ (.int .u8 v)) H (ramL ⟨b, o, none⟩ (⟨r.size, r.mb, r.ck + 1, r.ents ++ [Ent.mk kk w.heap.size r.ck], updM r.mem a v, r.hsize, hkey', hblk', ⟨hborn', fun e he => by
          rcases List.mem_append.1 he with h | h
          · have := r.hborn.2 e h; omega
          · simp at h; subst h; simp⟩, fun e he => by
          rcases List.mem_append.1 he with h | h
          · exact r.hin e h
          · simp at h; subst h; simp only; omega, hbd, fun k hk i hi => by
          have h1 := r.hzero k (fun e he => hk e (List.mem_append_left _ he)) i hi
          have hne : ((2147483648 + 4096 * k + i : Nat) : Int) ≠ a := by
            rw [e3]; intro h
            have h' : 4096 * k + i = 4096 * kk + j := by omega
            exact hk _ hmem' (mul_place hi hj h').1.symm
          unfold updM; rw [if_neg hne]; exact h1, hlo⟩, l) ++ F) := by
        simp only [ramL, List.cons_append]
        exact s5.wk
      have K := k _ _ (by exact rfl) (by exact rfl) s6
      have c2 := s2.cel b o 1 rfl
      simp only [] at hcell K
      rw [← hjj] at hcell K
      rw [page_zero] at hmu hcell K c2
      generalize Obj.map ((r.ents ++ [Ent.mk kk w.heap.size r.ck]).map Ent.me).toArray (r.ck + 1) = ob at hmu hcell K
      clear s2 s3 s4 s5 s6 s fr s1 e1 e2 e3 e3' ho ho2 hjj hat k
      go_enter Try.func93, Try.ntmps93
      go_wp2
      go_end0
      exact K
end

end Go.Proofs.Ytippipfogbgemaa
