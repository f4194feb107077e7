/-
  BLK: a device's registers as they begin.
  BLK: a string's bytes copied to a place of an object; the device as it begins.
  BLK: a request's beginning.
  BLK: a request of no known kind.
  BLK: a chain whose request is of no known kind is served.
  BLK: the page's example.
  BLK: a start and a piece, as arguments.
  BLK: may a request have so many bytes; how many bytes are gathered.
  BLK: memory to sectors.
  BLK: sectors to memory.
  BLK: the disk's name to memory.
  BLK: a request is given to what serves its kind.
  BLK: what was written is kept (a request of kind 4).
  BLK: a request, of any kind: what it comes to, as a plain function.
  BLK: a chain is used: what that comes to, as a plain function; the contract.
  BLK: what was written is read: the plain law.
-/
import Derived.Test.YtiibiamobkhlbaaG1
import Derived.Test.YtiibiamobkhlbaaG4
import Derived.Lib.BufferWrite
import Derived.Test.YtiibiamobkhlbaaG2
import Derived.Test.YtiibiamobkhlbaaG3
import Derived.Deep.RegionHeld3
import Derived.Deep.RegionLaw
import Derived.Deep.QuietTactic
import Derived.BigQuiet
set_option linter.unusedVariables false
set_option linter.unusedSimpArgs false
namespace Go.Proofs.Ytiibiamobkhlbaa
open Go.RowKit
set_option linter.unusedVariables false
set_option linter.unusedSimpArgs false

def q0L : List Value := [.int .i64 0, .int .u64 0, .int .u64 0, .int .u64 0, .bool false, .int .u16 0, .int .u16 0, .bool false, .bool false]
theorem info_q : ∃ i, Try.prog.info? 40 = some i ∧ i.zero = some (.agg q0L.toArray) ∧ i.size = 9 ∧ i.bytes = 40 := by
  have h : (Try.prog.info? 40).map (fun i => (i.zero, i.size, i.bytes)) = some (some (.agg q0L.toArray), 9, 40) := by kernel_rfl
  cases hi : Try.prog.info? 40 with
  | none => simp [hi] at h
  | some i => simp [hi] at h; exact ⟨i, rfl, h⟩
theorem run_makeQ (w : World) : (Instr.makeSlice 112 (.int .i64 1) (.int .i64 1)).run Try.prog w = .ok (.slice (some ⟨w.heap.size, 0, none⟩) 1 1) (w.alloc (.cells #[.int .i64 0, .int .u64 0, .int .u64 0, .int .u64 0, .bool false, .int .u16 0, .int .u16 0, .bool false, .bool false] 40)) := by
  obtain ⟨i0, hi, hz, hs1, hb1⟩ := info_q
  rw [run_make (P := Try.prog) w 112 40 i0 (.agg q0L.toArray) Try.underlying112 hi hz .i64 .i64 1 1 (by omega) (by omega) (by rw [hb1]; omega) (by omega), hs1]
  have e : madeCells (Value.agg q0L.toArray).cells 9 = #[.int .i64 0, .int .u64 0, .int .u64 0, .int .u64 0, .bool false, .int .u16 0, .int .u16 0, .bool false, .bool false] := by kernel_rfl
  rw [show Int.toNat 1 * 9 = 9 from rfl, e]
  rfl

section
variable {R : Ending → World → Prop} {W0 w : World} {H : Hp} {A F : List Hp}

set_option maxRecDepth 100000 in
set_option maxHeartbeats 4000000 in
theorem c_vmmioNew (s : Sat W0 w H A) {id off off' : Int} (hoff : bits BinOp.or IntKind.u64 off 4294967296 = off') {hp : Hp} {v : Value} {ds : List Int} (rd : Rd u8E 1 hp v ds) (hh : Holds w hp) (hd : ds.length ≤ 1000)
    (k : ∀ w' rb qb sv h, OwnS 1 sv ds.length (ds.map (Value.int .u8)) h → Sat W0 w' H (cellsH ⟨rb, 0, none⟩ [.int .u32 id, .int .u64 off', .int .u64 0, .int .u32 0, .int .u32 0, .int .u32 0, .slice (some ⟨qb, 0, none⟩) 1 1, .int .u32 0, .int .u32 0, .int .u32 0, sv] :: cellsH ⟨qb, 0, none⟩ q0L :: h :: A) → R (.returned (.pointer (some ⟨rb, 0, none⟩))) w') :
    Calls Try.prog 71 #[.int .u32 id, .int .u64 off, .int .i64 1, v] w R := by
  obtain ⟨B, c, rfl, rd⟩ := rd.open_
  have hr : RowR w B (ds.map (Value.int .u8)) := by have := Rd.row hh rd ds.length; rwa [List.take_length] at this
  clear rd
  replace k := aside k
  have hmk := run_makeQ
  have s0 := s.alloc (c := []) (t := 5)
  go_enter Try.func71, Try.ntmps71
  go_wp2_with (at_builtin; refine append8 rfl (.tmp 13) (.tmp 14) rfl rfl (OwnS.zero 1 _) s0.emp rfl ds rfl (rowR_old (f := fun _ => ds.map (Value.int .u8)) (fun _ => hr) 0 _) (by omega) ?_; intro A6 c6 w6 h6 own6 s6)
  rw [Nat.zero_add] at own6
  have s7 := (s6.alloc (c := [.int .u32 id, .int .u64 off', .int .u64 0, .int .u32 0, .int .u32 0, .int .u32 0, .slice (some ⟨w6.heap.size + 1, 0, none⟩) 1 1, .int .u32 0, .int .u32 0, .int .u32 0, .slice A6 ds.length c6]) (t := 114)).alloc (c := q0L) (t := 40)
  simp only [World.size_alloc] at s7
  exact k.out _ w6.heap.size (w6.heap.size + 1) _ h6 own6 s7.wk
end
end Go.Proofs.Ytiibiamobkhlbaa

namespace Go.Proofs.Ytiibiamobkhlbaa
open Go.RowKit
set_option linter.unusedVariables false
set_option linter.unusedSimpArgs false

/-- the bytes of a string, n at most -/
def strV (s : ByteArray) (n : Nat) : List Value := (s.data.toList.take n).map fun x => Value.int .u8 (x.toNat : Int)
theorem strV_len (s : ByteArray) (n : Nat) : (strV s n).length = min s.size n := by
  unfold strV; rw [List.length_map, List.length_take, ← Lib.size_eq, Nat.min_comm]
theorem run_copyStr {P : Program} {W0 w : World} {H : Hp} {F : List Hp} (dT sT ty elem : TypeId) (hu : P.underlying dT = some (.slice elem)) (hz : (P.info? elem).map (·.size) = some 1)
    {b o : Nat} {vs : List Value} (s : Sat W0 w H (cellsH ⟨b, o, none⟩ vs :: F)) (off dl dc : Nat) (str : ByteArray) (hfit : off + dl ≤ vs.length) :
    ∃ w', (Builtin.copy_ #[dT, sT] ty #[.slice (some ⟨b, o + off, none⟩) dl dc, .string str]).run P w = .ok (goInt ((min str.size dl : Nat) : Int)) w' ∧ Sat W0 w' H (cellsH ⟨b, o, none⟩ (vs.take off ++ strV str dl ++ vs.drop (off + (strV str dl).length)) :: F) := by
  have hl := strV_len str dl
  obtain ⟨w', hr, hs⟩ := run_store_row P (a := ⟨b, o, none⟩) rfl (strV str dl) off 0 vs w s (by rw [hl]; omega) (by
    intro x hx
    obtain ⟨y, _, rfl⟩ := List.mem_map.1 hx
    rfl)
  refine ⟨w', ?_, by simpa using hs⟩
  cases hq : P.info? elem with
  | none => simp [hq] at hz
  | some i =>
    have hi : i.size = 1 := by simpa [hq] using hz
    have htk : List.take (min str.size dl) (List.map (fun b : UInt8 => Value.int IntKind.u8 (b.toNat : Int)) str.data.toList) = strV str dl := by
      unfold strV
      rw [← List.map_take]
      congr 1
      rw [Lib.size_eq]
      rw [Nat.min_comm, ← List.take_take, List.take_length]
    simp [Builtin.copy_, run_underlying hu, Builtin.lenOf, Builtin.firstCells, sizeOf, typeInfo, hq, hi]
    rw [show str.size.min dl = min str.size dl from rfl, htk]
    rw [show Sem.run P (storeCells { block := b, off := o + off } (strV str dl)) w = _ from hr]
    rfl
theorem wpList_copyStr {P : Program} {ops : Array Oper} {rest : List Oper} {oo : Oper} {a : Act} {Q : Exit → Act → World → Prop} {W0 w : World} {H : Hp} {A F : List Hp} (hgd : oo.guard = none) (d s : Operand) (dT sT elem : TypeId)
    (ho : oo.op = .call { callee := .builtin .copy, args := #[d, s], argTypes := #[dT, sT] }) (hu : P.underlying dT = some (.slice elem)) (hz : (P.info? elem).map (·.size) = some 1)
    {b o : Nat} {vs : List Value} (st : Sat W0 w H A) [fr : FrH (cellsH ⟨b, o, none⟩ vs) A F] (off : Nat) {dl dc : Nat} {str : ByteArray} (hd : a.eval d = .slice (some ⟨b, o + off, none⟩) dl dc) (hx : a.eval s = .string str) (hfit : off + dl ≤ vs.length)
    (k : ∀ w', Sat W0 w' H (cellsH ⟨b, o, none⟩ (vs.take off ++ strV str dl ++ vs.drop (off + (strV str dl).length)) :: F) → wpList P ops Q rest (a.put oo.dst (goInt ((min str.size dl : Nat) : Int))) w') : wpList P ops Q (oo :: rest) a w := by
  obtain ⟨w', hr, hs'⟩ := run_copyStr (P := P) dT sT oo.type elem hu hz (st.pull (h := cellsH ⟨b, o, none⟩ vs)) off dl dc str hfit
  refine wpList_run hgd (v := goInt ((min str.size dl : Nat) : Int)) (w' := w') ?_ (k w' hs')
  unfold execOp
  rw [ho]
  simp only [resolve, invoke]
  simp [builtin, hd, hx, hr]

def offB (l : Bool) : Int := if l then 5100274208 else 5100274176
/-- the device: its registers, its disk, its memory, its name (twenty cells), its log -/
def nameV (str : ByteArray) : List Value := strV str 20 ++ List.replicate (20 - (strV str 20).length) (.int .u8 0)
theorem nameV_len (str : ByteArray) : (nameV str).length = 20 := by
  unfold nameV; rw [List.length_append, List.length_replicate, strV_len]; omega
def blkV (rb : Nat) (db mb : Nat) (nm : List Value) (log : Value) : List Value := .pointer (some ⟨rb, 0, none⟩) :: .pointer (some ⟨db, 0, none⟩) :: .pointer (some ⟨mb, 0, none⟩) :: (nm ++ [log])

theorem blkV_copy {rb db mb : Nat} {str : ByteArray} {log : Value} : List.take 3 (.pointer (some ⟨rb, 0, none⟩) :: .pointer (some ⟨db, 0, none⟩) :: .pointer (some ⟨mb, 0, none⟩) :: (List.replicate 20 (Value.int .u8 0) ++ [log])) ++ strV str 20 ++ List.drop (3 + (strV str 20).length) (.pointer (some ⟨rb, 0, none⟩) :: .pointer (some ⟨db, 0, none⟩) :: .pointer (some ⟨mb, 0, none⟩) :: (List.replicate 20 (Value.int .u8 0) ++ [log])) = blkV rb db mb (nameV str) log := by
  have h := strV_len str 20
  unfold blkV nameV
  generalize strV str 20 = S at *
  rw [show 3 + S.length = S.length + 1 + 1 + 1 by omega]
  simp only [List.drop_succ_cons, List.take_succ_cons, List.take_zero]
  rw [List.drop_append_of_le_length (by simp; omega), List.drop_replicate]
  simp

section
variable {R : Ending → World → Prop} {W0 w : World} {H : Hp} {A F : List Hp}

set_option maxRecDepth 100000 in
set_option maxHeartbeats 4000000 in
theorem c_blkNew (s : Sat W0 w H A) {db : Nat} {d : DiskG} [fr : FrK (κ := Addr) (ρ := fun _ => DiskG) diskL ⟨db, 0, none⟩ A d F] (mb : Nat) (str : ByteArray)
    (k : ∀ w' bb rb qb sv h, OwnS 1 sv 8 ((leb d.count 8).map (Value.int .u8)) h → Sat W0 w' H (cellsH ⟨bb, 0, none⟩ (blkV rb db mb (nameV str) (.slice none 0 0)) :: cellsH ⟨rb, 0, none⟩ [.int .u32 2, .int .u64 (offB d.locked), .int .u64 0, .int .u32 0, .int .u32 0, .int .u32 0, .slice (some ⟨qb, 0, none⟩) 1 1, .int .u32 0, .int .u32 0, .int .u32 0, sv] :: cellsH ⟨qb, 0, none⟩ q0L :: h :: (diskL ⟨db, 0, none⟩ d ++ F)) → R (.returned (.pointer (some ⟨bb, 0, none⟩))) w') :
    Calls Try.prog 23 #[.pointer (some ⟨mb, 0, none⟩), .pointer (some ⟨db, 0, none⟩), .string str] w R := by
  have s1 := s.front (mk := diskL) (k := ⟨db, 0, none⟩)
  have hcn := d.hcount
  have o1 : bits BinOp.or IntKind.u64 805306880 32 = 805306912 := by decide
  have o2 : bits BinOp.or IntKind.u64 805306912 4294967296 = 5100274208 := by decide
  have o3 : bits BinOp.or IntKind.u64 805306880 4294967296 = 5100274176 := by decide
  replace k := aside k
  clear s fr
  go_enter Try.func23, Try.ntmps23
  go_wp2_with fail
  refine c_diskLocked s1 ?_
  obtain ⟨C, hC⟩ : ∃ y, d.count = y := ⟨_, rfl⟩
  rw [hC] at k hcn
  have hcb := aside (show 0 ≤ C ∧ C ≤ 18446744073709551615 by omega)
  replace hC := aside hC
  clear hcn
  cases hlk : d.locked with
  | true =>
    rw [hlk, show offB true = 5100274208 from rfl] at k
    go_wp2_with fail
    refine c_diskCount s1 ?_
    rw [hC.out]
    go_wp2_with fail
    refine c_wordBytes s1 C hcb.out 8 8 rfl (by omega) ?_
    intro w2 v2 h2 own2 s2
    have rd2 := aside (OwnS.rd own2 (leb_bd C 8))
    clear s1
    go_wp2_with fail
    refine c_vmmioNew s2 o2 rd2.out s2.head (by rw [leb_len]; omega) ?_
    intro w3 rb qb sv h3 own3 s3
    rw [leb_len] at own3
    have s4 := s3.alloc (c := [.pointer (some ⟨rb, 0, none⟩), .pointer (some ⟨db, 0, none⟩), .pointer (some ⟨mb, 0, none⟩), .int .u8 0, .int .u8 0, .int .u8 0, .int .u8 0, .int .u8 0, .int .u8 0, .int .u8 0, .int .u8 0, .int .u8 0, .int .u8 0, .int .u8 0, .int .u8 0, .int .u8 0, .int .u8 0, .int .u8 0, .int .u8 0, .int .u8 0, .int .u8 0, .int .u8 0, .int .u8 0, .slice none 0 0]) (t := 111)
    obtain ⟨Z, hZ⟩ : ∃ Z, w3.heap.size = Z := ⟨_, rfl⟩
    rw [hZ] at s4
    have s4' : Sat W0 _ H (cellsH ⟨Z, 0, none⟩ (.pointer (some ⟨rb, 0, none⟩) :: .pointer (some ⟨db, 0, none⟩) :: .pointer (some ⟨mb, 0, none⟩) :: (List.replicate 20 (Value.int .u8 0) ++ [.slice none 0 0])) :: _) := s4
    have hz8 : (Try.prog.info? 5).map (·.size) = some 1 := by kernel_rfl
    clear s2 s3 rd2 s4
    go_wp2_with (refine wpList_copyStr (b := Z) (o := 0) (str := str) (dl := 20) (dc := 20) (vs := .pointer (some ⟨rb, 0, none⟩) :: .pointer (some ⟨db, 0, none⟩) :: .pointer (some ⟨mb, 0, none⟩) :: (List.replicate 20 (Value.int .u8 0) ++ [.slice none 0 0])) rfl (.tmp 25) (.tmp 26) 57 9 5 rfl Try.underlying57 hz8 s4' 3 (by rfl) (by rfl) (by simp) ?_; intro w5 s5)
    rw [blkV_copy] at s5
    exact k.out _ Z rb qb sv h3 own3 s5.wk
  | false =>
    rw [hlk, show offB false = 5100274176 from rfl] at k
    go_wp2_with fail
    refine c_diskCount s1 ?_
    rw [hC.out]
    go_wp2_with fail
    refine c_wordBytes s1 C hcb.out 8 8 rfl (by omega) ?_
    intro w2 v2 h2 own2 s2
    have rd2 := aside (OwnS.rd own2 (leb_bd C 8))
    clear s1
    go_wp2_with fail
    refine c_vmmioNew s2 o3 rd2.out s2.head (by rw [leb_len]; omega) ?_
    intro w3 rb qb sv h3 own3 s3
    rw [leb_len] at own3
    have s4 := s3.alloc (c := [.pointer (some ⟨rb, 0, none⟩), .pointer (some ⟨db, 0, none⟩), .pointer (some ⟨mb, 0, none⟩), .int .u8 0, .int .u8 0, .int .u8 0, .int .u8 0, .int .u8 0, .int .u8 0, .int .u8 0, .int .u8 0, .int .u8 0, .int .u8 0, .int .u8 0, .int .u8 0, .int .u8 0, .int .u8 0, .int .u8 0, .int .u8 0, .int .u8 0, .int .u8 0, .int .u8 0, .int .u8 0, .slice none 0 0]) (t := 111)
    obtain ⟨Z, hZ⟩ : ∃ Z, w3.heap.size = Z := ⟨_, rfl⟩
    rw [hZ] at s4
    have s4' : Sat W0 _ H (cellsH ⟨Z, 0, none⟩ (.pointer (some ⟨rb, 0, none⟩) :: .pointer (some ⟨db, 0, none⟩) :: .pointer (some ⟨mb, 0, none⟩) :: (List.replicate 20 (Value.int .u8 0) ++ [.slice none 0 0])) :: _) := s4
    have hz8 : (Try.prog.info? 5).map (·.size) = some 1 := by kernel_rfl
    clear s2 s3 rd2 s4
    go_wp2_with (refine wpList_copyStr (b := Z) (o := 0) (str := str) (dl := 20) (dc := 20) (vs := .pointer (some ⟨rb, 0, none⟩) :: .pointer (some ⟨db, 0, none⟩) :: .pointer (some ⟨mb, 0, none⟩) :: (List.replicate 20 (Value.int .u8 0) ++ [.slice none 0 0])) rfl (.tmp 25) (.tmp 26) 57 9 5 rfl Try.underlying57 hz8 s4' 3 (by rfl) (by rfl) (by simp) ?_; intro w5 s5)
    rw [blkV_copy] at s5
    exact k.out _ Z rb qb sv h3 own3 s5.wk
end
end Go.Proofs.Ytiibiamobkhlbaa

namespace Go.Proofs.Ytiibiamobkhlbaa
open Go.RowKit
set_option linter.unusedVariables false
set_option linter.unusedSimpArgs false

section
variable {R : Ending → World → Prop} {W0 w : World} {H : Hp} {A F : List Hp}

set_option maxRecDepth 100000 in
set_option maxHeartbeats 4000000 in
theorem c_parse (s : Sat W0 w H A) {hp : Hp} {v : Value} {ds : List Int} (hh : ∀ w', Sat W0 w' H A → Holds w' hp) (rd : Rd u8E 1 hp v ds)
    (kb : ds.length < 16 → ∀ w', Sat W0 w' H A → R (.returned (.tuple #[.agg #[.int .u32 0, .int .u64 0], .bool false])) w')
    (k : 16 ≤ ds.length → ∀ w', Sat W0 w' H A → R (.returned (.tuple #[.agg #[.int .u32 (ofB (ds.take 4)), .int .u64 (ofB ((ds.take 16).drop 8))], .bool true])) w') :
    Calls Try.prog 76 #[v] w R := by
  obtain ⟨B, c, rfl, rd⟩ := rd.open_
  obtain ⟨hn, hcap, hcap2, g⟩ := rd.u8
  clear hn
  have hby := rd.bytes
  have s1 := s.alloc (c := [.int .u32 0, .int .u64 0]) (t := 77)
  obtain ⟨Z, hZ⟩ : ∃ Z, w.heap.size = Z := ⟨_, rfl⟩
  rw [hZ] at s1
  obtain ⟨N, hN⟩ : ∃ N, ds.length = N := ⟨_, rfl⟩
  rw [hN] at hcap rd kb k ⊢
  have hN2 : (N : Int) ≤ 9223372036854775807 := by omega
  by_cases h16 : N < 16
  · have K := aside (kb h16 _ s1.tail1)
    have hi : (N : Int) < 16 := by omega
    clear k kb g rd hby
    have f0 := s1.cel Z 0 0 rfl
    have f1 := s1.cel Z 0 1 rfl
    simp only [Nat.zero_add] at f0 f1
    go_enter Try.func76, Try.ntmps76
    go_wp2
    refine bodyPost_ret (by simp [results, Try.results76, go_sem, f0.1, f1.1]; try rfl) rfl ?_
    exact K.out
  · have hi : ¬ ((N : Int) < 16) := by omega
    replace k := aside (k (by omega))
    obtain ⟨b, o, hBe, hrest⟩ := g 0 (by omega)
    clear hrest
    subst hBe
    have d1 := rd.cut8 0 4 (by omega) (by omega)
    have d2 := rd.cut8 8 16 (by omega) (by omega)
    simp only [Nat.sub_zero, Nat.add_zero, List.drop_zero] at d1 d2
    have hl1 := aside (show (ds.take 4).length ≤ 8 by rw [List.length_take]; omega)
    have hl2 := aside (show ((ds.take 16).drop 8).length ≤ 8 by rw [List.length_drop, List.length_take]; omega)
    have b1 := ofB_bd (l := ds.take 4) (fun x hx => hby x (List.mem_of_mem_take hx))
    have b2 : ∀ x ∈ (ds.take 16).drop 8, 0 ≤ x ∧ x ≤ 255 := fun x hx => hby x (List.mem_of_mem_take (List.mem_of_mem_drop hx))
    rw [show (ds.take 4).length = 4 by rw [List.length_take]; omega] at b1
    obtain ⟨D1, hD1⟩ : ∃ y, ds.take 4 = y := ⟨_, rfl⟩
    obtain ⟨D2, hD2⟩ : ∃ y, (ds.take 16).drop 8 = y := ⟨_, rfl⟩
    rw [hD1] at d1 hl1 b1 k
    rw [hD2] at d2 hl2 k
    obtain ⟨x1, hx1⟩ : ∃ y, ofB D1 = y := ⟨_, rfl⟩
    obtain ⟨x2, hx2⟩ : ∃ y, ofB D2 = y := ⟨_, rfl⟩
    rw [hx1] at b1 k
    rw [hx2] at k
    have e1 : IntKind.u32.wrap x1 = x1 := by rw [wrap_u32]; omega
    have i4 : (4 : Int) ≤ c := by omega
    have i16 : (16 : Int) ≤ c := by omega
    have k4 : 4 ≤ c := by omega
    have k16 : 16 ≤ c := by omega
    have n0 : ¬ c = 0 := by omega
    have n8 : ¬ c = 8 := by omega
    clear kb g rd hby b1 b2 hD1 hD2 h16 hN
    replace hx1 := aside hx1
    replace hx2 := aside hx2
    replace d1 := aside d1
    replace d2 := aside d2
    replace hh := aside hh
    go_enter Try.func76, Try.ntmps76
    go_wp2
    generalize hW : w.alloc (Obj.cells #[.int .u32 0, .int .u64 0] 77) = W at s1 ⊢
    have s7a := s1.s0 (.int .u32 x1)
    have s8 := s7a.s 1 (by simp) (.int .u64 x2)
    have q0 := s1.c0
    have q1 := s7a.c 1 rfl
    simp only [List.set_cons_succ, List.set_cons_zero, Nat.zero_add] at s8 q0 q1
    have hW1 := aside (hh.out _ s1.tail1.drew)
    clear hZ hW
    go_region_held3 (fun w' => True) (trivial)
      (first
        | (go_at_call 130; have hs := z1; refine c_wordOf hW1.out d2.out hl2.out ?_; rw [hx2.out]; have z2 : True := trivial)
        | (go_at_call 130; refine c_wordOf hW1.out d1.out hl1.out ?_; rw [hx1.out]; have z1 : True := trivial))
    all_goals
      have s9 := s8.drew
      have f0 := s9.c0
      have f1 := s9.c 1 rfl
      simp only [Nat.zero_add] at f0 f1
      go_wp2
      refine bodyPost_ret (by simp [results, Try.results76, go_sem, f0.1, f1.1]; try rfl) rfl ?_
      exact k.out _ s9.tail1
end
end Go.Proofs.Ytiibiamobkhlbaa

namespace Go.Proofs.Ytiibiamobkhlbaa
open Go.RowKit
set_option linter.unusedVariables false
set_option linter.unusedSimpArgs false

theorem blkV_c2 {rb db mb : Nat} {nm : List Value} {log : Value} : (blkV rb db mb nm log)[2]? = some (.pointer (some ⟨mb, 0, none⟩)) := rfl
theorem blkV_c23 {rb db mb : Nat} {nm : List Value} {log : Value} (h : nm.length = 20) : (blkV rb db mb nm log)[23]? = some log := by
  unfold blkV
  simp only [List.getElem?_cons_succ]
  rw [List.getElem?_append_right (by omega), h]
  rfl
theorem blkV_set23 {rb db mb : Nat} {nm : List Value} {log log' : Value} (h : nm.length = 20) : (blkV rb db mb nm log).set 23 log' = blkV rb db mb nm log' := by
  unfold blkV
  simp only [List.set_cons_succ]
  rw [List.set_append_right _ _ (by omega), h]
  rfl
theorem blkV_len {rb db mb : Nat} {nm : List Value} {log : Value} (h : nm.length = 20) : (blkV rb db mb nm log).length = 24 := by
  unfold blkV; simp [h]

section
variable {R : Ending → World → Prop} {W0 w : World} {H : Hp} {A F : List Hp}

set_option maxRecDepth 100000 in
set_option maxHeartbeats 4000000 in
theorem c_reqOther (s : Sat W0 w H A) (p : Value) (B : Option Addr) (n c : Nat) (ta tl kd sec r v : Int) (h0 : kd ≠ 0) (h1 : kd ≠ 1) (h4 : kd ≠ 4) (h8 : kd ≠ 8)
    (k : ∀ w', Sat W0 w' H A → R (.returned (.tuple #[.int .u8 2, .int .u32 0])) w') :
    Calls Try.prog 77 #[p, .agg #[.slice B n c, .int .u64 ta, .int .u64 tl], .agg #[.int .u32 kd, .int .u64 sec], .int .u64 r, .int .u64 v] w R := by
  have s1 := (s.alloc (c := [.slice B n c, .int .u64 ta, .int .u64 tl]) (t := 50)).alloc (c := [.int .u32 kd, .int .u64 sec]) (t := 77)
  obtain ⟨Z, hZ⟩ : ∃ Z, w.heap.size = Z := ⟨_, rfl⟩
  simp only [World.size_alloc] at s1
  rw [hZ] at s1
  have b0 : (kd == 0) = false := by simp [h0]
  have b1 : (kd == 1) = false := by simp [h1]
  have b4 : (kd == 4) = false := by simp [h4]
  have b8 : (kd == 8) = false := by simp [h8]
  have y0 := s1.cel Z 0 0 rfl
  have y1 := s1.cel Z 0 1 rfl
  have y2 := s1.cel Z 0 2 rfl
  simp only [Nat.zero_add] at y0 y1 y2
  have z0 := s1.cel (Z+1) 0 0 rfl
  have z1 := s1.cel (Z+1) 0 1 rfl
  simp only [Nat.zero_add] at z0 z1
  replace k := aside k
  clear s h0 h1 h4 h8
  go_enter Try.func77, Try.ntmps77
  go_wp2
  exact k.out _ s1.tail1.tail1
end
end Go.Proofs.Ytiibiamobkhlbaa

namespace Go.Proofs.Ytiibiamobkhlbaa
open Go.RowKit
set_option linter.unusedVariables false
set_option linter.unusedSimpArgs false

theorem info_done : ∃ i, Try.prog.info? 79 = some i ∧ i.zero = some (.agg #[.int .u32 0, .int .u64 0, .int .u8 0, .int .u32 0]) ∧ i.size = 4 ∧ i.bytes = 24 := by
  have h : (Try.prog.info? 79).map (fun i => (i.zero, i.size, i.bytes)) = some (some (.agg #[.int .u32 0, .int .u64 0, .int .u8 0, .int .u32 0]), 4, 24) := by kernel_rfl
  cases hi : Try.prog.info? 79 with
  | none => simp [hi] at h
  | some i => simp [hi] at h; exact ⟨i, rfl, h⟩
theorem row_done {w : World} {a b c d : Int} {t : TypeId} : RowR (w.alloc (.cells #[.int .u32 a, .int .u64 b, .int .u8 c, .int .u32 d] t)) (some ⟨w.heap.size, 0, none⟩) [.int .u32 a, .int .u64 b, .int .u8 c, .int .u32 d] := by
  intro _
  exact ⟨_, _, rfl, fun j u hu => by rw [Nat.zero_add]; simp [hu]⟩

section
variable {R : Ending → World → Prop} {W0 w : World} {H : Hp} {A F : List Hp}

set_option maxRecDepth 100000 in
set_option maxHeartbeats 4000000 in
theorem c_useOther (bb rb db mb : Nat) {nm : List Value} (hnm : nm.length = 20) {r : RamG} {B : Option Addr} {n c : Nat} {hp : Hp} {segs : List SegM} (rd : Rd segE 3 hp (.slice B n c) segs)
    (s : Sat W0 w H (cellsH ⟨bb, 0, none⟩ (blkV rb db mb nm (.slice none 0 0)) :: (ramL ⟨mb, 0, none⟩ (r, none) ++ F))) (hk : ∀ w', Sat W0 w' H F → Holds w' hp) (hb : segs.length ≤ 511 ∧ ∀ x ∈ segs, hasP r.size x.1 x.2.1 ∧ 0 ≤ x.2.1)
    (hr16 : 16 ≤ rsum segs) (hw1 : 1 ≤ wsum segs) {ds : List Int} (hds : gaP 0 16 segs 0 r.mem = ds) (hdl : ds.length = 16) {kd : Int} (hkd : ofB (ds.take 4) = kd) (h0 : kd ≠ 0) (h1 : kd ≠ 1) (h4 : kd ≠ 4) (h8 : kd ≠ 8) (ta tl : Int)
    (k : ∀ w' r' h lv, r'.mem = scP (wsum segs - 1) 1 segs 0 [2] r.mem → r'.size = r.size → Sat W0 w' H (cellsH ⟨bb, 0, none⟩ (blkV rb db mb nm lv) :: h :: (ramL ⟨mb, 0, none⟩ (r', none) ++ F)) → R (.returned (.tuple #[.int .u32 1, .bool true])) w') :
    Calls Try.prog 25 #[.pointer (some ⟨bb, 0, none⟩), .agg #[.slice B n c, .int .u64 ta, .int .u64 tl]] w R := by
  have hrs := r.hsize
  have hB := aside (show segB segs from ⟨hb.1, fun x hx => by have := hb.2 x hx; unfold hasP at this; omega⟩)
  have hrb := rdB_bd r.hmem
  have hsm := hB.out.sums segs.length
  rw [List.take_length] at hsm
  have s1 := s.alloc (c := [.slice B n c, .int .u64 ta, .int .u64 tl]) (t := 50)
  obtain ⟨Z, hZ⟩ : ∃ Z, w.heap.size = Z := ⟨_, rfl⟩
  rw [hZ] at s1
  have y0 := s1.cel Z 0 0 rfl
  have y1 := s1.cel Z 0 1 rfl
  have y2 := s1.cel Z 0 2 rfl
  simp only [Nat.zero_add] at y0 y1 y2
  obtain ⟨RS, hRS⟩ : ∃ y, rsum segs = y := ⟨_, rfl⟩
  obtain ⟨WS, hWS⟩ : ∃ y, wsum segs = y := ⟨_, rfl⟩
  rw [hRS] at hr16 hsm
  rw [hWS] at hw1 hsm k
  have hsm2 : RS ≤ 137170518016 ∧ WS ≤ 137170518016 := ⟨hsm.2.2.2.2.2, hsm.2.2.2.2.1⟩
  have hdb : ∀ x ∈ ds, 0 ≤ x ∧ x ≤ 255 := by rw [← hds]; exact gaP_bd r.hmem
  obtain ⟨hn0, hcap, hcap2, gg⟩ := rd.seg
  clear hn0 gg hsm hrb
  have hkz := aside (show ∀ (G : List Hp) w', Sat W0 w' H (G ++ F) → Holds w' hp from fun G w' t => hk _ (Sat.tail t))
  have hkz1 := aside (show ∀ w', Sat W0 w' H (cellsH ⟨Z, 0, none⟩ [.slice B n c, .int .u64 ta, .int .u64 tl] :: cellsH ⟨bb, 0, none⟩ (blkV rb db mb nm (.slice none 0 0)) :: (ramL ⟨mb, 0, none⟩ (r, none) ++ F)) → Holds w' hp from fun w' t => hkz.out _ w' (Sat.tail1 (Sat.tail1 t)))
  have hkz2 := aside (show ∀ w', Sat W0 w' H (cellsH ⟨Z, 0, none⟩ [.slice B n c, .int .u64 ta, .int .u64 tl] :: cellsH ⟨bb, 0, none⟩ (blkV rb db mb nm (.slice none 0 0)) :: F) → Holds w' hp from fun w' t => hk _ (Sat.tail1 (Sat.tail1 t)))
  have hg1 := aside (show (0 : Int) ≤ rsum segs ∧ (16 : Int) ≤ rsum segs - 0 by omega)
  clear s
  replace hk := aside hk
  replace hRS := aside hRS
  replace hWS := aside hWS
  replace hds := aside hds
  replace hdl := aside hdl
  replace hkd := aside hkd
  replace hdb := aside hdb
  replace hb := aside hb
  replace rd := aside rd
  replace k := aside k
  replace hrs := aside hrs
  obtain ⟨i0, hi, hz, hs1, hb1⟩ := info_done
  go_enter Try.func25, Try.ntmps25
  go_wp2_with fail
  refine c_sizes s1 rd.out hkz1.out hB.out ta tl ?_
  rw [hRS.out, hWS.out]
  intro w2 s2
  have s2d := s2.drew
  have y0 := s2.cel Z 0 0 rfl
  have y1 := s2.cel Z 0 1 rfl
  have y2 := s2.cel Z 0 2 rfl
  simp only [Nat.zero_add] at y0 y1 y2
  have c2 := s2.cel bb 0 2 blkV_c2
  simp only [Nat.zero_add] at c2
  clear s1
  have hrq : ¬ RS < 16 := by omega
  have hwq : ¬ WS < 1 := by omega
  go_wp2
  go_region_held3 (fun w' => w'.cell? ⟨Z, 0, none⟩ = some (.slice B n c) ∧ w'.cell? ⟨Z, 1, none⟩ = some (.int .u64 ta) ∧ w'.cell? ⟨Z, 2, none⟩ = some (.int .u64 tl) ∧ w'.cell? ⟨bb, 2, none⟩ = some (.pointer (some ⟨mb, 0, none⟩))) (first | exact ⟨y0.1, y1.1, y2.1, c2.1⟩ | exact ⟨m0.1, m1.1, m2.1, e2.1⟩)
    (first
      | (go_at_call 75; refine c_gather s2d rd.out hkz2.out hb.out ta tl 0 16 (by omega) (by omega) (fun h => absurd hg1.out h) ?_; intro _ w3 v3 h3 l3 own3 hl3 s3; have m0 := s3.cel Z 0 0 rfl; have m1 := s3.cel Z 0 1 rfl; have m2 := s3.cel Z 0 2 rfl; have e2 := s3.cel bb 0 2 blkV_c2; simp only [Nat.zero_add] at m0 m1 m2 e2))
  all_goals
    obtain rfl : l3 = none := hl3.none rfl
    rw [hds.out] at own3
    have rd3 := aside (own3.rd hdb.out)
    obtain ⟨SC, hSC⟩ : ∃ y, ofB ((ds.take 16).drop 8) = y := ⟨_, rfl⟩
    clear y0 y1 y2 c2 s2 s2d own3 hkz1 hg1
    go_wp2_with fail
    refine c_parse s3 (fun w' t => (Sat.pull (h := h3) t).head) rd3.out (fun h => absurd h (by have := hdl.out; omega)) ?_
    intro _ w4 s4
    rw [hkd.out, hSC]
    clear hSC
    have s5 := s4.alloc (c := [.int .u32 kd, .int .u64 SC]) (t := 77)
    obtain ⟨V, hV⟩ : ∃ V, w4.heap.size = V := ⟨_, rfl⟩
    rw [hV] at s5
    have y0 := s5.cel Z 0 0 rfl
    have y1 := s5.cel Z 0 1 rfl
    have y2 := s5.cel Z 0 2 rfl
    simp only [Nat.zero_add] at y0 y1 y2
    have z0 := s5.cel V 0 0 rfl
    have z1 := s5.cel V 0 1 rfl
    simp only [Nat.zero_add] at z0 z1
    have e16 : IntKind.u64.wrap (RS - 16) = RS - 16 := by rw [wrap_u64]; omega
    have e1 : IntKind.u64.wrap (WS - 1) = WS - 1 := by rw [wrap_u64]; omega
    clear s3 s4 m0 m1 m2 e2
    go_wp2_with fail
    refine c_reqOther s5 _ B n c ta tl kd SC _ _ h0 h1 h4 h8 ?_
    intro w6 s6
    clear s5 y0 y1 y2 z0 z1
    have s6d := s6.drew
    have s7 := (s6.alloc (c := [.int .u8 2]) (t := 5)).drew
    obtain ⟨Y, hY⟩ : ∃ Y, w6.heap.size = Y := ⟨_, rfl⟩
    rw [hY] at s7
    have p0 := s6d.cel Z 0 0 rfl
    have p1 := s6d.cel Z 0 1 rfl
    have p2 := s6d.cel Z 0 2 rfl
    have p3 := s6d.cel bb 0 2 blkV_c2
    have q0 := s7.cel Z 0 0 rfl
    have q1 := s7.cel Z 0 1 rfl
    have q2 := s7.cel Z 0 2 rfl
    have q3 := s7.cel bb 0 2 blkV_c2
    simp only [Nat.zero_add] at p0 p1 p2 p3 q0 q1 q2 q3
    have rdd : Rd u8E 1 (cellsH ⟨Y, 0, none⟩ [.int .u8 2]) (.slice (some ⟨Y, 0, none⟩) 1 1) [2] := Rd.ofCells (xs := [2]) [] (by simp) (by simp) (by omega)
    have hg2 := aside (show WS - 1 ≤ wsum segs ∧ ((([2] : List Int).length : Nat) : Int) ≤ wsum segs - (WS - 1) by rw [hWS.out]; simp; omega)
    replace rdd := aside rdd
    go_wp2
    go_region_held3 (fun w' => w'.cell? ⟨Z, 0, none⟩ = some (.slice B n c) ∧ w'.cell? ⟨Z, 1, none⟩ = some (.int .u64 ta) ∧ w'.cell? ⟨Z, 2, none⟩ = some (.int .u64 tl) ∧ w'.cell? ⟨bb, 2, none⟩ = some (.pointer (some ⟨mb, 0, none⟩))) (first | exact ⟨p0.1, p1.1, p2.1, p3.1⟩ | exact ⟨q0.1, q1.1, q2.1, q3.1⟩ | exact ⟨m0.1, m1.1, m2.1, m3.1⟩)
      (first
        | (go_at_call 78; refine c_scatter s7 rd.out rdd.out (fun w' t => ⟨hk.out _ (Sat.wk t), t.head⟩) hb.out ta tl (WS - 1) (by omega) (fun h => absurd hg2.out h) ?_; intro _ w8 r8 l8 hm8 hz8 hl8 s8; have m0 := s8.cel Z 0 0 rfl; have m1 := s8.cel Z 0 1 rfl; have m2 := s8.cel Z 0 2 rfl; have m3 := s8.cel bb 0 2 blkV_c2; simp only [Nat.zero_add] at m0 m1 m2 m3))
    all_goals
      obtain rfl : l8 = none := hl8.none rfl
      replace hm8 : Aside (r8.mem = scP (WS - 1) 1 segs 0 [2] r.mem) := aside hm8
      replace hz8 := aside hz8
      clear s6 s6d s7 p0 p1 p2 p3 q0 q1 q2 q3 m0 m1 m2 m3 rdd hg2
      have b23 := s8.cel bb 0 23 (blkV_c23 hnm)
      have f0 := s8.cel V 0 0 rfl
      have f1 := s8.cel V 0 1 rfl
      simp only [Nat.zero_add] at b23 f0 f1
      have ew1 : IntKind.u32.wrap 1 = 1 := by decide
      have t0 := s8.alloc (c := [.int .u32 kd, .int .u64 SC, .int .u8 2, .int .u32 1]) (t := 79)
      have u23 := t0.cel bb 0 23 (blkV_c23 hnm)
      have u0 := t0.cel V 0 0 rfl
      have u1 := t0.cel V 0 1 rfl
      simp only [Nat.zero_add] at u23 u0 u1
      go_wp2
      go_region_law ((refine step_append rfl (.tmp 70) (.tmp 76) 73 73 79 rfl i0 (.agg #[.int .u32 0, .int .u64 0, .int .u8 0, .int .u32 0]) 4 24 Try.underlying73 Try.underlying73 hi hz hs1 hb1 rfl (by decide) rfl (OwnS.nil 4) (s8.drew.alloc).emp rfl (us := [.int .u32 kd, .int .u64 SC, .int .u8 2, .int .u32 1]) rfl row_done (by simp [Value.oneCell']) (by omega) (by omega) ?_; intro A2 cap2 w9 h9 ho hs; have e23 := hs.cel bb 0 23 (blkV_c23 hnm); rw [Nat.zero_add] at e23))
      all_goals
        try simp only [Act.put, List.getElem_toArray, List.getElem_cons_succ, List.getElem_cons_zero, List.setIfInBounds_toArray, List.set_cons_succ, List.set_cons_zero]
        have s9 := (hs.pc bb 0).s 23 (by rw [blkV_len hnm]; omega) (.slice A2 (0 + 1) cap2)
        rw [blkV_set23 hnm] at s9
        go_wp2
        exact k.out _ r8 h9 (.slice A2 (0 + 1) cap2) hm8.out hz8.out s9.wk
end
end Go.Proofs.Ytiibiamobkhlbaa

namespace Go.Proofs.Ytiibiamobkhlbaa
open Go.RowKit
set_option linter.unusedVariables false
set_option linter.unusedSimpArgs false

def bkM : Int → Int := putB (fun _ => 0) 2147483648 [99]
def bkS : List SegM := [(2147483648, 16, false), (2147483904, 1, true)]
theorem bk_ga : gaP 0 16 bkS 0 bkM = rdB bkM 2147483648 16 := by decide
theorem bk_99 : ofB ((rdB bkM 2147483648 16).take 4) = 99 := by decide
theorem bk_end : ofB (rdB (scP (wsum bkS - 1) 1 bkS 0 [2] bkM) 2147483904 1) = 2 := by decide
theorem bk_sums : rsum bkS = 16 ∧ wsum bkS = 1 := by decide

section
variable {R : Ending → World → Prop} {W0 w : World} {H : Hp} {A : List Hp}

set_option maxRecDepth 100000 in
set_option maxHeartbeats 4000000 in
theorem c_blkAwake (s : Sat W0 w H A) (k : ∀ w', Sat W0 w' H A → R (.returned (.bool true)) w') :
    Calls Try.prog 20 #[] w R := by
  replace k := aside k
  go_enter Try.func20, Try.ntmps20
  go_wp2_with fail
  refine c_ramNew2 s _ (by omega) ?_
  intro w1 b r hz hm s1
  replace hz := aside hz
  replace hm := aside hm
  go_wp2_with fail
  refine c_diskNew s1 1 false (by omega) ?_
  intro w2 db mb s2
  clear s1
  go_wp2_with fail
  refine c_blkNew s2 b _ ?_
  intro w3 bb rb qb sv h3 own3 s3
  clear s2
  have x0 := s3.cel bb 0 0 rfl
  simp only [Nat.zero_add] at x0
  have hb1 := aside (show sizedP 1 ∧ r.has 2147483648 1 from ⟨by unfold sizedP; omega, by unfold RamG.has; rw [hz.out]; omega⟩)
  go_wp2_with fail
  refine c_ramStore s3 2147483648 1 99 (by omega) (by omega) (by omega) (fun h => absurd hb1.out h) ?_
  intro _ w5 r5 l5 hm5 hz5 hl5 s5
  have hm5' : r5.mem = bkM := by rw [hm5, show r.mem = fun _ => 0 from hm.out]; rfl
  have hz5' : r5.size = 4096 := hz5.trans hz.out
  have hl5' : l5 = none := by
    cases l5 with
    | none => rfl
    | some x => simp [lgs, addW] at hl5
  subst hl5'
  replace hm5' := aside hm5'
  replace hz5' := aside hz5'
  clear s3 hm5 hz5 hl5 x0
  have s6 := s5.alloc (c := [.int .u64 2147483648, .int .u64 16, .bool false, .int .u64 2147483904, .int .u64 1, .bool true]) (t := 81)
  obtain ⟨Y, hY⟩ : ∃ Y, w5.heap.size = Y := ⟨_, rfl⟩
  rw [hY] at s6
  have own : OwnS 3 (.slice (some ⟨Y, 0, none⟩) 2 2) bkS.length (encG bkS) (cellsH ⟨Y, 0, none⟩ [.int .u64 2147483648, .int .u64 16, .bool false, .int .u64 2147483904, .int .u64 1, .bool true]) := OwnS.made (n := 2) (c := 2) (vs := encG bkS) [] (by omega) (by omega) rfl rfl
  have rd := aside own.rdG
  have s7 : Sat W0 _ H (cellsH ⟨bb, 0, none⟩ (blkV rb db b (nameV { data := #[120] }) (.slice none 0 0)) :: (ramL ⟨b, 0, none⟩ (r5, none) ++ (cellsH ⟨Y, 0, none⟩ [.int .u64 2147483648, .int .u64 16, .bool false, .int .u64 2147483904, .int .u64 1, .bool true] :: A))) := s6.wk
  have hbs : bkS.length ≤ 511 ∧ ∀ x ∈ bkS, hasP r5.size x.1 x.2.1 ∧ 0 ≤ x.2.1 := by
    rw [hz5'.out]
    refine ⟨by decide, fun x hx => ?_⟩
    simp only [bkS, List.mem_cons, List.not_mem_nil, or_false] at hx
    rcases hx with rfl | rfl <;> (unfold hasP; simp)
  replace hbs := aside hbs
  clear s5 s6 own
  go_wp2_with fail
  refine c_useOther bb rb db b (nameV_len _) rd.out s7 (fun w' t => t.head) hbs.out (by rw [bk_sums.1]; omega) (by rw [bk_sums.2]; omega) (ds := rdB bkM 2147483648 16) (by rw [hm5'.out]; exact bk_ga) (rdB_len _ _ _) bk_99 (by omega) (by omega) (by omega) (by omega) 0 0 ?_
  intro w8 r8 h8 lv hm8 hz8 s8
  have hm8' := aside (show ofB (rdB r8.mem 2147483904 (1 : Int).toNat) = 2 by rw [hm8, hm5'.out]; exact bk_end)
  have hb8 := aside (show sizedP 1 ∧ r8.has 2147483904 1 from ⟨by unfold sizedP; omega, by unfold RamG.has; rw [hz8, hz5'.out]; omega⟩)
  clear s7 hm8 hz8
  go_wp2_with fail
  refine c_ramLoad s8 2147483904 1 (by omega) (by omega) (fun h => absurd hb8.out h) (fun _ => ?_)
  rw [hm8'.out]
  go_wp2
  exact k.out _ s8.wk
end
end Go.Proofs.Ytiibiamobkhlbaa

namespace Go.Proofs.Ytiibiamobkhlbaa
open Go.RowKit
set_option linter.unusedVariables false

structure StartM where
  Locked : Bool
  Data : List Int
  Fault : Int
  Name : ByteArray
  hFault : 0 ≤ Fault ∧ Fault ≤ 18446744073709551615
  hName : Name.size ≤ 9223372036854775807
def StartM.vals (o : StartM) (DataV : Value): List Value := [.bool o.Locked, DataV, .int .u64 o.Fault, .string o.Name]
def startE : El StartM := fun h o vs => ∃ DataV, vs = o.vals DataV ∧ Rd u8E 1 h DataV o.Data
theorem opn_start : Opn Try.prog 59 startE :=
  opn_struct Try.underlying59 fun H enc w fuel cs hlen hf => by
    obtain ⟨y0, h0⟩ := hf 0 _ rfl
    obtain ⟨y1, h1⟩ := hf 1 _ rfl
    obtain ⟨y2, h2⟩ := hf 2 _ rfl
    obtain ⟨y3, h3⟩ := hf 3 _ rfl
    obtain ⟨x0, g0⟩ := opn_bool Try.underlying4 H enc w fuel _ y0.1 y0.2 h0
    obtain ⟨x1, v1, g1, r1⟩ := opn_slice (size := 1) Try.underlying57 (by kernel_rfl) (by decide) (opn_u8 Try.underlying5) H enc w fuel _ y1.1 y1.2 h1
    obtain ⟨x2, g2, b2⟩ := opn_u64 Try.underlying23 H enc w fuel _ y2.1 y2.2 h2
    obtain ⟨x3, g3, b3⟩ := opn_string Try.underlying9 H enc w fuel _ y3.1 y3.2 h3
    have e : Try.prog.cellsOf 59 = 4 := by kernel_rfl
    have e0 : Try.prog.cellsOf 4 = 1 := by kernel_rfl
    have e1 : Try.prog.cellsOf 57 = 1 := by kernel_rfl
    have e2 : Try.prog.cellsOf 23 = 1 := by kernel_rfl
    have e3 : Try.prog.cellsOf 9 = 1 := by kernel_rfl
    rw [e] at hlen
    rw [e0] at g0
    rw [e1] at g1
    rw [e2] at g2
    rw [e3] at g3
    obtain ⟨c0, c1, c2, c3, rfl⟩ := len4 hlen
    obtain rfl : c0 = .bool x0 := (List.cons.inj g0).1
    obtain rfl : c1 = v1 := (List.cons.inj g1).1
    obtain rfl : c2 = .int .u64 x2 := (List.cons.inj g2).1
    obtain rfl : c3 = .string x3 := (List.cons.inj g3).1
    exact ⟨⟨x0, x1, x2, x3, b2, b3⟩, _, rfl, r1⟩
structure PieceM where
  At : Int
  Len : Int
  Write : Bool
  hAt : 0 ≤ At ∧ At ≤ 18446744073709551615
  hLen : 0 ≤ Len ∧ Len ≤ 18446744073709551615
def PieceM.vals (o : PieceM) : List Value := [.int .u64 o.At, .int .u64 o.Len, .bool o.Write]
def pieceE : El PieceM := fun _ o vs => vs = o.vals
theorem opn_piece : Opn Try.prog 156 pieceE :=
  opn_struct Try.underlying156 fun H enc w fuel cs hlen hf => by
    obtain ⟨y0, h0⟩ := hf 0 _ rfl
    obtain ⟨y1, h1⟩ := hf 1 _ rfl
    obtain ⟨y2, h2⟩ := hf 2 _ rfl
    obtain ⟨x0, g0, b0⟩ := opn_u64 Try.underlying23 H enc w fuel _ y0.1 y0.2 h0
    obtain ⟨x1, g1, b1⟩ := opn_u64 Try.underlying23 H enc w fuel _ y1.1 y1.2 h1
    obtain ⟨x2, g2⟩ := opn_bool Try.underlying4 H enc w fuel _ y2.1 y2.2 h2
    have e : Try.prog.cellsOf 156 = 3 := by kernel_rfl
    have e0 : Try.prog.cellsOf 23 = 1 := by kernel_rfl
    have e1 : Try.prog.cellsOf 4 = 1 := by kernel_rfl
    rw [e] at hlen
    rw [e0] at g0
    rw [e0] at g1
    rw [e1] at g2
    obtain ⟨c0, c1, c2, rfl⟩ := len3 hlen
    obtain rfl : c0 = .int .u64 x0 := (List.cons.inj g0).1
    obtain rfl : c1 = .int .u64 x1 := (List.cons.inj g1).1
    obtain rfl : c2 = .bool x2 := (List.cons.inj g2).1
    exact ⟨⟨x0, x1, x2, b0, b1⟩, rfl⟩
end Go.Proofs.Ytiibiamobkhlbaa

namespace Go.Proofs.Ytiibiamobkhlbaa
open Go.RowKit
set_option linter.unusedVariables false
set_option linter.unusedSimpArgs false

theorem ordP.tail {x : SegM} {l : List SegM} (h : ordP (x :: l)) : ordP l := fun i y z hy hz => h (i + 1) y z (by simpa using hy) (by simpa using hz)
theorem ordP.zero : ∀ {l : List SegM} {x : SegM}, ordP (x :: l) → x.2.2 = true → rsum (x :: l) = 0
  | [], x, h, hx => by simp [rsum, hx]
  | y :: l, x, h, hx => by
    have hy : y.2.2 = true := by
      cases hw : y.2.2 with
      | true => rfl
      | false => exact absurd ⟨hx, hw⟩ (h 0 x y rfl rfl)
    rw [rsum, if_pos hx, ordP.zero h.tail hy]
    rfl
theorem gaP_len {frm n : Int} {m : Int → Int} (hf : 0 ≤ frm) (hn : 0 ≤ n) : ∀ {l : List SegM} {beg : Int}, ordP l → (∀ x ∈ l, 0 ≤ x.2.1) → ((gaP frm n l beg m).length : Int) = dnP frm n (beg + rsum l) - dnP frm n beg
  | [], beg, h, hl => by simp [gaP, rsum]
  | x :: l, beg, h, hl => by
    rw [gaP]
    by_cases hx : x.2.2 = true
    · rw [if_pos hx, ordP.zero h hx]; simp
    · rw [if_neg hx, rsum, if_neg hx, List.length_append, rdB_len]
      have h1 := gaP_len (frm := frm) (n := n) (m := m) hf hn (l := l) (beg := beg + x.2.1) h.tail fun y hy => hl y (List.mem_cons_of_mem _ hy)
      have h2 := dnP_step (x := x) (beg := beg) hf hn (hl x (List.mem_cons_self ..))
      rw [← Int.add_assoc]
      omega
theorem gaP_full {frm n : Int} {m : Int → Int} {l : List SegM} (hf : 0 ≤ frm) (hn : 0 ≤ n) (ho : ordP l) (hl : ∀ x ∈ l, 0 ≤ x.2.1) (h : frm ≤ rsum l ∧ n ≤ rsum l - frm) : ((gaP frm n l 0 m).length : Int) = n := by
  rw [gaP_len hf hn ho hl]
  unfold dnP
  omega

section
variable {R : Ending → World → Prop} {W0 w : World} {H : Hp} {A F : List Hp}
def sizedN (n : Int) : Prop := 0 < n ∧ n ≤ 33554432
instance (n : Int) : Decidable (sizedN n) := by unfold sizedN; infer_instance
set_option maxRecDepth 100000 in
set_option maxHeartbeats 4000000 in
theorem c_sized (n : Int) (k : R (.returned (.bool (decide (sizedN n)))) w) : Calls Try.prog 160 #[.int .u64 n] w R := by
  by_cases h1 : 0 < n
  · by_cases h2 : n ≤ 33554432
    · rw [decide_eq_true (show sizedN n from ⟨h1, h2⟩)] at k
      replace k := aside k
      go_enter Try.func160, Try.ntmps160
      go_wp2
      exact k.out
    · rw [decide_eq_false (show ¬ sizedN n from fun h => h2 h.2)] at k
      replace k := aside k
      go_enter Try.func160, Try.ntmps160
      go_wp2
      exact k.out
  · rw [decide_eq_false (show ¬ sizedN n from fun h => h1 h.1)] at k
    replace k := aside k
    go_enter Try.func160, Try.ntmps160
    go_wp2
    exact k.out
end
end Go.Proofs.Ytiibiamobkhlbaa

namespace Go.Proofs.Ytiibiamobkhlbaa
open Go.RowKit
set_option linter.unusedVariables false
set_option linter.unusedSimpArgs false

theorem blkV_c1 {rb db mb : Nat} {nm : List Value} {log : Value} : (blkV rb db mb nm log)[1]? = some (.pointer (some ⟨db, 0, none⟩)) := rfl

section
variable {R : Ending → World → Prop} {W0 w : World} {H : Hp} {A F : List Hp}

set_option maxRecDepth 100000 in
set_option maxHeartbeats 4000000 in
theorem c_blkOut (bb rb db mb : Nat) {nm : List Value} {lv : Value} {r : RamG} {l : Option LogG} {d : DiskG} {B : Option Addr} {n c : Nat} {hp : Hp} {segs : List SegM} (rd : Rd segE 3 hp (.slice B n c) segs)
    (s : Sat W0 w H (cellsH ⟨bb, 0, none⟩ (blkV rb db mb nm lv) :: (ramL ⟨mb, 0, none⟩ (r, l) ++ (diskL ⟨db, 0, none⟩ d ++ F)))) (hk : ∀ w', Sat W0 w' H F → Holds w' hp) (hb : segs.length ≤ 511 ∧ ∀ x ∈ segs, hasP r.size x.1 x.2.1 ∧ 0 ≤ x.2.1) (hord : ordP segs)
    (ta tl sec rr ww : Int) (hs : 0 ≤ sec ∧ sec ≤ 18446744073709551615) (hr : 0 ≤ rr ∧ rr ≤ 18446744073709551615) (hr2 : rr = rsum segs - 16)
    (kb : ¬ (ww = 0 ∧ sizedN rr) → ∀ w', Sat W0 w' H (cellsH ⟨bb, 0, none⟩ (blkV rb db mb nm lv) :: (ramL ⟨mb, 0, none⟩ (r, l) ++ (diskL ⟨db, 0, none⟩ d ++ F))) → R (.returned (.int .u8 1)) w')
    (ke : ww = 0 ∧ sizedN rr → wrC d sec rr ≠ 0 → ∀ w' H' l', (∀ l c, H l = some c → H' l = some c) → LogQ (inSeg false segs) noP (lgs l) (lgs l') → Sat W0 w' H' (cellsH ⟨bb, 0, none⟩ (blkV rb db mb nm lv) :: (ramL ⟨mb, 0, none⟩ (r, l') ++ (diskL ⟨db, 0, none⟩ d.asked ++ F))) → R (.returned (.int .u8 1)) w')
    (k : ww = 0 ∧ sizedN rr → wrC d sec rr = 0 → ∀ w' H' d' l', (∀ l c, H l = some c → H' l = some c) → LogQ (inSeg false segs) noP (lgs l) (lgs l') → DiskG.Like d.asked d' → d'.mem = putB d.mem (512 * sec) (gaP 16 rr segs 0 r.mem) → Sat W0 w' H' (cellsH ⟨bb, 0, none⟩ (blkV rb db mb nm lv) :: (ramL ⟨mb, 0, none⟩ (r, l') ++ (diskL ⟨db, 0, none⟩ d' ++ F))) → R (.returned (.int .u8 0)) w') :
    Calls Try.prog 132 #[.pointer (some ⟨bb, 0, none⟩), .agg #[.slice B n c, .int .u64 ta, .int .u64 tl], .int .u64 sec, .int .u64 rr, .int .u64 ww] w R := by
  have s1 := s.alloc (c := [.slice B n c, .int .u64 ta, .int .u64 tl]) (t := 50)
  obtain ⟨Z, hZ⟩ : ∃ Z, w.heap.size = Z := ⟨_, rfl⟩
  rw [hZ] at s1
  have y0 := s1.cel Z 0 0 rfl
  have y1 := s1.cel Z 0 1 rfl
  have y2 := s1.cel Z 0 2 rfl
  simp only [Nat.zero_add] at y0 y1 y2
  have hgl := gaP_full (frm := 16) (n := rr) (m := r.mem) (l := segs) (by omega) hr.1 hord (fun x hx => (hb.2 x hx).2)
  have hgb := gaP_bd (frm := 16) (n := rr) r.hmem (l := segs) (beg := 0)
  have hcond : 16 ≤ rsum segs ∧ rr ≤ rsum segs - 16 := by omega
  replace hgl := hgl hcond
  obtain ⟨ds, hds⟩ : ∃ y, gaP 16 rr segs 0 r.mem = y := ⟨_, rfl⟩
  rw [hds] at hgl hgb k
  have hkz := aside (show ∀ (G : List Hp) w', Sat W0 w' H (G ++ F) → Holds w' hp from fun G w' t => hk _ (Sat.tail t))
  have hkz2 := aside (show ∀ w', Sat W0 w' H (cellsH ⟨Z, 0, none⟩ [.slice B n c, .int .u64 ta, .int .u64 tl] :: cellsH ⟨bb, 0, none⟩ (blkV rb db mb nm lv) :: (diskL ⟨db, 0, none⟩ d ++ F)) → Holds w' hp from fun w' t => hkz.out _ w' (Sat.tail1 (Sat.tail1 t)))
  clear s hr2
  replace hds := aside hds
  replace hgl := aside hgl
  replace hgb := aside hgb
  replace hb := aside hb
  replace rd := aside rd
  replace hk := aside hk
  replace hord := aside hord
  replace kb := aside kb
  replace ke := aside ke
  replace k := aside k
  replace hcond := aside hcond
  by_cases h0 : ww = 0
  · subst h0
    by_cases hz : sizedN rr
    · have hdz := decide_eq_true hz
      replace k := aside (k.out ⟨rfl, hz⟩)
      replace ke := aside (ke.out ⟨rfl, hz⟩)
      replace hz := aside hz
      clear kb
      have s1d := s1.drew
      have c2 := s1.cel bb 0 2 blkV_c2
      simp only [Nat.zero_add] at c2
      go_enter Try.func132, Try.ntmps132
      go_wp2_with fail
      refine c_sized rr ?_
      rw [hdz]
      go_wp2
      go_region_held3 (fun w' => w'.cell? ⟨Z, 0, none⟩ = some (.slice B n c) ∧ w'.cell? ⟨Z, 1, none⟩ = some (.int .u64 ta) ∧ w'.cell? ⟨Z, 2, none⟩ = some (.int .u64 tl) ∧ w'.cell? ⟨bb, 2, none⟩ = some (.pointer (some ⟨mb, 0, none⟩))) (first | exact ⟨y0.1, y1.1, y2.1, c2.1⟩ | exact ⟨m0.1, m1.1, m2.1, e2.1⟩)
        (first
          | (go_at_call 75; refine c_gather s1d rd.out hkz2.out hb.out ta tl 16 rr (by omega) hr (fun h => absurd hcond.out h) ?_; intro _ w3 v3 h3 l3 own3 hl3 s3; have m0 := s3.cel Z 0 0 rfl; have m1 := s3.cel Z 0 1 rfl; have m2 := s3.cel Z 0 2 rfl; have e2 := s3.cel bb 0 2 blkV_c2; simp only [Nat.zero_add] at m0 m1 m2 e2))
      all_goals
        replace hl3 := aside hl3
        rw [hds.out] at own3
        have s4 := s3.freeze
        have rd4 := (own3.rd hgb.out).mono u8E_mono (Sat.frozenD s3)
        have le4 := un_leftD (H := H) (h := h3)
        obtain ⟨H4, hH4⟩ : ∃ H4, un H h3 = H4 := ⟨_, rfl⟩
        rw [hH4] at s4 rd4 le4
        have e1 := s4.cel bb 0 1 blkV_c1
        simp only [Nat.zero_add] at e1
        replace rd4 := aside rd4
        replace le4 := aside le4
        clear s3 s1 s1d y0 y1 y2 c2 m0 m1 m2 e2 hH4 own3 hkz2 hkz
        by_cases hw : wrC d sec rr = 0
        · have hp : d.fault ≠ 1 ∧ d.locked = false ∧ pieceC d.count sec rr = 0 := by
            unfold wrC at hw
            by_cases q1 : d.fault = 1
            · rw [if_pos q1] at hw; exact absurd hw (by decide)
            · rw [if_neg q1] at hw
              by_cases q2 : d.locked = true
              · rw [if_pos q2] at hw; exact absurd hw (by decide)
              · rw [if_neg q2] at hw
                exact ⟨q1, by simpa using q2, hw⟩
          replace k := aside (k.out hw)
          replace hp := aside hp
          clear ke hw
          go_wp2_with fail
          refine c_diskWriteOk s4 sec hs rd4.out hp.out.1 hp.out.2.1 (by rw [hgl.out]; exact hp.out.2.2) ?_
          intro w6 d6 hl6 hm6 s6
          go_wp2
          exact k.out _ H4 d6 l3 le4.out hl3.out hl6 hm6 s6.wk
        · replace ke := aside (ke.out hw)
          have hw2 : ¬ (wrC d sec ds.length = 0) := by rw [hgl.out]; exact hw
          obtain ⟨E, hE⟩ : ∃ E, wrC d sec ds.length = E := ⟨_, rfl⟩
          have hw3 := aside hw2
          rw [hE] at hw2
          have hne : (E != 0) = true := by simp [hw2]
          replace hE := aside hE
          clear k hw hw2
          go_wp2_with fail
          refine c_diskWriteBad s4 sec hs rd4.out hw3.out ?_
          rw [hE.out]
          intro w6 s6
          go_wp2
          exact ke.out _ H4 l3 le4.out hl3.out s6.wk
    · have hdz := decide_eq_false hz
      replace kb := aside (kb.out (fun h => hz h.2))
      clear hz k ke
      go_enter Try.func132, Try.ntmps132
      go_wp2_with fail
      refine c_sized rr ?_
      rw [hdz]
      go_wp2
      exact kb.out _ s1.tail1
  · have hne : (ww != 0) = true := by simp [h0]
    replace kb := aside (kb.out (fun h => h0 h.1))
    clear h0 k ke
    go_enter Try.func132, Try.ntmps132
    go_wp2
    exact kb.out _ s1.tail1
end
end Go.Proofs.Ytiibiamobkhlbaa

namespace Go.Proofs.Ytiibiamobkhlbaa
open Go.RowKit
set_option linter.unusedVariables false
set_option linter.unusedSimpArgs false

section
variable {R : Ending → World → Prop} {W0 w : World} {H : Hp} {A F : List Hp}

set_option maxRecDepth 100000 in
set_option maxHeartbeats 4000000 in
theorem c_blkIn (bb rb db mb : Nat) {nm : List Value} {lv : Value} {r : RamG} {l : Option LogG} {d : DiskG} {B : Option Addr} {n c : Nat} {hp : Hp} {segs : List SegM} (rd : Rd segE 3 hp (.slice B n c) segs)
    (s : Sat W0 w H (cellsH ⟨bb, 0, none⟩ (blkV rb db mb nm lv) :: (ramL ⟨mb, 0, none⟩ (r, l) ++ (diskL ⟨db, 0, none⟩ d ++ F)))) (hk : ∀ w', Sat W0 w' H F → Holds w' hp) (hb : segs.length ≤ 511 ∧ ∀ x ∈ segs, hasP r.size x.1 x.2.1 ∧ 0 ≤ x.2.1)
    (ta tl sec rr ww : Int) (hs : 0 ≤ sec ∧ sec ≤ 18446744073709551615) (hr : 0 ≤ ww ∧ ww ≤ 18446744073709551615) (hr2 : ww ≤ wsum segs)
    (kb : ¬ (rr = 0 ∧ sizedN ww) → ∀ w', Sat W0 w' H (cellsH ⟨bb, 0, none⟩ (blkV rb db mb nm lv) :: (ramL ⟨mb, 0, none⟩ (r, l) ++ (diskL ⟨db, 0, none⟩ d ++ F))) → R (.returned (.tuple #[.int .u8 1, .int .u32 0])) w')
    (ke : rr = 0 ∧ sizedN ww → (d.fault = 1 ∨ pieceC d.count sec ww ≠ 0) → ∀ w', Sat W0 w' H (cellsH ⟨bb, 0, none⟩ (blkV rb db mb nm lv) :: (ramL ⟨mb, 0, none⟩ (r, l) ++ (diskL ⟨db, 0, none⟩ d.asked ++ F))) → R (.returned (.tuple #[.int .u8 1, .int .u32 0])) w')
    (k : rr = 0 ∧ sizedN ww → d.fault ≠ 1 → pieceC d.count sec ww = 0 → ∀ w' r' l', r'.mem = scP 0 ww segs 0 (rdB d.mem (512 * sec) ww.toNat) r.mem → r'.size = r.size → LogQ noP (inSeg true segs) (lgs l) (lgs l') → Sat W0 w' H (cellsH ⟨bb, 0, none⟩ (blkV rb db mb nm lv) :: (ramL ⟨mb, 0, none⟩ (r', l') ++ (diskL ⟨db, 0, none⟩ d.asked ++ F))) → R (.returned (.tuple #[.int .u8 0, .int .u32 ww])) w') :
    Calls Try.prog 131 #[.pointer (some ⟨bb, 0, none⟩), .agg #[.slice B n c, .int .u64 ta, .int .u64 tl], .int .u64 sec, .int .u64 rr, .int .u64 ww] w R := by
  have s1 := s.alloc (c := [.slice B n c, .int .u64 ta, .int .u64 tl]) (t := 50)
  obtain ⟨Z, hZ⟩ : ∃ Z, w.heap.size = Z := ⟨_, rfl⟩
  rw [hZ] at s1
  have hrb := rdB_bd d.hmem (512 * sec) ww.toNat
  have hrl := rdB_len d.mem (512 * sec) ww.toNat
  obtain ⟨ds, hds⟩ : ∃ y, rdB d.mem (512 * sec) ww.toNat = y := ⟨_, rfl⟩
  rw [hds] at hrb hrl k
  have hcond := aside (show (0 : Int) ≤ wsum segs ∧ ((ds.length : Nat) : Int) ≤ wsum segs - 0 by omega)
  have hdl := aside (show ((ds.length : Nat) : Int) = ww by omega)
  clear s hr2 hrl
  replace hds := aside hds
  replace hrb := aside hrb
  replace hb := aside hb
  replace rd := aside rd
  replace hk := aside hk
  replace kb := aside kb
  replace ke := aside ke
  replace k := aside k
  by_cases h0 : rr = 0
  · subst h0
    by_cases hz : sizedN ww
    · have hdz := decide_eq_true hz
      replace k := aside (k.out ⟨rfl, hz⟩)
      replace ke := aside (ke.out ⟨rfl, hz⟩)
      have e32 : IntKind.u32.wrap ww = ww := by rw [wrap_u32]; unfold sizedN at hz; omega
      replace hz := aside hz
      clear kb
      have c1 := s1.cel bb 0 1 blkV_c1
      simp only [Nat.zero_add] at c1
      by_cases hbad : d.fault = 1 ∨ pieceC d.count sec ww ≠ 0
      · replace ke := aside (ke.out hbad)
        have hE0 : (if d.fault = 1 then (133 : Int) else pieceC d.count sec ww) ≠ 0 := by
          split
          · decide
          · rcases hbad with h | h
            · contradiction
            · exact h
        obtain ⟨E, hE⟩ : ∃ E, (if d.fault = 1 then (133 : Int) else pieceC d.count sec ww) = E := ⟨_, rfl⟩
        rw [hE] at hE0
        have hne : (E != 0) = true := by simp [hE0]
        replace hE := aside hE
        replace hbad := aside hbad
        clear k hE0
        go_enter Try.func131, Try.ntmps131
        go_wp2_with fail
        refine c_sized ww ?_
        rw [hdz]
        go_wp2_with fail
        refine c_diskReadBad s1 sec ww hs hr hbad.out ?_
        rw [hE.out]
        intro w3 s3
        clear s1 c1
        go_wp2
        go_quiet (fail)
        have s4 := s3.drewN nq
        clear s3
        go_wp2
        exact ke.out _ s4.wk
      · have hg1 := aside (show d.fault ≠ 1 from fun h => hbad (.inl h))
        have hg2 := aside (show pieceC d.count sec ww = 0 from Classical.not_not.1 fun h => hbad (.inr h))
        replace k := aside (k.out hg1.out hg2.out)
        clear ke hbad
        go_enter Try.func131, Try.ntmps131
        go_wp2_with fail
        refine c_sized ww ?_
        rw [hdz]
        go_wp2_with fail
        refine c_diskReadOk s1 sec ww hs hr hg1.out hg2.out ?_
        intro w3 v3 h3 own3 s3
        rw [hds.out] at own3
        have rd3 := own3.rd hrb.out
        obtain ⟨D, dc, rfl, rd3⟩ := rd3.open_
        have s3d := s3.drew
        have y0 := s3.cel Z 0 0 rfl
        have y1 := s3.cel Z 0 1 rfl
        have y2 := s3.cel Z 0 2 rfl
        have c2 := s3.cel bb 0 2 blkV_c2
        simp only [Nat.zero_add] at y0 y1 y2 c2
        replace rd3 := aside rd3
        clear s1 c1 own3
        go_wp2
        go_region_held3 (fun w' => w'.cell? ⟨Z, 0, none⟩ = some (.slice B n c) ∧ w'.cell? ⟨Z, 1, none⟩ = some (.int .u64 ta) ∧ w'.cell? ⟨Z, 2, none⟩ = some (.int .u64 tl) ∧ w'.cell? ⟨bb, 2, none⟩ = some (.pointer (some ⟨mb, 0, none⟩))) (first | exact ⟨y0.1, y1.1, y2.1, c2.1⟩ | exact ⟨m0.1, m1.1, m2.1, e2.1⟩)
          (first
            | (go_at_call 78; refine c_scatter s3d rd.out rd3.out (fun w' t => ⟨hk.out _ (Sat.wk t), (Sat.pull (h := h3) t).head⟩) hb.out ta tl 0 (by omega) (fun h => absurd hcond.out h) ?_; intro _ w8 r8 l8 hm8 hz8 hl8 s8; have m0 := s8.cel Z 0 0 rfl; have m1 := s8.cel Z 0 1 rfl; have m2 := s8.cel Z 0 2 rfl; have e2 := s8.cel bb 0 2 blkV_c2; simp only [Nat.zero_add] at m0 m1 m2 e2))
        all_goals
          replace hl8 := aside hl8
          rw [hdl.out] at hm8
          clear s3 s3d y0 y1 y2 c2 m0 m1 m2 e2
          go_wp2
          exact k.out _ r8 l8 hm8 hz8 hl8.out s8.wk
    · have hdz := decide_eq_false hz
      replace kb := aside (kb.out (fun h => hz h.2))
      clear hz k ke
      go_enter Try.func131, Try.ntmps131
      go_wp2_with fail
      refine c_sized ww ?_
      rw [hdz]
      go_wp2
      exact kb.out _ s1.tail1
  · have hne : (rr != 0) = true := by simp [h0]
    replace kb := aside (kb.out (fun h => h0 h.1))
    clear h0 k ke
    go_enter Try.func131, Try.ntmps131
    go_wp2
    exact kb.out _ s1.tail1
end
end Go.Proofs.Ytiibiamobkhlbaa

namespace Go.Proofs.Ytiibiamobkhlbaa
open Go.RowKit
set_option linter.unusedVariables false
set_option linter.unusedSimpArgs false

theorem blkV_rd {bb rb db mb : Nat} {bs : List Int} {lv : Value} (hl : bs.length = 20) (hx : ∀ x ∈ bs, 0 ≤ x ∧ x ≤ 255) : Rd u8E 1 (cellsH ⟨bb, 0, none⟩ (blkV rb db mb (bs.map (Value.int .u8)) lv)) (.slice (some ⟨bb, 3, none⟩) 20 20) bs := by
  refine ⟨some ⟨bb, 3, none⟩, 20, by rw [hl], by omega, by omega, fun i x hi => ⟨bb, 3, [.int .u8 x], rfl, ⟨rfl, hx x (List.mem_of_getElem? hi)⟩, rfl, fun j u hu => ⟨false, ?_⟩⟩⟩
  cases j with
  | succ j => simp at hu
  | zero =>
    simp at hu
    subst hu
    have hlt : i < bs.length := (List.getElem?_eq_some_iff.1 hi).1
    have := cellsH_at (a := ⟨bb, 0, none⟩) (vs := blkV rb db mb (bs.map (Value.int .u8)) lv) (i := i + 3) (v := .int .u8 x) (by
      unfold blkV
      simp only [List.getElem?_cons_succ]
      rw [List.getElem?_append_left (by simpa using hlt)]
      simp [hi])
    simpa [Nat.add_comm] using this

section
variable {R : Ending → World → Prop} {W0 w : World} {H : Hp} {A F : List Hp}

set_option maxRecDepth 100000 in
set_option maxHeartbeats 4000000 in
theorem c_blkId (bb rb db mb : Nat) {bs : List Int} {lv : Value} (hbl : bs.length = 20) (hbx : ∀ x ∈ bs, 0 ≤ x ∧ x ≤ 255) {r : RamG} {l : Option LogG} {B : Option Addr} {n c : Nat} {hp : Hp} {segs : List SegM} (rd : Rd segE 3 hp (.slice B n c) segs)
    (s : Sat W0 w H (cellsH ⟨bb, 0, none⟩ (blkV rb db mb (bs.map (Value.int .u8)) lv) :: (ramL ⟨mb, 0, none⟩ (r, l) ++ F))) (hk : ∀ w', Sat W0 w' H F → Holds w' hp) (hb : segs.length ≤ 511 ∧ ∀ x ∈ segs, hasP r.size x.1 x.2.1 ∧ 0 ≤ x.2.1)
    (ta tl rr ww : Int) (hr2 : ww ≤ wsum segs)
    (kb : ¬ (rr = 0 ∧ ww = 20) → ∀ w', Sat W0 w' H (cellsH ⟨bb, 0, none⟩ (blkV rb db mb (bs.map (Value.int .u8)) lv) :: (ramL ⟨mb, 0, none⟩ (r, l) ++ F)) → R (.returned (.tuple #[.int .u8 1, .int .u32 0])) w')
    (k : rr = 0 ∧ ww = 20 → ∀ w' r' l', r'.mem = scP 0 20 segs 0 bs r.mem → r'.size = r.size → LogQ noP (inSeg true segs) (lgs l) (lgs l') → Sat W0 w' H (cellsH ⟨bb, 0, none⟩ (blkV rb db mb (bs.map (Value.int .u8)) lv) :: (ramL ⟨mb, 0, none⟩ (r', l') ++ F)) → R (.returned (.tuple #[.int .u8 0, .int .u32 20])) w') :
    Calls Try.prog 134 #[.pointer (some ⟨bb, 0, none⟩), .agg #[.slice B n c, .int .u64 ta, .int .u64 tl], .int .u64 rr, .int .u64 ww] w R := by
  have s1 := s.alloc (c := [.slice B n c, .int .u64 ta, .int .u64 tl]) (t := 50)
  obtain ⟨Z, hZ⟩ : ∃ Z, w.heap.size = Z := ⟨_, rfl⟩
  rw [hZ] at s1
  have rdn := aside (blkV_rd (bb := bb) (rb := rb) (db := db) (mb := mb) (lv := lv) hbl hbx)
  replace hbl := aside hbl
  replace hbx := aside hbx
  clear s
  replace hb := aside hb
  replace rd := aside rd
  replace hk := aside hk
  replace kb := aside kb
  replace k := aside k
  by_cases h0 : rr = 0
  · subst h0
    by_cases hz : ww = 20
    · subst hz
      have hcond := aside (show (0 : Int) ≤ wsum segs ∧ ((bs.length : Nat) : Int) ≤ wsum segs - 0 by rw [hbl.out]; omega)
      replace k := aside (k.out ⟨rfl, rfl⟩)
      have s1d := s1.drew
      have y0 := s1.cel Z 0 0 rfl
      have y1 := s1.cel Z 0 1 rfl
      have y2 := s1.cel Z 0 2 rfl
      simp only [Nat.zero_add] at y0 y1 y2
      have c2 := s1.cel bb 0 2 blkV_c2
      simp only [Nat.zero_add] at c2
      clear kb hr2
      go_enter Try.func134, Try.ntmps134
      go_wp2
      go_region_held3 (fun w' => w'.cell? ⟨Z, 0, none⟩ = some (.slice B n c) ∧ w'.cell? ⟨Z, 1, none⟩ = some (.int .u64 ta) ∧ w'.cell? ⟨Z, 2, none⟩ = some (.int .u64 tl) ∧ w'.cell? ⟨bb, 2, none⟩ = some (.pointer (some ⟨mb, 0, none⟩))) (first | exact ⟨y0.1, y1.1, y2.1, c2.1⟩ | exact ⟨m0.1, m1.1, m2.1, e2.1⟩)
        (first
          | (go_at_call 78; refine c_scatter s1d rd.out rdn.out (fun w' t => ⟨hk.out _ (Sat.wk t), (Sat.pull (h := cellsH ⟨bb, 0, none⟩ (blkV rb db mb (bs.map (Value.int .u8)) lv)) t).head⟩) hb.out ta tl 0 (by omega) (fun h => absurd hcond.out h) ?_; intro _ w8 r8 l8 hm8 hz8 hl8 s8; have m0 := s8.cel Z 0 0 rfl; have m1 := s8.cel Z 0 1 rfl; have m2 := s8.cel Z 0 2 rfl; have e2 := s8.cel bb 0 2 blkV_c2; simp only [Nat.zero_add] at m0 m1 m2 e2))
      all_goals
        replace hl8 := aside hl8
        rw [hbl.out] at hm8
        clear s1 s1d y0 y1 y2 c2 m0 m1 m2 e2
        go_wp2
        exact k.out _ r8 l8 hm8 hz8 hl8.out s8.wk
    · have hne : (ww != 20) = true := by simp [hz]
      replace kb := aside (kb.out (fun h => hz h.2))
      clear hz k
      go_enter Try.func134, Try.ntmps134
      go_wp2
      go_quiet (fail)
      have s4 := s1.drewN nq
      clear s1
      go_wp2
      exact kb.out _ s4.wk
  · have hne : (rr != 0) = true := by simp [h0]
    replace kb := aside (kb.out (fun h => h0 h.1))
    clear h0 k
    go_enter Try.func134, Try.ntmps134
    go_wp2
    go_quiet (fail)
    have s4 := s1.drewN nq
    clear s1
    go_wp2
    exact kb.out _ s4.wk
end
end Go.Proofs.Ytiibiamobkhlbaa

namespace Go.Proofs.Ytiibiamobkhlbaa
open Go.RowKit
set_option linter.unusedVariables false
set_option linter.unusedSimpArgs false

section
variable {R : Ending → World → Prop} {W0 w : World} {H : Hp} {A F : List Hp}


set_option maxRecDepth 100000 in
set_option maxHeartbeats 4000000 in
theorem c_reqIn (s : Sat W0 w H A) (p : Value) (B : Option Addr) (n c : Nat) (ta tl sec r v : Int) {Q : Int → Int → World → Prop}
    (hf : ∀ (R' : Ending → World → Prop) Z w', Sat W0 w' H (cellsH ⟨Z + 1, 0, none⟩ [.int .u32 0, .int .u64 sec] :: cellsH ⟨Z, 0, none⟩ [.slice B n c, .int .u64 ta, .int .u64 tl] :: A) → (∀ st ct w2, Q st ct w2 → R' (.returned (.tuple #[.int .u8 st, .int .u32 ct])) w2) → Calls Try.prog 131 #[p, .agg #[.slice B n c, .int .u64 ta, .int .u64 tl], .int .u64 sec, .int .u64 r, .int .u64 v] w' R')
    (k : ∀ st ct w2, Q st ct w2 → R (.returned (.tuple #[.int .u8 st, .int .u32 ct])) w2) :
    Calls Try.prog 77 #[p, .agg #[.slice B n c, .int .u64 ta, .int .u64 tl], .agg #[.int .u32 0, .int .u64 sec], .int .u64 r, .int .u64 v] w R := by
  have s1 := (s.alloc (c := [.slice B n c, .int .u64 ta, .int .u64 tl]) (t := 50)).alloc (c := [.int .u32 0, .int .u64 sec]) (t := 77)
  obtain ⟨Z, hZ⟩ : ∃ Z, w.heap.size = Z := ⟨_, rfl⟩
  simp only [World.size_alloc] at s1
  rw [hZ] at s1
  have y0 := s1.cel Z 0 0 rfl
  have y1 := s1.cel Z 0 1 rfl
  have y2 := s1.cel Z 0 2 rfl
  simp only [Nat.zero_add] at y0 y1 y2
  have z0 := s1.cel (Z+1) 0 0 rfl
  have z1 := s1.cel (Z+1) 0 1 rfl
  simp only [Nat.zero_add] at z0 z1
  replace k := aside k
  replace hf := aside hf
  clear s
  go_enter Try.func77, Try.ntmps77
  go_wp2_with fail
  refine hf.out _ Z _ s1 ?_
  intro st ct w2 hq
  go_wp2
  exact k.out _ _ _ hq

set_option maxRecDepth 100000 in
set_option maxHeartbeats 4000000 in
theorem c_reqOut (s : Sat W0 w H A) (p : Value) (B : Option Addr) (n c : Nat) (ta tl sec r v : Int) {Q : Int → World → Prop}
    (hf : ∀ (R' : Ending → World → Prop) Z w', Sat W0 w' H (cellsH ⟨Z + 1, 0, none⟩ [.int .u32 1, .int .u64 sec] :: cellsH ⟨Z, 0, none⟩ [.slice B n c, .int .u64 ta, .int .u64 tl] :: A) → (∀ st w2, Q st w2 → R' (.returned (.int .u8 st)) w2) → Calls Try.prog 132 #[p, .agg #[.slice B n c, .int .u64 ta, .int .u64 tl], .int .u64 sec, .int .u64 r, .int .u64 v] w' R')
    (k : ∀ st w2, Q st w2 → R (.returned (.tuple #[.int .u8 st, .int .u32 0])) w2) :
    Calls Try.prog 77 #[p, .agg #[.slice B n c, .int .u64 ta, .int .u64 tl], .agg #[.int .u32 1, .int .u64 sec], .int .u64 r, .int .u64 v] w R := by
  have s1 := (s.alloc (c := [.slice B n c, .int .u64 ta, .int .u64 tl]) (t := 50)).alloc (c := [.int .u32 1, .int .u64 sec]) (t := 77)
  obtain ⟨Z, hZ⟩ : ∃ Z, w.heap.size = Z := ⟨_, rfl⟩
  simp only [World.size_alloc] at s1
  rw [hZ] at s1
  have y0 := s1.cel Z 0 0 rfl
  have y1 := s1.cel Z 0 1 rfl
  have y2 := s1.cel Z 0 2 rfl
  simp only [Nat.zero_add] at y0 y1 y2
  have z0 := s1.cel (Z+1) 0 0 rfl
  have z1 := s1.cel (Z+1) 0 1 rfl
  simp only [Nat.zero_add] at z0 z1
  replace k := aside k
  replace hf := aside hf
  clear s
  go_enter Try.func77, Try.ntmps77
  go_wp2_with fail
  refine hf.out _ Z _ s1 ?_
  intro st w2 hq
  go_wp2
  exact k.out _ _ hq

set_option maxRecDepth 100000 in
set_option maxHeartbeats 4000000 in
theorem c_reqId (s : Sat W0 w H A) (p : Value) (B : Option Addr) (n c : Nat) (ta tl sec r v : Int) {Q : Int → Int → World → Prop}
    (hf : ∀ (R' : Ending → World → Prop) Z w', Sat W0 w' H (cellsH ⟨Z + 1, 0, none⟩ [.int .u32 8, .int .u64 sec] :: cellsH ⟨Z, 0, none⟩ [.slice B n c, .int .u64 ta, .int .u64 tl] :: A) → (∀ st ct w2, Q st ct w2 → R' (.returned (.tuple #[.int .u8 st, .int .u32 ct])) w2) → Calls Try.prog 134 #[p, .agg #[.slice B n c, .int .u64 ta, .int .u64 tl], .int .u64 r, .int .u64 v] w' R')
    (k : ∀ st ct w2, Q st ct w2 → R (.returned (.tuple #[.int .u8 st, .int .u32 ct])) w2) :
    Calls Try.prog 77 #[p, .agg #[.slice B n c, .int .u64 ta, .int .u64 tl], .agg #[.int .u32 8, .int .u64 sec], .int .u64 r, .int .u64 v] w R := by
  have s1 := (s.alloc (c := [.slice B n c, .int .u64 ta, .int .u64 tl]) (t := 50)).alloc (c := [.int .u32 8, .int .u64 sec]) (t := 77)
  obtain ⟨Z, hZ⟩ : ∃ Z, w.heap.size = Z := ⟨_, rfl⟩
  simp only [World.size_alloc] at s1
  rw [hZ] at s1
  have y0 := s1.cel Z 0 0 rfl
  have y1 := s1.cel Z 0 1 rfl
  have y2 := s1.cel Z 0 2 rfl
  simp only [Nat.zero_add] at y0 y1 y2
  have z0 := s1.cel (Z+1) 0 0 rfl
  have z1 := s1.cel (Z+1) 0 1 rfl
  simp only [Nat.zero_add] at z0 z1
  replace k := aside k
  replace hf := aside hf
  clear s
  go_enter Try.func77, Try.ntmps77
  go_wp2_with fail
  refine hf.out _ Z _ s1 ?_
  intro st ct w2 hq
  go_wp2
  exact k.out _ _ _ hq
end
end Go.Proofs.Ytiibiamobkhlbaa

namespace Go.Proofs.Ytiibiamobkhlbaa
open Go.RowKit
set_option linter.unusedVariables false
set_option linter.unusedSimpArgs false

section
variable {R : Ending → World → Prop} {W0 w : World} {H : Hp} {A F : List Hp}


set_option maxRecDepth 100000 in
set_option maxHeartbeats 4000000 in
theorem c_reqFlush (bb rb db mb : Nat) {nm : List Value} {lv : Value} {d : DiskG} (B : Option Addr) (n c : Nat) (ta tl sec r v : Int)
    (s : Sat W0 w H (cellsH ⟨bb, 0, none⟩ (blkV rb db mb nm lv) :: (diskL ⟨db, 0, none⟩ d ++ F)))
    (kb : ¬ (r = 0 ∧ v = 0) → ∀ w', Sat W0 w' H (cellsH ⟨bb, 0, none⟩ (blkV rb db mb nm lv) :: (diskL ⟨db, 0, none⟩ d ++ F)) → R (.returned (.tuple #[.int .u8 1, .int .u32 0])) w')
    (k : r = 0 ∧ v = 0 → ∀ w' d' st, ((d.fault = 1 ∧ d' = d.asked ∧ st = 1) ∨ (d.fault ≠ 1 ∧ d' = d.asked.flushed ∧ st = 0)) → Sat W0 w' H (cellsH ⟨bb, 0, none⟩ (blkV rb db mb nm lv) :: (diskL ⟨db, 0, none⟩ d' ++ F)) → R (.returned (.tuple #[.int .u8 st, .int .u32 0])) w') :
    Calls Try.prog 77 #[.pointer (some ⟨bb, 0, none⟩), .agg #[.slice B n c, .int .u64 ta, .int .u64 tl], .agg #[.int .u32 4, .int .u64 sec], .int .u64 r, .int .u64 v] w R := by
  have s1 := (s.alloc (c := [.slice B n c, .int .u64 ta, .int .u64 tl]) (t := 50)).alloc (c := [.int .u32 4, .int .u64 sec]) (t := 77)
  obtain ⟨Z, hZ⟩ : ∃ Z, w.heap.size = Z := ⟨_, rfl⟩
  simp only [World.size_alloc] at s1
  rw [hZ] at s1
  have y0 := s1.cel Z 0 0 rfl
  have y1 := s1.cel Z 0 1 rfl
  have y2 := s1.cel Z 0 2 rfl
  simp only [Nat.zero_add] at y0 y1 y2
  have z0 := s1.cel (Z+1) 0 0 rfl
  have z1 := s1.cel (Z+1) 0 1 rfl
  simp only [Nat.zero_add] at z0 z1
  have c1 := s1.cel bb 0 1 blkV_c1
  simp only [Nat.zero_add] at c1
  replace kb := aside kb
  replace k := aside k
  clear s
  by_cases h0 : r = 0
  · subst h0
    by_cases h1 : v = 0
    · subst h1
      replace k := aside (k.out ⟨rfl, rfl⟩)
      clear kb
      go_enter Try.func77, Try.ntmps77
      go_wp2_with fail
      refine c_diskFlush s1 ?_ ?_
      · intro hf w2 s2
        have hf2 := aside hf
        clear hf
        go_wp2
        exact k.out _ d.asked 1 (.inl ⟨hf2.out, rfl, rfl⟩) s2.wk
      · intro hf w2 s2
        have hf2 := aside hf
        clear hf
        go_wp2
        exact k.out _ d.asked.flushed 0 (.inr ⟨hf2.out, rfl, rfl⟩) s2.wk
    · have hne : (v != 0) = true := by simp [h1]
      replace kb := aside (kb.out (fun h => h1 h.2))
      clear h1 k
      go_enter Try.func77, Try.ntmps77
      go_wp2
      exact kb.out _ s1.wk
  · have hne : (r != 0) = true := by simp [h0]
    replace kb := aside (kb.out (fun h => h0 h.1))
    clear h0 k
    go_enter Try.func77, Try.ntmps77
    go_wp2
    exact kb.out _ s1.wk
end
end Go.Proofs.Ytiibiamobkhlbaa

namespace Go.Proofs.Ytiibiamobkhlbaa
open Go.RowKit
set_option linter.unusedVariables false
set_option linter.unusedSimpArgs false

/-- a disk, as plain data -/
structure DkP where
  count : Int
  locked : Bool
  mem : Int → Int
  fault : Int
  reqs : Int
  flushes : Int
def DiskG.raw (d : DiskG) : DkP := ⟨d.count, d.locked, d.mem, d.fault, d.reqs, d.flushes⟩
def DkP.ask (k : DkP) : DkP := { k with fault := nextF k.fault, reqs := upQ k.reqs }
def DkP.flush (k : DkP) : DkP := { k with flushes := upQ k.flushes }
def DkP.put (k : DkP) (m : Int → Int) : DkP := { k with mem := m }
def wrK (k : DkP) (a n : Int) : Int := if k.fault = 1 then 133 else if k.locked = true then 132 else pieceC k.count a n
theorem wrK_raw (d : DiskG) (a n : Int) : wrK d.raw a n = wrC d a n := rfl

/-- what a request comes to: its end, how much was written ahead of that, memory, disk -/
structure ReqR where
  st : Int
  ct : Int
  mem : Int → Int
  dk : DkP

def reqP (segs : List SegM) (m : Int → Int) (k : DkP) (bs : List Int) (kd sc r v : Int) : ReqR :=
  if kd = 0 then
    if r = 0 ∧ sizedN v then
      if k.fault = 1 ∨ pieceC k.count sc v ≠ 0 then ⟨1, 0, m, k.ask⟩ else ⟨0, v, scP 0 v segs 0 (rdB k.mem (512 * sc) v.toNat) m, k.ask⟩
    else ⟨1, 0, m, k⟩
  else if kd = 1 then
    if v = 0 ∧ sizedN r then
      if wrK k sc r = 0 then ⟨0, 0, m, k.ask.put (putB k.mem (512 * sc) (gaP 16 r segs 0 m))⟩ else ⟨1, 0, m, k.ask⟩
    else ⟨1, 0, m, k⟩
  else if kd = 4 then
    if r = 0 ∧ v = 0 then (if k.fault = 1 then ⟨1, 0, m, k.ask⟩ else ⟨0, 0, m, k.ask.flush⟩) else ⟨1, 0, m, k⟩
  else if kd = 8 then
    if r = 0 ∧ v = 20 then ⟨0, 20, scP 0 20 segs 0 bs m, k⟩ else ⟨1, 0, m, k⟩
  else ⟨2, 0, m, k⟩
theorem reqP_bd (segs : List SegM) (m : Int → Int) (k : DkP) (bs : List Int) (kd sc r v : Int) : 0 ≤ (reqP segs m k bs kd sc r v).st ∧ (reqP segs m k bs kd sc r v).st ≤ 2 ∧ 0 ≤ (reqP segs m k bs kd sc r v).ct ∧ (reqP segs m k bs kd sc r v).ct ≤ 33554432 := by
  unfold reqP
  split
  · split
    · rename_i h
      have := h.2
      unfold sizedN at this
      split <;> (simp; try omega)
    · simp
  · split
    · split
      · split <;> simp
      · simp
    · split
      · split
        · split <;> simp
        · simp
      · split
        · split <;> simp
        · simp

theorem Sat.less {W0 w w' : World} {H H' : Hp} {A B : List Hp} (s : Sat W0 w H A) (s' : Sat W0 w' H' B) (le : ∀ l c, H l = some c → H' l = some c) : Sat W0 w' H B :=
  ⟨s'.below, s'.ro.mono le, s.old, s'.apart, fun h hm => ⟨(s'.each h hm).1, fun l => by
    rcases (s'.each h hm).2 l with e | e
    · exact .inl e
    · cases hH : H l with
      | none => exact .inr rfl
      | some c => rw [le l c hH] at e; cases e⟩⟩

section
variable {R : Ending → World → Prop} {W0 w : World} {H : Hp} {A F : List Hp}

set_option maxRecDepth 100000 in
set_option maxHeartbeats 4000000 in
theorem c_req (bb rb db mb : Nat) {bs : List Int} {lv : Value} (hbl : bs.length = 20) (hbx : ∀ x ∈ bs, 0 ≤ x ∧ x ≤ 255) {r : RamG} {l : Option LogG} {d : DiskG} {B : Option Addr} {n c : Nat} {hp : Hp} {segs : List SegM} (rd : Rd segE 3 hp (.slice B n c) segs)
    (s : Sat W0 w H (cellsH ⟨bb, 0, none⟩ (blkV rb db mb (bs.map (Value.int .u8)) lv) :: (ramL ⟨mb, 0, none⟩ (r, l) ++ (diskL ⟨db, 0, none⟩ d ++ F)))) (hk : ∀ w', Sat W0 w' H F → Holds w' hp) (hb : segs.length ≤ 511 ∧ ∀ x ∈ segs, hasP r.size x.1 x.2.1 ∧ 0 ≤ x.2.1) (hord : ordP segs)
    (ta tl kd sec rr ww : Int) (hs : 0 ≤ sec ∧ sec ≤ 18446744073709551615) (hr : 0 ≤ rr ∧ rr ≤ 18446744073709551615) (hr2 : rr = rsum segs - 16) (hw : 0 ≤ ww ∧ ww ≤ 18446744073709551615) (hw2 : ww ≤ wsum segs)
    (k : ∀ w' H' r' d' l', (∀ l c, H l = some c → H' l = some c) → LogQ (inSeg false segs) (inSeg true segs) (lgs l) (lgs l') → r'.mem = (reqP segs r.mem d.raw bs kd sec rr ww).mem → r'.size = r.size → d'.raw = (reqP segs r.mem d.raw bs kd sec rr ww).dk → Sat W0 w' H' (cellsH ⟨bb, 0, none⟩ (blkV rb db mb (bs.map (Value.int .u8)) lv) :: (ramL ⟨mb, 0, none⟩ (r', l') ++ (diskL ⟨db, 0, none⟩ d' ++ F))) → R (.returned (.tuple #[.int .u8 (reqP segs r.mem d.raw bs kd sec rr ww).st, .int .u32 (reqP segs r.mem d.raw bs kd sec rr ww).ct])) w') :
    Calls Try.prog 77 #[.pointer (some ⟨bb, 0, none⟩), .agg #[.slice B n c, .int .u64 ta, .int .u64 tl], .agg #[.int .u32 kd, .int .u64 sec], .int .u64 rr, .int .u64 ww] w R := by
  by_cases h0 : kd = 0
  · subst h0
    refine c_reqIn (Q := fun st ct w2 => ∃ r' d' l', LogQ (inSeg false segs) (inSeg true segs) (lgs l) (lgs l') ∧ r'.mem = (reqP segs r.mem d.raw bs 0 sec rr ww).mem ∧ r'.size = r.size ∧ d'.raw = (reqP segs r.mem d.raw bs 0 sec rr ww).dk ∧ st = (reqP segs r.mem d.raw bs 0 sec rr ww).st ∧ ct = (reqP segs r.mem d.raw bs 0 sec rr ww).ct ∧ Sat W0 w2 H (cellsH ⟨bb, 0, none⟩ (blkV rb db mb (bs.map (Value.int .u8)) lv) :: (ramL ⟨mb, 0, none⟩ (r', l') ++ (diskL ⟨db, 0, none⟩ d' ++ F)))) s _ B n c ta tl sec rr ww ?_ ?_
    · intro R' Z w' t kk
      have t2 : Sat W0 w' H (cellsH ⟨bb, 0, none⟩ (blkV rb db mb (bs.map (Value.int .u8)) lv) :: (ramL ⟨mb, 0, none⟩ (r, l) ++ (diskL ⟨db, 0, none⟩ d ++ F))) := t.tail1.tail1
      refine c_blkIn bb rb db mb rd t2 hk hb ta tl sec rr ww hs hw hw2 ?_ ?_ ?_
      · intro hc w3 s3
        exact kk _ _ _ ⟨r, d, l, LogQ.refl _ _ _, by simp [reqP, hc], rfl, by simp [reqP, hc], by simp [reqP, hc], by simp [reqP, hc], s3⟩
      · intro hc hbad w3 s3
        have hbad2 : d.raw.fault = 1 ∨ ¬ pieceC d.raw.count sec ww = 0 := hbad
        exact kk _ _ _ ⟨r, d.asked, l, LogQ.refl _ _ _, by simp only [reqP, if_pos hc, ite_true]; rw [if_pos hbad2], rfl, by simp only [reqP, if_pos hc, ite_true]; rw [if_pos hbad2]; rfl, by simp only [reqP, if_pos hc, ite_true]; rw [if_pos hbad2], by simp only [reqP, if_pos hc, ite_true]; rw [if_pos hbad2], s3⟩
      · intro hc hf hp w3 r3 l3 hm3 hz3 hl3 s3
        have hbad2 : ¬ (d.raw.fault = 1 ∨ pieceC d.raw.count sec ww ≠ 0) := fun h => h.elim hf (fun h => h hp)
        exact kk _ _ _ ⟨r3, d.asked, l3, hl3.mono (fun _ _ h => h.elim) (fun _ _ h => h), by rw [hm3]; simp only [reqP, if_pos hc, ite_true]; rw [if_neg hbad2]; rfl, hz3, by simp only [reqP, if_pos hc, ite_true]; rw [if_neg hbad2]; rfl, by simp only [reqP, if_pos hc, ite_true]; rw [if_neg hbad2], by simp only [reqP, if_pos hc, ite_true]; rw [if_neg hbad2], s3⟩
    · rintro st ct w2 ⟨r', d', l', hl, h1, h2, h3, rfl, rfl, s2⟩
      exact k _ H r' d' l' (fun _ _ h => h) hl h1 h2 h3 s2
  by_cases h1 : kd = 1
  · subst h1
    refine c_reqOut (Q := fun st w2 => ∃ H' d' l', (∀ l c, H l = some c → H' l = some c) ∧ LogQ (inSeg false segs) (inSeg true segs) (lgs l) (lgs l') ∧ r.mem = (reqP segs r.mem d.raw bs 1 sec rr ww).mem ∧ d'.raw = (reqP segs r.mem d.raw bs 1 sec rr ww).dk ∧ st = (reqP segs r.mem d.raw bs 1 sec rr ww).st ∧ 0 = (reqP segs r.mem d.raw bs 1 sec rr ww).ct ∧ Sat W0 w2 H' (cellsH ⟨bb, 0, none⟩ (blkV rb db mb (bs.map (Value.int .u8)) lv) :: (ramL ⟨mb, 0, none⟩ (r, l') ++ (diskL ⟨db, 0, none⟩ d' ++ F)))) s _ B n c ta tl sec rr ww ?_ ?_
    · intro R' Z w' t kk
      have t2 : Sat W0 w' H (cellsH ⟨bb, 0, none⟩ (blkV rb db mb (bs.map (Value.int .u8)) lv) :: (ramL ⟨mb, 0, none⟩ (r, l) ++ (diskL ⟨db, 0, none⟩ d ++ F))) := t.tail1.tail1
      have h10 : ¬ ((1 : Int) = 0) := by decide
      refine c_blkOut bb rb db mb rd t2 hk hb hord ta tl sec rr ww hs hr hr2 ?_ ?_ ?_
      · intro hc w3 s3
        exact kk _ _ ⟨H, d, l, fun _ _ h => h, LogQ.refl _ _ _, by simp [reqP, hc], by simp [reqP, hc], by simp [reqP, hc], by simp [reqP, hc], s3⟩
      · intro hc hbad w3 H3 l3 le3 hl3 s3
        have hbad2 : ¬ wrK d.raw sec rr = 0 := hbad
        exact kk _ _ ⟨H3, d.asked, l3, le3, hl3.mono (fun _ _ h => h) (fun _ _ h => h.elim), by simp only [reqP, if_neg h10, if_pos hc, ite_true]; rw [if_neg hbad2], by simp only [reqP, if_neg h10, if_pos hc, ite_true]; rw [if_neg hbad2]; rfl, by simp only [reqP, if_neg h10, if_pos hc, ite_true]; rw [if_neg hbad2], by simp only [reqP, if_neg h10, if_pos hc, ite_true]; rw [if_neg hbad2], s3⟩
      · intro hc hok w3 H3 d3 l3 le3 hlg hl3 hm3 s3
        have hok2 : wrK d.raw sec rr = 0 := hok
        refine kk _ _ ⟨H3, d3, l3, le3, hlg.mono (fun _ _ h => h) (fun _ _ h => h.elim), by simp only [reqP, if_neg h10, if_pos hc, ite_true]; rw [if_pos hok2], ?_, by simp only [reqP, if_neg h10, if_pos hc, ite_true]; rw [if_pos hok2], by simp only [reqP, if_neg h10, if_pos hc, ite_true]; rw [if_pos hok2], s3⟩
        simp only [reqP, if_neg h10, if_pos hc, ite_true]
        rw [if_pos hok2]
        unfold DiskG.raw DkP.put DkP.ask
        rw [hl3.count, hl3.locked, hl3.fault, hl3.reqs, hl3.flushes, hm3]
        rfl
    · rintro st w2 ⟨H', d', l', le, hl, h1, h3, rfl, h4, s2⟩
      have := k _ H' r d' l' le hl h1 rfl h3 s2
      rw [← h4] at this
      exact this
  by_cases h4 : kd = 4
  · subst h4
    have h40 : ¬ ((4 : Int) = 0) := by decide
    have h41 : ¬ ((4 : Int) = 1) := by decide
    have s1 : Sat W0 w H (cellsH ⟨bb, 0, none⟩ (blkV rb db mb (bs.map (Value.int .u8)) lv) :: (diskL ⟨db, 0, none⟩ d ++ (ramL ⟨mb, 0, none⟩ (r, l) ++ F))) := s.wk
    refine c_reqFlush bb rb db mb B n c ta tl sec rr ww s1 ?_ ?_
    · intro hc w3 s3
      have := k _ H r d l (fun _ _ h => h) (LogQ.refl _ _ _) (by simp [reqP, hc]) rfl (by simp [reqP, hc]) s3.wk
      rw [show reqP segs r.mem d.raw bs 4 sec rr ww = ⟨1, 0, r.mem, d.raw⟩ by simp [reqP, hc]] at this
      exact this
    · intro hc w3 d3 st3 hd3 s3
      rcases hd3 with ⟨g1, rfl, rfl⟩ | ⟨g1, rfl, rfl⟩
      · have e : reqP segs r.mem d.raw bs 4 sec rr ww = ⟨1, 0, r.mem, d.raw.ask⟩ := by
          have g2 : d.raw.fault = 1 := g1
          simp [reqP, hc, g2]
        have := k _ H r d.asked l (fun _ _ h => h) (LogQ.refl _ _ _) (by rw [e]) rfl (by rw [e]; rfl) s3.wk
        rw [e] at this
        exact this
      · have e : reqP segs r.mem d.raw bs 4 sec rr ww = ⟨0, 0, r.mem, d.raw.ask.flush⟩ := by
          have g2 : ¬ d.raw.fault = 1 := g1
          simp [reqP, hc, g2]
        have := k _ H r d.asked.flushed l (fun _ _ h => h) (LogQ.refl _ _ _) (by rw [e]) rfl (by rw [e]; rfl) s3.wk
        rw [e] at this
        exact this
  by_cases h8 : kd = 8
  · subst h8
    refine c_reqId (Q := fun st ct w2 => ∃ r' l', LogQ (inSeg false segs) (inSeg true segs) (lgs l) (lgs l') ∧ r'.mem = (reqP segs r.mem d.raw bs 8 sec rr ww).mem ∧ r'.size = r.size ∧ d.raw = (reqP segs r.mem d.raw bs 8 sec rr ww).dk ∧ st = (reqP segs r.mem d.raw bs 8 sec rr ww).st ∧ ct = (reqP segs r.mem d.raw bs 8 sec rr ww).ct ∧ Sat W0 w2 H (cellsH ⟨bb, 0, none⟩ (blkV rb db mb (bs.map (Value.int .u8)) lv) :: (ramL ⟨mb, 0, none⟩ (r', l') ++ (diskL ⟨db, 0, none⟩ d ++ F)))) s _ B n c ta tl sec rr ww ?_ ?_
    · intro R' Z w' t kk
      have t2 : Sat W0 w' H (cellsH ⟨bb, 0, none⟩ (blkV rb db mb (bs.map (Value.int .u8)) lv) :: (ramL ⟨mb, 0, none⟩ (r, l) ++ (diskL ⟨db, 0, none⟩ d ++ F))) := t.tail1.tail1
      refine c_blkId bb rb db mb hbl hbx rd t2 (fun w' t => hk _ (Sat.tail t)) hb ta tl rr ww hw2 ?_ ?_
      · intro hc w3 s3
        exact kk _ _ _ ⟨r, l, LogQ.refl _ _ _, by simp [reqP, hc], rfl, by simp [reqP, hc], by simp [reqP, hc], by simp [reqP, hc], s3⟩
      · intro hc w3 r3 l3 hm3 hz3 hl3 s3
        exact kk _ _ _ ⟨r3, l3, hl3.mono (fun _ _ h => h.elim) (fun _ _ h => h), by rw [hm3]; simp [reqP, hc], hz3, by simp [reqP, hc], by simp [reqP, hc], by simp [reqP, hc], s3⟩
    · rintro st ct w2 ⟨r', l', hl, h1, h2, h3, rfl, rfl, s2⟩
      exact k _ H r' d l' (fun _ _ h => h) hl h1 h2 h3 s2
  have e : reqP segs r.mem d.raw bs kd sec rr ww = ⟨2, 0, r.mem, d.raw⟩ := by simp [reqP, h0, h1, h4, h8]
  rw [e] at k
  refine c_reqOther s _ B n c ta tl kd sec rr ww h0 h1 h4 h8 ?_
  intro w3 s3
  exact k _ H r d l (fun _ _ h => h) (LogQ.refl _ _ _) rfl rfl rfl s3
end
end Go.Proofs.Ytiibiamobkhlbaa

namespace Go.Proofs.Ytiibiamobkhlbaa
open Go.RowKit
set_option linter.unusedVariables false
set_option linter.unusedSimpArgs false

/-- a request that was served: kind, sector, end, count -/
abbrev DoneM := Int × Int × Int × Int
def encD (ls : List DoneM) : List Value := ls.flatMap fun x => [.int .u32 x.1, .int .u64 x.2.1, .int .u8 x.2.2.1, .int .u32 x.2.2.2]
theorem encD_snoc (ls : List DoneM) (x : DoneM) : encD (ls ++ [x]) = encD ls ++ [.int .u32 x.1, .int .u64 x.2.1, .int .u8 x.2.2.1, .int .u32 x.2.2.2] := by simp [encD]

structure UseR where
  ct : Int
  mem : Int → Int
  dk : DkP
  log : Option DoneM

def useP (segs : List SegM) (m : Int → Int) (k : DkP) (bs : List Int) : UseR :=
  if rsum segs < 16 ∨ wsum segs < 1 then ⟨0, m, k, none⟩
  else
    ⟨(reqP segs m k bs (ofB ((gaP 0 16 segs 0 m).take 4)) (ofB (((gaP 0 16 segs 0 m).take 16).drop 8)) (rsum segs - 16) (wsum segs - 1)).ct + 1,
     scP (wsum segs - 1) 1 segs 0 [(reqP segs m k bs (ofB ((gaP 0 16 segs 0 m).take 4)) (ofB (((gaP 0 16 segs 0 m).take 16).drop 8)) (rsum segs - 16) (wsum segs - 1)).st] (reqP segs m k bs (ofB ((gaP 0 16 segs 0 m).take 4)) (ofB (((gaP 0 16 segs 0 m).take 16).drop 8)) (rsum segs - 16) (wsum segs - 1)).mem,
     (reqP segs m k bs (ofB ((gaP 0 16 segs 0 m).take 4)) (ofB (((gaP 0 16 segs 0 m).take 16).drop 8)) (rsum segs - 16) (wsum segs - 1)).dk,
     some (ofB ((gaP 0 16 segs 0 m).take 4), ofB (((gaP 0 16 segs 0 m).take 16).drop 8), (reqP segs m k bs (ofB ((gaP 0 16 segs 0 m).take 4)) (ofB (((gaP 0 16 segs 0 m).take 16).drop 8)) (rsum segs - 16) (wsum segs - 1)).st, (reqP segs m k bs (ofB ((gaP 0 16 segs 0 m).take 4)) (ofB (((gaP 0 16 segs 0 m).take 16).drop 8)) (rsum segs - 16) (wsum segs - 1)).ct + 1)⟩
/-- the log keeps 4096 -/
def logP (ls : List DoneM) : Option DoneM → List DoneM
  | none => ls
  | some x => if ls.length < 4096 then ls ++ [x] else ls

theorem ofB_lt8 {l : List Int} (h : ∀ x ∈ l, 0 ≤ x ∧ x ≤ 255) (hl : l.length ≤ 8) : 0 ≤ ofB l ∧ ofB l ≤ 18446744073709551615 := by
  obtain ⟨h1, h2⟩ := ofB_bd h
  have h3 : l.length = 0 ∨ l.length = 1 ∨ l.length = 2 ∨ l.length = 3 ∨ l.length = 4 ∨ l.length = 5 ∨ l.length = 6 ∨ l.length = 7 ∨ l.length = 8 := by omega
  rcases h3 with h | h | h | h | h | h | h | h | h <;> (rw [h] at h2; omega)
theorem OwnS.shape {size : Nat} {v : Value} {n : Nat} {vs : List Value} {h : Hp} (own : OwnS size v n vs h) : ∃ L LC LL, v = .slice L LL LC ∧ LL = n ∧ LC ≤ 9223372036854775807 := by
  obtain ⟨A, cap, sp, rfl, h1, h2, _⟩ := own
  exact ⟨A, cap, n, rfl, rfl, h2⟩
theorem useP_few {segs : List SegM} {m : Int → Int} {k : DkP} {bs : List Int} (h : rsum segs < 16 ∨ wsum segs < 1) : useP segs m k bs = ⟨0, m, k, none⟩ := if_pos h

section
variable {R : Ending → World → Prop} {W0 w : World} {H : Hp} {A F : List Hp}

set_option maxRecDepth 100000 in
set_option maxHeartbeats 4000000 in
theorem c_use (bb rb db mb : Nat) {bs : List Int} {lv : Value} (hbl : bs.length = 20) (hbx : ∀ x ∈ bs, 0 ≤ x ∧ x ≤ 255) {ls : List DoneM} {hl : Hp} (own : OwnS 4 lv ls.length (encD ls) hl) (hls : ls.length ≤ 4096) {r : RamG} {l : Option LogG} {d : DiskG} {B : Option Addr} {n c : Nat} {hp : Hp} {segs : List SegM} (rd : Rd segE 3 hp (.slice B n c) segs)
    (s : Sat W0 w H (cellsH ⟨bb, 0, none⟩ (blkV rb db mb (bs.map (Value.int .u8)) lv) :: hl :: (ramL ⟨mb, 0, none⟩ (r, l) ++ (diskL ⟨db, 0, none⟩ d ++ F)))) (hk : ∀ w', Sat W0 w' H F → Holds w' hp) (hb : segs.length ≤ 511 ∧ ∀ x ∈ segs, hasP r.size x.1 x.2.1 ∧ 0 ≤ x.2.1) (hord : ordP segs)
    (ta tl : Int)
    (k : ∀ w' H' r' d' lv' hl' l', (∀ l c, H l = some c → H' l = some c) → LogQ (inSeg false segs) (inSeg true segs) (lgs l) (lgs l') → r'.mem = (useP segs r.mem d.raw bs).mem → r'.size = r.size → d'.raw = (useP segs r.mem d.raw bs).dk → OwnS 4 lv' (logP ls (useP segs r.mem d.raw bs).log).length (encD (logP ls (useP segs r.mem d.raw bs).log)) hl' → Sat W0 w' H' (cellsH ⟨bb, 0, none⟩ (blkV rb db mb (bs.map (Value.int .u8)) lv') :: hl' :: (ramL ⟨mb, 0, none⟩ (r', l') ++ (diskL ⟨db, 0, none⟩ d' ++ F))) → R (.returned (.tuple #[.int .u32 (useP segs r.mem d.raw bs).ct, .bool true])) w') :
    Calls Try.prog 25 #[.pointer (some ⟨bb, 0, none⟩), .agg #[.slice B n c, .int .u64 ta, .int .u64 tl]] w R := by
  have hrs := r.hsize
  have hB := aside (show segB segs from ⟨hb.1, fun x hx => by have := hb.2 x hx; unfold hasP at this; omega⟩)
  have hsm := hB.out.sums segs.length
  rw [List.take_length] at hsm
  have s1 := s.alloc (c := [.slice B n c, .int .u64 ta, .int .u64 tl]) (t := 50)
  obtain ⟨Z, hZ⟩ : ∃ Z, w.heap.size = Z := ⟨_, rfl⟩
  rw [hZ] at s1
  have y0 := s1.cel Z 0 0 rfl
  have y1 := s1.cel Z 0 1 rfl
  have y2 := s1.cel Z 0 2 rfl
  simp only [Nat.zero_add] at y0 y1 y2
  have hkz1 := aside (show ∀ w', Sat W0 w' H (cellsH ⟨Z, 0, none⟩ [.slice B n c, .int .u64 ta, .int .u64 tl] :: cellsH ⟨bb, 0, none⟩ (blkV rb db mb (bs.map (Value.int .u8)) lv) :: hl :: (ramL ⟨mb, 0, none⟩ (r, l) ++ (diskL ⟨db, 0, none⟩ d ++ F))) → Holds w' hp from fun w' t => hk _ (Sat.tail (Sat.tail (Sat.tail1 (Sat.tail1 (Sat.tail1 t))))))
  have hsless := aside (show ∀ w' H' A', Sat W0 w' H' A' → (∀ l c, H l = some c → H' l = some c) → Sat W0 w' H A' from fun w' H' A' t le => Sat.less s t le)
  have hnm := aside (show (bs.map (Value.int .u8)).length = 20 by simpa using hbl)
  by_cases hfew : rsum segs < 16 ∨ wsum segs < 1
  · rw [useP_few hfew] at k
    have K := aside (fun w' t => k w' H r d lv hl l (fun _ _ h => h) (LogQ.refl _ _ _) rfl rfl rfl own t)
    obtain ⟨RS, hRS⟩ : ∃ y, rsum segs = y := ⟨_, rfl⟩
    obtain ⟨WS, hWS⟩ : ∃ y, wsum segs = y := ⟨_, rfl⟩
    rw [hRS] at hsm hfew
    rw [hWS] at hsm hfew
    obtain ⟨hn0, _, _, gg⟩ := rd.seg
    clear hn0 gg s k own
    replace hk := aside hk
    replace hRS := aside hRS
    replace hWS := aside hWS
    replace hb := aside hb
    replace rd := aside rd
    by_cases h16 : RS < 16
    · clear hfew
      go_enter Try.func25, Try.ntmps25
      go_wp2_with fail
      refine c_sizes s1 rd.out hkz1.out hB.out ta tl ?_
      rw [hRS.out, hWS.out]
      intro w2 s2
      clear s1
      go_wp2
      exact K.out _ s2.wk
    · have hw1 : WS < 1 := by omega
      clear hfew
      go_enter Try.func25, Try.ntmps25
      go_wp2_with fail
      refine c_sizes s1 rd.out hkz1.out hB.out ta tl ?_
      rw [hRS.out, hWS.out]
      intro w2 s2
      clear s1
      go_wp2
      exact K.out _ s2.wk
  · have hr16 : 16 ≤ rsum segs := by omega
    have hw1 : 1 ≤ wsum segs := by omega
    obtain ⟨DS, hds⟩ : ∃ y, gaP 0 16 segs 0 r.mem = y := ⟨_, rfl⟩
    have hdl : (DS.length : Int) = 16 := by rw [← hds]; exact gaP_full (by omega) (by omega) hord (fun x hx => (hb.2 x hx).2) (by omega)
    have hdb : ∀ x ∈ DS, 0 ≤ x ∧ x ≤ 255 := by rw [← hds]; exact gaP_bd r.hmem
    obtain ⟨KD, hKD⟩ : ∃ y, ofB (DS.take 4) = y := ⟨_, rfl⟩
    obtain ⟨SC, hSC⟩ : ∃ y, ofB ((DS.take 16).drop 8) = y := ⟨_, rfl⟩
    have hscb : 0 ≤ SC ∧ SC ≤ 18446744073709551615 := by
      rw [← hSC]
      exact ofB_lt8 (fun x hx => hdb x (List.mem_of_mem_take (List.mem_of_mem_drop hx))) (by simp; omega)
    have hq := reqP_bd segs r.mem d.raw bs KD SC (rsum segs - 16) (wsum segs - 1)
    obtain ⟨Q, hQ⟩ : ∃ q, reqP segs r.mem d.raw bs KD SC (rsum segs - 16) (wsum segs - 1) = q := ⟨_, rfl⟩
    have hU : useP segs r.mem d.raw bs = ⟨Q.ct + 1, scP (wsum segs - 1) 1 segs 0 [Q.st] Q.mem, Q.dk, some (KD, SC, Q.st, Q.ct + 1)⟩ := by
      unfold useP
      rw [if_neg hfew, hds, hKD, hSC, hQ]
    rw [hU] at k
    rw [hQ] at hq
    clear hU hfew
    obtain ⟨RS, hRS⟩ : ∃ y, rsum segs = y := ⟨_, rfl⟩
    obtain ⟨WS, hWS⟩ : ∃ y, wsum segs = y := ⟨_, rfl⟩
    rw [hRS] at hr16 hsm hQ
    rw [hWS] at hw1 hsm k hQ
    have hsm2 : RS ≤ 137170518016 ∧ WS ≤ 137170518016 := ⟨hsm.2.2.2.2.2, hsm.2.2.2.2.1⟩
    obtain ⟨hn0, hcap, hcap2, gg⟩ := rd.seg
    clear hn0 gg hsm
    have hkz2 := aside (show ∀ w', Sat W0 w' H (cellsH ⟨Z, 0, none⟩ [.slice B n c, .int .u64 ta, .int .u64 tl] :: cellsH ⟨bb, 0, none⟩ (blkV rb db mb (bs.map (Value.int .u8)) lv) :: hl :: (diskL ⟨db, 0, none⟩ d ++ F)) → Holds w' hp from fun w' t => hk _ (Sat.tail (Sat.tail1 (Sat.tail1 (Sat.tail1 t)))))
    have hg1 := aside (show (0 : Int) ≤ rsum segs ∧ (16 : Int) ≤ rsum segs - 0 by omega)
    clear s
    obtain ⟨ST, hST⟩ : ∃ y, Q.st = y := ⟨_, rfl⟩
    obtain ⟨CT, hCT⟩ : ∃ y, Q.ct = y := ⟨_, rfl⟩
    rw [hST, hCT] at hq k
    replace hk := aside hk
    replace hRS := aside hRS
    replace hWS := aside hWS
    replace hds := aside hds
    replace hdl := aside hdl
    replace hKD := aside hKD
    replace hdb := aside hdb
    replace hb := aside hb
    replace rd := aside rd
    replace k := aside k
    replace hrs := aside hrs
    replace hSC := aside hSC
    replace hQ := aside hQ
    replace hord := aside hord
    replace hST := aside hST
    replace hCT := aside hCT
    replace own := aside own
    replace hls := aside hls
    replace hbl := aside hbl
    replace hbx := aside hbx
    obtain ⟨i0, hi, hz, hs1, hb1⟩ := info_done
    go_enter Try.func25, Try.ntmps25
    go_wp2_with fail
    refine c_sizes s1 rd.out hkz1.out hB.out ta tl ?_
    rw [hRS.out, hWS.out]
    intro w2 s2
    have s2d := s2.drew
    have y0 := s2.cel Z 0 0 rfl
    have y1 := s2.cel Z 0 1 rfl
    have y2 := s2.cel Z 0 2 rfl
    simp only [Nat.zero_add] at y0 y1 y2
    have c2 := s2.cel bb 0 2 blkV_c2
    simp only [Nat.zero_add] at c2
    clear s1 hkz1
    have hrq : ¬ RS < 16 := by omega
    have hwq : ¬ WS < 1 := by omega
    go_wp2
    go_region_held3 (fun w' => w'.cell? ⟨Z, 0, none⟩ = some (.slice B n c) ∧ w'.cell? ⟨Z, 1, none⟩ = some (.int .u64 ta) ∧ w'.cell? ⟨Z, 2, none⟩ = some (.int .u64 tl) ∧ w'.cell? ⟨bb, 2, none⟩ = some (.pointer (some ⟨mb, 0, none⟩))) (first | exact ⟨y0.1, y1.1, y2.1, c2.1⟩ | exact ⟨m0.1, m1.1, m2.1, e2.1⟩)
      (first
        | (go_at_call 75; refine c_gather s2d rd.out hkz2.out hb.out ta tl 0 16 (by omega) (by omega) (fun h => absurd hg1.out h) ?_; intro _ w3 v3 h3 l3 own3 hl3 s3; have m0 := s3.cel Z 0 0 rfl; have m1 := s3.cel Z 0 1 rfl; have m2 := s3.cel Z 0 2 rfl; have e2 := s3.cel bb 0 2 blkV_c2; simp only [Nat.zero_add] at m0 m1 m2 e2))
    all_goals
      replace hl3 := aside hl3
      rw [hds.out] at own3
      have rd3 := aside (own3.rd hdb.out)
      clear y0 y1 y2 c2 s2 s2d own3 hg1
      go_wp2_with fail
      refine c_parse s3 (fun w' t => (Sat.pull (h := h3) t).head) rd3.out (fun h => absurd h (by have := hdl.out; omega)) ?_
      intro _ w4 s4
      rw [hKD.out, hSC.out]
      have s5 := s4.alloc (c := [.int .u32 KD, .int .u64 SC]) (t := 77)
      obtain ⟨V, hV⟩ : ∃ V, w4.heap.size = V := ⟨_, rfl⟩
      rw [hV] at s5
      have y0 := s5.cel Z 0 0 rfl
      have y1 := s5.cel Z 0 1 rfl
      have y2 := s5.cel Z 0 2 rfl
      simp only [Nat.zero_add] at y0 y1 y2
      have z0 := s5.cel V 0 0 rfl
      have z1 := s5.cel V 0 1 rfl
      simp only [Nat.zero_add] at z0 z1
      have e16 : IntKind.u64.wrap (RS - 16) = RS - 16 := by rw [wrap_u64]; omega
      have e1 : IntKind.u64.wrap (WS - 1) = WS - 1 := by rw [wrap_u64]; omega
      have s5p : Sat W0 _ H (cellsH ⟨bb, 0, none⟩ (blkV rb db mb (bs.map (Value.int .u8)) lv) :: (ramL ⟨mb, 0, none⟩ (r, l3) ++ (diskL ⟨db, 0, none⟩ d ++ (cellsH ⟨V, 0, none⟩ [.int .u32 KD, .int .u64 SC] :: cellsH ⟨Z, 0, none⟩ [.slice B n c, .int .u64 ta, .int .u64 tl] :: hl :: F)))) := s5.wk
      have hk5 := aside (show ∀ w', Sat W0 w' H (cellsH ⟨V, 0, none⟩ [.int .u32 KD, .int .u64 SC] :: cellsH ⟨Z, 0, none⟩ [.slice B n c, .int .u64 ta, .int .u64 tl] :: hl :: F) → Holds w' hp from fun w' t => hk.out _ (Sat.tail1 (Sat.tail1 (Sat.tail1 t))))
      have hrr := aside (show RS - 16 = rsum segs - 16 by rw [hRS.out])
      have hww := aside (show WS - 1 ≤ wsum segs by rw [hWS.out]; omega)
      clear s3 s4 m0 m1 m2 e2 s5
      go_wp2_with fail
      refine c_req bb rb db mb hbl.out hbx.out rd.out s5p hk5.out hb.out hord.out ta tl KD SC (RS - 16) (WS - 1) hscb (by omega) hrr.out (by omega) hww.out ?_
      intro w6 H6 r6 d6 l6 le6 hl6 hm6 hz6 hd6 s6
      replace hl6 := aside ((hl3.out.mono (fun _ _ h => h) (fun _ _ h => h.elim) : LogQ (inSeg false segs) (inSeg true segs) (lgs l) (lgs l3)).trans hl6)
      rw [hQ.out] at hm6 hd6 ⊢
      rw [hST.out, hCT.out]
      have hk6 := aside (show ∀ w', Sat W0 w' H6 F → Holds w' hp from fun w' t => hk.out _ (hsless.out _ _ _ t le6))
      have hb6 := aside (show segs.length ≤ 511 ∧ ∀ x ∈ segs, hasP r6.size x.1 x.2.1 ∧ 0 ≤ x.2.1 by rw [hz6]; exact hb.out)
      replace hm6 := aside hm6
      replace hz6 := aside hz6
      replace hd6 := aside hd6
      replace le6 := aside le6
      clear s5p y0 y1 y2 z0 z1 hk5 hrr hww
      have s6d := s6.drew
      have s7 := (s6.alloc (c := [.int .u8 ST]) (t := 5)).drew
      obtain ⟨Y, hY⟩ : ∃ Y, w6.heap.size = Y := ⟨_, rfl⟩
      rw [hY] at s7
      have p0 := s6d.cel Z 0 0 rfl
      have p1 := s6d.cel Z 0 1 rfl
      have p2 := s6d.cel Z 0 2 rfl
      have p3 := s6d.cel bb 0 2 blkV_c2
      have q0 := s7.cel Z 0 0 rfl
      have q1 := s7.cel Z 0 1 rfl
      have q2 := s7.cel Z 0 2 rfl
      have q3 := s7.cel bb 0 2 blkV_c2
      simp only [Nat.zero_add] at p0 p1 p2 p3 q0 q1 q2 q3
      have rdd : Rd u8E 1 (cellsH ⟨Y, 0, none⟩ [.int .u8 ST]) (.slice (some ⟨Y, 0, none⟩) 1 1) [ST] := Rd.ofCells (xs := [ST]) [] (by intro x hx; simp at hx; subst hx; omega) (by simp) (by omega)
      have hg2 := aside (show WS - 1 ≤ wsum segs ∧ ((([ST] : List Int).length : Nat) : Int) ≤ wsum segs - (WS - 1) by rw [hWS.out]; simp; omega)
      replace rdd := aside rdd
      go_wp2
      go_region_held3 (fun w' => w'.cell? ⟨Z, 0, none⟩ = some (.slice B n c) ∧ w'.cell? ⟨Z, 1, none⟩ = some (.int .u64 ta) ∧ w'.cell? ⟨Z, 2, none⟩ = some (.int .u64 tl) ∧ w'.cell? ⟨bb, 2, none⟩ = some (.pointer (some ⟨mb, 0, none⟩))) (first | exact ⟨p0.1, p1.1, p2.1, p3.1⟩ | exact ⟨q0.1, q1.1, q2.1, q3.1⟩ | exact ⟨m0.1, m1.1, m2.1, m3.1⟩)
        (first
          | (go_at_call 78; refine c_scatter s7 rd.out rdd.out (fun w' t => ⟨hk6.out _ (Sat.wk t), t.head⟩) hb6.out ta tl (WS - 1) (by omega) (fun h => absurd hg2.out h) ?_; intro _ w8 r8 l8 hm8 hz8 hl8 s8; have m0 := s8.cel Z 0 0 rfl; have m1 := s8.cel Z 0 1 rfl; have m2 := s8.cel Z 0 2 rfl; have m3 := s8.cel bb 0 2 blkV_c2; simp only [Nat.zero_add] at m0 m1 m2 m3))
      all_goals
        replace hl8 := aside (hl6.out.trans (hl8.mono (fun _ _ h => h.elim) (fun _ _ h => h)))
        replace hm8 : Aside (r8.mem = scP (WS - 1) 1 segs 0 [ST] Q.mem) := aside (by rw [← hm6.out]; exact hm8)
        replace hz8 := aside (hz8.trans hz6.out)
        clear s6 s6d s7 p0 p1 p2 p3 q0 q1 q2 q3 m0 m1 m2 m3 rdd hg2
        have ew1 : IntKind.u32.wrap (CT + 1) = CT + 1 := by rw [wrap_u32]; omega
        obtain ⟨L, LC, LL, rfl, lnc, lc2⟩ : ∃ L LC LL, lv = .slice L LL LC ∧ LL = ls.length ∧ LC ≤ 9223372036854775807 := own.out.shape
        have b23 := s8.cel bb 0 23 (blkV_c23 hnm.out)
        have f0 := s8.cel V 0 0 rfl
        have f1 := s8.cel V 0 1 rfl
        simp only [Nat.zero_add] at b23 f0 f1
        by_cases hfull : LL < 4096
        · have hfull2 : (LL : Int) < 4096 := by omega
          have t00 := Sat.pull (h := hl) s8
          have t0 := (Sat.pull (h := hl) s8).alloc (c := [.int .u32 KD, .int .u64 SC, .int .u8 ST, .int .u32 (CT + 1)]) (t := 79)
          have u23 := t0.cel bb 0 23 (blkV_c23 hnm.out)
          have u0 := t0.cel V 0 0 rfl
          have u1 := t0.cel V 0 1 rfl
          simp only [Nat.zero_add] at u23 u0 u1
          have own9 := own.out
          rw [← lnc] at own9
          replace own9 := aside own9
          replace lnc := aside lnc
          go_wp2
          go_region_law ((refine step_append rfl (.tmp 70) (.tmp 76) 73 73 79 rfl i0 (.agg #[.int .u32 0, .int .u64 0, .int .u8 0, .int .u32 0]) 4 24 Try.underlying73 Try.underlying73 hi hz hs1 hb1 rfl (by decide) rfl own9.out (Sat.pull (h := hl) (t00.drew.alloc)) rfl (us := [.int .u32 KD, .int .u64 SC, .int .u8 ST, .int .u32 (CT + 1)]) rfl row_done (by simp [Value.oneCell']) (by omega) (by omega) ?_; intro A2 cap2 w9 h9 ho hs; have e23 := hs.cel bb 0 23 (blkV_c23 hnm.out); rw [Nat.zero_add] at e23))
          all_goals
            try simp only [Act.put, List.getElem_toArray, List.getElem_cons_succ, List.getElem_cons_zero, List.setIfInBounds_toArray, List.set_cons_succ, List.set_cons_zero]
            have s9 := (hs.pc bb 0).s 23 (by rw [blkV_len hnm.out]; omega) (.slice A2 (LL + 1) cap2)
            rw [blkV_set23 hnm.out] at s9
            go_wp2
            have hlg : logP ls (some (KD, SC, ST, CT + 1)) = ls ++ [(KD, SC, ST, CT + 1)] := if_pos (by rw [← lnc.out]; exact hfull)
            exact k.out _ H6 r8 d6 (.slice A2 (LL + 1) cap2) h9 l8 le6.out hl8.out hm8.out hz8.out hd6.out (by show OwnS 4 _ (logP ls (some (KD, SC, ST, CT + 1))).length (encD (logP ls (some (KD, SC, ST, CT + 1)))) _; rw [hlg, encD_snoc, List.length_append, ← lnc.out]; exact ho) s9.wk
        · have hfull2 : ¬ (LL : Int) < 4096 := by omega
          have hlg := aside (show logP ls (some (KD, SC, ST, CT + 1)) = ls from if_neg (by rw [← lnc]; exact hfull))
          replace lnc := aside lnc
          go_wp2
          exact k.out _ H6 r8 d6 _ hl l8 le6.out hl8.out hm8.out hz8.out hd6.out (by show OwnS 4 _ (logP ls (some (KD, SC, ST, CT + 1))).length (encD (logP ls (some (KD, SC, ST, CT + 1)))) _; rw [hlg.out]; exact own.out) s8.wk
end
end Go.Proofs.Ytiibiamobkhlbaa

namespace Go.Proofs.Ytiibiamobkhlbaa
open Go.RowKit
set_option linter.unusedVariables false
set_option linter.unusedSimpArgs false

/-- a name's twenty bytes -/
def nmB (str : ByteArray) : List Int := (str.data.toList.take 20).map (fun x => (x.toNat : Int)) ++ List.replicate (20 - (str.data.toList.take 20).length) 0
theorem nmB_len (str : ByteArray) : (nmB str).length = 20 := by
  unfold nmB
  have : (str.data.toList.take 20).length ≤ 20 := by rw [List.length_take]; omega
  simp only [List.length_append, List.length_map, List.length_replicate]
  omega
theorem nmB_bd (str : ByteArray) : ∀ x ∈ nmB str, 0 ≤ x ∧ x ≤ 255 := by
  intro x hx
  unfold nmB at hx
  rcases List.mem_append.1 hx with h | h
  · obtain ⟨y, _, rfl⟩ := List.mem_map.1 h
    have := y.toNat_lt
    omega
  · rw [List.mem_replicate] at h; omega
theorem nameV_nmB (str : ByteArray) : nameV str = (nmB str).map (Value.int .u8) := by
  unfold nameV nmB strV
  rw [List.map_append, List.map_map, List.map_replicate, List.length_map]
  rfl

theorem rdB_putS (m : Int → Int) (a : Int) (bs : List Int) : rdB (putB m a bs) a bs.length = bs := by
  apply List.ext_getElem?
  intro i
  by_cases h : i < bs.length
  · rw [rdB_get _ _ _ _ h, List.getElem?_eq_getElem h]
    unfold putB
    rw [if_pos (by omega), show (a + (i : Int) - a).toNat = i by omega, List.getElem?_eq_getElem h]
    rfl
  · rw [List.getElem?_eq_none (by rw [rdB_len]; omega), List.getElem?_eq_none (by omega)]
theorem rdB_putO (m : Int → Int) (a b : Int) (bs : List Int) (n : Nat) (h : b + n ≤ a ∨ a + bs.length ≤ b) : rdB (putB m a bs) b n = rdB m b n := by
  refine rdB_same b n fun i hi => ?_
  exact putB_out m a bs _ (by omega)
/-- bytes that lie within what was put -/
theorem rdB_putI (m : Int → Int) (a : Int) (bs : List Int) (n : Nat) (h : n ≤ bs.length) : rdB (putB m a bs) a n = bs.take n := by
  apply List.ext_getElem?
  intro i
  by_cases hi : i < n
  · rw [rdB_get _ _ _ _ hi, List.getElem?_take, if_pos hi, List.getElem?_eq_getElem (by omega)]
    unfold putB
    rw [if_pos (by omega), show (a + (i : Int) - a).toNat = i by omega, List.getElem?_eq_getElem (by omega)]
    rfl
  · rw [List.getElem?_eq_none (by rw [rdB_len]; omega), List.getElem?_eq_none (by rw [List.length_take]; omega)]
theorem rdB_take (m : Int → Int) (a : Int) (i n : Nat) (h : i ≤ n) : (rdB m a n).take i = rdB m a i := by
  apply List.ext_getElem?
  intro j
  by_cases hj : j < i
  · rw [List.getElem?_take, if_pos hj, rdB_get _ _ _ _ (by omega), rdB_get _ _ _ _ hj]
  · rw [List.getElem?_eq_none (by rw [List.length_take, rdB_len]; omega), List.getElem?_eq_none (by rw [rdB_len]; omega)]
theorem ofB_leb8n {x : Int} (h0 : 0 ≤ x) (h1 : x ≤ 18446744073709551615) : ofB (leb x 8) = x := by
  obtain ⟨k, rfl⟩ := Int.eq_ofNat_of_zero_le h0
  have := ofB_leb 8 k
  rw [this, Nat.mod_eq_of_lt]
  have e : 256 ^ 8 = 18446744073709551616 := by decide
  omega

def bkO : List SegM := [(2147483648, 16, false), (2147483904, 512, false), (2147487488, 1, true)]
def bkI : List SegM := [(2147483648, 16, false), (2147487744, 512, true), (2147487488, 1, true)]
theorem rdB_none (m : Int → Int) (a : Int) : rdB m a 0 = [] := rfl
theorem rdB_leb (m : Int → Int) (a x : Int) : rdB (putB m a (leb x 8)) a 8 = leb x 8 := by
  have := rdB_putS m a (leb x 8)
  rw [leb_len] at this
  exact this
theorem bkO_ga16 (m : Int → Int) : gaP 0 16 bkO 0 m = rdB m 2147483648 16 := by
  simp [bkO, gaP, pieceP, Int.min_def, Int.max_def, rdB_none]
theorem bkI_ga16 (m : Int → Int) : gaP 0 16 bkI 0 m = rdB m 2147483648 16 := by
  simp [bkI, gaP, pieceP, Int.min_def, Int.max_def, rdB_none]
theorem bkO_ga512 (m : Int → Int) : gaP 16 512 bkO 0 m = rdB m 2147483904 512 := by
  simp [bkO, gaP, pieceP, Int.min_def, Int.max_def, rdB_none]
theorem bkO_sc (m : Int → Int) (x : Int) : scP 0 1 bkO 0 [x] m = putB m 2147487488 [x] := by
  simp [bkO, scP, pieceP, Int.min_def, Int.max_def, putB_nil]
theorem bkI_sc1 (m : Int → Int) (ds : List Int) (h : ds.length = 512) : scP 0 512 bkI 0 ds m = putB m 2147487744 ds := by
  have h2 : ds.take 512 = ds := List.take_of_length_le (by omega)
  simp [bkI, scP, pieceP, Int.min_def, Int.max_def, putB_nil, h2]
theorem bkI_sc2 (m : Int → Int) (x : Int) : scP 512 1 bkI 0 [x] m = putB m 2147487488 [x] := by
  simp [bkI, scP, pieceP, Int.min_def, Int.max_def, putB_nil]
theorem bkO_sums : rsum bkO = 528 ∧ wsum bkO = 1 := by decide
theorem bkI_sums : rsum bkI = 16 ∧ wsum bkI = 513 := by decide

def bkM3 (sec : Int) (data : List Int) : Int → Int := putB (putB (putB (fun _ => 0) 2147483648 [1]) 2147483656 (leb sec 8)) 2147483904 data
theorem bkM3_k {sec : Int} {data : List Int} (hd : data.length ≤ 64) : ofB ((gaP 0 16 bkO 0 (bkM3 sec data)).take 4) = 1 := by
  rw [bkO_ga16, rdB_take _ _ _ _ (by omega)]
  unfold bkM3
  rw [rdB_putO _ _ _ _ _ (.inl (by omega)), rdB_putO _ _ _ _ _ (.inl (by omega))]
  decide
theorem bkM3_s {sec : Int} {data : List Int} (h : 0 ≤ sec ∧ sec ≤ 18446744073709551615) (hd : data.length ≤ 64) : ofB (((gaP 0 16 bkO 0 (bkM3 sec data)).take 16).drop 8) = sec := by
  rw [bkO_ga16, List.take_of_length_le (by rw [rdB_len]; omega)]
  have e : (rdB (bkM3 sec data) 2147483648 16).drop 8 = rdB (bkM3 sec data) 2147483656 8 := by rfl
  rw [e]
  unfold bkM3
  rw [rdB_putO _ _ _ _ _ (.inl (by omega)), rdB_leb]
  exact ofB_leb8n h.1 h.2

/-- the first request -/
theorem back_out {sec : Int} {data : List Int} {k : DkP} {bs : List Int} (h : 0 ≤ sec ∧ sec ≤ 18446744073709551615) (hd : data.length ≤ 64) (hc : k.count = 4) (hl : k.locked = false) (hf : k.fault = 0) :
    useP bkO (bkM3 sec data) k bs = if sec < 4 then ⟨1, putB (bkM3 sec data) 2147487488 [0], k.ask.put (putB k.mem (512 * sec) (rdB (bkM3 sec data) 2147483904 512)), some (1, sec, 0, 1)⟩ else ⟨1, putB (bkM3 sec data) 2147487488 [1], k.ask, some (1, sec, 1, 1)⟩ := by
  unfold useP
  rw [bkO_sums.1, bkO_sums.2, if_neg (by omega), bkM3_k hd, bkM3_s h hd]
  have hw : wrK k sec (528 - 16) = if sec < 4 then 0 else 131 := by
    unfold wrK pieceC
    rw [hf, hl, hc]
    simp
    by_cases h4 : sec < 4
    · rw [if_pos h4, if_pos (by omega)]
    · rw [if_neg h4, if_neg (by omega)]
  have hr : reqP bkO (bkM3 sec data) k bs 1 sec (528 - 16) (1 - 1) = if sec < 4 then ⟨0, 0, bkM3 sec data, k.ask.put (putB k.mem (512 * sec) (gaP 16 512 bkO 0 (bkM3 sec data)))⟩ else ⟨1, 0, bkM3 sec data, k.ask⟩ := by
    unfold reqP
    rw [if_neg (by decide), if_pos rfl, if_pos (by unfold sizedN; omega), hw]
    by_cases h4 : sec < 4
    · rw [if_pos h4, if_pos rfl, if_pos h4]; rfl
    · rw [if_neg h4, if_neg (by decide), if_neg h4]
  rw [hr]
  by_cases h4 : sec < 4
  · simp only [if_pos h4]
    rw [bkO_ga512]
    rfl
  · simp only [if_neg h4]
    rfl

def bkM5 (sec : Int) (data : List Int) (st : Int) : Int → Int := putB (putB (bkM3 sec data) 2147487488 [st]) 2147483648 [0]
theorem bkM5_k {sec : Int} {data : List Int} {st : Int} (hd : data.length ≤ 64) : ofB ((gaP 0 16 bkI 0 (bkM5 sec data st)).take 4) = 0 := by
  rw [bkI_ga16, rdB_take _ _ _ _ (by omega)]
  have e : rdB (bkM5 sec data st) 2147483648 4 = [0, 0, 0, 0] := by
    have h3 : ∀ x : Int, 2147483648 < x → x < 2147483656 → bkM5 sec data st x = 0 := by
      intro x h1 h2
      unfold bkM5 bkM3
      rw [putB_out _ _ _ _ (.inr (by simp; omega)), putB_out _ _ _ _ (.inl (by omega)), putB_out _ _ _ _ (.inl (by omega)), putB_out _ _ _ _ (.inl (by omega)), putB_out _ _ _ _ (.inr (by simp; omega))]
    have h0 : bkM5 sec data st 2147483648 = 0 := rfl
    show [bkM5 sec data st 2147483648, bkM5 sec data st (2147483648 + 1), bkM5 sec data st (2147483648 + 1 + 1), bkM5 sec data st (2147483648 + 1 + 1 + 1)] = _
    rw [h0, h3 _ (by omega) (by omega), h3 _ (by omega) (by omega), h3 _ (by omega) (by omega)]
  rw [e]
  decide
theorem bkM5_s {sec : Int} {data : List Int} {st : Int} (h : 0 ≤ sec ∧ sec ≤ 18446744073709551615) (hd : data.length ≤ 64) : ofB (((gaP 0 16 bkI 0 (bkM5 sec data st)).take 16).drop 8) = sec := by
  rw [bkI_ga16, List.take_of_length_le (by rw [rdB_len]; omega)]
  have e : (rdB (bkM5 sec data st) 2147483648 16).drop 8 = rdB (bkM5 sec data st) 2147483656 8 := by rfl
  rw [e]
  unfold bkM5 bkM3
  rw [rdB_putO _ _ _ _ _ (.inr (by simp)), rdB_putO _ _ _ _ _ (.inl (by omega)), rdB_putO _ _ _ _ _ (.inl (by omega)), rdB_leb]
  exact ofB_leb8n h.1 h.2

/-- the second request -/
theorem back_in {sec st : Int} {data : List Int} {k : DkP} {bs : List Int} (h : 0 ≤ sec ∧ sec ≤ 18446744073709551615) (hd : data.length ≤ 64) (hc : k.count = 4) (hf : k.fault = 0) :
    (useP bkI (bkM5 sec data st) k bs).ct = (if sec < 4 then 513 else 1) ∧ (sec < 4 → (useP bkI (bkM5 sec data st) k bs).mem = putB (putB (bkM5 sec data st) 2147487744 (rdB k.mem (512 * sec) 512)) 2147487488 [0]) := by
  unfold useP
  rw [bkI_sums.1, bkI_sums.2, if_neg (by omega), bkM5_k hd, bkM5_s h hd]
  have hw : pieceC k.count sec (513 - 1) = if sec < 4 then 0 else 131 := by
    unfold pieceC
    rw [hc]
    by_cases h4 : sec < 4
    · rw [if_pos h4, if_pos (by decide), if_pos (by omega)]
    · rw [if_neg h4, if_pos (by decide), if_neg (by omega)]
  have hr : reqP bkI (bkM5 sec data st) k bs 0 sec (16 - 16) (513 - 1) = if sec < 4 then ⟨0, 512, putB (bkM5 sec data st) 2147487744 (rdB k.mem (512 * sec) 512), k.ask⟩ else ⟨1, 0, bkM5 sec data st, k.ask⟩ := by
    unfold reqP
    rw [if_pos rfl, if_pos (by unfold sizedN; omega), hw, hf]
    by_cases h4 : sec < 4
    · rw [if_pos h4, if_neg (by simp), if_pos h4]
      have := bkI_sc1 (bkM5 sec data st) (rdB k.mem (512 * sec) 512) (rdB_len _ _ _)
      rw [show (513 - 1 : Int).toNat = 512 from rfl, show (513 - 1 : Int) = 512 from rfl, this]
    · rw [if_neg h4, if_pos (by simp), if_neg h4]
  rw [hr]
  refine ⟨?_, fun h4 => ?_⟩
  · by_cases h4 : sec < 4
    · simp only [if_pos h4]; rfl
    · simp only [if_neg h4]; rfl
  · simp only [if_pos h4]
    rw [show (513 - 1 : Int) = 512 from rfl, bkI_sc2]

/-- what is read in the end -/
theorem back_end {sec st : Int} {data : List Int} {dm : Int → Int} (h : 0 ≤ sec) (hd : data.length ≤ 64) :
    rdB (putB (putB (bkM5 sec data st) 2147487744 (rdB (putB dm (512 * sec) (rdB (bkM3 sec data) 2147483904 512)) (512 * sec) 512)) 2147487488 [0]) 2147487744 data.length = data := by
  have e1 : rdB (putB dm (512 * sec) (rdB (bkM3 sec data) 2147483904 512)) (512 * sec) 512 = rdB (bkM3 sec data) 2147483904 512 := by
    have := rdB_putS dm (512 * sec) (rdB (bkM3 sec data) 2147483904 512)
    rw [rdB_len] at this
    exact this
  rw [e1, rdB_putO _ _ _ _ _ (.inr (by simp)), rdB_putI _ _ _ _ (by rw [rdB_len]; omega), rdB_take _ _ _ _ (by omega)]
  unfold bkM3
  exact rdB_putS _ _ _
end Go.Proofs.Ytiibiamobkhlbaa
