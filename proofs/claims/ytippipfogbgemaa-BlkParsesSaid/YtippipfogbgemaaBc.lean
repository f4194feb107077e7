/-
  BLK: a string's bytes copied to a place of an object; the device as it begins.
-/
import Derived.Test.YtippipfogbgemaaBb
import Derived.Test.YtippipfogbgemaaVdb
import Derived.Lib.BufferWrite
namespace Go.Proofs.Ytippipfogbgemaa
open Go.RowKit
set_option linter.unusedVariables false
set_option linter.unusedSimpArgs false

/-- the bytes of a string, n at most -/
def strV (s : ByteArray) (n : Nat) : List Value := (s.data.toList.take n).map fun x => Value.int .u8 (x.toNat : Int)
theorem strV_len (s : ByteArray) (n : Nat) : (strV s n).length = min s.size n := by
  unfold strV; rw [List.length_map, List.length_take, ← Lib.size_eq, Nat.min_comm]
theorem run_copyStr {P : Program} {W0 w : World} {H : Hp} {F : List Hp} (dT sT ty elem : TypeId) (hu : P.underlying dT = some (.slice elem)) (hz : (P.info? elem).map (·.size) = some 1)
    {b o : Nat} {vs : List Value} (s : Sat W0 w H (cellsH ⟨b, o, none⟩ vs :: F)) (off dl dc : Nat) (str : ByteArray) (hfit : off + dl ≤ vs.length) :
    ∃ w', (Builtin.copy_ #[dT, sT] ty #[.slice (some ⟨b, o + off, none⟩) dl dc, .string str]).run P w = .ok (goInt ((min str.size dl : Nat) : Int)) w' ∧ Sat W0 w' H (cellsH ⟨b, o, none⟩ (vs.take off ++ strV str dl ++ vs.drop (off + (strV str dl).length)) :: F) := by
  have hl := strV_len str dl
  obtain ⟨w', hr, hs⟩ := run_store_row P (a := ⟨b, o, none⟩) rfl (strV str dl) off 0 vs w s (by rw [hl]; omega) (by
    intro x hx
    obtain ⟨y, _, rfl⟩ := List.mem_map.1 hx
    rfl)
  refine ⟨w', ?_, by simpa using hs⟩
  cases hq : P.info? elem with
  | none => simp [hq] at hz
  | some i =>
    have hi : i.size = 1 := by simpa [hq] using hz
    have htk : List.take (min str.size dl) (List.map (fun b : UInt8 => Value.int IntKind.u8 (b.toNat : Int)) str.data.toList) = strV str dl := by
      unfold strV
      rw [← List.map_take]
      congr 1
      rw [Lib.size_eq]
      rw [Nat.min_comm, ← List.take_take, List.take_length]
    simp [Builtin.copy_, run_underlying hu, Builtin.lenOf, Builtin.firstCells, sizeOf, typeInfo, hq, hi]
    rw [show str.size.min dl = min str.size dl from rfl, htk]
    rw [show Sem.run P (storeCells { block := b, off := o + off } (strV str dl)) w = _ from hr]
    rfl
theorem wpList_copyStr {P : Program} {ops : Array Oper} {rest : List Oper} {oo : Oper} {a : Act} {Q : Exit → Act → World → Prop} {W0 w : World} {H : Hp} {A F : List Hp} (hgd : oo.guard = none) (d s : Operand) (dT sT elem : TypeId)
    (ho : oo.op = .call { callee := .builtin .copy, args := #[d, s], argTypes := #[dT, sT] }) (hu : P.underlying dT = some (.slice elem)) (hz : (P.info? elem).map (·.size) = some 1)
    {b o : Nat} {vs : List Value} (st : Sat W0 w H A) [fr : FrH (cellsH ⟨b, o, none⟩ vs) A F] (off : Nat) {dl dc : Nat} {str : ByteArray} (hd : a.eval d = .slice (some ⟨b, o + off, none⟩) dl dc) (hx : a.eval s = .string str) (hfit : off + dl ≤ vs.length)
    (k : ∀ w', Sat W0 w' H (cellsH ⟨b, o, none⟩ (vs.take off ++ strV str dl ++ vs.drop (off + (strV str dl).length)) :: F) → wpList P ops Q rest (a.put oo.dst (goInt ((min str.size dl : Nat) : Int))) w') : wpList P ops Q (oo :: rest) a w := by
  obtain ⟨w', hr, hs'⟩ := run_copyStr (P := P) dT sT oo.type elem hu hz (st.pull (h := cellsH ⟨b, o, none⟩ vs)) off dl dc str hfit
  refine wpList_run hgd (v := goInt ((min str.size dl : Nat) : Int)) (w' := w') ?_ (k w' hs')
  unfold execOp
  rw [ho]
  simp only [resolve, invoke]
  simp [builtin, hd, hx, hr]

def offB (l : Bool) : Int := if l then 5100274208 else 5100274176
/-- the device: its registers, its disk, its memory, its name (twenty cells), its log -/
def nameV (str : ByteArray) : List Value := strV str 20 ++ List.replicate (20 - (strV str 20).length) (.int .u8 0)
theorem nameV_len (str : ByteArray) : (nameV str).length = 20 := by
  unfold nameV; rw [List.length_append, List.length_replicate, strV_len]; omega
def blkV (rb : Nat) (db mb : Nat) (nm : List Value) (log : Value) : List Value := .pointer (some ⟨rb, 0, none⟩) :: .pointer (some ⟨db, 0, none⟩) :: .pointer (some ⟨mb, 0, none⟩) :: (nm ++ [log])

theorem blkV_copy {rb db mb : Nat} {str : ByteArray} {log : Value} : List.take 3 (.pointer (some ⟨rb, 0, none⟩) :: .pointer (some ⟨db, 0, none⟩) :: .pointer (some ⟨mb, 0, none⟩) :: (List.replicate 20 (Value.int .u8 0) ++ [log])) ++ strV str 20 ++ List.drop (3 + (strV str 20).length) (.pointer (some ⟨rb, 0, none⟩) :: .pointer (some ⟨db, 0, none⟩) :: .pointer (some ⟨mb, 0, none⟩) :: (List.replicate 20 (Value.int .u8 0) ++ [log])) = blkV rb db mb (nameV str) log := by
  have h := strV_len str 20
  unfold blkV nameV
  generalize strV str 20 = S at *
  rw [show 3 + S.length = S.length + 1 + 1 + 1 by omega]
  simp only [List.drop_succ_cons, List.take_succ_cons, List.take_zero]
  rw [List.drop_append_of_le_length (by simp; omega), List.drop_replicate]
  simp

section
variable {R : Ending → World → Prop} {W0 w : World} {H : Hp} {A F : List Hp}

set_option maxRecDepth 100000 in
set_option maxHeartbeats 4000000 in
theorem c_blkNew (s : Sat W0 w H A) {db : Nat} {d : DiskG} [fr : FrK (κ := Addr) (ρ := fun _ => DiskG) diskL ⟨db, 0, none⟩ A d F] (mb : Nat) (str : ByteArray)
    (k : ∀ w' bb rb qb sv h, OwnS 1 sv 8 ((leb d.count 8).map (Value.int .u8)) h → Sat W0 w' H (cellsH ⟨bb, 0, none⟩ (blkV rb db mb (nameV str) (.slice none 0 0)) :: cellsH ⟨rb, 0, none⟩ [.int .u32 2, .int .u64 (offB d.locked), .int .u64 0, .int .u32 0, .int .u32 0, .int .u32 0, .slice (some ⟨qb, 0, none⟩) 1 1, .int .u32 0, .int .u32 0, .int .u32 0, sv] :: cellsH ⟨qb, 0, none⟩ q0L :: h :: (diskL ⟨db, 0, none⟩ d ++ F)) → R (.returned (.pointer (some ⟨bb, 0, none⟩))) w') :
    Calls Try.prog 39 #[.pointer (some ⟨mb, 0, none⟩), .pointer (some ⟨db, 0, none⟩), .string str] w R := by
  have s1 := s.front (mk := diskL) (k := ⟨db, 0, none⟩)
  have hcn := d.hcount
  have o1 : bits BinOp.or IntKind.u64 805306880 32 = 805306912 := by decide
  have o2 : bits BinOp.or IntKind.u64 805306912 4294967296 = 5100274208 := by decide
  have o3 : bits BinOp.or IntKind.u64 805306880 4294967296 = 5100274176 := by decide
  replace k := aside k
  clear s fr
  go_enter Try.func39, Try.ntmps39
  go_wp2_with fail
  refine c_diskLocked s1 ?_
  obtain ⟨C, hC⟩ : ∃ y, d.count = y := ⟨_, rfl⟩
  rw [hC] at k hcn
  have hcb := aside (show 0 ≤ C ∧ C ≤ 18446744073709551615 by omega)
  replace hC := aside hC
  clear hcn
  cases hlk : d.locked with
  | true =>
    rw [hlk, show offB true = 5100274208 from rfl] at k
    go_wp2_with fail
    refine c_diskCount s1 ?_
    rw [hC.out]
    go_wp2_with fail
    refine c_wordBytes s1 C hcb.out 8 8 rfl (by omega) ?_
    intro w2 v2 h2 own2 s2
    have rd2 := aside (OwnS.rd own2 (leb_bd C 8))
    clear s1
    go_wp2_with fail
    refine c_vmmioNew s2 o2 rd2.out s2.head (by rw [leb_len]; omega) ?_
    intro w3 rb qb sv h3 own3 s3
    rw [leb_len] at own3
    have s4 := s3.alloc (c := [.pointer (some ⟨rb, 0, none⟩), .pointer (some ⟨db, 0, none⟩), .pointer (some ⟨mb, 0, none⟩), .int .u8 0, .int .u8 0, .int .u8 0, .int .u8 0, .int .u8 0, .int .u8 0, .int .u8 0, .int .u8 0, .int .u8 0, .int .u8 0, .int .u8 0, .int .u8 0, .int .u8 0, .int .u8 0, .int .u8 0, .int .u8 0, .int .u8 0, .int .u8 0, .int .u8 0, .int .u8 0, .slice none 0 0]) (t := 185)
    obtain ⟨Z, hZ⟩ : ∃ Z, w3.heap.size = Z := ⟨_, rfl⟩
    rw [hZ] at s4
    have s4' : Sat W0 _ H (cellsH ⟨Z, 0, none⟩ (.pointer (some ⟨rb, 0, none⟩) :: .pointer (some ⟨db, 0, none⟩) :: .pointer (some ⟨mb, 0, none⟩) :: (List.replicate 20 (Value.int .u8 0) ++ [.slice none 0 0])) :: _) := s4
    have hz8 : (Try.prog.info? 5).map (·.size) = some 1 := by kernel_rfl
    clear s2 s3 rd2 s4
    go_wp2_with (refine wpList_copyStr (b := Z) (o := 0) (str := str) (dl := 20) (dc := 20) (vs := .pointer (some ⟨rb, 0, none⟩) :: .pointer (some ⟨db, 0, none⟩) :: .pointer (some ⟨mb, 0, none⟩) :: (List.replicate 20 (Value.int .u8 0) ++ [.slice none 0 0])) rfl (.tmp 25) (.tmp 26) 36 9 5 rfl Try.underlying36 hz8 s4' 3 (by rfl) (by rfl) (by simp) ?_; intro w5 s5)
    rw [blkV_copy] at s5
    exact k.out _ Z rb qb sv h3 own3 s5.wk
  | false =>
    rw [hlk, show offB false = 5100274176 from rfl] at k
    go_wp2_with fail
    refine c_diskCount s1 ?_
    rw [hC.out]
    go_wp2_with fail
    refine c_wordBytes s1 C hcb.out 8 8 rfl (by omega) ?_
    intro w2 v2 h2 own2 s2
    have rd2 := aside (OwnS.rd own2 (leb_bd C 8))
    clear s1
    go_wp2_with fail
    refine c_vmmioNew s2 o3 rd2.out s2.head (by rw [leb_len]; omega) ?_
    intro w3 rb qb sv h3 own3 s3
    rw [leb_len] at own3
    have s4 := s3.alloc (c := [.pointer (some ⟨rb, 0, none⟩), .pointer (some ⟨db, 0, none⟩), .pointer (some ⟨mb, 0, none⟩), .int .u8 0, .int .u8 0, .int .u8 0, .int .u8 0, .int .u8 0, .int .u8 0, .int .u8 0, .int .u8 0, .int .u8 0, .int .u8 0, .int .u8 0, .int .u8 0, .int .u8 0, .int .u8 0, .int .u8 0, .int .u8 0, .int .u8 0, .int .u8 0, .int .u8 0, .int .u8 0, .slice none 0 0]) (t := 185)
    obtain ⟨Z, hZ⟩ : ∃ Z, w3.heap.size = Z := ⟨_, rfl⟩
    rw [hZ] at s4
    have s4' : Sat W0 _ H (cellsH ⟨Z, 0, none⟩ (.pointer (some ⟨rb, 0, none⟩) :: .pointer (some ⟨db, 0, none⟩) :: .pointer (some ⟨mb, 0, none⟩) :: (List.replicate 20 (Value.int .u8 0) ++ [.slice none 0 0])) :: _) := s4
    have hz8 : (Try.prog.info? 5).map (·.size) = some 1 := by kernel_rfl
    clear s2 s3 rd2 s4
    go_wp2_with (refine wpList_copyStr (b := Z) (o := 0) (str := str) (dl := 20) (dc := 20) (vs := .pointer (some ⟨rb, 0, none⟩) :: .pointer (some ⟨db, 0, none⟩) :: .pointer (some ⟨mb, 0, none⟩) :: (List.replicate 20 (Value.int .u8 0) ++ [.slice none 0 0])) rfl (.tmp 25) (.tmp 26) 36 9 5 rfl Try.underlying36 hz8 s4' 3 (by rfl) (by rfl) (by simp) ?_; intro w5 s5)
    rw [blkV_copy] at s5
    exact k.out _ Z rb qb sv h3 own3 s5.wk
end
end Go.Proofs.Ytippipfogbgemaa
