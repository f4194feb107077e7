/-
  RingBytes returns true for every descriptor; no condition.
-/
import Derived.Test.YtmdhhidcbcgbjaaVr
import Derived.Test.YtmdhhidcbcgbjaaVc
import Derived.Deep.RegionHeld3
namespace Go.Proofs.Ytmdhhidcbcgbjaa
open Go.RowKit
set_option linter.unusedVariables false

theorem opn_desc : Opn Try.prog 35 descE :=
  opn_struct Try.underlying35 fun H enc w fuel cs hlen hf => by
    obtain ⟨y0, h0⟩ := hf 0 _ rfl
    obtain ⟨y1, h1⟩ := hf 1 _ rfl
    obtain ⟨y2, h2⟩ := hf 2 _ rfl
    obtain ⟨y3, h3⟩ := hf 3 _ rfl
    obtain ⟨a, ha, ha1⟩ := opn_u64 Try.underlying32 H enc w fuel _ y0.1 y0.2 h0
    obtain ⟨l, hl, hl1⟩ := opn_u32 Try.underlying33 H enc w fuel _ y1.1 y1.2 h1
    obtain ⟨f, hff, hf1⟩ := opn_u16 Try.underlying22 H enc w fuel _ y2.1 y2.2 h2
    obtain ⟨n, hn, hn1⟩ := opn_u16 Try.underlying22 H enc w fuel _ y3.1 y3.2 h3
    have e : Try.prog.cellsOf 35 = 4 := by kernel_rfl
    have e1 : Try.prog.cellsOf 32 = 1 := by kernel_rfl
    have e2 : Try.prog.cellsOf 33 = 1 := by kernel_rfl
    have e3 : Try.prog.cellsOf 22 = 1 := by kernel_rfl
    rw [e] at hlen
    obtain ⟨c0, c1, c2, c3, rfl⟩ := len4 hlen
    rw [e1] at ha
    rw [e2] at hl
    rw [e3] at hff hn
    obtain rfl : c0 = .int .u64 a := (List.cons.inj ha).1
    obtain rfl : c1 = .int .u32 l := (List.cons.inj hl).1
    obtain rfl : c2 = .int .u16 f := (List.cons.inj hff).1
    obtain rfl : c3 = .int .u16 n := (List.cons.inj hn).1
    exact ⟨⟨a, l, f, n, ha1, hl1, hf1, hn1⟩, rfl⟩

set_option maxRecDepth 100000 in
set_option maxHeartbeats 4000000 in
theorem law_RingBytes (W : World) {cs0 : Array Value} {x0 : DescM} (e0 : descE (look W) x0 cs0.toList) :
    Calls Try.prog 5 #[.agg cs0] W fun e w' => e = .returned (.bool true) ∧ Below W.heap.size W w' := by
  have e1 : cs0 = #[.int .u64 x0.addr, .int .u32 x0.len, .int .u16 x0.flags, .int .u16 x0.next] := by
    apply Array.ext'; exact e0
  subst e1
  clear e0
  have s0 := (Sat.start W).alloc (c := [.int .u64 x0.addr, .int .u32 x0.len, .int .u16 x0.flags, .int .u16 x0.next]) (t := 35)
  go_enter Try.func5, Try.ntmps5
  go_wp2
  go_region_held3 (fun w' => w'.cell? ⟨W.heap.size, 0, none⟩ = some (.int .u64 x0.addr) ∧ w'.cell? ⟨W.heap.size, 1, none⟩ = some (.int .u32 x0.len) ∧ w'.cell? ⟨W.heap.size, 2, none⟩ = some (.int .u16 x0.flags) ∧ w'.cell? ⟨W.heap.size, 3, none⟩ = some (.int .u16 x0.next))
    (first
      | exact ⟨(s0.cel W.heap.size 0 0 rfl).1, (s0.cel W.heap.size 0 1 rfl).1, (s0.cel W.heap.size 0 2 rfl).1, (s0.cel W.heap.size 0 3 rfl).1⟩
      | exact ⟨(s1.cel W.heap.size 0 0 rfl).1, (s1.cel W.heap.size 0 1 rfl).1, (s1.cel W.heap.size 0 2 rfl).1, (s1.cel W.heap.size 0 3 rfl).1⟩
      | exact ⟨(s2.cel W.heap.size 0 0 rfl).1, (s2.cel W.heap.size 0 1 rfl).1, (s2.cel W.heap.size 0 2 rfl).1, (s2.cel W.heap.size 0 3 rfl).1⟩
      | exact ⟨(s3.cel W.heap.size 0 0 rfl).1, (s3.cel W.heap.size 0 1 rfl).1, (s3.cel W.heap.size 0 2 rfl).1, (s3.cel W.heap.size 0 3 rfl).1⟩)
    (first
      | (go_at_call 15; refine c_ringAwake s0.drew ?_; intro w1 s1)
      | (go_at_call 23; refine c_ringBytes s1 x0 ?_; intro w2 v2 h2 o2 s2)
      | (go_at_call 24; refine c_refRingBytes s2 x0 ?_; intro w3 v3 h3 o3 s3)
      | (go_at_call 22; refine c_Bytes (s3.pull (h := h2)).head (s3.pull (h := h3)).head (o2.rd x0.bytes_bd) (o3.rd x0.bytes_bd) ?_; intro n))
  go_wp2
  go_ret
  exact ⟨rfl, (s3.drewN n).below⟩
end Go.Proofs.Ytmdhhidcbcgbjaa
