/-
  A LAW's ROW: from 'called with whatever can be read, the function returns true and leaves the old memory' to the given statement; and how the arguments are opened. Plain theorems over any program.
-/
import Derived.Test.YtippipfogbgemaaVb
import Derived.Below
import Derived.ChangeSame
import Derived.Carry
import Derived.ProofKit
import Derived.OpenShut
namespace Go.Proofs.Ytippipfogbgemaa
open Go.RowKit Go.WideShapes Go.ChangeShapes Go.ChangeAt

theorem len1 {α : Type} {cs : List α} (h : cs.length = 1) : ∃ a, cs = [a] := by
  match cs, h with
  | [a], _ => exact ⟨a, rfl⟩
theorem len2 {α : Type} {cs : List α} (h : cs.length = 2) : ∃ a b, cs = [a, b] := by
  cases cs with
  | nil => simp at h
  | cons a t => obtain ⟨b, rfl⟩ := len1 (cs := t) (by simpa using h); exact ⟨a, b, rfl⟩
theorem len3 {α : Type} {cs : List α} (h : cs.length = 3) : ∃ a b c, cs = [a, b, c] := by
  cases cs with
  | nil => simp at h
  | cons a t => obtain ⟨b, c, rfl⟩ := len2 (cs := t) (by simpa using h); exact ⟨a, b, c, rfl⟩
theorem len4 {α : Type} {cs : List α} (h : cs.length = 4) : ∃ a b c d, cs = [a, b, c, d] := by
  cases cs with
  | nil => simp at h
  | cons a t => obtain ⟨b, c, d, rfl⟩ := len3 (cs := t) (by simpa using h); exact ⟨a, b, c, d, rfl⟩
theorem len5 {α : Type} {cs : List α} (h : cs.length = 5) : ∃ a b c d e, cs = [a, b, c, d, e] := by
  cases cs with
  | nil => simp at h
  | cons a t => obtain ⟨b, c, d, e, rfl⟩ := len4 (cs := t) (by simpa using h); exact ⟨a, b, c, d, e, rfl⟩
theorem len6 {α : Type} {cs : List α} (h : cs.length = 6) : ∃ a b c d e f, cs = [a, b, c, d, e, f] := by
  cases cs with
  | nil => simp at h
  | cons a t => obtain ⟨b, c, d, e, f, rfl⟩ := len5 (cs := t) (by simpa using h); exact ⟨a, b, c, d, e, f, rfl⟩
theorem len7 {α : Type} {cs : List α} (h : cs.length = 7) : ∃ a b c d e f g, cs = [a, b, c, d, e, f, g] := by
  cases cs with
  | nil => simp at h
  | cons a t => obtain ⟨b, c, d, e, f, g, rfl⟩ := len6 (cs := t) (by simpa using h); exact ⟨a, b, c, d, e, f, g, rfl⟩
theorem len8 {α : Type} {cs : List α} (h : cs.length = 8) : ∃ a b c d e f g i, cs = [a, b, c, d, e, f, g, i] := by
  cases cs with
  | nil => simp at h
  | cons a t => obtain ⟨b, c, d, e, f, g, i, rfl⟩ := len7 (cs := t) (by simpa using h); exact ⟨a, b, c, d, e, f, g, i, rfl⟩

section
variable {H : Type} {enc : TypeId × Value → H} {P : Program}

theorem post_of_below {f : Func} {s : ChangeSpec} {apart fresh handsOn again : Bool} {W W' : World} {args : Array Value} {v : Value} {ds gs : List (DataW H)} {before pa pv : List MemPlace}
    (hW : DataW.Whole enc P f.params.toList s.vars apart W args.toList ds gs before)
    (hres : ∀ (b : Nat) (sp : Nat → Bool) (hd : Bool), DataW.TrodAll enc P W' b sp hd f.resultTypes.toList (v.resultList f.resultTypes.size) (s.fn H (ds ++ gs)).results [])
    (hargs : ∀ sp : Nat → Bool, (∀ p ∈ before, sp p.block = true) → DataW.TrodAll enc P W' 0 sp true f.params.toList args.toList (s.fn H (ds ++ gs)).args pa)
    (hvars : ∀ sp : Nat → Bool, (∀ p ∈ before, sp p.block = true) → DataW.TrodVars enc P W' sp s.vars (s.fn H (ds ++ gs)).vars pv)
    (hps : before = pa ++ pv) (hb : Below W.heap.size W W')
    (hok : ∀ (j : Nat) (t : TypeId) (r : Value), f.resultTypes[j]? = some t → (v.resultList f.resultTypes.size)[j]? = some r → Value.okWide P W' .any 0 t r) :
    s.post enc P f apart fresh handsOn again W args v W' := by
  have hlt : ∀ p ∈ before, p.block < W.heap.size := fun p hp => hW.lt p hp
  have hold : ∀ p ∈ before, (fun b => decide (b < W.heap.size)) p.block = true := fun p hp => by simpa using hlt p hp
  refine ⟨ds, gs, before, [], pa, pv, hW, hres _ _ _, hargs _ hold, hvars _ hold, World.keptBut_mono (fun p hp => ⟨hp, ?_⟩) (hb.frame (· ∈ before)), fun _ => ?_⟩
  · rw [hps, List.mem_append] at hp
    exact Or.inr hp
  · obtain ⟨_, _, _, _, _, hz, hn⟩ := hW
    refine ⟨hok, _, _, ([] ++ pa) ++ pv, ⟨[] ++ pa, pv, trodAll_append (hargs _ (fun _ _ => rfl)) (hres _ _ _), hvars _ (fun _ _ => rfl), rfl, ?_, ?_⟩, ?_⟩
    · intro b off hp
      have hin : MemPlace.cell b off ∈ before := by rw [hps]; simpa using hp
      rw [hb.frozen (hlt _ hin)]
      exact hz b off hin
    · intro ha
      have := hn ha
      rw [hps] at this
      simpa using this
    · intro p hp _
      rw [hps]
      simpa using hp

theorem trodAll_below (hl : laidOutB P = true) {W W' : World} (hb : Below W.heap.size W W') {sp : Nat → Bool} : ∀ {ts : List TypeId} {vs : List Value} {ds : List (DataW H)} {ps : List MemPlace},
    (∀ t ∈ ts, P.readableRec t = true ∧ t < P.types.size) → DataW.TrodAll enc P W 0 (fun _ => true) true ts vs ds ps → (∀ p ∈ ps, p.block < W.heap.size) → (∀ p ∈ ps, sp p.block = true) →
    DataW.TrodAll enc P W' 0 sp true ts vs ds ps
  | [], [], [], _, _, h, _, _ => h
  | t :: ts, v :: vs, d :: ds, ps, hts, ⟨p, q, h1, h2, e⟩, hlt, hs => by
    subst e
    have ht := hts t (List.mem_cons_self ..)
    exact ⟨p, q, WideElems.Trod_stays hl ht.1 ht.2 h1 (fun x hx => hb.same (hlt x (List.mem_append_left _ hx))) (fun x hx => hs x (List.mem_append_left _ hx)),
      trodAll_below hl hb (fun t ht => hts t (List.mem_cons_of_mem _ ht)) h2 (fun x hx => hlt x (List.mem_append_right _ hx)) (fun x hx => hs x (List.mem_append_right _ hx)), rfl⟩
  | [], _ :: _, _, _, _, h, _, _ => h.elim
  | [], [], _ :: _, _, _, h, _, _ => h.elim
  | _ :: _, [], _, _, _, h, _, _ => h.elim
  | _ :: _, _ :: _, [], _, _, h, _, _ => h.elim

/-- a law's post: it has returned true, the old memory is as it was -/
theorem law_post {f : Func} {s : ChangeSpec} {tb : TypeId} {W W' : World} {args : Array Value} {ds gs : List (DataW H)} {before : List MemPlace}
    (hW : DataW.Whole enc P f.params.toList s.vars false W args.toList ds gs before) (hv : s.vars = []) (hr : f.resultTypes = #[tb]) (hb : P.underlying tb = some .bool)
    (hs : s.fn H (ds ++ gs) = { results := [.lit (.bool true)], args := ds }) (hl : laidOutB P = true) (hread : ∀ t ∈ f.params.toList, P.readableRec t = true ∧ t < P.types.size)
    (hg : Below W.heap.size W W') : s.post enc P f false true false false W args (.bool true) W' := by
  have hlt : ∀ p ∈ before, p.block < W.heap.size := fun p hp => hW.lt p hp
  obtain ⟨p, q, hA, hV, e, hz, hn⟩ := id hW
  rw [hv] at hV
  cases gs with
  | cons g gs => exact hV.elim
  | nil =>
    obtain rfl : q = [] := hV
    rw [List.append_nil] at e
    subst e
    refine post_of_below (pa := before) (pv := []) hW ?_ ?_ ?_ (by simp) hg ?_
    · intro b sp hd
      rw [hs, hr]
      exact trodAll_cons_mk (shut_bool hb _) trodAll_mk0
    · intro sp hsp
      rw [hs]
      exact trodAll_below hl hg hread hA hlt hsp
    · intro sp hsp
      rw [hs, hv]
      rfl
    · intro j t r hj hrr
      rw [hr] at hj hrr
      match j, hj, hrr with
      | 0, hj, hrr =>
        simp [Value.resultList] at hj hrr
        subst hj; subst hrr
        exact okWide_bool_mk hb _

/-! ### Arguments opened: 'Opn': what can be read at a type stands by an element's relation -/
def Opn (P : Program) (t : TypeId) {α : Type} (E : El α) : Prop :=
  ∀ (H : Type) (enc : TypeId × Value → H) (w : World) (fuel : Nat) (cs : List Value) (d : DataW H) (ps : List MemPlace), DataW.trod enc P w 0 (fun _ => true) true fuel t cs = some (d, ps) → ∃ x, E (look w) x cs

theorem opn_int {t : TypeId} {k : IntKind} (h : P.underlying t = some (.int k)) {E : El Int} (hE : ∀ hp n, (Lit.int k n).wf = true → E hp n [.int k n]) : Opn P t E := by
  intro H enc w fuel cs d ps hd
  cases fuel with
  | zero => simp [DataW.trod] at hd
  | succ fuel =>
    simp only [DataW.trod, h] at hd
    split at hd <;> simp_all
    obtain ⟨⟨rfl, hw⟩, _⟩ := hd
    exact ⟨_, hE _ _ hw⟩

def boolE : El Bool := fun _ b vs => vs = [.bool b]
def strE : El ByteArray := fun _ s vs => vs = [.string s] ∧ s.size ≤ 9223372036854775807

theorem opn_bool {t : TypeId} (h : P.underlying t = some .bool) : Opn P t boolE := by
  intro H enc w fuel cs d ps hd
  cases fuel with
  | zero => simp [DataW.trod] at hd
  | succ fuel =>
    simp only [DataW.trod, h] at hd
    split at hd
    all_goals try (simp_all; done)
    exact ⟨_, rfl⟩

theorem opn_string {t : TypeId} (h : P.underlying t = some .string) : Opn P t strE := by
  intro H enc w fuel cs d ps hd
  cases fuel with
  | zero => simp [DataW.trod] at hd
  | succ fuel =>
    simp only [DataW.trod, h] at hd
    split at hd
    all_goals try (simp_all; done)
    split at hd
    case isFalse => cases hd
    case isTrue hs => exact ⟨_, rfl, by have := hs; unfold maxLen at this; omega⟩

def sliceE {α : Type} (E : El α) (size : Nat) : El (List α) := fun h xs vs => ∃ v, vs = [v] ∧ Rd E size h v xs

theorem mapM_get {α β : Type} {f : α → Option β} : ∀ {l : List α} {r : List β}, l.mapM f = some r → ∀ (i : Nat) (a : α), l[i]? = some a → ∃ b, f a = some b ∧ r[i]? = some b
  | [], _, _, i, a, ha => by simp at ha
  | x :: l, r, h, i, a, ha => by
    rw [List.mapM_cons] at h
    cases hx : f x with
    | none => simp [hx] at h
    | some y =>
      cases hl : l.mapM f with
      | none => simp [hx, hl] at h
      | some ys =>
        simp [hx, hl] at h
        subst h
        cases i with
        | zero => simp at ha; subst ha; exact ⟨y, hx, rfl⟩
        | succ i =>
          simp only [List.getElem?_cons_succ] at ha ⊢
          exact mapM_get hl i a ha

theorem mapM_len {α β : Type} {f : α → Option β} : ∀ {l : List α} {r : List β}, l.mapM f = some r → r.length = l.length
  | [], r, h => by simp at h; subst h; rfl
  | x :: l, r, h => by
    rw [List.mapM_cons] at h
    cases hx : f x with
    | none => simp [hx] at h
    | some y =>
      cases hl : l.mapM f with
      | none => simp [hx, hl] at h
      | some ys =>
        simp [hx, hl] at h
        subst h
        simp [mapM_len hl]

theorem choose_list {α : Type} {n : Nat} {R : Nat → α → Prop} (h : ∀ i, i < n → ∃ x, R i x) : ∃ l : List α, l.length = n ∧ ∀ (i : Nat) (x : α), l[i]? = some x → R i x := by
  induction n with
  | zero => exact ⟨[], rfl, fun i x hx => by simp at hx⟩
  | succ n ih =>
    obtain ⟨l, hl, hr⟩ := ih (fun i hi => h i (by omega))
    obtain ⟨x, hx⟩ := h n (by omega)
    refine ⟨l ++ [x], by simp [hl], fun i y hy => ?_⟩
    by_cases hi : i < n
    · rw [List.getElem?_append_left (by omega)] at hy; exact hr i y hy
    · rw [List.getElem?_append_right (by omega)] at hy
      have : i - l.length = 0 := by
        rcases Nat.eq_zero_or_pos (i - l.length) with h0 | h0
        · exact h0
        · rw [List.getElem?_eq_none (by simp; omega)] at hy; cases hy
      rw [this] at hy
      simp at hy
      subst hy
      obtain rfl : i = n := by omega
      exact hx

theorem cells?_get {w : World} {a : Addr} {n : Nat} {cs : List Value} (h : w.cells? 0 a n = some cs) : cs.length = n ∧ ∀ (j : Nat) (u : Value), cs[j]? = some u → w.cell? (a.add j) = some u := by
  unfold World.cells? at h
  rw [if_pos (Nat.zero_le _)] at h
  refine ⟨by rw [mapM_len h]; simp, fun j u hu => ?_⟩
  have hj : j < n := by
    rcases Nat.lt_or_ge j n with h1 | h1
    · exact h1
    · rw [List.getElem?_eq_none (by rw [mapM_len h]; simpa using h1)] at hu; cases hu
  obtain ⟨b, hb, hr⟩ := mapM_get h j j (by simp [hj])
  rw [hr] at hu
  rw [hb]; exact hu

theorem cell?_spot {w : World} {a : Addr} {v : Value} (h : w.cell? a = some v) : a.spot = none := by
  unfold World.cell? at h
  split at h
  · cases hs : a.spot with
    | none => rfl
    | some x => simp [hs] at h
  · cases h

theorem opn_slice {t e : TypeId} {α : Type} {E : El α} {size : Nat} (h : P.underlying t = some (.slice e)) (hc : P.cellsOf e = size) (hpos : 0 < size) (he : Opn P e E) : Opn P t (sliceE E size) := by
  intro H enc w fuel cs d ps hd
  cases fuel with
  | zero => simp [DataW.trod] at hd
  | succ fuel =>
    simp only [DataW.trod, h] at hd
    split at hd
    all_goals try (simp_all; done)
    · exact ⟨[], _, rfl, Rd.nil⟩
    · rename_i e' a len cap hty
      have hee : e = e' := by simp_all
      subst hee
      rw [hc] at hd
      split at hd
      case isFalse => cases hd
      case isTrue hb =>
      cases hm : ((List.range len).mapM fun i => (w.cells? 0 (a.add (i * size)) size).bind (DataW.trod enc P w 0 (fun _ => true) true fuel e)) with
      | none => simp [hm] at hd
      | some elems =>
        obtain ⟨_, hlc, hcm⟩ := hb
        have hat : ∀ i, i < len → ∃ x, (∃ vs, a.spot = none ∧ E (look w) x vs ∧ vs.length = size ∧ ∀ j u, vs[j]? = some u → ∃ fr, look w (.cell a.block (a.off + i * size + j)) = some (.val u fr)) := by
          intro i hi
          obtain ⟨y, hy, _⟩ := mapM_get hm i i (by simp [hi])
          cases hcs : w.cells? 0 (a.add (i * size)) size with
          | none => simp [hcs] at hy
          | some vs =>
            rw [hcs] at hy
            obtain ⟨x, hx⟩ := he H enc w fuel vs y.1 y.2 hy
            obtain ⟨hl, hg⟩ := cells?_get hcs
            have hsp : a.spot = none := by
              by_cases h0 : i * size = 0
              · have := hg 0 vs[0] (by simp)
                have := cell?_spot this
                simpa [Addr.add, h0] using this
              · -- the element 0 stands there too
                obtain ⟨y0, hy0, _⟩ := mapM_get hm 0 0 (List.getElem?_range (by omega))
                cases hcs0 : w.cells? 0 (a.add (0 * size)) size with
                | none => simp only [hcs0] at hy0; cases hy0
                | some vs0 =>
                  obtain ⟨hl0, hg0⟩ := cells?_get hcs0
                  have := hg0 0 vs0[0] (by simp)
                  have := cell?_spot this
                  simpa [Addr.add] using this
            refine ⟨x, vs, hsp, hx, hl, fun j u hu => ?_⟩
            have hcell := hg j u hu
            have hadd : (a.add (i * size)).add j = ⟨a.block, a.off + i * size + j, none⟩ := by
              cases a with
              | mk b o sp =>
                have hsp' : sp = none := hsp
                subst hsp'
                unfold Addr.add
                by_cases h1 : i * size = 0 <;> by_cases h2 : j = 0 <;> simp [h1, h2]
            rw [hadd] at hcell
            exact ⟨_, look_cell_mk hcell rfl⟩
        obtain ⟨l, hl, hr⟩ := choose_list hat
        refine ⟨l, _, rfl, some a, cap, by rw [hl], by omega, by unfold maxLen at hcm; omega, fun i x hx => ?_⟩
        obtain ⟨vs, hsp, hx', hlen, hcell⟩ := hr i x hx
        refine ⟨a.block, a.off, vs, ?_, hx', hlen, hcell⟩
        cases a with
        | mk b o sp => have hsp' : sp = none := hsp; subst hsp'; rfl

/-- a struct: each field reads where it stands -/
theorem opn_struct {t : TypeId} {fs : Array Field} (h : P.underlying t = some (.struct fs)) {α : Type} {E : El α} 
    (hE : ∀ (H : Type) (enc : TypeId × Value → H) (w : World) (fuel : Nat) (cs : List Value), cs.length = P.cellsOf t →
      (∀ (i : Nat) (f : Field), fs.toList[i]? = some f → ∃ y, DataW.trod enc P w 0 (fun _ => true) true fuel f.type ((cs.drop f.offset).take (P.cellsOf f.type)) = some y) → ∃ x, E (look w) x cs) : Opn P t E := by
  intro H enc w fuel cs d ps hd
  cases fuel with
  | zero => simp [DataW.trod] at hd
  | succ fuel =>
    simp only [DataW.trod, h] at hd
    by_cases hlen : cs.length = P.cellsOf t
    · rw [if_pos hlen] at hd
      cases hm : (fs.toList.mapM fun f => DataW.trod enc P w 0 (fun _ => true) true fuel f.type ((cs.drop f.offset).take (P.cellsOf f.type))) with
      | none => simp [hm] at hd
      | some ys => exact hE H enc w fuel cs hlen fun i f hf => let ⟨b, hb, _⟩ := mapM_get hm i f hf; ⟨b, hb⟩
    · rw [if_neg hlen] at hd; cases hd

theorem Opn.at {t : TypeId} {α : Type} {E : El α} (o : Opn P t E) {H : Type} {enc : TypeId × Value → H} {w : World} {v : Value} {d : DataW H} {ps : List MemPlace} (h : DataW.Trod enc P w 0 (fun _ => true) true t v d ps) :
    ∃ x, E (look w) x v.cells.toList := let ⟨fuel, hf⟩ := h; o H enc w fuel _ d ps hf

theorem okWide_plain {t : TypeId} {d : TypeDesc} {v : Value} {W : World} {r : Reach} {b : Nat} (h : P.underlying t = some d) (h1 : ∀ fs, d ≠ .struct fs) (h2 : ∀ n e, d ≠ .array n e)
    (hval : Value.okWide P W r b t v) : v.cells.toList = [v] := by
  cases v with
  | agg cs =>
    exfalso
    unfold Value.okWide at hval
    rw [h] at hval
    cases d <;> simp_all [Cell.okWide, Cell.ok]
  | _ => rfl

theorem okWide_struct {t : TypeId} {fs : Array Field} {v : Value} {W : World} {r : Reach} {b : Nat} (h : P.underlying t = some (.struct fs)) (hval : Value.okWide P W r b t v) : ∃ cs, v = .agg cs := by
  unfold Value.okWide at hval
  rw [h] at hval
  exact let ⟨cs, hv, _⟩ := hval; ⟨cs, hv⟩

theorem okWide_array {t : TypeId} {n : Nat} {e : TypeId} {v : Value} {W : World} {r : Reach} {b : Nat} (h : P.underlying t = some (.array n e)) (hval : Value.okWide P W r b t v) : ∃ cs, v = .agg cs := by
  unfold Value.okWide at hval
  rw [h] at hval
  exact let ⟨cs, hv, _⟩ := hval; ⟨cs, hv⟩

theorem opn_u8 {t : TypeId} (h : P.underlying t = some (.int .u8)) : Opn P t u8E := opn_int h fun hp n hw => ⟨rfl, by simpa [Lit.wf, IntKind.min, IntKind.max, IntKind.signed, IntKind.bits] using hw⟩
theorem opn_u16 {t : TypeId} (h : P.underlying t = some (.int .u16)) : Opn P t u16E := opn_int h fun hp n hw => ⟨rfl, by simpa [Lit.wf, IntKind.min, IntKind.max, IntKind.signed, IntKind.bits] using hw⟩
theorem opn_u32 {t : TypeId} (h : P.underlying t = some (.int .u32)) : Opn P t u32E := opn_int h fun hp n hw => ⟨rfl, by simpa [Lit.wf, IntKind.min, IntKind.max, IntKind.signed, IntKind.bits] using hw⟩
theorem opn_u64 {t : TypeId} (h : P.underlying t = some (.int .u64)) : Opn P t u64E := opn_int h fun hp n hw => ⟨rfl, by simpa [Lit.wf, IntKind.min, IntKind.max, IntKind.signed, IntKind.bits] using hw⟩
theorem opn_i64 {t : TypeId} (h : P.underlying t = some (.int .i64)) : Opn P t intE := opn_int h fun hp n hw => ⟨rfl, by simpa [Lit.wf, IntKind.min, IntKind.max, IntKind.signed, IntKind.bits] using hw⟩
end
end Go.Proofs.Ytippipfogbgemaa
