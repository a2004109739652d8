/-
  The pure side of the search of plans: the program's search and the reference's come to the same plan and length.
-/
import Derived.Test.YthocaohlimollaaPureBase
namespace Go.Proofs.Ythocaohlimollaa.PL
open Go.RowKit Go.Proofs.YthocaohlimollaaW.PrintWords Go.Proofs.YthocaohlimollaaW.PrintLast Go.Proofs.YthocaohlimollaaW.PrintMore Go.Proofs.Ythocaohlimollaa.XB Go.Proofs.Ythocaohlimollaa.PB
set_option linter.unusedVariables false
set_option linter.unusedSimpArgs false

/-! ### bits of a set of jobs -/
theorem shr_bit (n : Nat) (i : Int) (h0 : 0 ≤ i) (h1 : i < 16) : Int.tmod (shr .u16 (n : Int) i) 2 = if n.testBit i.toNat = true then 1 else 0 := by
  have e : shr .u16 (n : Int) i = ((n / 2 ^ i.toNat : Nat) : Int) := by
    unfold shr
    rw [show min i.toNat IntKind.u16.bits = i.toNat from Nat.min_eq_left (by have : IntKind.u16.bits = 16 := rfl; omega)]
    simp
  rw [e, Nat.testBit_eq_decide_div_mod_eq]
  generalize n / 2 ^ i.toNat = q
  rw [Int.tmod_eq_emod_of_nonneg (by omega)]
  by_cases h : q % 2 = 1
  · rw [if_pos (by simpa using h)]; omega
  · rw [if_neg (by simpa using h)]; omega
theorem shl_one (i : Int) (h0 : 0 ≤ i) (h1 : i < 16) : shl .u16 1 i = ((2 ^ i.toNat : Nat) : Int) := by
  unfold shl
  rw [show min i.toNat IntKind.u16.bits = i.toNat from Nat.min_eq_left (by have : IntKind.u16.bits = 16 := rfl; omega), wu16, Int.one_mul]
  have hp : 2 ^ i.toNat < 2 ^ 16 := Nat.pow_lt_pow_right (by omega) (by omega)
  have e : ((2 : Int) ^ i.toNat) = ((2 ^ i.toNat : Nat) : Int) := by simp
  rw [e]
  generalize 2 ^ i.toNat = q at hp
  omega
theorem or_nat (n m : Nat) (hn : n < 65536) (hm : m < 65536) : Go.bits .or .u16 (n : Int) (m : Int) = ((n ||| m : Nat) : Int) := by
  show IntKind.u16.wrap ((BitVec.ofInt 16 (n : Int) ||| BitVec.ofInt 16 (m : Int)).toNat : Int) = _
  have h1 : (BitVec.ofInt 16 (n : Int)).toNat = n := by rw [BitVec.ofInt_natCast, BitVec.toNat_ofNat]; exact Nat.mod_eq_of_lt (by omega)
  have h2 : (BitVec.ofInt 16 (m : Int)).toNat = m := by rw [BitVec.ofInt_natCast, BitVec.toNat_ofNat]; exact Nat.mod_eq_of_lt (by omega)
  have h3 : n ||| m < 2 ^ 16 := Nat.or_lt_two_pow (by omega) (by omega)
  rw [BitVec.toNat_or, h1, h2, wu16]
  omega
theorem andNot_nat (n m : Nat) (hn : n < 65536) (hm : m < 65536) : ∃ q : Nat, Go.bits .andNot .u16 (n : Int) (m : Int) = (q : Int) ∧ q < 65536 ∧ ∀ i, i < 16 → q.testBit i = (n.testBit i && !m.testBit i) := by
  have h1 : (BitVec.ofInt 16 (n : Int)).toNat = n := by rw [BitVec.ofInt_natCast, BitVec.toNat_ofNat]; exact Nat.mod_eq_of_lt (by omega)
  have h2 : (BitVec.ofInt 16 (m : Int)).toNat = m := by rw [BitVec.ofInt_natCast, BitVec.toNat_ofNat]; exact Nat.mod_eq_of_lt (by omega)
  refine ⟨(BitVec.ofInt 16 (n : Int) &&& ~~~ BitVec.ofInt 16 (m : Int)).toNat, ?_, ?_, fun i hi => ?_⟩
  · show IntKind.u16.wrap ((BitVec.ofInt 16 (n : Int) &&& ~~~ BitVec.ofInt 16 (m : Int)).toNat : Int) = _
    rw [wu16]
    have := (BitVec.ofInt 16 (n : Int) &&& ~~~ BitVec.ofInt 16 (m : Int)).isLt
    omega
  · exact (BitVec.ofInt 16 (n : Int) &&& ~~~ BitVec.ofInt 16 (m : Int)).isLt
  · show (BitVec.ofInt 16 (n : Int) &&& ~~~ BitVec.ofInt 16 (m : Int)).getLsbD i = _
    rw [BitVec.getLsbD_and, BitVec.getLsbD_not]
    simp only [hi, decide_true, Bool.true_and]
    show ((BitVec.ofInt 16 (n : Int)).toNat.testBit i && !(BitVec.ofInt 16 (m : Int)).toNat.testBit i) = _
    rw [h1, h2]
theorem set_back (n r m : Nat) (hm : m ≤ 12) (hn : n < 2 ^ m) (hr : r < m) (hb : n.testBit r = false) : Go.bits .andNot .u16 ((n ||| 2 ^ r : Nat) : Int) ((2 ^ r : Nat) : Int) = (n : Int) := by
  have hm16 : 2 ^ m ≤ 2 ^ 12 := Nat.pow_le_pow_right (by omega) hm
  have hr2 : 2 ^ r < 2 ^ m := Nat.pow_lt_pow_right (by omega) hr
  have h3 : n ||| 2 ^ r < 2 ^ m := Nat.or_lt_two_pow hn hr2
  obtain ⟨q, hq, hq2, hq3⟩ := andNot_nat (n ||| 2 ^ r) (2 ^ r) (by omega) (by omega)
  rw [hq]
  congr 1
  apply Nat.eq_of_testBit_eq
  intro i
  rcases Nat.lt_or_ge i 16 with h1 | h1
  · rw [hq3 i h1, Nat.testBit_or, Nat.testBit_two_pow]
    by_cases e : r = i
    · subst e; simp [hb]
    · simp [e]
  · rw [Nat.testBit_lt_two_pow (Nat.lt_of_lt_of_le (show q < 2 ^ 16 from hq2) (Nat.pow_le_pow_right (by omega) h1)), Nat.testBit_lt_two_pow (x := n) (i := i) (Nat.lt_of_lt_of_le hn (Nat.pow_le_pow_right (by omega) (by omega)))]
/-- How many of the first m bits are set. -/
def cnt (n : Nat) : Nat → Nat
  | 0 => 0
  | m + 1 => cnt n m + (if n.testBit m = true then 1 else 0)
theorem cnt_le (n : Nat) : ∀ m, cnt n m ≤ m
  | 0 => Nat.le_refl _
  | m + 1 => by have := cnt_le n m; unfold cnt; split <;> omega
theorem cnt_full (n : Nat) : ∀ m, cnt n m = m ↔ ∀ i, i < m → n.testBit i = true
  | 0 => ⟨fun _ i h => by omega, fun _ => rfl⟩
  | m + 1 => by
    have h1 := cnt_le n m
    have h2 := cnt_full n m
    unfold cnt
    by_cases h : n.testBit m = true
    · rw [if_pos h]
      refine ⟨fun e i hi => ?_, fun e => ?_⟩
      · rcases Nat.lt_or_ge i m with h3 | h3
        · exact h2.1 (by omega) i h3
        · rw [show i = m by omega]; exact h
      · rw [h2.2 (fun i hi => e i (by omega))]
    · rw [if_neg h]
      exact ⟨fun e => by omega, fun e => absurd (e m (by omega)) h⟩
theorem cnt_or (n r : Nat) (hb : n.testBit r = false) : ∀ m, cnt (n ||| 2 ^ r) m = cnt n m + (if r < m then 1 else 0)
  | 0 => by simp [cnt]
  | m + 1 => by
    unfold cnt
    rw [cnt_or n r hb m, Nat.testBit_or, Nat.testBit_two_pow]
    by_cases e : r = m
    · subst e; simp [hb]
    · by_cases h : n.testBit m = true
      · simp only [h, Bool.true_or, if_true]
        by_cases h3 : r < m
        · rw [if_pos h3, if_pos (by omega)]
        · rw [if_neg h3, if_neg (by omega)]
      · simp only [h, e, decide_false, Bool.or_false, Bool.false_eq_true, if_false]
        by_cases h3 : r < m
        · rw [if_pos h3, if_pos (by omega)]
        · rw [if_neg h3, if_neg (by omega)]
theorem full_iff (l : List S66) (n : Nat) (hl : l.length ≤ 12) (hn : n < 2 ^ l.length) : (n : Int) = fullD l ↔ cnt n l.length = l.length := by
  have hp : 2 ^ l.length ≤ 2 ^ 12 := Nat.pow_le_pow_right (by omega) hl
  have hp1 : 1 ≤ 2 ^ l.length := Nat.one_le_two_pow
  have e : fullD l = ((2 ^ l.length - 1 : Nat) : Int) := by
    unfold fullD
    have e1 : ((2 : Int) ^ l.length) = ((2 ^ l.length : Nat) : Int) := by simp
    rw [e1, wu16, wu16]; omega
  rw [e, cnt_full]
  refine ⟨fun h i hi => ?_, fun h => ?_⟩
  · rw [show n = 2 ^ l.length - 1 by omega, Nat.testBit_two_pow_sub_one]
    simpa using hi
  · congr 1
    apply Nat.eq_of_testBit_eq
    intro i
    rw [Nat.testBit_two_pow_sub_one]
    rcases Nat.lt_or_ge i l.length with h1 | h1
    · simp [h i h1, h1]
    · rw [Nat.testBit_lt_two_pow (Nat.lt_of_lt_of_le hn (Nat.pow_le_pow_right (by omega) h1))]
      simp; omega

/-! ### the slot that a job would be given -/
def WS (l : List S70) : Prop := ∀ x ∈ l, -128 ≤ x.f0 ∧ x.f0 ≤ 127 ∧ -32768 ≤ x.f1 ∧ x.f1 ≤ 32767
theorem rdS_mem {l : List S70} {i : Int} (h0 : 0 ≤ i) (h1 : i < (l.length : Int)) : rd_T70 l i ∈ l := by
  simp only [rd_T70, List.getD_eq_getElem?_getD, List.getElem?_eq_getElem (show i.toNat < l.length by omega), Option.getD_some]
  exact List.getElem_mem _
def waitsP (l : List S66) (i k : Int) : Bool := Int.tmod (shr .u16 (rd_T66 l i).f1 k) 2 == 1
def doneP (l : List S66) (p : List S70) (k : Int) : Int := (rd_T70 p k).f1 + (rd_T66 l k).f0
theorem waitsI {l : List S66} (hw : WJ l) (i k : Int) (h0 : 0 ≤ i) (h1 : i < (l.length : Int)) (k0 : 0 ≤ k) : impl_Job_waits.f (rd_T66 l i).f0 (rd_T66 l i).f1 k = some (waitsP l i k) := by
  have hx := hw _ (rdJ_mem h0 h1)
  have hs := shr_range (rd_T66 l i).f1 k hx.2.2.1 hx.2.2.2
  unfold impl_Job_waits.f waitsP
  rw [if_pos k0, and_one _ hs.1 hs.2]
theorem waitsS {l : List S66} (hl : l.length ≤ 1048576) (i k : Int) (h0 : 0 ≤ i) (h1 : i < (l.length : Int)) (k0 : 0 ≤ k) (k1 : k < (l.length : Int)) : spec_l07Waits.f l i k = some (waitsP l i k) := by
  unfold spec_l07Waits.f waitsP
  rw [if_pos h0, if_pos h1, wu64 (n := k) (by omega) (by omega), if_pos k0]
theorem done_of {l : List S66} (hw : WJ l) (i : Int) (h0 : 0 ≤ i) (h1 : i < (l.length : Int)) (a b : Int) (hb : -32768 ≤ b ∧ b ≤ 32767) : impl_done.f (rd_T66 l i).f0 (rd_T66 l i).f1 a b = some (b + (rd_T66 l i).f0) := by
  have hx := hw _ (rdJ_mem h0 h1)
  unfold impl_done.f
  rw [w64 (n := b) (by omega) (by omega), w64 (n := (rd_T66 l i).f0) (by omega) (by omega), w64 (by omega) (by omega)]
theorem doneS {l : List S66} {p : List S70} (hw : WJ l) (hp : WS p) (hlp : p.length = l.length) (k : Int) (k0 : 0 ≤ k) (k1 : k < (l.length : Int)) : spec_l07Done.f l p k = some (doneP l p k) := by
  have hx := hw _ (rdJ_mem k0 k1)
  have hy := hp _ (rdS_mem (l := p) k0 (by omega))
  unfold spec_l07Done.f doneP
  rw [if_pos k0, if_pos (by omega), if_pos k1, w64 (n := (rd_T70 p k).f1) (by omega) (by omega), w64 (n := (rd_T66 l k).f0) (by omega) (by omega), w64 (by omega) (by omega)]
theorem max_f (a b : Int) : spec_l00Max.f a b = some (mx a b) := by
  unfold spec_l00Max.f
  by_cases h : a > b
  · rw [if_pos h]; congr 1; unfold mx; rw [if_neg (by omega)]
  · rw [if_neg h]; congr 1; unfold mx
    by_cases h2 : a < b
    · rw [if_pos h2]
    · rw [if_neg h2]; omega
theorem mx_ge1 (a b : Int) : a ≤ mx a b := by unfold mx; split <;> omega
theorem mx_ge2 (a b : Int) : b ≤ mx a b := by unfold mx; split <;> omega
theorem mx_comm (a b : Int) : mx a b = mx b a := by unfold mx; split <;> split <;> omega
theorem mx_right (a b c : Int) : mx (mx a b) c = mx (mx a c) b := by unfold mx; (repeat' split) <;> omega
def rdyP (l : List S66) (p : List S70) (i : Int) : Nat → Int → Int → Int
  | 0, _, a => a
  | m + 1, k, a => rdyP l p i m (k + 1) (if waitsP l i k = true then mx a (doneP l p k) else a)
theorem rdyP_ge (l : List S66) (p : List S70) (i : Int) : ∀ (m : Nat) (k a : Int), a ≤ rdyP l p i m k a
  | 0, _, _ => Int.le_refl _
  | m + 1, k, a => by
    unfold rdyP
    refine Int.le_trans ?_ (rdyP_ge l p i m (k + 1) _)
    split
    · exact mx_ge1 _ _
    · exact Int.le_refl _
def atP (f : List Int) (r : Int) : Nat → Int → Int → Int
  | 0, _, a => a
  | m + 1, h, a => atP f r m (h + 1) (if mx (rd f h) r < mx (rd f a) r then h else a)
theorem atP_range (f : List Int) (r : Int) : ∀ (m : Nat) (h a : Int), 0 ≤ a → a < (f.length : Int) → 0 ≤ h → h + m = (f.length : Int) → 0 ≤ atP f r m h a ∧ atP f r m h a < (f.length : Int)
  | 0, _, _, h0, h1, _, _ => ⟨h0, h1⟩
  | m + 1, h, a, h0, h1, h2, h3 => by
    unfold atP
    split
    · exact atP_range f r m (h + 1) h h2 (by omega) (by omega) (by omega)
    · exact atP_range f r m (h + 1) a h0 h1 (by omega) (by omega)
def putA (l : List S66) (p : List S70) (f : List Int) (i : Int) : Int := atP f (rdyP l p i l.length 0 0) (f.length - 1) 1 0
def putP (l : List S66) (p : List S70) (f : List Int) (i : Int) : Int × Int := (IntKind.i8.wrap (putA l p f i), IntKind.i16.wrap (mx (rd f (putA l p f i)) (rdyP l p i l.length 0 0)))
theorem wi8 (n : Int) : -128 ≤ IntKind.i8.wrap n ∧ IntKind.i8.wrap n ≤ 127 := by
  simp only [IntKind.wrap, IntKind.bits, IntKind.signed, Bool.true_and]
  split <;> simp at * <;> omega
theorem wi8_id {n : Int} (h0 : 0 ≤ n) (h1 : n ≤ 100) : IntKind.i8.wrap n = n := by
  simp only [IntKind.wrap, IntKind.bits, IntKind.signed, Bool.true_and]
  split <;> simp at * <;> omega
theorem wi16 (n : Int) : -32768 ≤ IntKind.i16.wrap n ∧ IntKind.i16.wrap n ≤ 32767 := by
  simp only [IntKind.wrap, IntKind.bits, IntKind.signed, Bool.true_and]
  split <;> simp at * <;> omega
theorem putI {l : List S66} {p : List S70} {f : List Int} (hw : WJ l) (hp : WS p) (hlp : p.length = l.length) (hl : l.length ≤ 12) (hf0 : 1 ≤ f.length) (hf1 : f.length ≤ 4) (i : Int) (i0 : 0 ≤ i) (i1 : i < (l.length : Int)) : Ev (fun k => impl_shop_slot.f k l p f i) (putP l p f i) := by
  have key2 : ∀ (r : Int), 0 ≤ r → ∀ (m : Nat) (h a : Int), 0 ≤ a → a < (f.length : Int) → 1 ≤ h → h + m = (f.length : Int) → Ev (fun k => impl_shop_slot.l1 k r a (mx (rd f a) r) f (f.length : Int) h) (IntKind.i8.wrap (atP f r m h a), IntKind.i16.wrap (mx (rd f (atP f r m h a)) r)) := by
    intro r hr m
    induction m with
    | zero =>
      intro h a a0 a1 h0 hh
      refine Ev.step (fun _ => rfl) ?_
      simp only [impl_shop_slot.l1, if_neg (show ¬ h < (f.length : Int) by omega), atP]
      exact Ev.now _
    | succ m ih =>
      intro h a a0 a1 h0 hh
      have hge := mx_ge2 (rd f a) r
      refine Ev.step (fun _ => rfl) ?_
      simp only [impl_shop_slot.l1, if_pos (show h < (f.length : Int) by omega), if_pos (show 0 ≤ h by omega), if_neg (show ¬ mx (rd f a) r < 0 by omega), w64 (n := h + 1) (by omega) (by omega), atP]
      by_cases hc : mx (rd f h) r < mx (rd f a) r
      · simp only [if_pos hc]
        exact ih (h + 1) h (by omega) (by omega) (by omega) (by omega)
      · simp only [if_neg hc]
        exact ih (h + 1) a a0 a1 (by omega) (by omega)
  have key1 : ∀ (m : Nat) (k a : Int), 0 ≤ k → k + m = (l.length : Int) → 0 ≤ a → Ev (fun q => impl_shop_slot.l0 q i a l (l.length : Int) k l p f) (IntKind.i8.wrap (atP f (rdyP l p i m k a) (f.length - 1) 1 0), IntKind.i16.wrap (mx (rd f (atP f (rdyP l p i m k a) (f.length - 1) 1 0)) (rdyP l p i m k a))) := by
    intro m
    induction m with
    | zero =>
      intro k a k0 hk ha
      refine Ev.step (fun _ => rfl) ?_
      simp only [impl_shop_slot.l0, if_neg (show ¬ k < (l.length : Int) by omega), rdyP]
      refine Ev.step (fun _ => rfl) ?_
      simp only [impl_shop_slot.l1, if_pos (show (0 : Int) < (f.length : Int) by omega), if_pos (show (0 : Int) ≤ 0 by omega), if_pos (show (-1 : Int) < 0 by omega), w64 (n := 0 + 1) (by omega) (by omega)]
      exact key2 a ha (f.length - 1) 1 0 (by omega) (by omega) (by omega) (by omega)
    | succ m ih =>
      intro k a k0 hk ha
      have hy := hp _ (rdS_mem (l := p) k0 (by omega))
      refine Ev.step (fun _ => rfl) ?_
      simp only [impl_shop_slot.l0, if_pos (show k < (l.length : Int) by omega), if_pos k0, if_pos i0, if_pos i1, waitsI hw i k i0 i1 k0, Option.bind_some, if_pos (show k < (p.length : Int) by omega), done_of hw k k0 (by omega) _ _ hy.2.2, w64 (n := k + 1) (by omega) (by omega), rdyP]
      cases hwt : waitsP l i k with
      | true =>
        simp only [if_true]
        exact ih (k + 1) _ (by omega) (by omega) (Int.le_trans ha (mx_ge1 _ _))
      | false =>
        simp only [Bool.false_eq_true, if_false]
        exact ih (k + 1) a (by omega) (by omega) ha
  exact key1 l.length 0 0 (by omega) (by omega) (by omega)
theorem putS {l : List S66} {p : List S70} {f : List Int} (hw : WJ l) (hp : WS p) (hlp : p.length = l.length) (hl : l.length ≤ 12) (hf0 : 1 ≤ f.length) (hf1 : f.length ≤ 4) (i : Int) (i0 : 0 ≤ i) (i1 : i < (l.length : Int)) : Ev (fun k => spec_l07Put.f k l p f i) (putP l p f i) := by
  have key2 : ∀ (r : Int), ∀ (m : Nat) (h a : Int), 0 ≤ a → a < (f.length : Int) → 1 ≤ h → h + m = (f.length : Int) → Ev (fun k => spec_l07Put.l1 k f r a h) (IntKind.i8.wrap (atP f r m h a), IntKind.i16.wrap (mx (rd f (atP f r m h a)) r)) := by
    intro r m
    induction m with
    | zero =>
      intro h a a0 a1 h0 hh
      refine Ev.step (fun _ => rfl) ?_
      simp only [spec_l07Put.l1, if_neg (show ¬ h < (f.length : Int) by omega), if_pos a0, if_pos a1, max_f, Option.bind_some, atP]
      exact Ev.now _
    | succ m ih =>
      intro h a a0 a1 h0 hh
      refine Ev.step (fun _ => rfl) ?_
      simp only [spec_l07Put.l1, if_pos (show h < (f.length : Int) by omega), if_pos (show 0 ≤ h by omega), if_pos a0, if_pos a1, max_f, Option.bind_some, w64 (n := h + 1) (by omega) (by omega), atP]
      by_cases hc : mx (rd f h) r < mx (rd f a) r
      · simp only [if_pos hc]
        exact ih (h + 1) h (by omega) (by omega) (by omega) (by omega)
      · simp only [if_neg hc]
        exact ih (h + 1) a a0 a1 (by omega) (by omega)
  have key1 : ∀ (m : Nat) (k a : Int), 0 ≤ k → k + m = (l.length : Int) → Ev (fun q => spec_l07Put.l0 q l p f i a k) (IntKind.i8.wrap (atP f (rdyP l p i m k a) (f.length - 1) 1 0), IntKind.i16.wrap (mx (rd f (atP f (rdyP l p i m k a) (f.length - 1) 1 0)) (rdyP l p i m k a))) := by
    intro m
    induction m with
    | zero =>
      intro k a k0 hk
      refine Ev.step (fun _ => rfl) ?_
      simp only [spec_l07Put.l0, if_neg (show ¬ k < (l.length : Int) by omega), rdyP]
      exact key2 a (f.length - 1) 1 0 (by omega) (by omega) (by omega) (by omega)
    | succ m ih =>
      intro k a k0 hk
      refine Ev.step (fun _ => rfl) ?_
      simp only [spec_l07Put.l0, if_pos (show k < (l.length : Int) by omega), waitsS (show l.length ≤ 1048576 by omega) i k i0 i1 k0 (by omega), Option.bind_some, doneS hw hp hlp k k0 (by omega), max_f, w64 (n := k + 1) (by omega) (by omega), rdyP]
      cases hwt : waitsP l i k with
      | true =>
        simp only [if_true]
        exact ih (k + 1) _ (by omega) (by omega)
      | false =>
        simp only [Bool.false_eq_true, if_false]
        exact ih (k + 1) a (by omega) (by omega)
  exact key1 l.length 0 0 (by omega) (by omega)
theorem putP_range {l : List S66} {p : List S70} {f : List Int} (hf0 : 1 ≤ f.length) (hf1 : f.length ≤ 4) (i : Int) : 0 ≤ (putP l p f i).1 ∧ (putP l p f i).1 < (f.length : Int) ∧ -128 ≤ (putP l p f i).1 ∧ (putP l p f i).1 ≤ 127 ∧ -32768 ≤ (putP l p f i).2 ∧ (putP l p f i).2 ≤ 32767 := by
  have h := atP_range f (rdyP l p i l.length 0 0) (f.length - 1) 1 0 (by omega) (by omega) (by omega) (by omega)
  have e : (putP l p f i).1 = putA l p f i := wi8_id h.1 (by have := h.2; unfold putA; omega)
  have h2 := wi16 (mx (rd f (putA l p f i)) (rdyP l p i l.length 0 0))
  rw [e]
  unfold putA
  exact ⟨h.1, h.2, by omega, by omega, h2.1, h2.2⟩

/-! ### the length of a plan, as far as it goes -/
def lenP (l : List S66) (p : List S70) : Nat → Int → Int → Int
  | 0, _, a => a
  | m + 1, i, a => lenP l p m (i + 1) (mx a (doneP l p i))
theorem lengthS {l : List S66} {p : List S70} (hw : WJ l) (hp : WS p) (hlp : p.length = l.length) (hl : l.length ≤ 1048576) : Ev (fun k => spec_l07Length.f k l p) (lenP l p l.length 0 0) := by
  have key : ∀ (m : Nat) (i a : Int), 0 ≤ i → i + m = (l.length : Int) → Ev (fun k => spec_l07Length.l0 k l p a i) (lenP l p m i a) := by
    intro m
    induction m with
    | zero =>
      intro i a i0 hi
      refine Ev.step (fun _ => rfl) ?_
      simp only [spec_l07Length.l0, if_neg (show ¬ i < (l.length : Int) by omega)]
      exact Ev.now _
    | succ m ih =>
      intro i a i0 hi
      have i1 : i < (l.length : Int) := by omega
      refine Ev.step (fun _ => rfl) ?_
      simp only [spec_l07Length.l0, if_pos i1, doneS hw hp hlp i i0 i1, Option.bind_some, max_f, w64 (n := i + 1) (by omega) (by omega)]
      exact ih (i + 1) _ (by omega) (by omega)
  exact key l.length 0 0 (by omega) (by omega)
def dayQ (l : List S66) (p : List S70) (n : Nat) : Nat → Int → Int → Int
  | 0, _, a => a
  | m + 1, i, a => dayQ l p n m (i + 1) (if n.testBit i.toNat = true then mx a (doneP l p i) else a)
theorem dayQ_zero (l : List S66) (p : List S70) : ∀ (m : Nat) (i a : Int), dayQ l p 0 m i a = a
  | 0, _, _ => rfl
  | m + 1, i, a => by unfold dayQ; rw [Nat.zero_testBit, if_neg (by decide)]; exact dayQ_zero l p m (i + 1) a
theorem dayQ_full (l : List S66) (p : List S70) (n : Nat) : ∀ (m : Nat) (i a : Int), 0 ≤ i → (∀ j : Nat, j < i.toNat + m → n.testBit j = true) → dayQ l p n m i a = lenP l p m i a
  | 0, _, _, _, _ => rfl
  | m + 1, i, a, h0, h => by
    unfold dayQ lenP
    rw [if_pos (h i.toNat (by omega))]
    exact dayQ_full l p n m (i + 1) _ (by omega) (fun j hj => h j (by omega))
theorem dayQ_mx (l : List S66) (p : List S70) (n : Nat) : ∀ (m : Nat) (i a b : Int), dayQ l p n m i (mx a b) = mx (dayQ l p n m i a) b
  | 0, _, _, _ => rfl
  | m + 1, i, a, b => by
    unfold dayQ
    by_cases h : n.testBit i.toNat = true
    · rw [if_pos h, if_pos h, mx_right, dayQ_mx l p n m (i + 1)]
    · rw [if_neg h, if_neg h, dayQ_mx l p n m (i + 1)]
theorem rdS_set_ne {p : List S70} {i j : Int} {x : S70} (h0 : 0 ≤ i) (h1 : 0 ≤ j) (h : i ≠ j) : rd_T70 (p.set i.toNat x) j = rd_T70 p j := by
  simp [rd_T70, List.getD_eq_getElem?_getD, List.getElem?_set, show ¬ i.toNat = j.toNat by omega]
theorem rdS_set_eq {p : List S70} {i : Int} {x : S70} (h0 : 0 ≤ i) (h1 : i < (p.length : Int)) : rd_T70 (p.set i.toNat x) i = x := by
  simp [rd_T70, List.getD_eq_getElem?_getD, List.getElem?_set, show i.toNat < p.length by omega]
theorem dayQ_set (l : List S66) (p : List S70) (n : Nat) (r : Int) (x : S70) (r0 : 0 ≤ r) (r1 : r < (p.length : Int)) (hb : n.testBit r.toNat = false) : ∀ (m : Nat) (i a : Int), 0 ≤ i →
    dayQ l (p.set r.toNat x) (n ||| 2 ^ r.toNat) m i a = if i ≤ r ∧ r < i + m then mx (dayQ l p n m i a) (x.f1 + (rd_T66 l r).f0) else dayQ l p n m i a
  | 0, i, a, h0 => by rw [if_neg (by omega)]; rfl
  | m + 1, i, a, h0 => by
    unfold dayQ
    rw [Nat.testBit_or, Nat.testBit_two_pow]
    by_cases e : r = i
    · subst e
      rw [dayQ_set l p n r x r0 r1 hb m (r + 1) _ (by omega), if_neg (show ¬ (r + 1 ≤ r ∧ r < r + 1 + (m : Int)) by omega), if_pos (show r ≤ r ∧ r < r + ((m + 1 : Nat) : Int) by omega)]
      simp only [hb, Bool.false_or, decide_true, if_true, Bool.false_eq_true, if_false]
      unfold doneP
      rw [rdS_set_eq r0 r1, dayQ_mx]
    · rw [dayQ_set l p n r x r0 r1 hb m (i + 1) _ (by omega)]
      simp only [show ¬ r.toNat = i.toNat by omega, decide_false, Bool.or_false]
      have e2 : doneP l (p.set r.toNat x) i = doneP l p i := by unfold doneP; rw [rdS_set_ne r0 h0 e]
      rw [e2]
      by_cases h3 : i + 1 ≤ r ∧ r < i + 1 + (m : Int)
      · rw [if_pos h3, if_pos (show i ≤ r ∧ r < i + ((m + 1 : Nat) : Int) by omega)]
      · rw [if_neg h3, if_neg (show ¬ (i ≤ r ∧ r < i + ((m + 1 : Nat) : Int)) by omega)]

/-! ### the search -/
def Rel (s : LS) (t : GS) : Prop := s.best.isSome = t.found ∧ s.best.getD [] = t.best ∧ s.length = t.least ∧ s.tries = t.tries ∧ s.over = false ∧ t.best.length ≤ 12
def Fin (bd : Int) (t : GS) : Prop := t.found = true ∧ t.least = bd
def Out (bd bu : Int) (p : List S70) (f : List Int) (n : Nat) (rb : Bool) (s : LS) (ok : Bool) (t : GS) : Prop :=
  (ok = false → rb = true ∧ s.over = true) ∧ (ok = true → Rel s t ∧ 0 ≤ t.tries ∧ t.tries ≤ bu ∧ (rb = true ↔ Fin bd t) ∧ (rb = false → s.plan = p ∧ s.free = f ∧ s.taken = (n : Int)))
theorem goDone {l : List S66} (hl : l.length ≤ 12) (bd bu : Int) (t : GS) (p : List S70) (f : List Int) (d c : Int) (hf : Fin bd t) : ∀ (m : Nat) (i : Int), 0 ≤ i → i + m = (l.length : Int) → Ev (fun k => goG l bd bu k (some i) t p f d c) (true, t) := by
  intro m
  induction m with
  | zero =>
    intro i i0 hi
    refine Ev.step (fun _ => rfl) ?_
    simp only [goG, if_neg (show ¬ i < (l.length : Int) by omega)]
    exact Ev.now _
  | succ m ih =>
    intro i i0 hi
    refine Ev.step (fun _ => rfl) ?_
    have hc : (Int.tmod (shr .u16 d i) 2 = 1 ∨ Go.bits .andNot .u16 (rd_T66 l i).f1 d ≠ 0) ∨ (t.found = true ∧ t.least = bd) := .inr hf
    simp only [goG, if_pos (show i < (l.length : Int) by omega), if_pos hc, w64 (n := i + 1) (by omega) (by omega)]
    exact ih (i + 1) (by omega) (by omega)
theorem WS_set {p : List S70} (hp : WS p) (i : Nat) (x : S70) (hx : -128 ≤ x.f0 ∧ x.f0 ≤ 127 ∧ -32768 ≤ x.f1 ∧ x.f1 ≤ 32767) : WS (p.set i x) := by
  intro y hy
  rcases List.mem_or_eq_of_mem_set hy with h | h
  · exact hp y h
  · rw [h]; exact hx
theorem set_backS (p : List S70) (i : Int) (x : S70) (h0 : 0 ≤ i) (h1 : i < (p.length : Int)) : (p.set i.toNat x).set i.toNat (rd_T70 p i) = p := by
  rw [List.set_set]
  have e : rd_T70 p i = p[i.toNat]'(by omega) := by simp [rd_T70, List.getD_eq_getElem?_getD, List.getElem?_eq_getElem (show i.toNat < p.length by omega)]
  rw [e, List.set_getElem_self]
theorem set_backI (p : List Int) (i : Int) (x : Int) (h0 : 0 ≤ i) (h1 : i < (p.length : Int)) : (p.set i.toNat x).set i.toNat (rd p i) = p := by
  rw [List.set_set]
  have e : rd p i = p[i.toNat]'(by omega) := by simp [rd, List.getD_eq_getElem?_getD, List.getElem?_eq_getElem (show i.toNat < p.length by omega)]
  rw [e, List.set_getElem_self]
theorem search {l : List S66} (hw : WJ l) (hl : l.length ≤ 12) (bd bu : Int) (hbu0 : 0 ≤ bu) (hbu1 : bu ≤ 20000) :
    ∀ (rem : Nat) (p : List S70) (f : List Int) (n : Nat) (s : LS) (t : GS) (day : Int), cnt n l.length + rem = l.length → n < 2 ^ l.length → WS p → p.length = l.length → 1 ≤ f.length → f.length ≤ 4 →
      s.plan = p → s.free = f → s.taken = (n : Int) → day = dayQ l p n l.length 0 0 → Rel s t → 0 ≤ t.tries → t.tries ≤ bu → ¬ Fin bd t →
      ∃ rb s' ok t', Ev (fun k => lookG l bd bu k none s day) (rb, s') ∧ Ev (fun k => goG l bd bu k none t p f (n : Int) ((cnt n l.length : Nat) : Int)) (ok, t') ∧ Out bd bu p f n rb s' ok t' := by
  intro rem
  induction rem with
  | zero =>
    intro p f n s t day hc hn hp hlp hf0 hf1 sp sf sn hd hr ht0 ht1 hnf
    have hfull : cnt n l.length = l.length := by omega
    refine ⟨day == bd, { s with best := some p, length := day }, true, { t with best := p, least := day, found := true }, ?_, ?_, ?_⟩
    · refine Ev.step (fun _ => rfl) ?_
      simp only [lookG, sn, if_pos ((full_iff l n hl hn).2 hfull), sp]
      exact Ev.now _
    · refine Ev.step (fun _ => rfl) ?_
      simp only [goG, hfull, if_true]
      have h2 := lengthS hw hp hlp (by omega)
      have e : lenP l p l.length 0 0 = day := by rw [hd]; exact (dayQ_full l p n l.length 0 0 (by omega) (fun j hj => (cnt_full n _).1 hfull j (by simpa using hj))).symm
      rw [e] at h2
      exact Ev.bind h2 (Ev.now _)
    · refine ⟨fun h => (by cases h), fun _ => ⟨⟨rfl, rfl, rfl, hr.2.2.2.1, hr.2.2.2.2.1, by show p.length ≤ 12; omega⟩, ht0, ht1, ?_, fun _ => ⟨sp, sf, sn⟩⟩⟩
      simp [Fin]
  | succ rem ih =>
    intro p f n s t day hc hn hp hlp hf0 hf1 sp sf sn hd hr ht0 ht1 hnf
    have hm16 : 2 ^ l.length ≤ 2 ^ 12 := Nat.pow_le_pow_right (by omega) hl
    have loop : ∀ (m : Nat) (i : Int) (s : LS) (t : GS), 0 ≤ i → i + m = (l.length : Int) → s.plan = p → s.free = f → s.taken = (n : Int) → Rel s t → 0 ≤ t.tries → t.tries ≤ bu → ¬ Fin bd t →
        ∃ rb s' ok t', Ev (fun k => lookG l bd bu k (some i) s day) (rb, s') ∧ Ev (fun k => goG l bd bu k (some i) t p f (n : Int) ((cnt n l.length : Nat) : Int)) (ok, t') ∧ Out bd bu p f n rb s' ok t' := by
      intro m
      induction m with
      | zero =>
        intro i s t i0 hi sp sf sn hr ht0 ht1 hnf
        refine ⟨false, s, true, t, ?_, ?_, fun h => (by cases h), fun _ => ⟨hr, ht0, ht1, ⟨fun h => (by cases h), fun h => absurd h hnf⟩, fun _ => ⟨sp, sf, sn⟩⟩⟩
        · refine Ev.step (fun _ => rfl) ?_
          simp only [lookG, if_neg (show ¬ i < (l.length : Int) by omega)]
          exact Ev.now _
        · refine Ev.step (fun _ => rfl) ?_
          simp only [goG, if_neg (show ¬ i < (l.length : Int) by omega)]
          exact Ev.now _
      | succ m ihm =>
        intro i s t i0 hi sp sf sn hr ht0 ht1 hnf
        have i1 : i < (l.length : Int) := by omega
        have hb := shr_bit n i i0 (by omega)
        have hsr := shr_range (n : Int) i (by omega) (by omega)
        have hao := and_one _ hsr.1 hsr.2
        rw [hb] at hao
        have hsk : ∀ (h : (Int.tmod (shr .u16 (n : Int) i) 2 = 1 ∨ Go.bits .andNot .u16 (rd_T66 l i).f1 (n : Int) ≠ 0)), ∃ rb s' ok t', Ev (fun k => lookG l bd bu k (some i) s day) (rb, s') ∧ Ev (fun k => goG l bd bu k (some i) t p f (n : Int) ((cnt n l.length : Nat) : Int)) (ok, t') ∧ Out bd bu p f n rb s' ok t' := by
          intro h
          obtain ⟨rb, s', ok, t', h1, h2, ho⟩ := ihm (i + 1) s t (by omega) (by omega) sp sf sn hr ht0 ht1 hnf
          refine ⟨rb, s', ok, t', ?_, ?_, ho⟩
          · refine Ev.step (fun _ => rfl) ?_
            by_cases c1 : n.testBit i.toNat = true
            · simp only [lookG, if_pos i1, sn, hao, if_pos c1, if_true, w64 (n := i + 1) (by omega) (by omega)]
              exact h1
            · have h3 : Go.bits .andNot .u16 (rd_T66 l i).f1 (n : Int) ≠ 0 := by
                rcases h with h | h
                · rw [hb, if_neg c1] at h; omega
                · exact h
              simp only [lookG, if_pos i1, sn, hao, if_neg c1, if_neg (show ¬ (0 : Int) = 1 by omega), if_pos h3, w64 (n := i + 1) (by omega) (by omega)]
              exact h1
          · refine Ev.step (fun _ => rfl) ?_
            have hcn : (Int.tmod (shr .u16 (n : Int) i) 2 = 1 ∨ Go.bits .andNot .u16 (rd_T66 l i).f1 (n : Int) ≠ 0) ∨ (t.found = true ∧ t.least = bd) := .inl h
            simp only [goG, if_pos i1, if_pos hcn, w64 (n := i + 1) (by omega) (by omega)]
            exact h2
        by_cases c1 : n.testBit i.toNat = true
        · exact hsk (.inl (by rw [hb, if_pos c1]))
        by_cases c2 : Go.bits .andNot .u16 (rd_T66 l i).f1 (n : Int) ≠ 0
        · exact hsk (.inr c2)
        clear hsk
        have hcn : ¬ ((Int.tmod (shr .u16 (n : Int) i) 2 = 1 ∨ Go.bits .andNot .u16 (rd_T66 l i).f1 (n : Int) ≠ 0) ∨ (t.found = true ∧ t.least = bd)) := by
          rintro ((h | h) | h)
          · rw [hb, if_neg c1] at h; omega
          · exact c2 h
          · exact hnf h
        have hx := hw _ (rdJ_mem i0 i1)
        obtain ⟨u0, u1, u2, u3, u4, u5⟩ := putP_range (l := l) (p := p) hf0 hf1 i
        have hpi := putI hw hp hlp hl hf0 hf1 i i0 i1
        have hps := putS hw hp hlp hl hf0 hf1 i i0 i1
        have hdn := done_of hw i i0 i1 (putP l p f i).1 (putP l p f i).2 ⟨u4, u5⟩
        generalize putP l p f i = own at u0 u1 u2 u3 u4 u5 hpi hps hdn
        obtain ⟨fin, hfin⟩ : ∃ q, own.2 + (rd_T66 l i).f0 = q := ⟨_, rfl⟩
        have hfin2 : wrap64 (wrap64 own.2 + wrap64 (rd_T66 l i).f0) = fin := by rw [w64 (n := own.2) (by omega) (by omega), w64 (n := (rd_T66 l i).f0) (by omega) (by omega), w64 (by omega) (by omega), hfin]
        rw [hfin] at hdn
        have hwi : (s.best.isSome = true ∧ fin ≥ s.length) ↔ (t.found = true ∧ fin ≥ t.least) := by rw [hr.1, hr.2.2.1]
        have hst : s.tries = t.tries := hr.2.2.2.1
        by_cases c3 : t.found = true ∧ fin ≥ t.least
        · obtain ⟨rb, s', ok, t', h1, h2, ho⟩ := ihm (i + 1) s t (by omega) (by omega) sp sf sn hr ht0 ht1 hnf
          refine ⟨rb, s', ok, t', ?_, ?_, ho⟩
          · refine Ev.step (fun _ => rfl) ?_
            simp only [lookG, if_pos i1, sn, sp, sf, hao, if_neg c1, if_neg (show ¬ (0 : Int) = 1 by omega), if_neg c2]
            refine Ev.bind hpi ?_
            simp only [hdn, Option.bind_some, if_pos (hwi.2 c3), w64 (n := i + 1) (by omega) (by omega)]
            exact h1
          · refine Ev.step (fun _ => rfl) ?_
            simp only [goG, if_pos i1, if_neg hcn]
            refine Ev.bind hps ?_
            simp only [hfin2, if_pos c3, w64 (n := i + 1) (by omega) (by omega)]
            exact h2
        by_cases c4 : t.tries = bu
        · refine ⟨true, { s with tries := wrap64 (s.tries + 1), over := true }, false, t, ?_, ?_, fun _ => ⟨rfl, rfl⟩, fun h => (by cases h)⟩
          · refine Ev.step (fun _ => rfl) ?_
            simp only [lookG, if_pos i1, sn, sp, sf, hao, if_neg c1, if_neg (show ¬ (0 : Int) = 1 by omega), if_neg c2]
            refine Ev.bind hpi ?_
            simp only [hdn, Option.bind_some, if_neg (fun h => c3 (hwi.1 h)), if_pos (show wrap64 (s.tries + 1) > bu by rw [hst, w64 (by omega) (by omega)]; omega)]
            exact Ev.now _
          · refine Ev.step (fun _ => rfl) ?_
            simp only [goG, if_pos i1, if_neg hcn]
            refine Ev.bind hps ?_
            simp only [hfin2, if_neg c3, if_pos c4]
            exact Ev.now _
        have hbf : n.testBit i.toNat = false := by simpa using c1
        have hil : i.toNat < l.length := by omega
        have h2i : 2 ^ i.toNat < 2 ^ l.length := Nat.pow_lt_pow_right (by omega) hil
        have hor : Go.bits .or .u16 (n : Int) (shl .u16 1 i) = ((n ||| 2 ^ i.toNat : Nat) : Int) := by rw [shl_one i i0 (by omega), or_nat _ _ (by omega) (by omega)]
        have hn2 : n ||| 2 ^ i.toNat < 2 ^ l.length := Nat.or_lt_two_pow hn h2i
        have hcnt : cnt (n ||| 2 ^ i.toNat) l.length = cnt n l.length + 1 := by rw [cnt_or n _ hbf, if_pos hil]
        have hcle := cnt_le (n ||| 2 ^ i.toNat) l.length
        have hday : mx day fin = dayQ l (p.set i.toNat ⟨own.1, own.2⟩) (n ||| 2 ^ i.toNat) l.length 0 0 := by
          rw [dayQ_set l p n i ⟨own.1, own.2⟩ i0 (by omega) hbf l.length 0 0 (by omega), if_pos (by omega), ← hd]
          show mx day fin = mx day (own.2 + (rd_T66 l i).f0)
          rw [hfin]
        obtain ⟨rb, s', ok, t', h1, h2, ho⟩ := ih (p.set i.toNat ⟨own.1, own.2⟩) (f.set own.1.toNat fin) (n ||| 2 ^ i.toNat) { s with tries := wrap64 (s.tries + 1), plan := p.set i.toNat ⟨own.1, own.2⟩, free := f.set own.1.toNat fin, taken := ((n ||| 2 ^ i.toNat : Nat) : Int) } { t with tries := wrap64 (t.tries + 1) } (mx day fin)
          (by omega) hn2 (WS_set hp _ _ ⟨u2, u3, u4, u5⟩) (by rw [List.length_set]; exact hlp) (by rw [List.length_set]; exact hf0) (by rw [List.length_set]; exact hf1) rfl rfl rfl hday ⟨hr.1, hr.2.1, hr.2.2.1, by show wrap64 (s.tries + 1) = wrap64 (t.tries + 1); rw [hst], hr.2.2.2.2⟩
          (by show 0 ≤ wrap64 (t.tries + 1); rw [w64 (by omega) (by omega)]; omega) (by show wrap64 (t.tries + 1) ≤ bu; rw [w64 (by omega) (by omega)]; omega) hnf
        rw [hcnt] at h2
        have hsf : s.free.length = f.length := by rw [sf]
        have impl : ∀ R, (if rb = true then R = (true, s') else Ev (fun k => lookG l bd bu k (some (i + 1)) { s' with plan := s'.plan.set i.toNat (rd_T70 p i), free := s'.free.set own.1.toNat (rd f own.1), taken := Go.bits .andNot .u16 s'.taken (shl .u16 1 i) } day) R) → Ev (fun k => lookG l bd bu k (some i) s day) R := by
          intro R hR
          refine Ev.step (fun _ => rfl) ?_
          simp only [lookG, if_pos i1, sn, sp, sf, hao, if_neg c1, if_neg (show ¬ (0 : Int) = 1 by omega), if_neg c2]
          refine Ev.bind hpi ?_
          simp only [hdn, Option.bind_some, if_neg (fun h => c3 (hwi.1 h)), if_neg (show ¬ wrap64 (s.tries + 1) > bu by rw [hst, w64 (by omega) (by omega)]; omega), if_pos u0, if_pos u1, hor, w64 (n := i + 1) (by omega) (by omega)]
          refine Ev.bind h1 ?_
          cases rb with
          | true => simp only [if_true] at hR ⊢; rw [hR]; exact Ev.now _
          | false => simp only [Bool.false_eq_true, if_false] at hR ⊢; exact hR
        have spec : ∀ R, (if ok = true then Ev (fun k => goG l bd bu k (some (i + 1)) t' p f (n : Int) ((cnt n l.length : Nat) : Int)) R else R = (false, t')) → Ev (fun k => goG l bd bu k (some i) t p f (n : Int) ((cnt n l.length : Nat) : Int)) R := by
          intro R hR
          refine Ev.step (fun _ => rfl) ?_
          simp only [goG, if_pos i1, if_neg hcn]
          refine Ev.bind hps ?_
          simp only [hfin2, if_neg c3, if_neg c4, if_pos u0, if_pos u1, hor, w64 (n := i + 1) (by omega) (by omega), w64 (n := ((cnt n l.length : Nat) : Int) + 1) (by omega) (by omega)]
          refine Ev.bind h2 ?_
          cases ok with
          | true => simp only [if_true] at hR ⊢; exact hR
          | false => simp only [Bool.false_eq_true, if_false] at hR ⊢; rw [hR]; exact Ev.now _
        cases ok with
        | false =>
          obtain ⟨rfl, h3⟩ := ho.1 rfl
          exact ⟨true, s', false, t', impl _ (by rw [if_pos rfl]), spec _ (by rw [if_neg (by decide)]), fun _ => ⟨rfl, h3⟩, fun h => (by cases h)⟩
        | true =>
          obtain ⟨r1, r2, r3, r4, r5⟩ := ho.2 rfl
          cases rb with
          | true =>
            exact ⟨true, s', true, t', impl _ (by rw [if_pos rfl]), spec _ (by rw [if_pos rfl]; exact goDone hl bd bu t' p f _ _ (r4.1 rfl) m (i + 1) (by omega) (by omega)), fun h => (by cases h), fun _ => ⟨r1, r2, r3, r4, fun h => (by cases h)⟩⟩
          | false =>
            obtain ⟨q1, q2, q3⟩ := r5 rfl
            obtain ⟨rb3, s3, ok3, t3, h3, h4, ho3⟩ := ihm (i + 1) { s' with plan := s'.plan.set i.toNat (rd_T70 p i), free := s'.free.set own.1.toNat (rd f own.1), taken := Go.bits .andNot .u16 s'.taken (shl .u16 1 i) } t' (by omega) (by omega)
              (by show s'.plan.set _ _ = p; rw [q1, set_backS p i _ i0 (by omega)]) (by show s'.free.set _ _ = f; rw [q2, set_backI f own.1 _ u0 u1]) (by show Go.bits .andNot .u16 s'.taken (shl .u16 1 i) = _; rw [q3, shl_one i i0 (by omega), set_back n i.toNat l.length hl hn hil hbf]) ⟨r1.1, r1.2.1, r1.2.2.1, r1.2.2.2.1, r1.2.2.2.2⟩ r2 r3 (fun h => by have := r4.2 h; cases this)
            exact ⟨rb3, s3, ok3, t3, impl _ (by rw [if_neg (by decide)]; exact h3), spec _ (by rw [if_pos rfl]; exact h4), ho3⟩
    obtain ⟨rb, s', ok, t', h1, h2, ho⟩ := loop l.length 0 s t (by omega) (by omega) sp sf sn hr ht0 ht1 hnf
    have hnf2 : ¬ ((n : Int) = fullD l) := fun h => by have := (full_iff l n hl hn).1 h; omega
    refine ⟨rb, s', ok, t', ?_, ?_, ho⟩
    · refine Ev.step (fun _ => rfl) ?_
      simp only [lookG, sn, if_neg hnf2]
      exact h1
    · refine Ev.step (fun _ => rfl) ?_
      simp only [goG, if_neg (show ¬ ((cnt n l.length : Nat) : Int) = (l.length : Int) by omega)]
      exact h2

/-! ### the bound -/
theorem ordR_good (l : List S66) (hl : l.length ≤ 12) : ∀ (m : Nat) (n : Nat) (out : List Int), n < 2 ^ l.length → (∀ x ∈ out, 0 ≤ x ∧ x < (l.length : Int) ∧ n.testBit x.toNat = true) → out.Nodup →
    (∀ x ∈ (ordR l m (n : Int) out).1, 0 ≤ x ∧ x < (l.length : Int)) ∧ (ordR l m (n : Int) out).1.Nodup
  | 0, n, out, hn, h, hd => ⟨fun x hx => ⟨(h x hx).1, (h x hx).2.1⟩, hd⟩
  | m + 1, n, out, hn, h, hd => by
    simp only [ordR]
    by_cases hf : firstP l (n : Int) < 0
    · rw [if_pos hf]
      exact ⟨fun x hx => ⟨(h x hx).1, (h x hx).2.1⟩, hd⟩
    · rw [if_neg hf]
      have hm16 : 2 ^ l.length ≤ 2 ^ 12 := Nat.pow_le_pow_right (by omega) hl
      obtain ⟨r0, r1, r2, _⟩ : 0 ≤ firstP l (n : Int) ∧ firstP l (n : Int) < (l.length : Int) ∧ mayP l (n : Int) (firstP l (n : Int)) = true ∧ True := by
        rcases firstP_first l (n : Int) with ⟨h1, _⟩ | ⟨h1, h2, h3, _⟩
        · omega
        · exact ⟨h1, h2, h3, trivial⟩
      generalize firstP l (n : Int) = r at hf r0 r1 r2
      have hb : n.testBit r.toNat = false := by
        have h1 := (Bool.and_eq_true_iff.1 r2).1
        have h2 := shr_bit n r r0 (by omega)
        rw [beq_iff_eq] at h1
        rw [h1] at h2
        cases h3 : n.testBit r.toNat with
        | false => rfl
        | true => rw [h3, if_pos rfl] at h2; omega
      have h2i : 2 ^ r.toNat < 2 ^ l.length := Nat.pow_lt_pow_right (by omega) (by omega)
      have hor : nextD (n : Int) r = ((n ||| 2 ^ r.toNat : Nat) : Int) := by unfold nextD; rw [shl_one r r0 (by omega), or_nat _ _ (by omega) (by omega)]
      rw [hor]
      refine ordR_good l hl m (n ||| 2 ^ r.toNat) (out ++ [r]) (Nat.or_lt_two_pow hn h2i) (fun x hx => ?_) ?_
      · rw [Nat.testBit_or, Nat.testBit_two_pow]
        rcases List.mem_append.1 hx with hx | hx
        · obtain ⟨a, b, c⟩ := h x hx
          exact ⟨a, b, by rw [c]; rfl⟩
        · obtain rfl : x = r := by simpa using hx
          exact ⟨r0, r1, by simp⟩
      · rw [List.nodup_append]
        refine ⟨hd, by simp, fun a ha b hb' => ?_⟩
        obtain rfl : b = r := by simpa using hb'
        rintro rfl
        rw [(h a ha).2.2] at hb
        cases hb
def mostR (l : List S66) (out : List Int) (j : Int) : Nat → Int → Int → Int
  | 0, _, a => a
  | m + 1, k, a => mostR l out j m (k + 1) (if waitsP l k j = true then mx a (rd out k) else a)
def tailsR (l : List S66) : List Int → List Int → List Int
  | [], out => out
  | j :: js, out => tailsR l js (out.set j.toNat (wrap64 (mostR l out j l.length 0 0 + wrap64 (rd_T66 l j).f0)))
theorem tailsR_len (l : List S66) : ∀ (js out : List Int), (tailsR l js out).length = out.length
  | [], _ => rfl
  | j :: js, out => by unfold tailsR; rw [tailsR_len l js, List.length_set]
theorem rd_at {x : List Int} {i : Int} (h0 : 0 ≤ i) (h1 : i < (x.length : Int)) : rd x i = x[i.toNat]'(by omega) := by
  simp [rd, List.getD_eq_getElem?_getD, List.getElem?_eq_getElem (show i.toNat < x.length by omega)]
theorem rd_set_eq {x : List Int} {i v : Int} (h0 : 0 ≤ i) (h1 : i < (x.length : Int)) : rd (x.set i.toNat v) i = v := by
  simp [rd, List.getD_eq_getElem?_getD, List.getElem?_set, show i.toNat < x.length by omega]
theorem rd_set_ne {x : List Int} {i j v : Int} (h0 : 0 ≤ i) (h1 : 0 ≤ j) (h : i ≠ j) : rd (x.set i.toNat v) j = rd x j := by
  simp [rd, List.getD_eq_getElem?_getD, List.getElem?_set, show ¬ i.toNat = j.toNat by omega]
theorem take_rd {o : List Int} {j : Int} (j0 : 0 ≤ j) (j1 : j < (o.length : Int)) : (o.take (j + 1).toNat).reverse = rd o j :: (o.take j.toNat).reverse := by
  rw [show (j + 1).toNat = j.toNat + 1 by omega, List.take_add_one, List.getElem?_eq_getElem (show j.toNat < o.length by omega), List.reverse_append, rd_at j0 j1]
  rfl
theorem drop_rd {o : List Int} {j : Int} (j0 : 0 ≤ j) (j1 : j < (o.length : Int)) : o.drop j.toNat = rd o j :: o.drop (j + 1).toNat := by
  rw [List.drop_eq_getElem_cons (show j.toNat < o.length by omega), show (j + 1).toNat = j.toNat + 1 by omega, rd_at j0 j1]
theorem tailsS {l : List S66} (hl : l.length ≤ 12) (o : List Int) (ho : o.length ≤ 12) (hr : ∀ x ∈ o, 0 ≤ x ∧ x < (l.length : Int)) : ∀ (m : Nat) (out : List Int), m ≤ o.length → out.length = l.length → Ev (fun k => spec_l07Tails.l0 k l o out ((m : Int) - 1)) (tailsR l (o.take m).reverse out) := by
  intro m
  induction m with
  | zero =>
    intro out hm ho
    refine Ev.step (fun _ => rfl) ?_
    simp only [spec_l07Tails.l0, if_neg (show ¬ ((0 : Nat) : Int) - 1 ≥ 0 by omega)]
    exact Ev.now _
  | succ m ih =>
    intro out hm hol
    have e : ((m + 1 : Nat) : Int) - 1 = (m : Int) := by omega
    have hj := hr (rd o (m : Int)) (by rw [rd_at (by omega) (by omega)]; exact List.getElem_mem _)
    have ht := take_rd (o := o) (j := (m : Int)) (by omega) (by omega)
    rw [show ((m : Int) + 1).toNat = m + 1 by omega, show ((m : Int)).toNat = m by omega] at ht
    rw [ht]
    refine Ev.step (fun _ => rfl) ?_
    simp only [spec_l07Tails.l0, e, if_pos (show (m : Int) ≥ 0 by omega), if_pos (show 0 ≤ (m : Int) by omega), if_pos (show (m : Int) < (o.length : Int) by omega), tailsR]
    generalize rd o (m : Int) = j at hj
    have key : ∀ (q : Nat) (k a : Int), 0 ≤ k → k + q = (l.length : Int) → Ev (fun n => spec_l07Tails.l1 n l o out (m : Int) j a k) (tailsR l (o.take m).reverse (out.set j.toNat (wrap64 (mostR l out j q k a + wrap64 (rd_T66 l j).f0)))) := by
      intro q
      induction q with
      | zero =>
        intro k a k0 hk
        refine Ev.step (fun _ => rfl) ?_
        simp only [spec_l07Tails.l1, if_neg (show ¬ k < (l.length : Int) by omega), if_pos hj.1, if_pos hj.2, if_pos (show j < (out.length : Int) by omega), w64 (n := (m : Int) - 1) (by omega) (by omega), mostR]
        exact ih _ (by omega) (by rw [List.length_set]; exact hol)
      | succ q ihq =>
        intro k a k0 hk
        refine Ev.step (fun _ => rfl) ?_
        simp only [spec_l07Tails.l1, if_pos (show k < (l.length : Int) by omega), waitsS (show l.length ≤ 1048576 by omega) k j k0 (by omega) hj.1 hj.2, Option.bind_some, if_pos k0, if_pos (show k < (out.length : Int) by omega), max_f, w64 (n := k + 1) (by omega) (by omega), mostR]
        cases hwt : waitsP l k j with
        | true => simp only [if_true]; exact ihq (k + 1) _ (by omega) (by omega)
        | false => simp only [Bool.false_eq_true, if_false]; exact ihq (k + 1) _ (by omega) (by omega)
    exact key l.length 0 0 (by omega) (by omega)
theorem tailsI {l : List S66} (hw : WJ l) (hl : l.length ≤ 12) (o : List Int) (ho : o.length ≤ 12) (hr : ∀ x ∈ o, 0 ≤ x ∧ x < (l.length : Int)) (hd : o.Nodup) : ∀ (m : Nat) (i : Int) (out : List Int), 0 ≤ i → i + m = (o.length : Int) → out.length = l.length → (∀ x ∈ o.drop i.toNat, rd out x = 0) → Ev (fun k => impl_tails.l0 k l out o (o.length : Int) i) (tailsR l (o.drop i.toNat) out) := by
  intro m
  induction m with
  | zero =>
    intro i out i0 hi hol hz
    rw [List.drop_eq_nil_of_le (by omega)]
    refine Ev.step (fun _ => rfl) ?_
    simp only [impl_tails.l0, if_neg (show ¬ i < (o.length : Int) by omega)]
    exact Ev.now _
  | succ m ih =>
    intro i out i0 hi hol hz
    have hj := hr (rd o i) (by rw [rd_at i0 (by omega)]; exact List.getElem_mem _)
    have hdr := drop_rd (o := o) (j := i) i0 (by omega)
    rw [hdr] at hz ⊢
    have hnd : (rd o i :: o.drop (i + 1).toNat).Nodup := by rw [← hdr]; exact hd.sublist (List.drop_sublist _ _)
    have hnm : rd o i ∉ o.drop (i + 1).toNat := (List.nodup_cons.1 hnd).1
    refine Ev.step (fun _ => rfl) ?_
    simp only [impl_tails.l0, if_pos (show i < (o.length : Int) by omega), if_pos i0, tailsR]
    have hz0 := hz (rd o i) List.mem_cons_self
    generalize rd o i = j at hj hnm hz0 hz
    have key : ∀ (q : Nat) (k a : Int), 0 ≤ k → k + q = (l.length : Int) → 0 ≤ a → Ev (fun n => impl_tails.l1 n l (out.set j.toNat a) j o (o.length : Int) i (l.length : Int) k) (tailsR l (o.drop (i + 1).toNat) (out.set j.toNat (wrap64 (mostR l out j q k a + wrap64 (rd_T66 l j).f0)))) := by
      intro q
      induction q with
      | zero =>
        intro k a k0 hk ha
        refine Ev.step (fun _ => rfl) ?_
        simp only [impl_tails.l1, if_neg (show ¬ k < (l.length : Int) by omega), if_pos hj.1, List.length_set, if_pos (show j < (out.length : Int) by omega), if_pos hj.2, rd_set_eq hj.1 (show j < (out.length : Int) by omega), List.set_set, w64 (n := i + 1) (by omega) (by omega), mostR]
        refine ih (i + 1) _ (by omega) (by omega) (by rw [List.length_set]; exact hol) (fun x hx => ?_)
        rw [rd_set_ne hj.1 ((hr x (List.mem_of_mem_drop hx)).1) (fun e => hnm (e ▸ hx))]
        exact hz x (List.mem_cons_of_mem _ hx)
      | succ q ihq =>
        intro k a k0 hk ha
        refine Ev.step (fun _ => rfl) ?_
        simp only [impl_tails.l1, if_pos (show k < (l.length : Int) by omega), if_pos k0, waitsI hw k j k0 (by omega) hj.1, Option.bind_some, if_pos hj.1, List.length_set, if_pos (show j < (out.length : Int) by omega), if_pos (show k < (out.length : Int) by omega), rd_set_eq hj.1 (show j < (out.length : Int) by omega), List.set_set, w64 (n := k + 1) (by omega) (by omega), mostR]
        cases hwt : waitsP l k j with
        | true =>
          simp only [if_true]
          have e : mx a (rd (out.set j.toNat a) k) = mx a (rd out k) := by
            by_cases hkj : k = j
            · subst hkj
              rw [rd_set_eq hj.1 (by omega), hz0]
              unfold mx; split <;> split <;> omega
            · rw [rd_set_ne hj.1 k0 (fun h => hkj h.symm)]
          rw [e]
          exact ihq (k + 1) _ (by omega) (by omega) (Int.le_trans ha (mx_ge1 _ _))
        | false => simp only [Bool.false_eq_true, if_false]; exact ihq (k + 1) _ (by omega) (by omega) ha
    have h0 := key l.length 0 0 (by omega) (by omega) (by omega)
    have e : out.set j.toNat 0 = out := by
      have h2 := rd_at (x := out) hj.1 (by omega)
      rw [hz0] at h2
      conv => lhs; rw [h2]
      exact List.set_getElem_self _
    rw [e] at h0
    exact h0
theorem reverse_ev (o : List Int) (ho : o.length ≤ 12) : Ev (fun k => slices_Reverse_int64_int64.f k o) o.reverse := by
  have key : ∀ (m : Nat) (i : Int) (x : List Int), 0 ≤ i → i ≤ (o.length : Int) → (o.length : Int) - 2 * i ≤ m → x.length = o.length → (∀ q : Nat, q < o.length → x.getD q 0 = if (q : Int) < i ∨ (q : Int) > (o.length : Int) - 1 - i then o.getD (o.length - 1 - q) 0 else o.getD q 0) → Ev (fun k => slices_Reverse_int64_int64.l0 k x i ((o.length : Int) - 1 - i)) o.reverse := by
    intro m
    induction m with
    | zero =>
      intro i x i0 i1 hm hx hq
      refine Ev.step (fun _ => rfl) ?_
      simp only [slices_Reverse_int64_int64.l0, if_neg (show ¬ i < (o.length : Int) - 1 - i by omega)]
      have e : x = o.reverse := by
        refine List.ext_getElem (by rw [List.length_reverse]; exact hx) (fun q h1 h2 => ?_)
        have h3 := hq q (by omega)
        rw [List.getD_eq_getElem?_getD, List.getElem?_eq_getElem h1, Option.getD_some] at h3
        rw [h3, List.getElem_reverse]
        split
        · rw [List.getD_eq_getElem?_getD, List.getElem?_eq_getElem (by omega), Option.getD_some]
        · omega
      rw [e]
      exact Ev.now _
    | succ m ih =>
      intro i x i0 i1 hm hx hq
      by_cases hlt : i < (o.length : Int) - 1 - i
      · refine Ev.step (fun _ => rfl) ?_
        simp only [slices_Reverse_int64_int64.l0, if_pos hlt, if_pos (show 0 ≤ (o.length : Int) - 1 - i by omega), if_pos (show (o.length : Int) - 1 - i < (x.length : Int) by omega), if_pos i0, if_pos (show i < (x.length : Int) by omega), w64 (n := i + 1) (by omega) (by omega), w64 (n := (o.length : Int) - 1 - i - 1) (by omega) (by omega)]
        have h2 := ih (i + 1) ((x.set i.toNat (rd x ((o.length : Int) - 1 - i))).set ((o.length : Int) - 1 - i).toNat (rd x i)) (by omega) (by omega) (by omega) (by rw [List.length_set, List.length_set]; exact hx) (fun q hql => ?_)
        · rw [show (o.length : Int) - 1 - (i + 1) = (o.length : Int) - 1 - i - 1 by omega] at h2
          exact h2
        · have a1 := hq i.toNat (by omega)
          have a2 := hq ((o.length : Int) - 1 - i).toNat (by omega)
          have a3 := hq q hql
          rw [if_neg (by omega)] at a1 a2
          have b1 : rd x i = o.getD i.toNat 0 := a1
          have b2 : rd x ((o.length : Int) - 1 - i) = o.getD ((o.length : Int) - 1 - i).toNat 0 := a2
          rw [b1, b2]
          by_cases e1 : q = ((o.length : Int) - 1 - i).toNat
          · subst e1
            rw [if_pos (by omega), List.getD_eq_getElem?_getD, List.getElem?_set_self (by rw [List.length_set]; omega), Option.getD_some]
            congr 1; omega
          · by_cases e2 : q = i.toNat
            · subst e2
              rw [if_pos (by omega), List.getD_eq_getElem?_getD, List.getElem?_set_ne (by omega), List.getElem?_set_self (by omega), Option.getD_some]
              congr 1; omega
            · rw [List.getD_eq_getElem?_getD, List.getElem?_set_ne (by omega), List.getElem?_set_ne (by omega), ← List.getD_eq_getElem?_getD, a3]
              by_cases e3 : (q : Int) < i ∨ (q : Int) > (o.length : Int) - 1 - i
              · rw [if_pos e3, if_pos (by omega)]
              · rw [if_neg e3, if_neg (by omega)]
      · refine Ev.step (fun _ => rfl) ?_
        simp only [slices_Reverse_int64_int64.l0, if_neg hlt]
        have e : x = o.reverse := by
          refine List.ext_getElem (by rw [List.length_reverse]; exact hx) (fun q h1 h2 => ?_)
          have h3 := hq q (by omega)
          rw [List.getD_eq_getElem?_getD, List.getElem?_eq_getElem h1, Option.getD_some] at h3
          rw [h3, List.getElem_reverse]
          split
          · rw [List.getD_eq_getElem?_getD, List.getElem?_eq_getElem (by omega), Option.getD_some]
          · rw [List.getD_eq_getElem?_getD, List.getElem?_eq_getElem (by omega), Option.getD_some]
            congr 1; omega
        rw [e]
        exact Ev.now _
  unfold slices_Reverse_int64_int64.f
  have h := key o.length 0 o (by omega) (by omega) (by omega) rfl (fun q hq => by rw [if_neg (by omega)])
  simp only [w64 (n := (o.length : Int) - 1) (by omega) (by omega)]
  rw [show (o.length : Int) - 1 - 0 = (o.length : Int) - 1 by omega] at h
  exact h
theorem order_parts {l : List S66} (hl : l.length ≤ 12) (hok : (ordR l l.length 0 []).2 = true) : (ordR l l.length 0 []).1.length = l.length ∧ (∀ x ∈ (ordR l l.length 0 []).1, 0 ≤ x ∧ x < (l.length : Int)) ∧ (ordR l l.length 0 []).1.Nodup := by
  have h1 := (ordR_len l l.length 0 []).1 hok
  have h2 := ordR_good l hl l.length 0 [] (Nat.two_pow_pos _) (by simp) List.nodup_nil
  exact ⟨by simpa using h1, h2.1, h2.2⟩
def tailsP (l : List S66) : List Int := tailsR l (ordR l l.length 0 []).1.reverse (List.replicate l.length 0)
theorem tails_I {l : List S66} (hw : WJ l) (hl : l.length ≤ 12) (hok : (ordR l l.length 0 []).2 = true) : Ev (fun k => impl_tails.f k l) (tailsP l) := by
  obtain ⟨o1, o2, o3⟩ := order_parts hl hok
  unfold impl_tails.f tailsP
  simp only [if_pos (show 0 ≤ (l.length : Int) by omega), Int.toNat_natCast, if_pos (show l.length ≤ 35184372088832 by omega)]
  refine Ev.bind (order_ev l hl) ?_
  refine Ev.bind (reverse_ev _ (by omega)) ?_
  have h := tailsI hw hl (ordR l l.length 0 []).1.reverse (by rw [List.length_reverse]; omega) (fun x hx => o2 x (List.mem_reverse.1 hx)) (List.pairwise_reverse.2 (List.Pairwise.imp (fun h => Ne.symm h) o3)) (ordR l l.length 0 []).1.reverse.length 0 (List.replicate l.length 0) (by omega) (by omega) List.length_replicate (fun x hx => by
    have := o2 x (List.mem_reverse.1 (List.mem_of_mem_drop hx))
    simp only [rd, List.getD_eq_getElem?_getD, List.getElem?_replicate]
    split <;> rfl)
  rw [List.length_reverse] at h
  simpa using h
theorem tails_S {l : List S66} (hw : WJ l) (hl : l.length ≤ 12) (hok : (ordR l l.length 0 []).2 = true) : Ev (fun k => spec_l07Tails.f k l) (tailsP l) := by
  obtain ⟨o1, o2, o3⟩ := order_parts hl hok
  unfold spec_l07Tails.f tailsP
  refine Ev.bind (order_spec_ev l hl) ?_
  simp only [hok, if_true, if_pos (show 0 ≤ (l.length : Int) by omega), Int.toNat_natCast, if_pos (show l.length ≤ 35184372088832 by omega)]
  have h := tailsS hl (ordR l l.length 0 []).1 (by omega) o2 (ordR l l.length 0 []).1.length (List.replicate l.length 0) (Nat.le_refl _) List.length_replicate
  rw [List.take_length] at h
  rw [w64 (by omega) (by omega)]
  exact h
def longR (x : List Int) : Nat → Int → Int → Int
  | 0, _, a => a
  | m + 1, i, a => longR x m (i + 1) (mx a (rd x i))
theorem tailsP_len (l : List S66) : (tailsP l).length = l.length := by unfold tailsP; rw [tailsR_len, List.length_replicate]
theorem long_I {l : List S66} (hw : WJ l) (hl : l.length ≤ 12) (hok : (ordR l l.length 0 []).2 = true) : Ev (fun k => impl_longest.f k l) (longR (tailsP l) l.length 0 0) := by
  unfold impl_longest.f
  refine Ev.bind (tails_I hw hl hok) ?_
  have hn := tailsP_len l
  generalize tailsP l = x at hn
  have key : ∀ (m : Nat) (i a : Int), 0 ≤ i → i + m = (x.length : Int) → Ev (fun k => impl_longest.l0 k a x (x.length : Int) i) (longR x m i a) := by
    intro m
    induction m with
    | zero =>
      intro i a i0 hi
      refine Ev.step (fun _ => rfl) ?_
      simp only [impl_longest.l0, if_neg (show ¬ i < (x.length : Int) by omega)]
      exact Ev.now _
    | succ m ih =>
      intro i a i0 hi
      refine Ev.step (fun _ => rfl) ?_
      simp only [impl_longest.l0, if_pos (show i < (x.length : Int) by omega), if_pos i0, w64 (n := i + 1) (by omega) (by omega)]
      exact ih (i + 1) _ (by omega) (by omega)
  rw [← hn]
  exact key x.length 0 0 (by omega) (by omega)
theorem long_S {l : List S66} (hw : WJ l) (hl : l.length ≤ 12) (hok : (ordR l l.length 0 []).2 = true) : Ev (fun k => spec_l07Longest.f k l) (longR (tailsP l) l.length 0 0) := by
  unfold spec_l07Longest.f
  refine Ev.bind (tails_S hw hl hok) ?_
  have hn := tailsP_len l
  generalize tailsP l = x at hn
  have key : ∀ (m : Nat) (i a : Int), 0 ≤ i → i + m = (x.length : Int) → Ev (fun k => spec_l07Longest.l0 k x a i) (longR x m i a) := by
    intro m
    induction m with
    | zero =>
      intro i a i0 hi
      refine Ev.step (fun _ => rfl) ?_
      simp only [spec_l07Longest.l0, if_neg (show ¬ i < (x.length : Int) by omega)]
      exact Ev.now _
    | succ m ih =>
      intro i a i0 hi
      refine Ev.step (fun _ => rfl) ?_
      simp only [spec_l07Longest.l0, if_pos (show i < (x.length : Int) by omega), if_pos i0, max_f, Option.bind_some, w64 (n := i + 1) (by omega) (by omega)]
      exact ih (i + 1) _ (by omega) (by omega)
  rw [← hn]
  exact key x.length 0 0 (by omega) (by omega)
def sumR (l : List S66) : Nat → Int → Int → Int
  | 0, _, a => a
  | m + 1, i, a => sumR l m (i + 1) (wrap64 (a + wrap64 (rd_T66 l i).f0))
def boundP (l : List S66) (h : Int) : Int := mx (longR (tailsP l) l.length 0 0) (wrap64 (Int.tdiv (wrap64 (wrap64 (sumR l l.length 0 0 + h) - 1)) h))
theorem bound_I {l : List S66} (hw : WJ l) (hl : l.length ≤ 12) (hok : (ordR l l.length 0 []).2 = true) (h : Int) (h0 : 1 ≤ h) : Ev (fun k => impl_bound.f k l h) (boundP l h) := by
  have key : ∀ (m : Nat) (i a : Int), 0 ≤ i → i + m = (l.length : Int) → Ev (fun k => impl_bound.l0 k l h a l (l.length : Int) i) (mx (longR (tailsP l) l.length 0 0) (wrap64 (Int.tdiv (wrap64 (wrap64 (sumR l m i a + h) - 1)) h))) := by
    intro m
    induction m with
    | zero =>
      intro i a i0 hi
      refine Ev.step (fun _ => rfl) ?_
      simp only [impl_bound.l0, if_neg (show ¬ i < (l.length : Int) by omega)]
      refine Ev.bind (long_I hw hl hok) ?_
      simp only [if_neg (show ¬ h = 0 by omega), sumR]
      exact Ev.now _
    | succ m ih =>
      intro i a i0 hi
      refine Ev.step (fun _ => rfl) ?_
      simp only [impl_bound.l0, if_pos (show i < (l.length : Int) by omega), if_pos i0, w64 (n := i + 1) (by omega) (by omega), sumR]
      exact ih (i + 1) _ (by omega) (by omega)
  exact key l.length 0 0 (by omega) (by omega)
theorem bound_S {l : List S66} (hw : WJ l) (hl : l.length ≤ 12) (hok : (ordR l l.length 0 []).2 = true) (h : Int) (h0 : 1 ≤ h) : Ev (fun k => spec_l07Bound.f k l h) (boundP l h) := by
  have key : ∀ (m : Nat) (i a : Int), 0 ≤ i → i + m = (l.length : Int) → Ev (fun k => spec_l07Bound.l0 k l h a i) (mx (longR (tailsP l) l.length 0 0) (wrap64 (Int.tdiv (wrap64 (wrap64 (sumR l m i a + h) - 1)) h))) := by
    intro m
    induction m with
    | zero =>
      intro i a i0 hi
      refine Ev.step (fun _ => rfl) ?_
      simp only [spec_l07Bound.l0, if_neg (show ¬ i < (l.length : Int) by omega)]
      refine Ev.bind (long_S hw hl hok) ?_
      simp only [if_neg (show ¬ h = 0 by omega), sumR, max_f, Option.bind_some]
      exact Ev.now _
    | succ m ih =>
      intro i a i0 hi
      refine Ev.step (fun _ => rfl) ?_
      simp only [spec_l07Bound.l0, if_pos (show i < (l.length : Int) by omega), if_pos i0, w64 (n := i + 1) (by omega) (by omega), sumR]
      exact ih (i + 1) _ (by omega) (by omega)
  exact key l.length 0 0 (by omega) (by omega)

/-! ### the best plan -/
theorem hands_s (h : Int) : spec_l07Hands.f h = some (decide (1 ≤ h ∧ h ≤ 4)) := by unfold spec_l07Hands.f; rw [in_f]; rfl
theorem asked_ev (l : List S66) (hw : WJ l) (hl : l.length ≤ 1048576) (h : Int) : Ev (fun k => spec_l07Asked.f k l h) (if okJ l = true then (if 1 ≤ h ∧ h ≤ 4 then 0 else 2) else 1) := by
  unfold spec_l07Asked.f
  refine Ev.bind (ok_ev l hw hl) ?_
  cases okJ l with
  | false => simp only [Bool.false_eq_true, if_false]; exact Ev.now _
  | true =>
    simp only [if_true, hands_s, Option.bind_some]
    by_cases hh : 1 ≤ h ∧ h ≤ 4
    · simp only [decide_eq_true hh, if_true, if_pos hh]; exact Ev.now _
    · simp only [decide_eq_false hh, Bool.false_eq_true, if_false, if_neg hh]; exact Ev.now _
theorem okJ_parts {l : List S66} (h : okJ l = true) : l.length ≤ 12 ∧ (ordR l l.length 0 []).2 = true := by
  unfold okJ at h
  rw [Bool.and_eq_true, Bool.and_eq_true] at h
  exact ⟨of_decide_eq_true h.1.1, h.2⟩
/-- What the two searches come to: the same plan and length, or too many tries. -/
theorem best_both' {l : List S66} (hw : WJ l) (hok : okJ l = true) (h bu : Int) (hh : 1 ≤ h ∧ h ≤ 4) (hb : 0 ≤ bu ∧ bu ≤ 20000) :
    ∃ (pl : List S70) (n : Int) (pl' : List S70) (n' : Int) (ok : Bool), Ev (fun k => impl_best.f k l h bu) (pl, n, ok) ∧ Ev (fun k => spec_l07Best.f k l h bu) (if ok = true then (pl, n, 0) else ([], 0, 7)) ∧ (ok = true → pl.length ≤ 12) := by
  obtain ⟨hl, ho⟩ := okJ_parts hok
  obtain ⟨rb, s', ok, t', h1, h2, hout⟩ := search hw hl (boundP l h) bu hb.1 hb.2 l.length (List.replicate l.length z70) (List.replicate h.toNat 0) 0 (shopLS l h) ⟨0, [], 0, false⟩ 0
    (by have : cnt 0 l.length = 0 := by
          have : ∀ m, cnt 0 m = 0 := fun m => by
            induction m with
            | zero => rfl
            | succ m ih => simp [cnt, ih]
          exact this _
        omega) (Nat.two_pow_pos _) (by intro x hx; rw [(List.mem_replicate.1 hx).2]; decide) List.length_replicate (by rw [List.length_replicate]; omega) (by rw [List.length_replicate]; omega)
    rfl rfl rfl (dayQ_zero l _ _ _ _).symm ⟨rfl, rfl, rfl, rfl, rfl, Nat.zero_le _⟩ (Int.le_refl _) hb.1 (fun hf => by cases hf.1)
  have hc0 : ((cnt 0 l.length : Nat) : Int) = 0 := by
    have : ∀ m, cnt 0 m = 0 := fun m => by
      induction m with
      | zero => rfl
      | succ m ih => simp [cnt, ih]
    rw [this]; rfl
  rw [hc0] at h2
  have himpl : Ev (fun k => impl_best.f k l h bu) (s'.best.getD [], s'.length, !s'.over) := by
    unfold impl_best.f
    simp only [if_pos (show l.length ≤ 12 ∧ 0 ≤ h ∧ h ≤ 100 from ⟨hl, by omega, by omega⟩)]
    refine Ev.bind (bound_I hw hl ho h hh.1) ?_
    exact Ev.bind h1 (Ev.now _)
  have hspec : Ev (fun k => spec_l07Best.f k l h bu) (if ok = true then (t'.best, t'.least, 0) else ([], 0, 7)) := by
    unfold spec_l07Best.f
    refine Ev.bind (asked_ev l hw (by omega) h) ?_
    simp only [hok, if_true, if_pos hh, in_f, Option.bind_some, decide_eq_true (show 0 ≤ bu ∧ bu ≤ 20000 from hb), if_pos (show l.length ≤ 12 ∧ 0 ≤ h ∧ h ≤ 100 from ⟨hl, by omega, by omega⟩)]
    refine Ev.bind (bound_S hw hl ho h hh.1) ?_
    refine Ev.bind h2 ?_
    cases ok with
    | true => simp only [if_true]; exact Ev.now _
    | false => simp only [Bool.false_eq_true, if_false]; exact Ev.now _
  cases ok with
  | true =>
    obtain ⟨⟨r1, r2, r3, r4, r5, r6⟩, _⟩ := hout.2 rfl
    refine ⟨_, _, [], 0, !s'.over, himpl, ?_, fun _ => by rw [r2]; exact r6⟩
    rw [r5]
    simp only [if_true, Bool.not_false] at hspec ⊢
    rw [r2, r3]
    exact hspec
  | false =>
    obtain ⟨_, r⟩ := hout.1 rfl
    refine ⟨_, _, [], 0, !s'.over, himpl, ?_, fun h => by rw [r] at h; cases h⟩
    rw [r]
    simp only [Bool.not_true, Bool.false_eq_true, if_false] at hspec ⊢
    exact hspec
theorem best_both {l : List S66} (hw : WJ l) (hok : okJ l = true) (h bu : Int) (hh : 1 ≤ h ∧ h ≤ 4) (hb : 0 ≤ bu ∧ bu ≤ 20000) :
    ∃ (pl : List S70) (n : Int) (pl' : List S70) (n' : Int) (ok : Bool), Ev (fun k => impl_best.f k l h bu) (pl, n, ok) ∧ Ev (fun k => spec_l07Best.f k l h bu) (if ok = true then (pl, n, 0) else ([], 0, 7)) := by
  obtain ⟨a, b, c, d, e, h1, h2, _⟩ := best_both' hw hok h bu hh hb
  exact ⟨a, b, c, d, e, h1, h2⟩
end Go.Proofs.Ythocaohlimollaa.PL
