/-
  The pure side of the jobs' statements: what the program's and the reference's orders, checks and lengths come to.
-/
import Derived.Test.YthocaohlimollaaXB
namespace Go.Proofs.Ythocaohlimollaa.PB
open Go.RowKit Go.Proofs.YthocaohlimollaaW.PrintWords Go.Proofs.YthocaohlimollaaW.PrintLast Go.Proofs.YthocaohlimollaaW.PrintMore Go.Proofs.Ythocaohlimollaa.XB
set_option linter.unusedVariables false
set_option linter.unusedSimpArgs false

theorem w64 {n : Int} (h1 : -9223372036854775808 ≤ n) (h2 : n ≤ 9223372036854775807) : wrap64 n = n := by unfold wrap64; omega
theorem wu16 (n : Int) : IntKind.u16.wrap n = n % 65536 := by
  simp only [IntKind.wrap, IntKind.bits, IntKind.signed, Bool.false_and, Bool.false_eq_true, if_false]
  rfl
theorem wu16_range (n : Int) : 0 ≤ IntKind.u16.wrap n ∧ IntKind.u16.wrap n ≤ 65535 := by rw [wu16]; omega
theorem wu64 {n : Int} (h1 : 0 ≤ n) (h2 : n ≤ 9223372036854775807) : IntKind.u64.wrap n = n := by
  rw [show IntKind.u64.wrap n = n % 18446744073709551616 by
    simp only [IntKind.wrap, IntKind.bits, IntKind.signed, Bool.false_and, Bool.false_eq_true, if_false]; rfl]
  omega
theorem bits_range (op : BinOp) (x y : Int) : 0 ≤ Go.bits op .u16 x y ∧ Go.bits op .u16 x y ≤ 65535 := by
  unfold Go.bits
  exact wu16_range _
theorem and_one (x : Int) (h0 : 0 ≤ x) (h1 : x ≤ 65535) : Go.bits .and .u16 x 1 = Int.tmod x 2 := by
  obtain ⟨n, rfl⟩ := Int.eq_ofNat_of_zero_le h0
  have hn : n < 65536 := by omega
  show IntKind.u16.wrap ((BitVec.ofInt 16 (n : Int) &&& BitVec.ofInt 16 1).toNat : Int) = _
  have h2 : (BitVec.ofInt 16 (n : Int)).toNat = n := by
    rw [BitVec.ofInt_natCast, BitVec.toNat_ofNat]; exact Nat.mod_eq_of_lt (by omega)
  have h3 : (BitVec.ofInt 16 1).toNat = 1 := rfl
  rw [BitVec.toNat_and, h2, h3, Nat.and_one_is_mod, wu16]
  rw [Int.tmod_eq_emod_of_nonneg (by omega)]
  omega
theorem shr_range (x i : Int) (h0 : 0 ≤ x) (h1 : x ≤ 65535) : 0 ≤ shr .u16 x i ∧ shr .u16 x i ≤ 65535 := by
  unfold shr
  refine ⟨Int.ediv_nonneg h0 (Int.le_of_lt (Int.pow_pos (by omega))), ?_⟩
  exact Int.le_trans (Int.ediv_le_self _ h0) h1

/-! ### whole numbers one behind the other -/
def iots : Nat → Int → List Int
  | 0, _ => []
  | m + 1, i => i :: iots m (i + 1)
theorem iots_mem : ∀ (m : Nat) (i x : Int), x ∈ iots m i ↔ i ≤ x ∧ x < i + m
  | 0, i, x => by simp [iots]
  | m + 1, i, x => by
    simp only [iots, List.mem_cons, iots_mem m (i + 1) x]
    omega
theorem iots_length : ∀ (m : Nat) (i : Int), (iots m i).length = m
  | 0, _ => rfl
  | m + 1, i => by simp [iots, iots_length m (i + 1)]
theorem iots_snoc : ∀ (m : Nat) (i : Int), iots (m + 1) i = iots m i ++ [i + m]
  | 0, i => by simp [iots]
  | m + 1, i => by
    rw [iots, iots_snoc m (i + 1), iots, List.cons_append, show i + 1 + (m : Int) = i + ((m + 1 : Nat) : Int) by omega]
def idxP {α : Type} (p : α → Bool) : List α → Int → Int
  | [], _ => -1
  | x :: xs, i => if p x = true then i else idxP p xs (i + 1)
theorem idxM_ev {α : Type} {q : Nat → α → Option Bool} {p : α → Bool} : ∀ (xs : List α) (i : Int), (∀ x ∈ xs, Ev (fun k => q k x) (p x)) → Ev (fun k => idxM (q k) xs i) (idxP p xs i)
  | [], i, _ => Ev.now _
  | x :: xs, i, h => by
    refine Ev.bind (h x List.mem_cons_self) ?_
    simp only [idxP]
    by_cases hp : p x = true
    · simp only [if_pos hp]
      exact Ev.now _
    · simp only [if_neg hp]
      exact idxM_ev xs (i + 1) (fun y hy => h y (List.mem_cons_of_mem _ hy))
theorem idxP_any {α : Type} (p : α → Bool) : ∀ (xs : List α) (i : Int), 0 ≤ i → decide (0 ≤ idxP p xs i) = xs.any p
  | [], _, _ => rfl
  | x :: xs, i, h => by
    by_cases hp : p x = true
    · have e : idxP p (x :: xs) i = i := by simp only [idxP, if_pos hp]
      simp [e, hp, h]
    · have e : idxP p (x :: xs) i = idxP p xs (i + 1) := by simp only [idxP, if_neg hp]
      have := idxP_any p xs (i + 1) (by omega)
      rw [List.any_cons, ← this]
      simp [e, hp]
/-- r is the first of the numbers below n of which p holds, or -1. -/
def IsFirst (n : Int) (p : Int → Bool) (r : Int) : Prop := (r = -1 ∧ ∀ i, 0 ≤ i → i < n → p i = false) ∨ (0 ≤ r ∧ r < n ∧ p r = true ∧ ∀ i, 0 ≤ i → i < r → p i = false)
theorem IsFirst.eq {n : Int} {p : Int → Bool} {r s : Int} (h : IsFirst n p r) (k : IsFirst n p s) : r = s := by
  rcases h with ⟨rfl, h⟩ | ⟨h0, h1, h2, h3⟩ <;> rcases k with ⟨rfl, k⟩ | ⟨k0, k1, k2, k3⟩
  · rfl
  · rw [h s k0 k1] at k2; cases k2
  · rw [k r h0 h1] at h2; cases h2
  · rcases Int.lt_trichotomy r s with h4 | h4 | h4
    · rw [k3 r h0 h4] at h2; cases h2
    · exact h4
    · rw [h3 s k0 h4] at k2; cases k2
theorem idxP_first (p : Int → Bool) (n : Int) : ∀ (m : Nat) (i : Int), 0 ≤ i → i + m = n → (∀ j, 0 ≤ j → j < i → p j = false) → IsFirst n p (idxP p (iots m i) i)
  | 0, i, h0, h1, h2 => .inl ⟨rfl, fun j h3 h4 => h2 j h3 (by omega)⟩
  | m + 1, i, h0, h1, h2 => by
    simp only [iots, idxP]
    by_cases hp : p i = true
    · rw [if_pos hp]
      exact .inr ⟨h0, by omega, hp, h2⟩
    · rw [if_neg hp]
      refine idxP_first p n m (i + 1) (by omega) (by omega) fun j h3 h4 => ?_
      rcases Int.lt_or_le j i with h5 | h5
      · exact h2 j h3 h5
      · have : j = i := by omega
        rw [this]; simpa using hp

/-! ### what jobs are -/
def WJ (l : List S66) : Prop := ∀ x ∈ l, -128 ≤ x.f0 ∧ x.f0 ≤ 127 ∧ 0 ≤ x.f1 ∧ x.f1 ≤ 65535
theorem rdJ_mem {l : List S66} {i : Int} (h0 : 0 ≤ i) (h1 : i < (l.length : Int)) : rd_T66 l i ∈ l := by
  simp only [rd_T66, List.getD_eq_getElem?_getD, List.getElem?_eq_getElem (show i.toNat < l.length by omega), Option.getD_some]
  exact List.getElem_mem _
theorem indices_ev (l : List S66) (hl : l.length ≤ 1048576) : Ev (fun k => impl_indices.f k l) (iots l.length 0) := by
  have key : ∀ (d : Nat) (i : Int) (out : List Int), 0 ≤ i → (l.length : Int) - i = d → (out.length : Int) = i → Ev (fun k => impl_indices.l0 k out (l.length : Int) i) (out ++ iots d i) := by
    intro d
    induction d with
    | zero =>
      intro i out h0 hd ho
      refine Ev.step (fun _ => rfl) ?_
      simp only [impl_indices.l0, if_neg (show ¬ i < (l.length : Int) by omega), iots, List.append_nil]
      exact Ev.now _
    | succ d ih =>
      intro i out h0 hd ho
      refine Ev.step (fun _ => rfl) ?_
      simp only [impl_indices.l0, if_pos (show i < (l.length : Int) by omega), if_pos (show out.length < 17592186044416 by omega), w64 (n := i + 1) (by omega) (by omega), iots]
      have := ih (i + 1) (out ++ [i]) (by omega) (by omega) (by rw [List.length_append, List.length_singleton]; omega)
      rwa [List.append_assoc, List.singleton_append] at this
  have := key l.length 0 [] (by omega) (by omega) (by simp)
  simpa [impl_indices.f] using this

/-! ### the order -/
/-- May job i be next, when those of d are done? -/
def mayP (l : List S66) (d i : Int) : Bool := (Int.tmod (shr .u16 d i) 2 == 0) && (Go.bits .andNot .u16 ((rd_T66 l i).f1) d == 0)
def firstP (l : List S66) (d : Int) : Int := idxP (mayP l d) (iots l.length 0) 0
theorem firstP_first (l : List S66) (d : Int) : IsFirst (l.length : Int) (mayP l d) (firstP l d) := idxP_first _ _ l.length 0 (by omega) (by omega) (fun j h0 h1 => by omega)
def nextD (d r : Int) : Int := Go.bits .or .u16 d (shl .u16 1 r)
def ordR (l : List S66) : Nat → Int → List Int → List Int × Bool
  | 0, _, out => (out, true)
  | m + 1, d, out => if firstP l d < 0 then (out, false) else ordR l m (nextD d (firstP l d)) (out ++ [firstP l d])
theorem ordR_len (l : List S66) : ∀ (m : Nat) (d : Int) (out : List Int), ((ordR l m d out).2 = true → (ordR l m d out).1.length = out.length + m) ∧ ((ordR l m d out).2 = false → (ordR l m d out).1.length < out.length + m)
  | 0, d, out => ⟨fun _ => rfl, fun h => by cases h⟩
  | m + 1, d, out => by
    simp only [ordR]
    by_cases h : firstP l d < 0
    · rw [if_pos h]
      exact ⟨fun h => (by cases h), fun _ => by show out.length < _; omega⟩
    · rw [if_neg h]
      have := ordR_len l m (nextD d (firstP l d)) (out ++ [firstP l d])
      rw [List.length_append, List.length_singleton] at this
      exact ⟨fun h => by rw [this.1 h]; omega, fun h => by have := this.2 h; omega⟩
theorem order1_f (l : List S66) (d i : Int) (hd0 : 0 ≤ d) (hd1 : d ≤ 65535) (h0 : 0 ≤ i) (h1 : i < (l.length : Int)) : impl_order_1.f i d l = some (mayP l d i) := by
  have hs := shr_range d i hd0 hd1
  unfold impl_order_1.f mayP
  rw [if_pos h0, and_one _ hs.1 hs.2, if_pos h1]
  by_cases h : Int.tmod (shr .u16 d i) 2 = 0
  · rw [if_pos h, h]; simp
  · rw [if_neg h]
    simp [h]
theorem firstM (l : List S66) (d : Int) (hd0 : 0 ≤ d) (hd1 : d ≤ 65535) : slices_IndexFunc_int_int_impl_order_1.f (iots l.length 0) d l = some (firstP l d) := by
  have := idxM_ev (q := fun _ x => impl_order_1.f x d l) (p := mayP l d) (iots l.length 0) 0 (fun x hx => by
    have hx := (iots_mem _ _ _).1 hx
    exact Ev.congr (fun _ => order1_f l d x hd0 hd1 (by omega) (by omega)) (Ev.now _))
  obtain ⟨k, hk⟩ := this
  exact hk k (Nat.le_refl _)
theorem order_impl (l : List S66) (hl : l.length ≤ 12) : ∀ (m : Nat) (d c : Int) (out : List Int), 0 ≤ d → d ≤ 65535 → 0 ≤ c → c + m = (l.length : Int) → (out.length : Int) = c → Ev (fun k => impl_order.l0 k out (l.length : Int) c l d) (ordR l m d out).1 := by
  intro m
  induction m with
  | zero =>
    intro d c out hd0 hd1 hc0 hc ho
    refine Ev.step (fun _ => rfl) ?_
    simp only [impl_order.l0, if_neg (show ¬ c < (l.length : Int) by omega), ordR]
    exact Ev.now _
  | succ m ih =>
    intro d c out hd0 hd1 hc0 hc ho
    refine Ev.step (fun _ => rfl) ?_
    simp only [impl_order.l0, if_pos (show c < (l.length : Int) by omega)]
    refine Ev.bind (indices_ev l (by omega)) ?_
    simp only [firstM l d hd0 hd1, Option.bind_some, ordR]
    by_cases h : firstP l d < 0
    · simp only [if_pos h]
      exact Ev.now _
    · have hb := bits_range .or d (shl .u16 1 (firstP l d))
      simp only [if_neg h, if_pos (show out.length < 17592186044416 by omega), if_pos (show 0 ≤ firstP l d by omega), w64 (n := c + 1) (by omega) (by omega)]
      exact ih _ (c + 1) (out ++ [firstP l d]) hb.1 hb.2 (by omega) (by omega) (by rw [List.length_append, List.length_singleton]; omega)
theorem order_ev (l : List S66) (hl : l.length ≤ 12) : Ev (fun k => impl_order.f k l) (ordR l l.length 0 []).1 := order_impl l hl l.length 0 0 [] (by omega) (by omega) (by omega) (by omega) (by simp)

/-- What the reference's inner loop knows of 'next' when it has looked at all from j on. -/
def Down (n j : Int) (p : Int → Bool) (r : Int) : Prop := (r = -1 ∧ ∀ i, j ≤ i → i < n → p i = false) ∨ (j ≤ r ∧ r < n ∧ p r = true ∧ ∀ i, j ≤ i → i < r → p i = false)
theorem order_spec_in (l : List S66) (hl : l.length ≤ 12) (d : Int) (out : List Int) (hd0 : 0 ≤ d) (hd1 : d ≤ 65535) (R : List Int × Bool) (ho : out.length < 12)
    (hneg : firstP l d < 0 → R = ([], false)) (hpos : 0 ≤ firstP l d → Ev (fun k => spec_l07Order.l0 k l (out ++ [firstP l d]) (nextD d (firstP l d))) R) :
    ∀ (j : Nat) (cur : Int), (j : Int) ≤ (l.length : Int) → Down (l.length : Int) j (mayP l d) cur → Ev (fun k => spec_l07Order.l1 k l out d cur ((j : Int) - 1)) R := by
  intro j
  induction j with
  | zero =>
    intro cur hj hc
    have hf : cur = firstP l d := by
      refine IsFirst.eq (n := (l.length : Int)) (p := mayP l d) ?_ (firstP_first l d)
      rcases hc with ⟨h1, h2⟩ | ⟨h1, h2, h3, h4⟩
      · exact .inl ⟨h1, fun i h3 h4 => h2 i (by omega) h4⟩
      · exact .inr ⟨by omega, h2, h3, fun i h5 h6 => h4 i (by omega) h6⟩
    subst hf
    refine Ev.step (fun _ => rfl) ?_
    simp only [spec_l07Order.l1, if_neg (show ¬ ((0 : Nat) : Int) - 1 ≥ 0 by omega)]
    by_cases h : firstP l d < 0
    · simp only [if_pos h, hneg h]
      exact Ev.now _
    · have hlt : firstP l d < (l.length : Int) := by
        rcases firstP_first l d with ⟨h1, _⟩ | ⟨_, h2, _⟩
        · omega
        · exact h2
      simp only [if_neg h, if_pos (show out.length < 17592186044416 by omega), wu64 (n := firstP l d) (by omega) (by omega), if_pos (show 0 ≤ firstP l d by omega)]
      exact hpos (by omega)
  | succ j ih =>
    intro cur hj hc
    have e : ((j + 1 : Nat) : Int) - 1 = (j : Int) := by omega
    refine Ev.step (fun _ => rfl) ?_
    simp only [spec_l07Order.l1, e, if_pos (show (j : Int) ≥ 0 by omega), wu64 (n := (j : Int)) (by omega) (by omega), if_pos (show 0 ≤ (j : Int) by omega), if_pos (show (j : Int) < (l.length : Int) by omega), w64 (n := (j : Int) - 1) (by omega) (by omega)]
    have no : mayP l d j = false → Down (l.length : Int) j (mayP l d) cur := fun hn => by
      have hk : ∀ i, (j : Int) ≤ i → (i < ((j + 1 : Nat) : Int) ∨ mayP l d i = false) → mayP l d i = false := fun i h1 h2 => by
        rcases h2 with h2 | h2
        · rw [show i = (j : Int) by omega]; exact hn
        · exact h2
      rcases hc with ⟨h1, h2⟩ | ⟨h1, h2, h3, h4⟩
      · refine .inl ⟨h1, fun i h5 h6 => ?_⟩
        rcases Int.lt_or_le i ((j + 1 : Nat) : Int) with h7 | h7
        · exact hk i h5 (.inl h7)
        · exact h2 i h7 h6
      · refine .inr ⟨by omega, h2, h3, fun i h5 h6 => ?_⟩
        rcases Int.lt_or_le i ((j + 1 : Nat) : Int) with h7 | h7
        · exact hk i h5 (.inl h7)
        · exact h4 i h7 h6
    by_cases h1 : Int.tmod (shr .u16 d (j : Int)) 2 = 0
    · simp only [if_pos h1]
      by_cases h2 : Go.bits .andNot .u16 ((rd_T66 l (j : Int)).f1) d = 0
      · simp only [if_pos h2]
        have hy : mayP l d j = true := by simp [mayP, h1, h2]
        exact ih j (by omega) (.inr ⟨Int.le_refl _, by omega, hy, fun i h5 h6 => by omega⟩)
      · simp only [if_neg h2]
        exact ih cur (by omega) (no (by simp [mayP, h2]))
    · simp only [if_neg h1]
      exact ih cur (by omega) (no (by simp [mayP, h1]))
theorem order_spec (l : List S66) (hl : l.length ≤ 12) : ∀ (m : Nat) (d : Int) (out : List Int), 0 ≤ d → d ≤ 65535 → out.length + m = l.length → Ev (fun k => spec_l07Order.l0 k l out d) (if (ordR l m d out).2 = true then ((ordR l m d out).1, true) else ([], false)) := by
  intro m
  induction m with
  | zero =>
    intro d out hd0 hd1 ho
    refine Ev.step (fun _ => rfl) ?_
    simp only [spec_l07Order.l0, if_neg (show ¬ (out.length : Int) < (l.length : Int) by omega), ordR, if_true]
    exact Ev.now _
  | succ m ih =>
    intro d out hd0 hd1 ho
    refine Ev.step (fun _ => rfl) ?_
    simp only [spec_l07Order.l0, if_pos (show (out.length : Int) < (l.length : Int) by omega), w64 (n := (l.length : Int) - 1) (by omega) (by omega)]
    refine order_spec_in l hl d out hd0 hd1 _ (by omega) (fun h => ?_) (fun h => ?_) l.length (-1) (Int.le_refl _) (.inl ⟨rfl, fun i h1 h2 => by omega⟩)
    · simp only [ordR, if_pos h, Bool.false_eq_true, if_false]
    · have hb := bits_range .or d (shl .u16 1 (firstP l d))
      simp only [ordR, if_neg (show ¬ firstP l d < 0 by omega)]
      exact ih _ _ hb.1 hb.2 (by rw [List.length_append, List.length_singleton]; omega)
theorem order_spec_ev (l : List S66) (hl : l.length ≤ 12) : Ev (fun k => spec_l07Order.f k l) (if (ordR l l.length 0 []).2 = true then ((ordR l l.length 0 []).1, true) else ([], false)) := order_spec l hl l.length 0 [] (by omega) (by omega) (by simp)

/-! ### are jobs valid -/
theorem in_f (a b c : Int) : spec_l00In.f a b c = some (decide (b ≤ a ∧ a ≤ c)) := by
  unfold spec_l00In.f
  by_cases h : a ≥ b
  · rw [if_pos h]; simp [show b ≤ a from h]
  · rw [if_neg h]; simp; omega
theorem within_f (a b c : Int) : impl_within.f a b c = some (decide (b ≤ a ∧ a ≤ c)) := by
  unfold impl_within.f
  by_cases h : b ≤ a
  · rw [if_pos h]; simp [h]
  · rw [if_neg h]; simp [h]
def badJ (n : Int) (x : S66) : Bool := !(decide (1 ≤ x.f0 ∧ x.f0 ≤ 30)) || (shr .u16 x.f1 n != 0)
def okJ (l : List S66) : Bool := decide (l.length ≤ 12) && !(l.any (badJ (l.length : Int))) && (ordR l l.length 0 []).2
theorem valid1_f (x : S66) (n : Int) (hn : 0 ≤ n) (hx : -128 ≤ x.f0 ∧ x.f0 ≤ 127 ∧ 0 ≤ x.f1 ∧ x.f1 ≤ 65535) : impl_ValidJobs_1.f x.f0 x.f1 n = some (badJ n x) := by
  unfold impl_ValidJobs_1.f badJ
  rw [w64 (n := x.f0) (by omega) (by omega), within_f, Option.bind_some]
  by_cases h : 1 ≤ x.f0 ∧ x.f0 ≤ 30
  · simp [h, hn]
  · simp [h]
theorem valid_ev (l : List S66) (hw : WJ l) (hl : l.length ≤ 1048576) : Ev (fun k => impl_ValidJobs.f k l) (okJ l) := by
  unfold impl_ValidJobs.f okJ
  by_cases h : l.length ≤ 12
  · have e1 : impl_Job_impl_ValidJobs_1.f l (l.length : Int) = some (l.any (badJ (l.length : Int))) := by
      have := idxM_ev (q := fun _ (x : S66) => impl_ValidJobs_1.f x.f0 x.f1 (l.length : Int)) (p := badJ (l.length : Int)) l 0 (fun x hx => Ev.congr (fun _ => valid1_f x _ (by omega) (hw x hx)) (Ev.now _))
      obtain ⟨k, hk⟩ := this
      unfold impl_Job_impl_ValidJobs_1.f
      have hk2 : idxM (fun (x : S66) => impl_ValidJobs_1.f x.f0 x.f1 (l.length : Int)) l 0 = some (idxP (badJ (l.length : Int)) l 0) := hk k (Nat.le_refl _)
      rw [hk2, Option.bind_some, idxP_any _ _ _ (by omega)]
    simp only [if_pos (show (l.length : Int) ≤ 12 by omega), e1, Option.bind_some, decide_eq_true h, Bool.true_and]
    cases hb : l.any (badJ (l.length : Int)) with
    | true => simp only [if_true, Bool.not_true, Bool.false_and]; exact Ev.now _
    | false =>
      simp only [Bool.false_eq_true, if_false, Bool.not_false, Bool.true_and]
      refine Ev.bind (order_ev l h) ?_
      have hlen := ordR_len l l.length 0 []
      have e : (((ordR l l.length 0 []).1.length : Int) == (l.length : Int)) = (ordR l l.length 0 []).2 := by
        cases h2 : (ordR l l.length 0 []).2 with
        | true =>
          have := hlen.1 h2
          rw [beq_iff_eq]
          simp only [List.length_nil] at this
          omega
        | false =>
          have := hlen.2 h2
          rw [beq_eq_false_iff_ne]
          simp only [List.length_nil] at this
          omega
      rw [e]
      exact Ev.now _
  · simp only [if_neg (show ¬ (l.length : Int) ≤ 12 by omega), decide_eq_false h, Bool.false_and]
    exact Ev.now _
theorem drop_rdJ (x : List S66) (i : Int) (h0 : 0 ≤ i) (h1 : i < x.length) : x.drop i.toNat = rd_T66 x i :: x.drop (i + 1).toNat := by
  rw [List.drop_eq_getElem_cons (show i.toNat < x.length by omega), show (i + 1).toNat = i.toNat + 1 by omega]
  simp [rd_T66, List.getD_eq_getElem?_getD, List.getElem?_eq_getElem (show i.toNat < x.length by omega)]
theorem ok_ev (l : List S66) (hw : WJ l) (hl : l.length ≤ 1048576) : Ev (fun k => spec_l07Ok.f k l) (okJ l) := by
  unfold spec_l07Ok.f okJ
  by_cases h : l.length ≤ 12
  · simp only [if_neg (show ¬ (l.length : Int) > 12 by omega), decide_eq_true h, Bool.true_and]
    have key : ∀ (d : Nat) (i : Int), 0 ≤ i → (l.length : Int) - i = d → Ev (fun k => spec_l07Ok.l0 k l i) (!((l.drop i.toNat).any (badJ (l.length : Int))) && (ordR l l.length 0 []).2) := by
      intro d
      induction d with
      | zero =>
        intro i h0 hd
        rw [List.drop_eq_nil_of_le (show l.length ≤ i.toNat by omega)]
        refine Ev.step (fun _ => rfl) ?_
        simp only [spec_l07Ok.l0, if_neg (show ¬ i < (l.length : Int) by omega)]
        refine Ev.bind (order_spec_ev l h) ?_
        cases (ordR l l.length 0 []).2 <;> exact Ev.now _
      | succ d ih =>
        intro i h0 hd
        have hi : i < (l.length : Int) := by omega
        have hx := hw _ (rdJ_mem h0 hi)
        rw [drop_rdJ l i h0 hi, List.any_cons]
        refine Ev.step (fun _ => rfl) ?_
        simp only [spec_l07Ok.l0, if_pos hi, if_pos h0, in_f, Option.bind_some, w64 (n := (rd_T66 l i).f0) (by omega) (by omega), wu64 (n := (l.length : Int)) (by omega) (by omega), if_pos (show 0 ≤ (l.length : Int) by omega), w64 (n := i + 1) (by omega) (by omega)]
        have := ih (i + 1) (by omega) (by omega)
        by_cases h2 : 1 ≤ (rd_T66 l i).f0 ∧ (rd_T66 l i).f0 ≤ 30
        · simp only [decide_eq_true h2, if_true]
          by_cases h3 : shr .u16 (rd_T66 l i).f1 (l.length : Int) = 0
          · simp only [if_pos h3]
            rw [show badJ (l.length : Int) (rd_T66 l i) = false by simp [badJ, h2, h3], Bool.false_or]
            exact this
          · simp only [if_neg h3]
            rw [show badJ (l.length : Int) (rd_T66 l i) = true by simp [badJ, h3]]
            exact Ev.now _
        · simp only [decide_eq_false h2, Bool.false_eq_true, if_false]
          rw [show badJ (l.length : Int) (rd_T66 l i) = true by simp [badJ, h2]]
          exact Ev.now _
    have := key l.length 0 (by omega) (by omega)
    simpa using this
  · simp only [if_pos (show (l.length : Int) > 12 by omega), decide_eq_false h, Bool.false_and]
    exact Ev.now _
end Go.Proofs.Ythocaohlimollaa.PB
