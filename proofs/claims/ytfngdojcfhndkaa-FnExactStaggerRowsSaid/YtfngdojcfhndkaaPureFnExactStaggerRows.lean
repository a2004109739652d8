/-
  The pure side of the statement: the program's StaggerRows and the reference's come to the same rows and the same code, for all five numbers.
-/
import Derived.Test.YtfngdojcfhndkaaXS
namespace Go.Proofs.Ytfngdojcfhndkaa.Pure
open Go.RowKit Go.Proofs.YtfngdojcfhndkaaW.PrintWords Go.Proofs.YtfngdojcfhndkaaW.PrintLast Go.Proofs.YtfngdojcfhndkaaW.PrintMore Go.Proofs.Ytfngdojcfhndkaa.XS
set_option linter.unusedVariables false
set_option linter.unusedSimpArgs false

theorem w64 {n : Int} (h1 : -9223372036854775808 ≤ n) (h2 : n ≤ 9223372036854775807) : wrap64 n = n := by unfold wrap64; omega
theorem w16_eq (n : Int) : IntKind.i16.wrap n = (n + 32768) % 65536 - 32768 := by
  simp only [IntKind.wrap, IntKind.bits, IntKind.signed, Bool.true_and]
  split
  · rename_i h; simp only [ge_iff_le, decide_eq_true_eq] at h; omega
  · rename_i h; simp only [ge_iff_le, decide_eq_true_eq] at h; omega
theorem w16 {n : Int} (h1 : -32768 ≤ n) (h2 : n ≤ 32767) : IntKind.i16.wrap n = n := by rw [w16_eq]; omega
theorem w16_range (n : Int) : -32768 ≤ IntKind.i16.wrap n ∧ IntKind.i16.wrap n ≤ 32767 := by rw [w16_eq]; omega
theorem in_f (a b c : Int) : spec_l00In.f a b c = some (decide (b ≤ a ∧ a ≤ c)) := by
  unfold spec_l00In.f
  by_cases h : a ≥ b
  · rw [if_pos h]; simp [show b ≤ a from h]
  · rw [if_neg h]; simp; omega
theorem within_f (a b c : Int) : impl_within.f a b c = some (decide (b ≤ a ∧ a ≤ c)) := by
  unfold impl_within.f
  by_cases h : b ≤ a
  · rw [if_pos h]; simp [h]
  · rw [if_neg h]; simp [h]
theorem width_f (x : Int) : spec_l05Width.f x = some (decide (1 ≤ x ∧ x ≤ 200)) := by
  unfold spec_l05Width.f; rw [in_f]; rfl
theorem drop_rd (x : List Int) (i : Int) (h0 : 0 ≤ i) (h1 : i < x.length) : x.drop i.toNat = rd x i :: x.drop (i + 1).toNat := by
  rw [List.drop_eq_getElem_cons (show i.toNat < x.length by omega), show (i + 1).toNat = i.toNat + 1 by omega]
  simp [rd, List.getD_eq_getElem?_getD, List.getElem?_eq_getElem (show i.toNat < x.length by omega)]
theorem rd_mem (x : List Int) (i : Int) (h0 : 0 ≤ i) (h1 : i < x.length) : rd x i ∈ x := by
  simp only [rd, List.getD_eq_getElem?_getD, List.getElem?_eq_getElem (show i.toNat < x.length by omega), Option.getD_some]
  exact List.getElem_mem _

/-! ### a row's validity -/
theorem ok_l (x : List Int) (hx : ∀ y ∈ x, 1 ≤ y ∧ y ≤ 200) (hl : x.length ≤ 1000000) : ∀ (d : Nat) (i : Int), 0 ≤ i → (x.length : Int) - i = d → Ev (fun k => spec_l05Ok.l0 k x i) true := by
  intro d
  induction d with
  | zero =>
    intro i h0 hd
    refine Ev.step (fun _ => rfl) ?_
    simp only [spec_l05Ok.l0, if_neg (show ¬ i < (x.length : Int) by omega)]
    exact Ev.now _
  | succ d ih =>
    intro i h0 hd
    have hi : i < (x.length : Int) := by omega
    have hm := hx _ (rd_mem x i h0 hi)
    have hw : wrap64 (rd x i) = rd x i := w64 (by omega) (by omega)
    refine Ev.step (fun _ => rfl) ?_
    simp only [spec_l05Ok.l0, if_pos hi, if_pos h0, hw, width_f, Option.bind_some, hm, and_self, decide_true, if_true, w64 (n := i + 1) (by omega) (by omega)]
    exact ih (i + 1) (by omega) (by omega)
theorem ok_f (x : List Int) (hx : ∀ y ∈ x, 1 ≤ y ∧ y ≤ 200) (hl : x.length ≤ 1000000) : Ev (fun k => spec_l05Ok.f k x) (decide (1 ≤ x.length ∧ x.length ≤ 60)) := by
  unfold spec_l05Ok.f
  by_cases h : 1 ≤ x.length ∧ x.length ≤ 60
  · simp only [in_f, Option.bind_some, h, and_self, decide_true, if_pos (show decide ((1 : Int) ≤ (x.length : Int) ∧ (x.length : Int) ≤ 60) = true by simp; omega)]
    exact ok_l x hx hl x.length 0 (by omega) (by omega)
  · simp only [in_f, Option.bind_some, if_neg (show ¬ decide ((1 : Int) ≤ (x.length : Int) ∧ (x.length : Int) ≤ 60) = true by simp; omega), decide_eq_false h]
    exact Ev.now _

/-! ### what is made of the widths -/
theorem specL1 (x : List Int) (hl : x.length ≤ 1000000) : ∀ (d : Nat) (i : Int) (out : List Int), 0 ≤ i → (x.length : Int) - i = d → out.length ≤ 1000000 - d →
    ((∀ y ∈ x.drop i.toNat, 1 ≤ y ∧ y ≤ 200) → ∀ b, Ev (fun k => spec_l05Ok.f k (out ++ x.drop i.toNat)) b → Ev (fun k => spec_l05Brick.l1 k x out i) (out ++ x.drop i.toNat, b)) ∧
    ((¬ ∀ y ∈ x.drop i.toNat, 1 ≤ y ∧ y ≤ 200) → Ev (fun k => spec_l05Brick.l1 k x out i) ([], false)) := by
  intro d
  induction d with
  | zero =>
    intro i out h0 hd ho
    have he : x.drop i.toNat = [] := List.drop_eq_nil_of_le (by omega)
    rw [he]
    refine ⟨fun _ b hb => ?_, fun h => absurd (fun y hy => by cases hy) h⟩
    refine Ev.step (fun _ => rfl) ?_
    simp only [spec_l05Brick.l1, if_neg (show ¬ i < (x.length : Int) by omega)]
    rw [List.append_nil] at hb ⊢
    exact Ev.bind hb (Ev.now _)
  | succ d ih =>
    intro i out h0 hd ho
    have hi : i < (x.length : Int) := by omega
    rw [drop_rd x i h0 hi]
    have hlim : out.length < 70368744177664 := by omega
    have hw1 := w64 (n := i + 1) (by omega) (by omega)
    by_cases hy : 1 ≤ rd x i ∧ rd x i ≤ 200
    · obtain ⟨ih1, ih2⟩ := ih (i + 1) (out ++ [rd x i]) (by omega) (by omega) (by rw [List.length_append, List.length_singleton]; omega)
      rw [List.append_assoc, List.singleton_append] at ih1
      refine ⟨fun h b hb => ?_, fun h => ?_⟩
      · refine Ev.step (fun _ => rfl) ?_
        simp only [spec_l05Brick.l1, if_pos hi, if_pos h0, width_f, Option.bind_some, hy, and_self, decide_true, if_true, if_pos hlim, hw1, w16 (show -32768 ≤ rd x i by omega) (by omega)]
        exact ih1 (fun y hm => h y (List.mem_cons_of_mem _ hm)) b hb
      · refine Ev.step (fun _ => rfl) ?_
        simp only [spec_l05Brick.l1, if_pos hi, if_pos h0, width_f, Option.bind_some, hy, and_self, decide_true, if_true, if_pos hlim, hw1, w16 (show -32768 ≤ rd x i by omega) (by omega)]
        exact ih2 (fun h2 => h (fun y hm => by
          rcases List.mem_cons.1 hm with rfl | hm
          · exact hy
          · exact h2 y hm))
    · refine ⟨fun h => absurd (h _ List.mem_cons_self) hy, fun _ => ?_⟩
      refine Ev.step (fun _ => rfl) ?_
      simp only [spec_l05Brick.l1, if_pos hi, if_pos h0, width_f, Option.bind_some, decide_eq_false hy, Bool.false_eq_true, if_false]
      exact Ev.now _
theorem implL1 (x : List Int) (hl : x.length ≤ 1000000) (hx : ∀ y ∈ x, 1 ≤ y ∧ y ≤ 200) : ∀ (d : Nat) (i : Int) (out : List Int), 0 ≤ i → (x.length : Int) - i = d → out.length ≤ 1000000 - d →
    Ev (fun k => impl_brick.l1 k out x (x.length : Int) i) (out ++ x.drop i.toNat, true) := by
  intro d
  induction d with
  | zero =>
    intro i out h0 hd ho
    have he : x.drop i.toNat = [] := List.drop_eq_nil_of_le (by omega)
    rw [he, List.append_nil]
    refine Ev.step (fun _ => rfl) ?_
    simp only [impl_brick.l1, if_neg (show ¬ i < (x.length : Int) by omega)]
    exact Ev.now _
  | succ d ih =>
    intro i out h0 hd ho
    have hi : i < (x.length : Int) := by omega
    have hm := hx _ (rd_mem x i h0 hi)
    rw [drop_rd x i h0 hi]
    have hlim : out.length < 70368744177664 := by omega
    have := ih (i + 1) (out ++ [rd x i]) (by omega) (by omega) (by rw [List.length_append, List.length_singleton]; omega)
    rw [List.append_assoc, List.singleton_append] at this
    refine Ev.step (fun _ => rfl) ?_
    simp only [impl_brick.l1, if_pos hi, if_pos h0, if_pos hlim, w64 (n := i + 1) (by omega) (by omega), w16 (show -32768 ≤ rd x i by omega) (by omega)]
    exact this
theorem isWidth_f (x : List Int) : impl_isWidth.f x = some (decide (∀ y ∈ x, 1 ≤ y ∧ y ≤ 200)) := by
  unfold impl_isWidth.f
  congr 1
  by_cases h : ∀ y ∈ x, 1 ≤ y ∧ y ≤ 200
  · rw [decide_eq_true h]
    have e : (x.any fun n => !(decide (1 ≤ n) && decide (n ≤ 200))) = false := by
      rw [List.any_eq_false]
      intro y hy
      simp [(h y hy).1, (h y hy).2]
    rw [e]; rfl
  · rw [decide_eq_false h]
    have e : (x.any fun n => !(decide (1 ≤ n) && decide (n ≤ 200))) = true := by
      rw [List.any_eq_true]
      apply Classical.byContradiction
      intro hn
      exact h (fun y hy => by
        apply Classical.byContradiction
        intro h2
        exact hn ⟨y, hy, by simp; omega⟩)
    rw [e]; rfl
/-- Two rows and whether they are valid. -/
def Same (a b : List Int × Bool) : Prop := a.2 = b.2 ∧ (a.2 = true → a.1 = b.1 ∧ 1 ≤ a.1.length ∧ a.1.length ≤ 60)
theorem conv (x : List Int) (h1 : 1 ≤ x.length) (hl : x.length ≤ 1000000) : ∃ a b, Ev (fun k => impl_brick.j1 k x) a ∧ Ev (fun k => spec_l05Brick.j1 k x) b ∧ Same a b ∧ (a.2 = true → x.length ≤ 60) := by
  obtain ⟨s1, s2⟩ := specL1 x hl x.length 0 [] (by omega) (by omega) (by simp)
  simp only [Int.toNat_zero, List.drop_zero, List.nil_append] at s1 s2
  by_cases hx : ∀ y ∈ x, 1 ≤ y ∧ y ≤ 200
  · have hok := ok_f x hx hl
    have e1 := s1 hx _ hok
    by_cases hlen : x.length ≤ 60
    · have e2 := implL1 x hl hx x.length 0 [] (by omega) (by omega) (by simp)
      simp only [Int.toNat_zero, List.drop_zero, List.nil_append] at e2
      refine ⟨(x, true), (x, true), ?_, ?_, ⟨rfl, fun _ => ⟨rfl, h1, hlen⟩⟩, fun _ => hlen⟩
      · refine Ev.step (fun _ => rfl) ?_
        simp only [impl_brick.j1, if_neg (show ¬ (x.length : Int) > 60 by omega), isWidth_f, Option.bind_some, decide_eq_true hx]
        refine Ev.step (fun _ => rfl) ?_
        simp only [impl_brick.j2, Bool.not_true, Bool.false_eq_true, if_false]
        exact e2
      · refine Ev.step (fun _ => rfl) ?_
        simp only [spec_l05Brick.j1]
        rw [decide_eq_true ⟨h1, hlen⟩] at e1
        exact e1
    · refine ⟨([], false), (x, false), ?_, ?_, ⟨rfl, fun h => by cases h⟩, fun h => by cases h⟩
      · refine Ev.step (fun _ => rfl) ?_
        simp only [impl_brick.j1, if_pos (show (x.length : Int) > 60 by omega)]
        refine Ev.step (fun _ => rfl) ?_
        simp only [impl_brick.j2, if_true]
        exact Ev.now _
      · refine Ev.step (fun _ => rfl) ?_
        simp only [spec_l05Brick.j1]
        rw [decide_eq_false (fun h => hlen h.2)] at e1
        exact e1
  · refine ⟨([], false), ([], false), ?_, ?_, ⟨rfl, fun h => by cases h⟩, fun h => by cases h⟩
    · refine Ev.step (fun _ => rfl) ?_
      by_cases hlen : (x.length : Int) > 60
      · simp only [impl_brick.j1, if_pos hlen]
        refine Ev.step (fun _ => rfl) ?_
        simp only [impl_brick.j2, if_true]
        exact Ev.now _
      · simp only [impl_brick.j1, if_neg hlen, isWidth_f, Option.bind_some, decide_eq_false hx]
        refine Ev.step (fun _ => rfl) ?_
        simp only [impl_brick.j2, Bool.not_false, if_true]
        exact Ev.now _
    · refine Ev.step (fun _ => rfl) ?_
      simp only [spec_l05Brick.j1]
      exact s2 hx
/-- What both make of a list and what is left. -/
theorem fin (s : Int) (list : List Int) (left : Int) (h1 : 1 ≤ list.length) (hl : list.length ≤ 100000) (hs0 : 0 ≤ s) (hs : s ≤ 200) (h0 : 0 ≤ left) (h2 : left ≤ 2000) :
    ∃ x : List Int, 1 ≤ x.length ∧ x.length ≤ 200000 ∧ list.length ≤ x.length ∧
      (∀ (α : Type) (F : List Int → α) (o : α) , (if left > s then (if list.length < 17592186044416 then F (list ++ [wrap64 (left - s)]) else o) else (if 0 ≤ (wrap64 ((list.length : Int) - 1)) then (if (wrap64 ((list.length : Int) - 1)) < (list.length : Int) then F (list.set ((wrap64 ((list.length : Int) - 1)) : Int).toNat (wrap64 ((rd list (wrap64 ((list.length : Int) - 1))) + left))) else o) else o)) = F x) := by
  have hw : wrap64 ((list.length : Int) - 1) = (list.length : Int) - 1 := w64 (by omega) (by omega)
  by_cases h : left > s
  · refine ⟨list ++ [wrap64 (left - s)], by simp, by simp; omega, by simp, fun α F o => ?_⟩
    rw [if_pos h, if_pos (by omega)]
  · refine ⟨list.set ((wrap64 ((list.length : Int) - 1)) : Int).toNat (wrap64 ((rd list (wrap64 ((list.length : Int) - 1))) + left)), by rw [List.length_set]; exact h1, by rw [List.length_set]; omega, by rw [List.length_set]; exact Nat.le_refl _, fun α F o => ?_⟩
    rw [if_neg h, if_pos (by omega), if_pos (by omega)]
theorem implBig (s w : Int) (hs0 : 0 ≤ s) (hs : s ≤ 200) (hw0 : 1 ≤ w) (hw : w ≤ 200) : ∀ (d : Nat) (list : List Int) (left : Int), 61 ≤ list.length → 0 ≤ left → left.toNat ≤ d → d ≤ 2000 → list.length + d ≤ 10000 → Ev (fun k => impl_brick.l0 k s w list left) ([], false) := by
  intro d
  induction d with
  | zero =>
    intro list left hlen h0 hd hd2 hb
    obtain ⟨x, hx1, hx2, hx3, hx⟩ := fin s list left (by omega) (by omega) hs0 hs h0 (by omega)
    refine Ev.step (fun _ => rfl) ?_
    simp only [impl_brick.l0, w64 (n := s + w) (by omega) (by omega), if_neg (show ¬ left ≥ s + w by omega)]
    refine Ev.congr (fun k => hx _ (fun z => impl_brick.j1 k z) none) ?_
    obtain ⟨a, b, ha, _, _, hc⟩ := conv x hx1 (by omega)
    refine Ev.step (fun _ => rfl) ?_
    simp only [impl_brick.j1, if_pos (show (x.length : Int) > 60 by omega)]
    refine Ev.step (fun _ => rfl) ?_
    simp only [impl_brick.j2, if_true]
    exact Ev.now _
  | succ d ih =>
    intro list left hlen h0 hd hd2 hb
    refine Ev.step (fun _ => rfl) ?_
    by_cases hge : left ≥ s + w
    · simp only [impl_brick.l0, w64 (n := s + w) (by omega) (by omega), if_pos hge, if_pos (show list.length < 17592186044416 by omega), w64 (n := left - (s + w)) (by omega) (by omega)]
      exact ih _ _ (by rw [List.length_append, List.length_singleton]; omega) (by omega) (by omega) (by omega) (by rw [List.length_append, List.length_singleton]; omega)
    · obtain ⟨x, hx1, hx2, hx3, hx⟩ := fin s list left (by omega) (by omega) hs0 hs h0 (by omega)
      simp only [impl_brick.l0, w64 (n := s + w) (by omega) (by omega), if_neg hge]
      refine Ev.congr (fun k => hx _ (fun z => impl_brick.j1 k z) none) ?_
      refine Ev.step (fun _ => rfl) ?_
      simp only [impl_brick.j1, if_pos (show (x.length : Int) > 60 by omega)]
      refine Ev.step (fun _ => rfl) ?_
      simp only [impl_brick.j2, if_true]
      exact Ev.now _
theorem brick_loop (L s w : Int) (hL : L ≤ 2000) (hs0 : 0 ≤ s) (hs : s ≤ 200) (hw0 : 1 ≤ w) (hw : w ≤ 200) : ∀ (d : Nat) (list : List Int) (t : Int), 1 ≤ list.length → list.length ≤ 61 → 0 ≤ t → t ≤ L → (L - t).toNat ≤ d → d ≤ 2000 →
    ∃ a b, Ev (fun k => impl_brick.l0 k s w list (L - t)) a ∧ Ev (fun k => spec_l05Brick.l0 k L s w list t) b ∧ Same a b := by
  intro d
  induction d with
  | zero =>
    intro list t h1 h61 h0 ht hd _
    obtain ⟨x, hx1, hx2, hx3, hx⟩ := fin s list (L - t) (by omega) (by omega) hs0 hs (by omega) (by omega)
    obtain ⟨a, b, ha, hb, hab, _⟩ := conv x hx1 (by omega)
    refine ⟨a, b, ?_, ?_, hab⟩
    · refine Ev.step (fun _ => rfl) ?_
      simp only [impl_brick.l0, w64 (n := s + w) (by omega) (by omega), if_neg (show ¬ L - t ≥ s + w by omega)]
      exact Ev.congr (fun k => hx _ (fun z => impl_brick.j1 k z) none) ha
    · refine Ev.step (fun _ => rfl) ?_
      simp only [spec_l05Brick.l0, w64 (n := t + s) (by omega) (by omega), w64 (n := t + s + w) (by omega) (by omega), if_neg (show ¬ t + s + w ≤ L by omega), w64 (n := L - t) (by omega) (by omega)]
      exact Ev.congr (fun k => hx _ (fun z => spec_l05Brick.j1 k z) none) hb
  | succ d ih =>
    intro list t h1 h61 h0 ht hd hd2
    by_cases hge : t + s + w ≤ L
    · by_cases h60 : list.length ≤ 60
      · obtain ⟨a, b, ha, hb, hab⟩ := ih (list ++ [w]) (t + (s + w)) (by simp) (by rw [List.length_append, List.length_singleton]; omega) (by omega) (by omega) (by omega) (by omega)
        refine ⟨a, b, ?_, ?_, hab⟩
        · refine Ev.step (fun _ => rfl) ?_
          simp only [impl_brick.l0, w64 (n := s + w) (by omega) (by omega), if_pos (show L - t ≥ s + w by omega), if_pos (show list.length < 17592186044416 by omega), w64 (n := L - t - (s + w)) (by omega) (by omega)]
          rw [show L - t - (s + w) = L - (t + (s + w)) by omega]
          exact ha
        · refine Ev.step (fun _ => rfl) ?_
          simp only [spec_l05Brick.l0, w64 (n := t + s) (by omega) (by omega), w64 (n := t + s + w) (by omega) (by omega), w64 (n := s + w) (by omega) (by omega), w64 (n := t + (s + w)) (by omega) (by omega), if_pos hge, if_pos (show (list.length : Int) ≤ 60 by omega), if_pos (show list.length < 17592186044416 by omega)]
          exact hb
      · obtain ⟨x, hx1, hx2, hx3, hx⟩ := fin s list (L - t) (by omega) (by omega) hs0 hs (by omega) (by omega)
        obtain ⟨a, b, ha, hb, hab, hc⟩ := conv x hx1 (by omega)
        have hb2 : b.2 = false := by
          rw [← hab.1]
          cases h : a.2 with
          | false => rfl
          | true => exact absurd (hc h) (by omega)
        refine ⟨([], false), b, implBig s w hs0 hs hw0 hw (L - t).toNat list (L - t) (by omega) (by omega) (Nat.le_refl _) (by omega) (by omega), ?_, ⟨hb2.symm, fun h => by cases h⟩⟩
        refine Ev.step (fun _ => rfl) ?_
        simp only [spec_l05Brick.l0, w64 (n := t + s) (by omega) (by omega), w64 (n := t + s + w) (by omega) (by omega), if_pos hge, if_neg (show ¬ (list.length : Int) ≤ 60 by omega), w64 (n := L - t) (by omega) (by omega)]
        exact Ev.congr (fun k => hx _ (fun z => spec_l05Brick.j1 k z) none) hb
    · obtain ⟨x, hx1, hx2, hx3, hx⟩ := fin s list (L - t) (by omega) (by omega) hs0 hs (by omega) (by omega)
      obtain ⟨a, b, ha, hb, hab, _⟩ := conv x hx1 (by omega)
      refine ⟨a, b, ?_, ?_, hab⟩
      · refine Ev.step (fun _ => rfl) ?_
        simp only [impl_brick.l0, w64 (n := s + w) (by omega) (by omega), if_neg (show ¬ L - t ≥ s + w by omega)]
        exact Ev.congr (fun k => hx _ (fun z => impl_brick.j1 k z) none) ha
      · refine Ev.step (fun _ => rfl) ?_
        simp only [spec_l05Brick.l0, w64 (n := t + s) (by omega) (by omega), w64 (n := t + s + w) (by omega) (by omega), if_neg hge, w64 (n := L - t) (by omega) (by omega)]
        exact Ev.congr (fun k => hx _ (fun z => spec_l05Brick.j1 k z) none) hb
theorem brick_both (L s w f : Int) (hL1 : 1 ≤ L) (hL : L ≤ 2000) (hs0 : 0 ≤ s) (hs : s ≤ 200) (hw0 : 1 ≤ w) (hw : w ≤ 200) (hf0 : 1 ≤ f) (hf : f ≤ 200) :
    ∃ a b, Ev (fun k => impl_brick.f k L s w f) a ∧ Ev (fun k => spec_l05Brick.f k L s w f) b ∧ Same a b := by
  unfold impl_brick.f spec_l05Brick.f
  simp only [Option.bind_some, List.length_singleton]
  by_cases h : f ≥ L
  · have hmn : mn f L = L := by unfold mn; split <;> omega
    have hset : [f].set (0 : Int).toNat L = [L] := rfl
    obtain ⟨a, b, ha, hb, hab, _⟩ := conv [L] (by simp) (by simp)
    refine ⟨a, b, ?_, ?_, hab⟩
    · simp only [hmn, show rd [L] 0 = L from rfl, if_pos (show (0 : Int) < ((1 : Nat) : Int) by omega), w64 (n := L - L) (by omega) (by omega)]
      refine Ev.step (fun _ => rfl) ?_
      simp only [impl_brick.l0, w64 (n := s + w) (by omega) (by omega), if_neg (show ¬ L - L ≥ s + w by omega), if_neg (show ¬ L - L > s by omega), List.length_singleton]
      have e : wrap64 (((1 : Nat) : Int) - 1) = 0 := by unfold wrap64; omega
      simp only [e, Int.le_refl, if_true, if_pos (show (0 : Int) < ((1 : Nat) : Int) by omega), show rd [L] 0 = L from rfl, w64 (n := L + (L - L)) (by omega) (by omega)]
      rw [show [L].set (0 : Int).toNat (L + (L - L)) = [L] by simp]
      exact ha
    · simp only [if_pos h, if_pos (show (0 : Int) < ((1 : Nat) : Int) by omega), hset]
      exact hb
  · have hmn : mn f L = f := by unfold mn; split <;> omega
    obtain ⟨a, b, ha, hb, hab⟩ := brick_loop L s w hL hs0 hs hw0 hw (L - f).toNat [f] f (by simp) (by simp) (by omega) (by omega) (Nat.le_refl _) (by omega)
    refine ⟨a, b, ?_, ?_, hab⟩
    · simp only [hmn, show rd [f] 0 = f from rfl, if_pos (show (0 : Int) < ((1 : Nat) : Int) by omega), w64 (n := L - f) (by omega) (by omega)]
      exact ha
    · simp only [if_neg h]
      exact hb

/-! ### joints and clashes -/
/-- All joints' ends are small numbers. -/
def Small (l : List S47) : Prop := ∀ j ∈ l, (-32768 ≤ j.f0 ∧ j.f0 ≤ 32767) ∧ (-32768 ≤ j.f1 ∧ j.f1 ≤ 32767)
theorem small_snoc {l : List S47} (h : Small l) (a b : Int) : Small (l ++ [⟨IntKind.i16.wrap a, IntKind.i16.wrap b⟩]) := by
  intro j hj
  rcases List.mem_append.1 hj with hj | hj
  · exact h j hj
  · rw [List.mem_singleton.1 hj]
    exact ⟨w16_range _, w16_range _⟩
theorem joints_loop (x : List Int) (s : Int) (h1 : 1 ≤ x.length) (h60 : x.length ≤ 60) : ∀ (d : Nat) (i at_ : Int) (acc : List S47), 0 ≤ i → (x.length : Int) - 1 - i = d → acc.length = i.toNat → Small acc →
    ∃ r, Ev (fun k => impl_Row_joints.l0 k s acc at_ (x.take (x.length - 1)) ((x.take (x.length - 1)).length : Int) i) r ∧ Ev (fun k => spec_l05Joints.l0 k x s acc at_ i) r ∧ Small r ∧ r.length = x.length - 1 := by
  have htl : (x.take (x.length - 1)).length = x.length - 1 := by rw [List.length_take]; omega
  intro d
  induction d with
  | zero =>
    intro i at_ acc h0 hd hacc hsm
    refine ⟨acc, ?_, ?_, hsm, by omega⟩
    · refine Ev.step (fun _ => rfl) ?_
      simp only [impl_Row_joints.l0, htl, if_neg (show ¬ i < ((x.length - 1 : Nat) : Int) by omega)]
      exact Ev.now _
    · refine Ev.step (fun _ => rfl) ?_
      simp only [spec_l05Joints.l0, w64 (n := i + 1) (by omega) (by omega), if_neg (show ¬ i + 1 < (x.length : Int) by omega)]
      exact Ev.now _
  | succ d ih =>
    intro i at_ acc h0 hd hacc hsm
    have hrd : rd (x.take (x.length - 1)) i = rd x i := by
      simp only [rd, List.getD_eq_getElem?_getD, List.getElem?_take, if_pos (show i.toNat < x.length - 1 by omega)]
    obtain ⟨r, hi, hs, hsm2, hl⟩ := ih (i + 1) (wrap64 ((wrap64 (at_ + (wrap64 (rd x i)))) + s)) (acc ++ [(⟨IntKind.i16.wrap (wrap64 (at_ + (wrap64 (rd x i)))), IntKind.i16.wrap (wrap64 ((wrap64 (at_ + (wrap64 (rd x i)))) + s))⟩ : S47)]) (by omega) (by omega) (by rw [List.length_append, List.length_singleton]; omega) (small_snoc hsm _ _)
    refine ⟨r, ?_, ?_, hsm2, hl⟩
    · refine Ev.step (fun _ => rfl) ?_
      rw [htl] at hi
      simp only [impl_Row_joints.l0, htl, if_pos (show i < ((x.length - 1 : Nat) : Int) by omega), if_pos h0, hrd, w64 (n := i + 1) (by omega) (by omega), if_pos (show acc.length < 35184372088832 by omega)]
      exact hi
    · refine Ev.step (fun _ => rfl) ?_
      simp only [spec_l05Joints.l0, w64 (n := i + 1) (by omega) (by omega), if_pos (show i + 1 < (x.length : Int) by omega), if_pos h0, if_pos (show i < (x.length : Int) by omega), if_pos (show acc.length < 35184372088832 by omega)]
      exact hs
theorem joints_both (x : List Int) (s : Int) (h1 : 1 ≤ x.length) (h60 : x.length ≤ 60) : ∃ r, Ev (fun k => impl_Row_joints.f k x s) r ∧ Ev (fun k => spec_l05Joints.f k x s) r ∧ Small r ∧ r.length ≤ 59 := by
  obtain ⟨r, hi, hs, hsm, hl⟩ := joints_loop x s h1 h60 (x.length - 1) 0 0 [] (by omega) (by omega) rfl (fun j hj => by cases hj)
  refine ⟨r, ?_, hs, hsm, by omega⟩
  unfold impl_Row_joints.f
  have hw : wrap64 ((x.length : Int) - 1) = (x.length : Int) - 1 := w64 (by omega) (by omega)
  simp only [hw, if_pos (show (0 : Int) ≤ (x.length : Int) - 1 by omega), if_pos (show (x.length : Int) - 1 ≤ (x.length : Int) by omega), Option.bind_some]
  rw [show ((x.length : Int) - 1).toNat = x.length - 1 by omega]
  exact hi
theorem apart_both (a b c d : Int) (ha : -32768 ≤ a ∧ a ≤ 32767) (hb : -32768 ≤ b ∧ b ≤ 32767) (hc : -32768 ≤ c ∧ c ≤ 32767) (hd : -32768 ≤ d ∧ d ≤ 32767) : impl_apartOf.f a b c d = spec_l05Apart.f a b c d := by
  unfold impl_apartOf.f spec_l05Apart.f spec_l00Max.f spec_l00Min.f
  rw [w64 (n := a) (by omega) (by omega), w64 (n := b) (by omega) (by omega), w64 (n := c) (by omega) (by omega), w64 (n := d) (by omega) (by omega)]
  have e1 : (if a > c then some a else some c) = some (mx a c) := by unfold mx; split <;> split <;> first | rfl | (congr 1; omega) | omega
  have e2 : (if b < d then some b else some d) = some (mn b d) := by unfold mn; split <;> split <;> first | rfl | (congr 1; omega) | omega
  have r1 : -32768 ≤ mx a c ∧ mx a c ≤ 32767 := by unfold mx; split <;> omega
  have r2 : -32768 ≤ mn b d ∧ mn b d ≤ 32767 := by unfold mn; split <;> omega
  rw [e1, e2, w64 (n := mx a c) (by omega) (by omega), w64 (n := mn b d) (by omega) (by omega)]
  rfl
theorem rd_small {l : List S47} (h : Small l) (i : Int) (h0 : 0 ≤ i) (h1 : i < l.length) : (-32768 ≤ (rd_T47 l i).f0 ∧ (rd_T47 l i).f0 ≤ 32767) ∧ (-32768 ≤ (rd_T47 l i).f1 ∧ (rd_T47 l i).f1 ≤ 32767) := by
  apply h
  simp only [rd_T47, List.getD_eq_getElem?_getD, List.getElem?_eq_getElem (show i.toNat < l.length by omega), Option.getD_some]
  exact List.getElem_mem _
theorem clash_in (x y : List S47) (near : Int) (hx : Small x) (hy : Small y) (hxl : x.length ≤ 59) (hyl : y.length ≤ 59) (i : Int) (hi0 : 0 ≤ i) (hi1 : i < x.length)
    (next : ∀ acc : List S48, acc.length ≤ 59 * (i.toNat + 1) → ∃ r, Ev (fun k => impl_clashes.l0 k near acc y x (x.length : Int) (i + 1)) r ∧ Ev (fun k => spec_l05Clashes.l0 k near x y acc (i + 1)) r) :
    ∀ (d : Nat) (j : Int) (acc : List S48), 0 ≤ j → (y.length : Int) - j = d → acc.length ≤ 59 * i.toNat + j.toNat →
      ∃ r, Ev (fun k => impl_clashes.l1 k near acc y i x (x.length : Int) i y (y.length : Int) j (rd_T47 x i).f0 (rd_T47 x i).f1) r ∧ Ev (fun k => spec_l05Clashes.l1 k near x y acc i j) r := by
  intro d
  induction d with
  | zero =>
    intro j acc h0 hd ha
    obtain ⟨r, h1, h2⟩ := next acc (by omega)
    refine ⟨r, ?_, ?_⟩
    · refine Ev.step (fun _ => rfl) ?_
      simp only [impl_clashes.l1, if_neg (show ¬ j < (y.length : Int) by omega), w64 (n := i + 1) (by omega) (by omega)]
      exact h1
    · refine Ev.step (fun _ => rfl) ?_
      simp only [spec_l05Clashes.l1, if_neg (show ¬ j < (y.length : Int) by omega), w64 (n := i + 1) (by omega) (by omega)]
      exact h2
  | succ d ih =>
    intro j acc h0 hd ha
    have hx1 := rd_small hx i hi0 hi1
    have hy1 := rd_small hy j h0 (by omega)
    obtain ⟨t, ht⟩ : ∃ t, spec_l05Apart.f (rd_T47 x i).f0 (rd_T47 x i).f1 (rd_T47 y j).f0 (rd_T47 y j).f1 = some t := by
      rw [← apart_both _ _ _ _ hx1.1 hx1.2 hy1.1 hy1.2]; exact ⟨_, rfl⟩
    have ht2 : impl_apartOf.f (rd_T47 x i).f0 (rd_T47 x i).f1 (rd_T47 y j).f0 (rd_T47 y j).f1 = some t := by rw [apart_both _ _ _ _ hx1.1 hx1.2 hy1.1 hy1.2]; exact ht
    have hlim : acc.length < 8796093022208 := by omega
    by_cases hn : t < near
    · obtain ⟨r, h1, h2⟩ := ih (j + 1) (acc ++ [(⟨i, j⟩ : S48)]) (by omega) (by omega) (by rw [List.length_append, List.length_singleton]; omega)
      refine ⟨r, ?_, ?_⟩
      · refine Ev.step (fun _ => rfl) ?_
        simp only [impl_clashes.l1, if_pos (show j < (y.length : Int) by omega), if_pos h0, ht2, Option.bind_some, if_pos hn, if_pos hlim, w64 (n := j + 1) (by omega) (by omega)]
        exact h1
      · refine Ev.step (fun _ => rfl) ?_
        simp only [spec_l05Clashes.l1, if_pos (show j < (y.length : Int) by omega), if_pos h0, if_pos hi0, if_pos hi1, ht, Option.bind_some, if_pos hn, if_pos hlim, w64 (n := j + 1) (by omega) (by omega)]
        exact h2
    · obtain ⟨r, h1, h2⟩ := ih (j + 1) acc (by omega) (by omega) (by omega)
      refine ⟨r, ?_, ?_⟩
      · refine Ev.step (fun _ => rfl) ?_
        simp only [impl_clashes.l1, if_pos (show j < (y.length : Int) by omega), if_pos h0, ht2, Option.bind_some, if_neg hn, w64 (n := j + 1) (by omega) (by omega)]
        exact h1
      · refine Ev.step (fun _ => rfl) ?_
        simp only [spec_l05Clashes.l1, if_pos (show j < (y.length : Int) by omega), if_pos h0, if_pos hi0, if_pos hi1, ht, Option.bind_some, if_neg hn, w64 (n := j + 1) (by omega) (by omega)]
        exact h2
theorem clash_out (x y : List S47) (near : Int) (hx : Small x) (hy : Small y) (hxl : x.length ≤ 59) (hyl : y.length ≤ 59) : ∀ (d : Nat) (i : Int) (acc : List S48), 0 ≤ i → (x.length : Int) - i = d → acc.length ≤ 59 * i.toNat →
      ∃ r, Ev (fun k => impl_clashes.l0 k near acc y x (x.length : Int) i) r ∧ Ev (fun k => spec_l05Clashes.l0 k near x y acc i) r := by
  intro d
  induction d with
  | zero =>
    intro i acc h0 hd ha
    refine ⟨acc, ?_, ?_⟩
    · refine Ev.step (fun _ => rfl) ?_
      simp only [impl_clashes.l0, if_neg (show ¬ i < (x.length : Int) by omega)]
      exact Ev.now _
    · refine Ev.step (fun _ => rfl) ?_
      simp only [spec_l05Clashes.l0, if_neg (show ¬ i < (x.length : Int) by omega)]
      exact Ev.now _
  | succ d ih =>
    intro i acc h0 hd ha
    obtain ⟨r, h1, h2⟩ := clash_in x y near hx hy hxl hyl i h0 (by omega) (fun acc2 ha2 => ih (i + 1) acc2 (by omega) (by omega) (by rw [show (i + 1).toNat = i.toNat + 1 by omega]; exact ha2)) y.length 0 acc (by omega) (by omega) (by omega)
    refine ⟨r, ?_, ?_⟩
    · refine Ev.step (fun _ => rfl) ?_
      simp only [impl_clashes.l0, if_pos (show i < (x.length : Int) by omega), if_pos h0]
      exact h1
    · refine Ev.step (fun _ => rfl) ?_
      simp only [spec_l05Clashes.l0, if_pos (show i < (x.length : Int) by omega)]
      exact h2
theorem clashes_both (a b : List Int) (s near : Int) (ha1 : 1 ≤ a.length) (ha : a.length ≤ 60) (hb1 : 1 ≤ b.length) (hb : b.length ≤ 60) : ∃ r, Ev (fun k => impl_clashes.f k a b s near) r ∧ Ev (fun k => spec_l05Clashes.f k a b s near) r := by
  obtain ⟨x, x1, x2, xs, xl⟩ := joints_both a s ha1 ha
  obtain ⟨y, y1, y2, ys, yl⟩ := joints_both b s hb1 hb
  obtain ⟨r, h1, h2⟩ := clash_out x y near xs ys xl yl x.length 0 [] (by omega) (by omega) (by simp)
  refine ⟨r, ?_, ?_⟩
  · unfold impl_clashes.f
    exact Ev.bind y1 (Ev.bind x1 h1)
  · unfold spec_l05Clashes.f
    exact Ev.bind x2 (Ev.bind y2 h2)

/-! ### the rows -/
/-- As many rows as may be, none too long. -/
def Fits (r : List (List Int) × Int) : Prop := r.1.length ≤ 20 ∧ ∀ x ∈ r.1, x.length ≤ 60
def Both (g h : Nat → Option (List (List Int) × Int)) : Prop := ∃ r, Ev g r ∧ Ev h r ∧ Fits r
theorem fits_none (c : Int) : Fits ([], c) := ⟨by simp, fun x hx => by cases hx⟩

theorem rd_last (out : List (List Int)) (hne : out ≠ []) (hl : out.length ≤ 20) : 0 ≤ wrap64 ((out.length : Int) - 1) ∧ wrap64 ((out.length : Int) - 1) < (out.length : Int) ∧ rd_L4 out (wrap64 ((out.length : Int) - 1)) ∈ out := by
  have h1 : 1 ≤ out.length := by cases out with | nil => exact absurd rfl hne | cons a l => simp
  rw [w64 (by omega) (by omega)]
  refine ⟨by omega, by omega, ?_⟩
  simp only [rd_L4, List.getD_eq_getElem?_getD, List.getElem?_eq_getElem (show ((out.length : Int) - 1).toNat < out.length by omega), Option.getD_some]
  exact List.getElem_mem _
theorem inner (L s w near n : Int) (hL1 : 1 ≤ L) (hL : L ≤ 2000) (hs0 : 0 ≤ s) (hs : s ≤ 200) (hw0 : 1 ≤ w) (hw : w ≤ 200) (out : List (List Int)) (hne : out ≠ []) (hl : out.length < 20) (hfit : ∀ x ∈ out, 1 ≤ x.length ∧ x.length ≤ 60) (c : Int) (hc : 0 ≤ c) (hc2 : c ≤ 100)
    (outer : ∀ r : List Int, 1 ≤ r.length → r.length ≤ 60 → Both (fun k => impl_StaggerRows.l0 k L s w near (out ++ [r]) (wrap64 (n - 1)) (c + 1)) (fun k => spec_StaggerRows.l0 k L s w near n (out ++ [r]))) :
    ∀ (d : Nat) (v : Int), v.toNat = d → 0 ≤ v → v ≤ 200 → Both (fun k => impl_StaggerRows.l1 k L s w near out false v (wrap64 (n - 1)) c) (fun k => spec_StaggerRows.l1 k L s w near n out false v) := by
  intro d
  induction d with
  | zero =>
    intro v hv h0 h200
    refine ⟨([], 6), ?_, ?_, fits_none _⟩
    · refine Ev.step (fun _ => rfl) ?_
      simp only [impl_StaggerRows.l1, if_neg (show ¬ v ≥ 1 by omega)]
      refine Ev.step (fun _ => rfl) ?_
      simp only [impl_StaggerRows.j3, Bool.false_eq_true, if_false]
      exact Ev.now _
    · refine Ev.step (fun _ => rfl) ?_
      simp only [spec_StaggerRows.l1, if_neg (show ¬ v ≥ 1 by omega)]
      refine Ev.step (fun _ => rfl) ?_
      simp only [spec_StaggerRows.j3, Bool.false_eq_true, if_false]
      exact Ev.now _
  | succ d ih =>
    intro v hv h0 h200
    obtain ⟨r, h1, h2, h3⟩ := ih (v - 1) (by omega) (by omega) (by omega)
    obtain ⟨a, b, ha, hb, hab⟩ := brick_both L s w v hL1 hL hs0 hs hw0 hw (by omega) (by omega)
    obtain ⟨q1, q2, q3⟩ := rd_last out hne (by omega)
    have hlen : ¬ (out.length : Int) = 0 := by cases out with | nil => exact absurd rfl hne | cons a l => simp; omega
    have hlim : out.length < 5864062014805 := by omega
    have hv1 := w64 (n := v - 1) (by omega) (by omega)
    cases hok : a.2 with
    | false =>
      refine ⟨r, ?_, ?_, h3⟩
      · refine Ev.step (fun _ => rfl) ?_
        simp only [impl_StaggerRows.l1, if_pos (show v ≥ 1 by omega), Bool.not_false]
        refine Ev.step (fun _ => rfl) ?_
        simp only [impl_StaggerRows.j3, if_true]
        refine Ev.bind ha ?_
        simp only [hok, Bool.false_eq_true, if_false, hv1]
        exact h1
      · refine Ev.step (fun _ => rfl) ?_
        simp only [spec_StaggerRows.l1, if_pos (show v ≥ 1 by omega), Bool.not_false]
        refine Ev.step (fun _ => rfl) ?_
        simp only [spec_StaggerRows.j3, if_true]
        refine Ev.bind hb ?_
        simp only [if_neg hlen, ← hab.1, hok, Bool.false_eq_true, if_false, hv1]
        exact h2
    | true =>
      obtain ⟨e1, e2, e3⟩ := hab.2 hok
      obtain ⟨cl, c1, c2⟩ := clashes_both (rd_L4 out (wrap64 ((out.length : Int) - 1))) a.1 s near (hfit _ q3).1 (hfit _ q3).2 e2 e3
      by_cases hz : (cl.length : Int) = 0
      · obtain ⟨r2, g1, g2, g3⟩ := outer a.1 e2 e3
        refine ⟨r2, ?_, ?_, g3⟩
        · refine Ev.step (fun _ => rfl) ?_
          simp only [impl_StaggerRows.l1, if_pos (show v ≥ 1 by omega), Bool.not_false]
          refine Ev.step (fun _ => rfl) ?_
          simp only [impl_StaggerRows.j3, if_true]
          refine Ev.bind ha ?_
          simp only [hok, if_true, if_pos q1, if_pos q2]
          refine Ev.bind c1 ?_
          simp only [if_pos hz, if_pos hlim, hv1]
          refine Ev.step (fun _ => rfl) ?_
          by_cases hv2 : v - 1 ≥ 1
          · simp only [impl_StaggerRows.l1, if_pos hv2, Bool.not_true]
            refine Ev.step (fun _ => rfl) ?_
            simp only [impl_StaggerRows.j3, Bool.false_eq_true, if_false, if_true, w64 (n := c + 1) (by omega) (by omega)]
            exact g1
          · simp only [impl_StaggerRows.l1, if_neg hv2]
            refine Ev.step (fun _ => rfl) ?_
            simp only [impl_StaggerRows.j3, Bool.false_eq_true, if_false, if_true, w64 (n := c + 1) (by omega) (by omega)]
            exact g1
        · refine Ev.step (fun _ => rfl) ?_
          simp only [spec_StaggerRows.l1, if_pos (show v ≥ 1 by omega), Bool.not_false]
          refine Ev.step (fun _ => rfl) ?_
          simp only [spec_StaggerRows.j3, if_true]
          refine Ev.bind hb ?_
          simp only [if_neg hlen, ← hab.1, hok, ← e1, if_true, if_pos q1, if_pos q2]
          refine Ev.bind c2 ?_
          simp only [if_pos hz, if_pos hlim, hv1]
          refine Ev.step (fun _ => rfl) ?_
          by_cases hv2 : v - 1 ≥ 1
          · simp only [spec_StaggerRows.l1, if_pos hv2, Bool.not_true]
            refine Ev.step (fun _ => rfl) ?_
            simp only [spec_StaggerRows.j3, Bool.false_eq_true, if_false, if_true]
            exact g2
          · simp only [spec_StaggerRows.l1, if_neg hv2]
            refine Ev.step (fun _ => rfl) ?_
            simp only [spec_StaggerRows.j3, Bool.false_eq_true, if_false, if_true]
            exact g2
      · refine ⟨r, ?_, ?_, h3⟩
        · refine Ev.step (fun _ => rfl) ?_
          simp only [impl_StaggerRows.l1, if_pos (show v ≥ 1 by omega), Bool.not_false]
          refine Ev.step (fun _ => rfl) ?_
          simp only [impl_StaggerRows.j3, if_true]
          refine Ev.bind ha ?_
          simp only [hok, if_true, if_pos q1, if_pos q2]
          refine Ev.bind c1 ?_
          simp only [if_neg hz, hv1]
          exact h1
        · refine Ev.step (fun _ => rfl) ?_
          simp only [spec_StaggerRows.l1, if_pos (show v ≥ 1 by omega), Bool.not_false]
          refine Ev.step (fun _ => rfl) ?_
          simp only [spec_StaggerRows.j3, if_true]
          refine Ev.bind hb ?_
          simp only [if_neg hlen, ← hab.1, hok, ← e1, if_true, if_pos q1, if_pos q2]
          refine Ev.bind c2 ?_
          simp only [if_neg hz, hv1]
          exact h2
theorem outer (L s w near n : Int) (hL1 : 1 ≤ L) (hL : L ≤ 2000) (hs0 : 0 ≤ s) (hs : s ≤ 200) (hw0 : 1 ≤ w) (hw : w ≤ 200) (hn : 1 ≤ n) (hn20 : n ≤ 20) : ∀ (d : Nat) (out : List (List Int)), (n : Int) - out.length = d → out ≠ [] → (∀ x ∈ out, 1 ≤ x.length ∧ x.length ≤ 60) →
    Both (fun k => impl_StaggerRows.l0 k L s w near out (wrap64 (n - 1)) ((out.length : Int) - 1)) (fun k => spec_StaggerRows.l0 k L s w near n out) := by
  intro d
  have hn1 := w64 (n := n - 1) (by omega) (by omega)
  induction d with
  | zero =>
    intro out hd hne hfit
    refine ⟨(out, 0), ?_, ?_, ⟨by show out.length ≤ 20; omega, fun x hx => (hfit x hx).2⟩⟩
    · refine Ev.step (fun _ => rfl) ?_
      simp only [impl_StaggerRows.l0, hn1, if_neg (show ¬ (out.length : Int) - 1 < n - 1 by omega)]
      exact Ev.now _
    · refine Ev.step (fun _ => rfl) ?_
      simp only [spec_StaggerRows.l0, if_neg (show ¬ (out.length : Int) < n by omega)]
      exact Ev.now _
  | succ d ih =>
    intro out hd hne hfit
    have h1 : 1 ≤ out.length := by cases out with | nil => exact absurd rfl hne | cons a l => simp
    obtain ⟨r, g1, g2, g3⟩ := inner L s w near n hL1 hL hs0 hs hw0 hw out hne (by omega) hfit ((out.length : Int) - 1) (by omega) (by omega) (fun r hr1 hr2 => by
      have := ih (out ++ [r]) (by rw [List.length_append, List.length_singleton]; omega) (by simp) (fun x hx => by
        rcases List.mem_append.1 hx with hx | hx
        · exact hfit x hx
        · rw [List.mem_singleton.1 hx]; exact ⟨hr1, hr2⟩)
      rw [show (((out ++ [r]).length : Int) - 1) = (out.length : Int) - 1 + 1 by rw [List.length_append, List.length_singleton]; omega] at this
      exact this) w.toNat w rfl (by omega) (by omega)
    refine ⟨r, ?_, ?_, g3⟩
    · refine Ev.step (fun _ => rfl) ?_
      simp only [impl_StaggerRows.l0, hn1, if_pos (show (out.length : Int) - 1 < n - 1 by omega)]
      rw [hn1] at g1
      exact g1
    · refine Ev.step (fun _ => rfl) ?_
      simp only [spec_StaggerRows.l0, if_pos (show (out.length : Int) < n by omega)]
      exact g2
theorem rows_good (L s w near n : Int) (hL1 : 1 ≤ L) (hL : L ≤ 2000) (hs0 : 0 ≤ s) (hs : s ≤ 200) (hw0 : 1 ≤ w) (hw : w ≤ 200) (hn : 1 ≤ n) (hn20 : n ≤ 20) :
    Both (fun k => impl_StaggerRows.j0 k L s w near n false) (fun k => spec_StaggerRows.j0 k L s w near n false) := by
  obtain ⟨a, b, ha, hb, hab⟩ := brick_both L s w w hL1 hL hs0 hs hw0 hw hw0 hw
  have hw1 := w64 (n := w - 1) (by omega) (by omega)
  cases hok : a.2 with
  | false =>
    refine ⟨([], 6), ?_, ?_, fits_none _⟩
    · refine Ev.step (fun _ => rfl) ?_
      simp only [impl_StaggerRows.j0, Bool.false_eq_true, if_false]
      refine Ev.bind ha ?_
      simp only [hok, Bool.false_eq_true, if_false]
      exact Ev.now _
    · refine Ev.step (fun _ => rfl) ?_
      simp only [spec_StaggerRows.j0, Bool.false_eq_true, if_false]
      refine Ev.step (fun _ => rfl) ?_
      simp only [spec_StaggerRows.l0, List.length_nil, if_pos (show ((0 : Nat) : Int) < n by omega)]
      refine Ev.step (fun _ => rfl) ?_
      simp only [spec_StaggerRows.l1, if_pos (show w ≥ 1 by omega), Bool.not_false]
      refine Ev.step (fun _ => rfl) ?_
      simp only [spec_StaggerRows.j3, if_true]
      refine Ev.bind hb ?_
      simp only [List.length_nil, if_pos (show ((0 : Nat) : Int) = 0 by omega), ← hab.1, hok, Bool.false_eq_true, if_false]
      exact Ev.now _
  | true =>
    obtain ⟨e1, e2, e3⟩ := hab.2 hok
    obtain ⟨r, g1, g2, g3⟩ := outer L s w near n hL1 hL hs0 hs hw0 hw hn hn20 (n.toNat - 1) [a.1] (by simp; omega) (by simp) (fun x hx => by rw [List.mem_singleton.1 hx]; exact ⟨e2, e3⟩)
    refine ⟨r, ?_, ?_, g3⟩
    · refine Ev.step (fun _ => rfl) ?_
      simp only [impl_StaggerRows.j0, Bool.false_eq_true, if_false]
      refine Ev.bind ha ?_
      simp only [hok, if_true]
      exact g1
    · refine Ev.step (fun _ => rfl) ?_
      simp only [spec_StaggerRows.j0, Bool.false_eq_true, if_false]
      refine Ev.step (fun _ => rfl) ?_
      simp only [spec_StaggerRows.l0, List.length_nil, if_pos (show ((0 : Nat) : Int) < n by omega)]
      refine Ev.step (fun _ => rfl) ?_
      simp only [spec_StaggerRows.l1, if_pos (show w ≥ 1 by omega), Bool.not_false]
      refine Ev.step (fun _ => rfl) ?_
      simp only [spec_StaggerRows.j3, if_true]
      refine Ev.bind hb ?_
      simp only [List.length_nil, if_pos (show ((0 : Nat) : Int) = 0 by omega), ← hab.1, hok, if_true, ← e1, List.nil_append, if_pos (show (0 : Nat) < 5864062014805 by omega), hw1]
      refine Ev.step (fun _ => rfl) ?_
      by_cases hv2 : w - 1 ≥ 1
      · simp only [spec_StaggerRows.l1, if_pos hv2, Bool.not_true]
        refine Ev.step (fun _ => rfl) ?_
        simp only [spec_StaggerRows.j3, Bool.false_eq_true, if_false, if_true]
        exact g2
      · simp only [spec_StaggerRows.l1, if_neg hv2]
        refine Ev.step (fun _ => rfl) ?_
        simp only [spec_StaggerRows.j3, Bool.false_eq_true, if_false, if_true]
        exact g2
theorem rows_bad (L s w near n : Int) : Both (fun k => impl_StaggerRows.j0 k L s w near n true) (fun k => spec_StaggerRows.j0 k L s w near n true) := by
  refine ⟨([], 2), ?_, ?_, fits_none _⟩
  · refine Ev.step (fun _ => rfl) ?_
    simp only [impl_StaggerRows.j0, if_true]
    exact Ev.now _
  · refine Ev.step (fun _ => rfl) ?_
    simp only [spec_StaggerRows.j0, if_true]
    exact Ev.now _
theorem rows_both (L s w near n : Int) : Both (fun k => impl_StaggerRows.f k L s w near n) (fun k => spec_StaggerRows.f k L s w near n) := by
  have i1 : impl_isLong.f L = some (decide (1 ≤ L ∧ L ≤ 2000)) := by unfold impl_isLong.f; rw [within_f]; rfl
  have i2 : impl_isSeam.f s = some (decide (0 ≤ s ∧ s ≤ 200)) := by unfold impl_isSeam.f; rw [within_f]; rfl
  have i3 : impl_isWidth.f [w] = some (decide (1 ≤ w ∧ w ≤ 200)) := by rw [isWidth_f]; simp
  have s1 : spec_l05Long.f L s = some (decide ((1 ≤ L ∧ L ≤ 2000) ∧ 0 ≤ s ∧ s ≤ 200)) := by
    unfold spec_l05Long.f spec_l05Seam.f
    simp only [in_f, Option.bind_some]
    by_cases h : 1 ≤ L ∧ L ≤ 2000
    · simp [h]
    · simp [h]
  have s3 : spec_l05Near.f near = some (decide (0 ≤ near ∧ near ≤ 2000)) := by unfold spec_l05Near.f; rw [in_f]; rfl
  unfold impl_StaggerRows.f spec_StaggerRows.f
  simp only [i1, i2, i3, s1, s3, width_f, within_f, in_f, Option.bind_some]
  by_cases h1 : 1 ≤ L ∧ L ≤ 2000
  · by_cases h2 : 0 ≤ s ∧ s ≤ 200
    · by_cases h3 : 1 ≤ w ∧ w ≤ 200
      · by_cases h4 : 0 ≤ near ∧ near ≤ 2000
        · by_cases h5 : 1 ≤ n ∧ n ≤ 20
          · simp only [h1, h2, h3, h4, h5, and_self, decide_true, if_true, Bool.not_true]
            exact rows_good L s w near n h1.1 h1.2 h2.1 h2.2 h3.1 h3.2 h5.1 h5.2
          · simp only [h1, h2, h3, h4, and_self, decide_true, if_true, decide_eq_false h5, Bool.not_false]
            exact rows_bad L s w near n
        · simp only [h1, h2, h3, and_self, decide_true, if_true, decide_eq_false h4, Bool.false_eq_true, if_false]
          exact rows_bad L s w near n
      · simp only [h1, h2, and_self, decide_true, if_true, decide_eq_false h3, Bool.false_eq_true, if_false]
        exact rows_bad L s w near n
    · simp only [h1, and_self, decide_true, if_true, decide_eq_false h2, decide_eq_false (show ¬ (True ∧ 0 ≤ s ∧ s ≤ 200) from fun h => h2 h.2), Bool.false_eq_true, if_false]
      exact rows_bad L s w near n
  · simp only [decide_eq_false h1, decide_eq_false (show ¬ ((1 ≤ L ∧ L ≤ 2000) ∧ 0 ≤ s ∧ s ≤ 200) from fun h => h1 h.1), Bool.false_eq_true, if_false]
    exact rows_bad L s w near n

/-! ### comparing, marking, looking -/
theorem eq_self (x : List Int) (hl : x.length ≤ 1000000) : Ev (fun k => laws_eqRow.f k x x) true := by
  have key : ∀ (d : Nat) (i : Int), 0 ≤ i → (x.length : Int) - i = d → Ev (fun k => laws_eqRow.l0 k x x i) true := by
    intro d
    induction d with
    | zero =>
      intro i h0 hd
      refine Ev.step (fun _ => rfl) ?_
      simp only [laws_eqRow.l0, if_neg (show ¬ i < (x.length : Int) by omega)]
      exact Ev.now _
    | succ d ih =>
      intro i h0 hd
      refine Ev.step (fun _ => rfl) ?_
      simp only [laws_eqRow.l0, if_pos (show i < (x.length : Int) by omega), if_pos h0, if_true, w64 (n := i + 1) (by omega) (by omega)]
      exact ih (i + 1) (by omega) (by omega)
  unfold laws_eqRow.f
  simp only [if_true]
  exact key x.length 0 (by omega) (by omega)
theorem eqs_self (x : List (List Int)) (hl : x.length ≤ 1000000) (hx : ∀ y ∈ x, y.length ≤ 1000000) : Ev (fun k => laws_eqRowS.f k x x) true := by
  have key : ∀ (d : Nat) (i : Int), 0 ≤ i → (x.length : Int) - i = d → Ev (fun k => laws_eqRowS.l0 k x x i) true := by
    intro d
    induction d with
    | zero =>
      intro i h0 hd
      refine Ev.step (fun _ => rfl) ?_
      simp only [laws_eqRowS.l0, if_neg (show ¬ i < (x.length : Int) by omega)]
      exact Ev.now _
    | succ d ih =>
      intro i h0 hd
      refine Ev.step (fun _ => rfl) ?_
      simp only [laws_eqRowS.l0, if_pos (show i < (x.length : Int) by omega), if_pos h0, w64 (n := i + 1) (by omega) (by omega)]
      refine Ev.bind (eq_self _ (hx _ (by
        simp only [rd_L4, List.getD_eq_getElem?_getD, List.getElem?_eq_getElem (show i.toNat < x.length by omega), Option.getD_some]
        exact List.getElem_mem _))) ?_
      simp only [if_true]
      exact ih (i + 1) (by omega) (by omega)
  unfold laws_eqRowS.f
  simp only [if_true]
  exact key x.length 0 (by omega) (by omega)
theorem mark_row (a0 : Int) (ha0 : 0 ≤ a0) (ha1 : a0 ≤ 1000000) : ∀ (d : Nat) (i a : Int) (x : List Int), 0 ≤ i → i + d ≤ 1000000 → (x.length : Int) - i = d → d ≤ 1000000 → 0 ≤ a → a + d ≤ 10000000 →
    ∃ y, Ev (fun k => laws_markRow.l0 k x a i) (a + d, y) ∧ y.length = x.length ∧ (∀ j, j < i.toNat → y.getD j 0 = x.getD j 0) ∧ Ev (fun k => laws_heldRow.l0 k y a i) (a + d) := by
  intro d
  induction d with
  | zero =>
    intro i a x h0 hi hd hd2 ha hb
    refine ⟨x, ?_, rfl, fun _ _ => rfl, ?_⟩
    · refine Ev.step (fun _ => rfl) ?_
      simp only [laws_markRow.l0, if_neg (show ¬ i < (x.length : Int) by omega)]
      rw [show a + ((0 : Nat) : Int) = a by omega]
      exact Ev.now _
    · refine Ev.step (fun _ => rfl) ?_
      simp only [laws_heldRow.l0, if_neg (show ¬ i < (x.length : Int) by omega)]
      rw [show a + ((0 : Nat) : Int) = a by omega]
      exact Ev.now _
  | succ d ih =>
    intro i a x h0 hi hd hd2 ha hb
    obtain ⟨y, h1, h2, h3, h4⟩ := ih (i + 1) (a + 1) (x.set i.toNat (IntKind.i16.wrap a)) (by omega) (by omega) (by rw [List.length_set]; omega) (by omega) (by omega) (by omega)
    rw [List.length_set] at h2
    rw [show a + 1 + (d : Int) = a + ((d + 1 : Nat) : Int) by omega] at h1 h4
    refine ⟨y, ?_, h2, fun j hj => ?_, ?_⟩
    · refine Ev.step (fun _ => rfl) ?_
      simp only [laws_markRow.l0, if_pos (show i < (x.length : Int) by omega), if_pos h0, w64 (n := a + 1) (by omega) (by omega), w64 (n := i + 1) (by omega) (by omega)]
      exact h1
    · rw [h3 j (by omega)]
      simp [List.getD_eq_getElem?_getD, List.getElem?_set, show ¬ i.toNat = j by omega]
    · have hv : rd y i = IntKind.i16.wrap a := by
        have := h3 i.toNat (by omega)
        simp only [List.getD_eq_getElem?_getD, List.getElem?_set, if_true, if_pos (show i.toNat < x.length by omega), Option.getD_some] at this
        simp only [rd, List.getD_eq_getElem?_getD]
        exact this
      refine Ev.step (fun _ => rfl) ?_
      simp only [laws_heldRow.l0, if_pos (show i < (y.length : Int) by omega), if_pos h0, hv, if_true, w64 (n := a + 1) (by omega) (by omega), w64 (n := i + 1) (by omega) (by omega)]
      exact h4
theorem mark_rows : ∀ (d : Nat) (i a : Int) (x : List (List Int)), 0 ≤ i → i + d ≤ 100000 → (x.length : Int) - i = d → d ≤ 100 → (∀ y ∈ x, y.length ≤ 60) → 0 ≤ a → a + 60 * d ≤ 1000000 →
    ∃ m ms, Ev (fun k => laws_markRowS.l0 k x a i) (m, ms) ∧ ms.length = x.length ∧ (∀ j, j < i.toNat → ms.getD j [] = x.getD j []) ∧ Ev (fun k => laws_heldRowS.l0 k ms a i) m ∧ a ≤ m := by
  intro d
  induction d with
  | zero =>
    intro i a x h0 hi hd hd2 hx ha hb
    refine ⟨a, x, ?_, rfl, fun _ _ => rfl, ?_, Int.le_refl _⟩
    · refine Ev.step (fun _ => rfl) ?_
      simp only [laws_markRowS.l0, if_neg (show ¬ i < (x.length : Int) by omega)]
      exact Ev.now _
    · refine Ev.step (fun _ => rfl) ?_
      simp only [laws_heldRowS.l0, if_neg (show ¬ i < (x.length : Int) by omega)]
      exact Ev.now _
  | succ d ih =>
    intro i a x h0 hi hd hd2 hx ha hb
    have hil : i.toNat < x.length := by omega
    have hxi : (x.getD i.toNat []).length ≤ 60 := by
      rw [List.getD_eq_getElem?_getD, List.getElem?_eq_getElem hil, Option.getD_some]
      exact hx _ (List.getElem_mem _)
    obtain ⟨y, y1, y2, _, y4⟩ := mark_row a ha (by omega) (x.getD i.toNat []).length 0 a (x.getD i.toNat []) (by omega) (by omega) (by omega) (by omega) ha (by omega)
    obtain ⟨m, ms, h1, h2, h3, h4, h5⟩ := ih (i + 1) (a + ((x.getD i.toNat []).length : Int)) (x.set i.toNat y) (by omega) (by omega) (by rw [List.length_set]; omega) (by omega) (fun z hz => by
      rcases List.mem_or_eq_of_mem_set hz with hz | rfl
      · exact hx z hz
      · omega) (by omega) (by omega)
    rw [List.length_set] at h2
    refine ⟨m, ms, ?_, h2, fun j hj => ?_, ?_, by omega⟩
    · refine Ev.step (fun _ => rfl) ?_
      simp only [laws_markRowS.l0, if_pos (show i < (x.length : Int) by omega), if_pos h0, w64 (n := i + 1) (by omega) (by omega)]
      refine Ev.bind (a := (a + ((x.getD i.toNat []).length : Int), y)) ?_ h1
      unfold laws_markRow.f
      exact y1
    · rw [h3 j (by omega)]
      simp [List.getD_eq_getElem?_getD, List.getElem?_set, show ¬ i.toNat = j by omega]
    · have hv : rd_L4 ms i = y := by
        have := h3 i.toNat (by omega)
        simp only [List.getD_eq_getElem?_getD, List.getElem?_set, if_true, if_pos hil, Option.getD_some] at this
        simp only [rd_L4, List.getD_eq_getElem?_getD]
        exact this
      refine Ev.step (fun _ => rfl) ?_
      simp only [laws_heldRowS.l0, if_pos (show i < (ms.length : Int) by omega), if_pos h0, hv, w64 (n := i + 1) (by omega) (by omega)]
      refine Ev.bind (a := a + ((x.getD i.toNat []).length : Int)) ?_ ?_
      · unfold laws_heldRow.f
        exact y4
      · simp only [if_neg (show ¬ a + ((x.getD i.toNat []).length : Int) < 0 by omega)]
        exact h4
theorem FnExactStaggerRows : laws_FnExactStaggerRows.Pure := by
  intro L s w near n _ _ _ _ _
  obtain ⟨⟨rs, c⟩, ⟨k1, h1⟩, ⟨k2, h2⟩, hf1, hf2⟩ := rows_both L s w near n
  have hf1' : rs.length ≤ 20 := hf1
  obtain ⟨k3, h3⟩ := eqs_self rs (by omega) (fun y hy => by have := hf2 y hy; omega)
  obtain ⟨m, ms, ⟨k4, h4⟩, h5, _, ⟨k6, h6⟩, h7⟩ := mark_rows rs.length 0 1 rs (by omega) (by omega) (by omega) (by omega) hf2 (by omega) (by omega)
  refine ⟨max k1 (max k2 (max k3 (max k4 k6))), rs, ms, c, m, h2 _ (by omega), h1 _ (by omega), h3 _ (by omega), ?_, ?_, by omega⟩
  · unfold laws_markRowS.f
    exact h4 _ (by omega)
  · unfold laws_heldRowS.f
    exact h6 _ (by omega)
end Go.Proofs.Ytfngdojcfhndkaa.Pure
