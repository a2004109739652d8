/- Contracts of functions of the given program, each for all arguments at which its Lean function answers; written by a program of this session (wip/xprint.py) over the print of the kit. -/
import Derived.Test.YtfngdojcfhndkaaXS0
namespace Go.Proofs.Ytfngdojcfhndkaa.XS
open Go.RowKit Go.Proofs.YtfngdojcfhndkaaW.PrintWords Go.Proofs.YtfngdojcfhndkaaW.PrintLast Go.Proofs.YtfngdojcfhndkaaW.PrintMore
attribute [local go_sem] max2_int min2_int max_two min_two max_three min_three max_four min_four   -- for this text's walks alone
set_option linter.unusedVariables false
set_option linter.unusedSimpArgs false

theorem drawn_trans {a b c : World} (h : Drawn0 a b) (k : Drawn0 b c) : Drawn0 a c := by
  obtain ⟨m, rfl⟩ := k
  exact h.step m
def idxOf {α : Type} (p : α → Bool) (l : List α) : Int := match l.findIdx? p with
  | some i => (i : Int)
  | none => -1

theorem idxOf_at {p : Int → Bool} {x : Int} (l : List Int) (h0 : 0 ≤ x) (h1 : x < l.length) (hb : ∀ j : Nat, (j : Int) < x → p (l.getD j 0) = false) (hx : p (rd l x) = true) : idxOf p l = x := by
  obtain ⟨i, rfl⟩ := Int.eq_ofNat_of_zero_le h0
  have hi : i < l.length := by omega
  have e : l.findIdx? p = some i := by
    rw [List.findIdx?_eq_some_iff_getElem]
    refine ⟨hi, ?_, fun j hj => ?_⟩
    · simpa [rd, List.getD_eq_getElem?_getD, List.getElem?_eq_getElem hi] using hx
    · have := hb j (by omega)
      rw [List.getD_eq_getElem?_getD, List.getElem?_eq_getElem (by omega)] at this
      simpa using this
  simp [idxOf, e]
theorem idxOf_none (p : Int → Bool) (l : List Int) (hb : ∀ j : Nat, j < l.length → p (l.getD j 0) = false) : idxOf p l = -1 := by
  have e : l.findIdx? p = none := by
    rw [List.findIdx?_eq_none_iff]
    intro y hy
    obtain ⟨j, hj, rfl⟩ := List.getElem_of_mem hy
    have := hb j hj
    rw [List.getD_eq_getElem?_getD, List.getElem?_eq_getElem hj] at this
    simpa using this
  simp [idxOf, e]
theorem idxOf_next {p : Int → Bool} {x : Int} {gk : Nat} {l : List Int} (h : 0 ≤ x ∧ (gk : Int) + x = l.length + 1 ∧ ∀ j : Nat, (j : Int) < x → p (l.getD j 0) = false) (hm : l.length ≤ 9223372036854775807) (h1 : x < l.length) (hp : p (rd l x) = false) :
    Aside0 (0 ≤ wrap64 (x + 1) ∧ ((gk - 1 : Nat) : Int) + wrap64 (x + 1) = l.length + 1 ∧ ∀ j : Nat, (j : Int) < wrap64 (x + 1) → p (l.getD j 0) = false) := by
  obtain ⟨h0, hg, hb⟩ := h
  have hw : wrap64 (x + 1) = x + 1 := by unfold wrap64; omega
  rw [hw]
  refine ⟨⟨by omega, by omega, fun j hj => ?_⟩⟩
  rcases Int.lt_or_le (j : Int) x with hj' | hj'
  · exact hb j hj'
  · have : x.toNat = j := by omega
    simpa [rd, this] using hp
theorem idxOf_any (p : Int → Bool) (l : List Int) : decide (0 ≤ idxOf p l) = l.any p := by
  unfold idxOf
  cases h : l.findIdx? p with
  | none =>
    have := List.findIdx?_eq_none_iff.1 h
    have e : l.any p = false := by simpa using this
    rw [e]; rfl
  | some i =>
    obtain ⟨hi, hp, _⟩ := List.findIdx?_eq_some_iff_getElem.1 h
    have e : l.any p = true := List.any_eq_true.2 ⟨l[i], List.getElem_mem hi, hp⟩
    rw [e]; simp
section
variable {P : Program} {ops : Array Oper} {rest : List Oper} {o : Oper} {a : Act} {Q : Exit → Act → World → Prop} {α : Type}
/-- A literal of one element. -/
theorem S_one (d : Kd α) {w0 W : World} (base e : Nat) (hgd : o.guard = none) {N : Tmp} (_hd : o.dst = some N) (p : α) (cs : List Value) {ok okp : Nat → Prop}
    (hrun : (execOp a.eval o).run P W = .ok (.value (.slice (some ⟨W.heap.size, 0, none⟩) 1 1)) (W.alloc (.cells cs.toArray e)))
    (hp : d.M W base okp p cs) (hokp : ∀ k, okp k → ok k) (hfresh : ok W.heap.size) (HB : Below base w0 W) (hbase : base ≤ W.heap.size)
    (h : ∀ v1 w1, Kd.S d e w1 base ok v1 [p] → Below W.heap.size W w1 → W.grownBy w1 none → (∃ b, v1.ownBlock = some b ∧ W.heap.size ≤ b) → wpList P ops Q rest (a.put o.dst v1) w1) : wpList P ops Q (o :: rest) a W := by
  have hcs : cs.length = d.sz := d.K_len (d.K_of_M hp)
  refine Kd.S_lits d (w0 := w0) base e hgd _hd (xs := [p]) (inner := cs) (ok := ok) (fun j k => j = 0 ∧ okp k) hrun (by simp [hcs]) ?_ (fun i j k hi hj => hi.1.trans hj.1.symm) (fun _ k hk => hokp k hk.2) hfresh HB hbase (by simp) ?_
  · intro j x hx
    match j, hx with
    | 0, hx =>
      obtain rfl : p = x := by simpa using hx
      refine d.M_mono (ok := okp) (fun k hk => ⟨rfl, hk⟩) ?_
      rw [Nat.zero_mul, List.drop_zero, ← hcs, List.take_length]
      exact hp
  · intro v1 w1 hS _ hg hb
    exact h v1 w1 hS ⟨hg.os, hg.tape, hg.output, hg.size, fun k hk => hg.block k hk (by simp)⟩ hg hb
end

end Go.Proofs.Ytfngdojcfhndkaa.XS
