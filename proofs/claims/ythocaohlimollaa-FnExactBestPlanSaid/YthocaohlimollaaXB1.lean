/- Contracts of functions of the given program, each for all arguments at which its Lean function answers; written by a program of this session (wip/xprint.py) over the print of the kit. -/
import Derived.Test.YthocaohlimollaaXB0
namespace Go.Proofs.Ythocaohlimollaa.XB
open Go.RowKit Go.Proofs.YthocaohlimollaaW.PrintWords Go.Proofs.YthocaohlimollaaW.PrintLast Go.Proofs.YthocaohlimollaaW.PrintMore
attribute [local go_sem] max2_int min2_int max_two min_two max_three min_three max_four min_four   -- for this text's walks alone
set_option linter.unusedVariables false
set_option linter.unusedSimpArgs false

theorem drawn_trans {a b c : World} (h : Drawn0 a b) (k : Drawn0 b c) : Drawn0 a c := by
 obtain ⟨m, rfl⟩ := k
 exact h.step m
def idxOf {α : Type} (p : α → Bool) (l : List α) : Int := match l.findIdx? p with
 | some i => (i : Int)
 | none => -1

theorem idxOf_at {p : Int → Bool} {x : Int} (l : List Int) (h0 : 0 ≤ x) (h1 : x < l.length) (hb : ∀ j : Nat, (j : Int) < x → p (l.getD j 0) = false) (hx : p (rd l x) = true) : idxOf p l = x := by
 obtain ⟨i, rfl⟩ := Int.eq_ofNat_of_zero_le h0
 have hi : i < l.length := by omega
 have e : l.findIdx? p = some i := by
  rw [List.findIdx?_eq_some_iff_getElem]
  refine ⟨hi, ?_, fun j hj => ?_⟩
  ·simpa [rd, List.getD_eq_getElem?_getD, List.getElem?_eq_getElem hi] using hx
  ·have := hb j (by omega)
   rw [List.getD_eq_getElem?_getD, List.getElem?_eq_getElem (by omega)] at this
   simpa using this
 simp [idxOf, e]
theorem idxOf_none (p : Int → Bool) (l : List Int) (hb : ∀ j : Nat, j < l.length → p (l.getD j 0) = false) : idxOf p l = -1 := by
 have e : l.findIdx? p = none := by
  rw [List.findIdx?_eq_none_iff]
  intro y hy
  obtain ⟨j, hj, rfl⟩ := List.getElem_of_mem hy
  have := hb j hj
  rw [List.getD_eq_getElem?_getD, List.getElem?_eq_getElem hj] at this
  simpa using this
 simp [idxOf, e]
theorem idxOf_next {p : Int → Bool} {x : Int} {gk : Nat} {l : List Int} (h : 0 ≤ x ∧ (gk : Int) + x = l.length + 1 ∧ ∀ j : Nat, (j : Int) < x → p (l.getD j 0) = false) (hm : l.length ≤ 9223372036854775807) (h1 : x < l.length) (hp : p (rd l x) = false) :
  Aside0 (0 ≤ wrap64 (x + 1) ∧ ((gk - 1 : Nat) : Int) + wrap64 (x + 1) = l.length + 1 ∧ ∀ j : Nat, (j : Int) < wrap64 (x + 1) → p (l.getD j 0) = false) := by
 obtain ⟨h0, hg, hb⟩ := h
 have hw : wrap64 (x + 1) = x + 1 := by unfold wrap64; omega
 rw [hw]
 refine ⟨⟨by omega, by omega, fun j hj => ?_⟩⟩
 rcases Int.lt_or_le (j : Int) x with hj' | hj'
 ·exact hb j hj'
 ·have : x.toNat = j := by omega
  simpa [rd, this] using hp
theorem idxOf_any (p : Int → Bool) (l : List Int) : decide (0 ≤ idxOf p l) = l.any p := by
 unfold idxOf
 cases h : l.findIdx? p with
 | none =>
  have := List.findIdx?_eq_none_iff.1 h
  have e : l.any p = false := by simpa using this
  rw [e]; rfl
 | some i =>
  obtain ⟨hi, hp, _⟩ := List.findIdx?_eq_some_iff_getElem.1 h
  have e : l.any p = true := List.any_eq_true.2 ⟨l[i], List.getElem_mem hi, hp⟩
  rw [e]; simp
def idxM {α : Type} (p : α → Option Bool) : List α → Int → Option Int
 | [], _ => some (-1)
 | x :: xs, i => (p x).bind fun b => if b = true then some i else idxM p xs (i + 1)
theorem idxM_mono {α : Type} {p q : α → Option Bool} (h : ∀ x, LeO (p x) (q x)) : ∀ (l : List α) (i : Int), LeO (idxM p l i) (idxM q l i)
 | [], _ => LeO.refl _
 | x :: xs, i => LeO.bind (h x) (fun b => by
   by_cases hb : b = true
   ·rw [if_pos hb, if_pos hb]; exact LeO.refl _
   ·rw [if_neg hb, if_neg hb]; exact idxM_mono h xs (i + 1))
theorem idxM_step {α : Type} {p : α → Option Bool} {l : List α} {x r : Int} (z : α) (h0 : 0 ≤ x) (h1 : x < (l.length : Int)) (h : idxM p (l.drop x.toNat) x = some r) :
  ∃ b, p (l.getD x.toNat z) = some b ∧ (b = true → r = x) ∧ (b = false → idxM p (l.drop (x + 1).toNat) (x + 1) = some r) := by
 have hn : x.toNat < l.length := by omega
 rw [List.drop_eq_getElem_cons hn] at h
 obtain ⟨b, hb, h⟩ := Option.bind_eq_some_iff.mp h
 refine ⟨b, by rw [List.getD_eq_getElem?_getD, List.getElem?_eq_getElem hn]; exact hb, fun e => ?_, fun e => ?_⟩
 ·rw [if_pos e] at h
  exact (Option.some.inj h).symm
 ·rw [if_neg (by simp [e])] at h
  rw [show (x + 1).toNat = x.toNat + 1 by omega]
  exact h
theorem idxM_next {α : Type} {p : α → Option Bool} {x r : Int} {gk : Nat} {l : List α} (h : 0 ≤ x ∧ (gk : Int) + x = l.length + 1 ∧ idxM p (l.drop x.toNat) x = some r) (hm : l.length ≤ 9223372036854775807) (h1 : x < (l.length : Int)) (hn : idxM p (l.drop (x + 1).toNat) (x + 1) = some r) :
  Aside0 (0 ≤ wrap64 (x + 1) ∧ ((gk - 1 : Nat) : Int) + wrap64 (x + 1) = l.length + 1 ∧ idxM p (l.drop (wrap64 (x + 1)).toNat) (wrap64 (x + 1)) = some r) := by
 obtain ⟨h0, hg, _⟩ := h
 have hw : wrap64 (x + 1) = x + 1 := by unfold wrap64; omega
 rw [hw]
 exact ⟨by omega, by omega, hn⟩
theorem idxM_end {α : Type} {p : α → Option Bool} {x r : Int} {l : List α} (h1 : ¬ x < (l.length : Int)) (h0 : 0 ≤ x) (h : idxM p (l.drop x.toNat) x = some r) : r = -1 := by
 rw [List.drop_eq_nil_of_le (by omega)] at h
 exact (Option.some.inj h).symm
section
variable {P : Program} {ops : Array Oper} {rest : List Oper} {o : Oper} {a : Act} {Q : Exit → Act → World → Prop} {α : Type}
/-- A literal of one element. -/
theorem S_one (d : Kd α) {w0 W : World} (base e : Nat) (hgd : o.guard = none) {N : Tmp} (_hd : o.dst = some N) (p : α) (cs : List Value) {ok okp : Nat → Prop}
  (hrun : (execOp a.eval o).run P W = .ok (.value (.slice (some ⟨W.heap.size, 0, none⟩) 1 1)) (W.alloc (.cells cs.toArray e)))
  (hp : d.M W base okp p cs) (hokp : ∀ k, okp k → ok k) (hfresh : ok W.heap.size) (HB : Below base w0 W) (hbase : base ≤ W.heap.size)
  (h : ∀ v1 w1, Kd.S d e w1 base ok v1 [p] → Below W.heap.size W w1 → W.grownBy w1 none → (∃ b, v1.ownBlock = some b ∧ W.heap.size ≤ b) → wpList P ops Q rest (a.put o.dst v1) w1) : wpList P ops Q (o :: rest) a W := by
 have hcs : cs.length = d.sz := d.K_len (d.K_of_M hp)
 refine Kd.S_lits d (w0 := w0) base e hgd _hd (xs := [p]) (inner := cs) (ok := ok) (fun j k => j = 0 ∧ okp k) hrun (by simp [hcs]) ?_ (fun i j k hi hj => hi.1.trans hj.1.symm) (fun _ k hk => hokp k hk.2) hfresh HB hbase (by simp) ?_
 ·intro j x hx
  match j, hx with
  | 0, hx =>
   obtain rfl : p = x := by simpa using hx
   refine d.M_mono (ok := okp) (fun k hk => ⟨rfl, hk⟩) ?_
   rw [Nat.zero_mul, List.drop_zero, ← hcs, List.take_length]
   exact hp
 ·intro v1 w1 hS _ hg hb
  exact h v1 w1 hS ⟨hg.os, hg.tape, hg.output, hg.size, fun k hk => hg.block k hk (by simp)⟩ hg hb
end

end Go.Proofs.Ythocaohlimollaa.XB
