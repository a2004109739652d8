/- Contracts of functions of the given program, each for all arguments at which its Lean function answers; written by a program of this session (wip/xprint.py) over the print of the kit. -/
import Derived.Test.YthocaohlimollaaXB0
namespace Go.Proofs.Ythocaohlimollaa.XB
open Go.RowKit Go.Proofs.YthocaohlimollaaW.PrintWords Go.Proofs.YthocaohlimollaaW.PrintLast Go.Proofs.YthocaohlimollaaW.PrintMore
attribute [local go_sem] max2_int min2_int max_two min_two max_three min_three max_four min_four   -- for this text's walks alone
set_option linter.unusedVariables false
set_option linter.unusedSimpArgs false

section
open Kd
variable {P : Program} {ops : Array Oper} {rest : List Oper} {o : Oper} {a : Act} {Q : Exit → Act → World → Prop} {Kc : Act → World → Prop} {α : Type}
/-- copy(v[off:], ys), v a row of scalars of one's own. -/
theorem R_copy_at_run {enc : α → Value} {h1 : ∀ x, (enc x).oneCell' = true} (d : α) {w0 W : World} (base : Nat) (s x : Operand) (t t' e : TypeId)
  (ho : o.op = .call { callee := .builtin .copy, args := #[s, x], argTypes := #[t, t'] }) (ht : P.underlying t = some (.slice e)) (hinfo : (P.info? e).map (·.size) = some 1)
  (g cap off dl dc : Nat) (xs ys : List α) (A : Option Addr) (m c : Nat) (ok : Nat → Prop) (hs : a.eval s = .slice (some ⟨g, off, none⟩) dl dc) (hdl : off + dl = xs.length) (hx : a.eval x = .slice A m c)
  (HO : (scalar enc h1).R e W base ok (.slice (some ⟨g, 0, none⟩) xs.length cap) xs) (HR : (scalar enc h1).C W A m ys) (HB : Below base w0 W) (hbase : base ≤ W.heap.size)
  : ∃ w1, (execOp a.eval o).run P W = .ok (.value (.int .i64 ((min m dl : Nat) : Int))) w1 ∧ (scalar enc h1).R e w1 base ok (.slice (some ⟨g, 0, none⟩) xs.length cap) (xs.take off ++ ys.take (min m dl) ++ xs.drop (off + min m dl)) ∧ Below base w0 w1 ∧ W.grownBy w1 (some g) := by
 have hR := reads_of_C (enc := enc) (d := d) (h1 := h1) HR
 have hm : ys.length = m := hR.1
 have hown := own_of_R HO
 have fin : ∀ w1, (Builtin.copy_ #[t, t'] o.type #[.slice (some ⟨g, off, none⟩) dl dc, .slice A m c]).run P W = .ok (goInt ((min m dl : Nat) : Int)) w1 → (scalar enc h1).R e w1 base ok (.slice (some ⟨g, 0, none⟩) xs.length cap) (xs.take off ++ ys.take (min m dl) ++ xs.drop (off + min m dl)) → W.grownBy w1 (some g) → ∃ w1, (execOp a.eval o).run P W = .ok (.value (.int .i64 ((min m dl : Nat) : Int))) w1 ∧ (scalar enc h1).R e w1 base ok (.slice (some ⟨g, 0, none⟩) xs.length cap) (xs.take off ++ ys.take (min m dl) ++ xs.drop (off + min m dl)) ∧ Below base w0 w1 ∧ W.grownBy w1 (some g) := by
  intro w1 hr hrow hg
  refine ⟨w1, ?_, hrow, HB.grown hg hbase (fun k hk => own_base hown k hk), hg⟩
  unfold execOp
  simp only [ho, resolve, invoke, builtin, Sem.run_bind, Sem.run_pure, Result.andThen_ok, List.map_toArray, List.map_cons, List.map_nil, hs, hx, hr]
  rfl
 rcases Nat.eq_zero_or_pos (min m dl) with h0 | hp
 ·refine fin W ?_ (by rw [h0, List.take_zero, List.append_nil, Nat.add_zero, List.take_append_drop]; exact HO) (World.grownBy.refl W _)
  rw [h0]
  exact run_copy_none W t t' o.type e _ A dl dc m c ht hinfo h0
 ·obtain ⟨ad, hA, hc⟩ := hR.2.2 (by omega)
  rcases hown.2 with ⟨hv, hx0⟩ | ⟨g', cap', cur, hv, hb, hh, hnc, hcm, hcs, htake⟩
  ·cases hv
  injection hv with hv1 _ hv2
  injection hv1 with hv1
  injection hv1 with hv1 _ _
  subst hv1 hv2
  have hsrc : ∀ j u, (encs enc (ys.take (min m dl)))[j]? = some u → W.cell? (ad.add j) = some u := by
   intro j u hu
   have hj : j < (ys.take (min m dl)).length := by
    rcases Nat.lt_or_ge j (ys.take (min m dl)).length with h | h
    ·exact h
    ·rw [List.getElem?_eq_none (by rw [encs_length]; exact h)] at hu
     cases hu
   have hjm : j < min m dl := by rw [List.length_take] at hj; omega
   rw [encs_get (d := d) _ j hj] at hu
   rw [hc j (by omega), ← hu]
   simp [List.getD_eq_getElem?_getD, hjm]
  have hkl : (encs enc (ys.take (min m dl))).length = min m dl := by rw [encs_length, List.length_take]; omega
  have hr := run_copy_cells (P := P) W t t' o.type e g off dl dc ad m c (encs enc (ys.take (min m dl))) ht hinfo (by rw [hkl]) hsrc
   (fun j hj => by rw [cell_of_row W g _ cur e (0, 0) hh]; simp; omega) (fun j _ => blk_frozen hh _) (by intro u hu; simp only [encs, List.mem_map] at hu; obtain ⟨q, _, rfl⟩ := hu; exact h1 q)
  obtain ⟨cur', h3, h4, h5⟩ := setCells_row (encs enc (ys.take (min m dl))) off W cur hh (by rw [hkl]; omega)
  obtain ⟨s1, s2, s3, s4⟩ := setCells_same g (encs enc (ys.take (min m dl))) off W
  refine fin _ (by rw [hA, hr, hkl]) (R_of_own ?_ HO.1) ⟨s1, s2, s3, by rw [s4]; exact Nat.le_refl _, fun k _ hk => setCells_far _ _ k (fun he => hk (by rw [he]))⟩
  have hln : (xs.take off ++ ys.take (min m dl) ++ xs.drop (off + min m dl)).length = xs.length := by
   rw [List.length_append, List.length_append, List.length_take, List.length_take, List.length_drop]
   omega
  rw [hln]
  refine ⟨by rw [encs_length, hln, Nat.mul_one], .inr ⟨g, cap, cur', rfl, hb, h3, hnc, hcm, by rw [h4, hcs], ?_⟩⟩
  have htk : cur.toList.take xs.length = encs enc xs := by rw [← htake, Nat.mul_one]
  rw [h5, hkl, Nat.mul_one]
  have e1 : encs enc (xs.take off ++ ys.take (min m dl) ++ xs.drop (off + min m dl)) = (encs enc xs).take off ++ encs enc (ys.take (min m dl)) ++ (encs enc xs).drop (off + min m dl) := by simp [encs, List.map_drop, List.map_take]
  have hcur : xs.length ≤ cur.toList.length := by rw [show cur.toList.length = cur.size from Array.length_toList, hcs]; omega
  rw [e1, ← htk, List.take_append, List.take_append, List.take_take, List.take_take, List.drop_take, List.length_append, hkl, List.length_take, show min off cur.toList.length = off by omega, show min xs.length off = off by omega, show min off xs.length = off by omega, List.take_of_length_le (l := encs enc (ys.take (min m dl))) (by rw [hkl]; omega)]
/-- copy(v[off:], ys), v a row of scalars of one's own. -/
theorem R_copy_at {enc : α → Value} {h1 : ∀ x, (enc x).oneCell' = true} (d : α) {w0 W : World} (base : Nat) (hgd : o.guard = none) (s x : Operand) (t t' e : TypeId)
  (ho : o.op = .call { callee := .builtin .copy, args := #[s, x], argTypes := #[t, t'] }) (ht : P.underlying t = some (.slice e)) (hinfo : (P.info? e).map (·.size) = some 1)
  (g cap off dl dc : Nat) (xs ys : List α) (A : Option Addr) (m c : Nat) (ok : Nat → Prop) (hs : a.eval s = .slice (some ⟨g, off, none⟩) dl dc) (hdl : off + dl = xs.length) (hx : a.eval x = .slice A m c)
  (HO : (scalar enc h1).R e W base ok (.slice (some ⟨g, 0, none⟩) xs.length cap) xs) (HR : (scalar enc h1).C W A m ys) (HB : Below base w0 W) (hbase : base ≤ W.heap.size)
  (h : ∀ w1, (scalar enc h1).R e w1 base ok (.slice (some ⟨g, 0, none⟩) xs.length cap) (xs.take off ++ ys.take (min m dl) ++ xs.drop (off + min m dl)) → Below base w0 w1 → W.grownBy w1 (some g) → wpList P ops Q rest (a.put o.dst (.int .i64 ((min m dl : Nat) : Int))) w1) :
  wpList P ops Q (o :: rest) a W := by
 obtain ⟨w1, hr, h2, h3, h4⟩ := R_copy_at_run (P := P) (enc := enc) (h1 := h1) (w0 := w0) d base s x t t' e ho ht hinfo g cap off dl dc xs ys A m c ok hs hdl hx HO HR HB hbase
 refine wpList_plain hgd fun K hK => ?_
 unfold Oper.wp
 rw [hr]
 exact hK _ _ (h w1 h2 h3 h4)
theorem R_copy_at_step {enc : α → Value} {h1 : ∀ x, (enc x).oneCell' = true} (d : α) {w0 W : World} (base : Nat) (hw : Region.wanted o (yielded ops a.tmps) = true) (s x : Operand) (t t' e : TypeId)
  (ho : o.op = .call { callee := .builtin .copy, args := #[s, x], argTypes := #[t, t'] }) (ht : P.underlying t = some (.slice e)) (hinfo : (P.info? e).map (·.size) = some 1)
  (g cap off dl dc : Nat) (xs ys : List α) (A : Option Addr) (m c : Nat) (ok : Nat → Prop) (hs : a.eval s = .slice (some ⟨g, off, none⟩) dl dc) (hdl : off + dl = xs.length) (hx : a.eval x = .slice A m c)
  (HO : (scalar enc h1).R e W base ok (.slice (some ⟨g, 0, none⟩) xs.length cap) xs) (HR : (scalar enc h1).C W A m ys) (HB : Below base w0 W) (hbase : base ≤ W.heap.size)
  (h : ∀ w1, (scalar enc h1).R e w1 base ok (.slice (some ⟨g, 0, none⟩) xs.length cap) (xs.take off ++ ys.take (min m dl) ++ xs.drop (off + min m dl)) → Below base w0 w1 → W.grownBy w1 (some g) → Kc (a.put o.dst (.int .i64 ((min m dl : Nat) : Int))) w1) :
  if Region.wanted o (yielded ops a.tmps) = true then Oper.wp P o a W Kc Q else Kc (a.put o.dst undef) W := by
 obtain ⟨w1, hr, h2, h3, h4⟩ := R_copy_at_run (P := P) (enc := enc) (h1 := h1) (w0 := w0) d base s x t t' e ho ht hinfo g cap off dl dc xs ys A m c ok hs hdl hx HO HR HB hbase
 exact event_step hw hr (h w1 h2 h3 h4)
end


def fillN (n m : Nat) (a : Int) : List Int := List.replicate m a ++ List.replicate (n - m) 0
theorem fillN_len {n m : Nat} {a : Int} (h : m ≤ n) : (fillN n m a).length = n := by simp [fillN]; omega
theorem fillN_first {n : Nat} {a : Int} (h : 1 ≤ n) : (List.replicate n (0 : Int)).take 0 ++ [a].take (min 1 n) ++ (List.replicate n (0 : Int)).drop (0 + min 1 n) = fillN n 1 a := by
 rw [show min 1 n = 1 by omega]; simp [fillN]
theorem fillN_step {n m : Nat} {a : Int} (h : m ≤ n) : (fillN n m a).take m ++ ((fillN n m a).take m).take (min m (n - m)) ++ (fillN n m a).drop (m + min m (n - m)) = fillN n (m + min m (n - m)) a := by
 have e1 : (fillN n m a).take m = List.replicate m a := by simp [fillN]
 have e2 : (fillN n m a).drop (m + min m (n - m)) = List.replicate (n - m - min m (n - m)) 0 := by
  rw [fillN, List.drop_append, List.length_replicate, List.drop_of_length_le (by simp)]
  simp
 rw [e1, e2, List.take_replicate, fillN, List.replicate_append_replicate]
 congr 2 <;> omega
theorem fillN_end {n : Nat} {a : Int} : fillN n n a = List.replicate n a := by simp [fillN]
section
open Kd
theorem row_at0 {α : Type} {enc : α → Value} {h1 : ∀ x, (enc x).oneCell' = true} {e : Nat} {W : World} {base : Nat} {ok : Nat → Prop} {v : Value} {xs : List α} (h : (scalar enc h1).R e W base ok v xs) (hn : 0 < xs.length) : ∃ g cap, v = .slice (some ⟨g, 0, none⟩) xs.length cap := by
 rcases (own_of_R h).2 with ⟨_, h0⟩ | ⟨g, cap, _, hv, _⟩
 ·omega
 ·exact ⟨g, cap, hv⟩
end

end Go.Proofs.Ythocaohlimollaa.XB
