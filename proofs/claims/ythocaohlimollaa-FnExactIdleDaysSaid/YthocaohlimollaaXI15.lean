/- Contracts of functions of the given program, each for all arguments at which its Lean function answers; written by a program of this session (wip/xprint.py) over the print of the kit. -/
import Derived.Test.YthocaohlimollaaXI0
import Derived.Test.YthocaohlimollaaXI2
import Derived.Test.YthocaohlimollaaXI14
namespace Go.Proofs.Ythocaohlimollaa.XI
open Go.RowKit Go.Proofs.YthocaohlimollaaW.PrintWords Go.Proofs.YthocaohlimollaaW.PrintLast Go.Proofs.YthocaohlimollaaW.PrintMore
attribute [local go_sem] max2_int min2_int max_two min_two max_three min_three max_four min_four   -- for this text's walks alone
set_option linter.unusedVariables false
set_option linter.unusedSimpArgs false

/-! ### slices_Repeat_int64_int64: function 58 -/
theorem repeat_mul (n : Int) (h : 1 ≤ n) (h2 : n ≤ 4) (w : World) : Calls Try.prog 95 #[.int .u64 1, .int .u64 n] w fun e w' => e = .returned (.tuple #[.int .u64 0, .int .u64 n]) ∧ Drawn0 w w' := by
 refine bits_Mul.calls 1 n 0 n w ?_
 obtain rfl | rfl | rfl | rfl : n = 1 ∨ n = 2 ∨ n = 3 ∨ n = 4 := by omega
 all_goals rfl
def slices_Repeat_int64_int64.f (l0 : List Int) (a1 : Int) : Option (List Int) := match l0 with
 | [a] => if 1 ≤ a1 ∧ a1 ≤ 4 then some (List.replicate a1.toNat a) else none
 | _ => none
set_option maxHeartbeats 8000000 in
set_option maxRecDepth 100000 in
theorem slices_Repeat_int64_int64.calls (A0 : Option Addr) (c0 : Nat) (l0 : List Int) (a1 : Int) (r : List Int) (w : World) (hr0 : Kd.C (Kd.int .i64) w A0 l0.length l0) (hc0 : l0.length ≤ c0) (h : slices_Repeat_int64_int64.f l0 a1 = some r) :
  Calls Try.prog 58 #[.slice A0 l0.length c0, .int .i64 a1] w fun e w' => ∃ v0_ : Value, e = .returned v0_ ∧ Kd.R (Kd.int .i64) 2 w' w.heap.size (fun _ => True) v0_ r ∧ Below w.heap.size w w' := by
 obtain ⟨a, rfl, h1, h2, rfl⟩ : ∃ a, l0 = [a] ∧ 1 ≤ a1 ∧ a1 ≤ 4 ∧ r = List.replicate a1.toNat a := by
  match l0, h with
  | [a], h =>
   simp only [slices_Repeat_int64_int64.f] at h
   by_cases hc : 1 ≤ a1 ∧ a1 ≤ 4
   ·rw [if_pos hc] at h
    exact ⟨a, rfl, hc.1, hc.2, (Option.some.inj h).symm⟩
   ·rw [if_neg hc] at h
    cases h
 have c1 : decide (a1 < 0) = false := decide_eq_false (by omega)
 have HR0 := Aside0.mk hr0
 have HM := Aside0.mk (repeat_mul a1 h1 h2)
 have e1 : IntKind.u64.wrap a1 = a1 := by rw [show IntKind.u64.wrap a1 = a1 % 18446744073709551616 from rfl]; omega
 have c2 : decide (a1 > 9223372036854775807) = false := decide_eq_false (by omega)
 have e2 : wrap64 a1 = a1 := by unfold wrap64; omega
 have H12 := Aside0.mk (And.intro h1 h2)
 clear hr0 hc0 h h1 h2
 go_enter Try.func58, Try.ntmps58
 obtain ⟨n, hn⟩ : ∃ n : Nat, a1 = (n : Int) := ⟨a1.toNat, by have := H12.out; omega⟩
 subst hn
 have HN : Aside0 (1 ≤ n ∧ n ≤ 4) := ⟨by have := H12.out; omega⟩
 clear H12
 go_wp2_with (first
  | ((with_reducible refine gate_callee (f := 95) rfl ?_); refine goesL_ (some 18) rfl rfl Try.func95 (by kernel_rfl) rfl #[.int .u64 1, .int .u64 (n : Int)] rfl (by (try simp only [List.map_toArray, List.map_cons, List.map_nil]); first | done | rfl) ?_; (with_reducible refine (HM.out _).mono ?_); rintro e w' ⟨rfl, hd⟩; have HD := Aside0.mk hd; clear hd; refine ⟨_, rfl, ?_⟩)
  | ((with_reducible refine gate_dst (N := 30) rfl ?_); refine Kd.R_make (Kd.int .i64) _ 2 rfl (N := 30) rfl 32 _ _ rfl (n : Int) (congrArg (Value.int .i64) e2) (congrArg (Value.int .i64) e2) Try.underlying32 (.int .i64 0) 8 info2 rfl (by decide) (by omega) 0 (ok := fun _ => True) (okp := fun _ => True) rfl (fun _ hk => hk) trivial (Int.natCast_nonneg n) (by have := HN.out; omega) (Below.refl _ _) (Nat.le_refl _) ?_; intro v3 w3 ho hb hg hnew; obtain ⟨g3, c3, rfl⟩ := row_at0 ho (by rw [List.length_replicate]; have := HN.out; omega); have hgb : w'.heap.size ≤ g3 := (by obtain ⟨b_, hb1, hb2⟩ := hnew; cases hb1; exact hb2); have HG3 := Aside0.mk (Nat.le_trans (below_size HD.out.below) hgb); have ho3 := Kd.R_lower ho (below_size HD.out.below); rw [Int.toNat_natCast, List.length_replicate] at ho3 ⊢; have HO3 := Aside0.mk ho3; have HB3 := Aside0.mk (below_step HD.out.below hb); clear ho ho3 hb hg hnew hgb)
  | ((with_reducible refine gate_builtin (b := .copy) (xs := #[.tmp 31, .tmp 32]) rfl ?_); refine R_copy_at (0 : Int) (w0 := w) w.heap.size rfl (.tmp 31) (.tmp 32) 32 32 2 rfl Try.underlying32 rfl g3 c3 0 n c3 (List.replicate n 0) [a] A0 1 c0 (fun _ => True) rfl (by simp) rfl (by rw [List.length_replicate]; exact HO3.out) (Kd.C_below HR0.out HB3.out) HB3.out (below_size HB3.out) ?_; intro w4 ho hb hg; rw [fillN_first HN.out.1] at ho; rw [List.length_replicate] at ho; have HO4 := Aside0.mk ho; have HB4 := Aside0.mk hb; clear ho hb hg HO3 HB3))
 go_loopg [8] n (fun kq v8 w' => ∃ m : Nat, v8 = .int .i64 (m : Int) ∧ Aside0 (1 ≤ m ∧ m ≤ n ∧ kq + m = n + 1) ∧ Aside0 ((Kd.int .i64).R 2 w' w.heap.size (fun _ => True) (.slice (some ⟨g3, 0, none⟩) n c3) (fillN n m a)) ∧ Aside0 (Below w.heap.size w w'))
 case atStart =>
  have hm : min 1 n = 1 := by have := HN.out; omega
  exact ⟨1, by rw [hm], ⟨by have := HN.out; omega⟩, HO4, HB4⟩
 case round =>
  obtain ⟨m, rfl, HM2, HR5, HB5⟩ := hrel
  by_cases hlt : m < n
  ·have c8 : decide ((m : Int) < (n : Int)) = true := decide_eq_true (by omega)
   have c9 : decide (m < n) = true := decide_eq_true hlt
   have c10 : decide (m ≤ n) = true := decide_eq_true (by omega)
   have c11 : decide ((m : Int) ≤ (n : Int)) = true := decide_eq_true (by omega)
   have hcap : n ≤ c3 := by have h_ := (Kd.R_reads' HR5.out).2.1; exact h_
   have q1 : (m ≤ n) = True := eq_true (by omega)
   have q2 : (m ≤ c3) = True := eq_true (by omega)
   have q3 : (c3 = m) = False := eq_false (by omega)
   have HLT := Aside0.mk hlt
   have hHC := Kd.C_take (m := m) (Kd.R_reads' HR5.out).2.2 (by rw [fillN_len HM2.out.2.1]; omega)
   rw [List.length_take, fillN_len HM2.out.2.1, show min m n = m by omega] at hHC
   have HC5 := Aside0.mk hHC
   clear hlt hHC hcap
   go_wp2
   refine start_ (n := 10) (S := fun w' => True) (ds := []) #[false, false, false, false, false, false, false, false, false, false] (by kernel_rfl) rfl rfl trivial (fun hHeld => ?_)
   refine pure_ (i := 0) (N := some 38) (v := ?_) (a' := ?_) #[true, false, false, false, false, false, false, false, false, false] rfl rfl (by kernel_rfl) (fun _ _ _ h => h) (Or.inl ⟨by rfl, ?_⟩) ?_ ?_; rotate_left; (· intro w'; go_simp; with_reducible rfl); rotate_left; (· simp only [Act.put, List.setIfInBounds_toArray, List.set_cons_zero, List.set_cons_succ, i64_w, i32_w]; rfl)
   refine pure_ (i := 1) (N := some 39) (v := ?_) (a' := ?_) #[true, true, false, false, false, false, false, false, false, false] rfl rfl (by kernel_rfl) (fun _ _ _ h => h) (Or.inl ⟨by rfl, ?_⟩) ?_ ?_; rotate_left; (· intro w'; go_simp; with_reducible rfl); rotate_left; (· simp only [Act.put, List.setIfInBounds_toArray, List.set_cons_zero, List.set_cons_succ, i64_w, i32_w]; rfl)
   refine pure_ (i := 2) (N := some 40) (v := ?_) (a' := ?_) #[true, true, true, false, false, false, false, false, false, false] rfl rfl (by kernel_rfl) (fun _ _ _ h => h) (Or.inl ⟨by rfl, ?_⟩) ?_ ?_; rotate_left; (· intro w'; go_simp; with_reducible rfl); rotate_left; (· simp only [Act.put, List.setIfInBounds_toArray, List.set_cons_zero, List.set_cons_succ, i64_w, i32_w]; rfl)
   refine pure_ (i := 3) (N := some 41) (v := ?_) (a' := ?_) #[true, true, true, true, false, false, false, false, false, false] rfl rfl (by kernel_rfl) (fun _ _ _ h => h) (Or.inl ⟨by rfl, ?_⟩) ?_ ?_; rotate_left; (· intro w'; go_simp; with_reducible rfl); rotate_left; (· simp only [Act.put, List.setIfInBounds_toArray, List.set_cons_zero, List.set_cons_succ, i64_w, i32_w]; rfl)
   refine pure_ (i := 4) (N := some 42) (v := ?_) (a' := ?_) #[true, true, true, true, true, false, false, false, false, false] rfl rfl (by kernel_rfl) (fun _ _ _ h => h) (Or.inl ⟨by rfl, ?_⟩) ?_ ?_; rotate_left; (· intro w'; go_simp; with_reducible rfl); rotate_left; (· simp only [Act.put, List.setIfInBounds_toArray, List.set_cons_zero, List.set_cons_succ, i64_w, i32_w]; rfl)
   refine pure_ (i := 5) (N := some 43) (v := ?_) (a' := ?_) #[true, true, true, true, true, true, false, false, false, false] rfl rfl (by kernel_rfl) (fun _ _ _ h => h) (Or.inl ⟨by rfl, ?_⟩) ?_ ?_; rotate_left; (· intro w'; go_simp; with_reducible rfl); rotate_left; (· simp only [Act.put, List.setIfInBounds_toArray, List.set_cons_zero, List.set_cons_succ, i64_w, i32_w]; rfl)
   refine pure_ (i := 6) (N := some 44) (v := ?_) (a' := ?_) #[true, true, true, true, true, true, true, false, false, false] rfl rfl (by kernel_rfl) (fun _ _ _ h => h) (Or.inl ⟨by rfl, ?_⟩) ?_ ?_; rotate_left; (· intro w'; go_simp; with_reducible rfl); rotate_left; (· simp only [Act.put, List.setIfInBounds_toArray, List.set_cons_zero, List.set_cons_succ, i64_w, i32_w]; rfl)
   refine one_ (i := 7) (N := some 45) #[true, true, true, true, true, true, true, true, false, false] rfl rfl (by kernel_rfl) (by decide) (fun K hK => ?_)
   refine R_copy_at_step (0 : Int) (w0 := w) w.heap.size (by rfl) (.tmp 41) (.tmp 44) 32 32 2 rfl Try.underlying32 rfl g3 c3 m (n - m) (c3 - m) (fillN n m a) ((fillN n m a).take m) (some ⟨g3, 0, none⟩) m c3 (fun _ => True) rfl (by rw [fillN_len HM2.out.2.1]; have := HM2.out; omega) rfl (by rw [fillN_len HM2.out.2.1]; exact HR5.out) HC5.out (below_drew1 HB5.out) (below_size (below_drew1 HB5.out)) ?_
   intro w6 ho hb hg
   rw [fillN_len HM2.out.2.1, fillN_step HM2.out.2.1] at ho
   have HR6 := Aside0.mk ho
   have HB6 := Aside0.mk hb
   clear ho hb hg
   refine hK.out _ _ trivial (fun hHeld => ?_)
   clear hK K
   refine norm_ (a' := ?_) ?_ ?_
   rotate_left
   ·show Act.put _ (some 45) _ = _
    simp only [Act.put, List.setIfInBounds_toArray, List.set_cons_zero, List.set_cons_succ, i64_w, i32_w]
    rfl
   refine pure_ (i := 8) (N := some 46) (v := ?_) (a' := ?_) #[true, true, true, true, true, true, true, true, true, false] rfl rfl (by kernel_rfl) (fun _ _ _ h => h) (Or.inl ⟨by rfl, ?_⟩) ?_ ?_; rotate_left; (· intro w'; go_simp; with_reducible rfl); rotate_left; (· simp only [Act.put, List.setIfInBounds_toArray, List.set_cons_zero, List.set_cons_succ, i64_w, i32_w]; rfl)
   refine pure_ (i := 9) (N := some 8) (v := ?_) (a' := ?_) #[true, true, true, true, true, true, true, true, true, true] rfl rfl (by kernel_rfl) (fun _ _ _ h => h) (Or.inl ⟨by rfl, ?_⟩) ?_ ?_; rotate_left; (· intro w'; go_simp; with_reducible rfl); rotate_left; (· simp only [Act.put, List.setIfInBounds_toArray, List.set_cons_zero, List.set_cons_succ, i64_w, i32_w]; rfl)
   refine done_ (by kernel_rfl) ?_
   go_wp2
   go_roundg (gk - min m (n - m))
   case measure => have := HM2.out; have hlt := HLT.out; omega
   case rel => exact ⟨m + min m (n - m), by first | rfl | (simp; done) | (unfold wrap64; simp; have := HM2.out; have := HN.out; omega), ⟨by have := HM2.out; have hlt := HLT.out; omega⟩, HR6, HB6⟩
  ·have c8 : decide ((m : Int) < (n : Int)) = false := decide_eq_false (by omega)
   have c9 : decide (m < n) = false := decide_eq_false hlt
   go_wp2
   go_ret
   have hm : m = n := by have := HM2.out; omega
   exact ⟨_, rfl, by rw [hm, fillN_end] at HR5; exact HR5.out, HB5.out⟩

end Go.Proofs.Ythocaohlimollaa.XI
