/- Contracts of functions of the given program, each for all arguments at which its Lean function answers; written by a program of this session (wip/xprint.py) over the print of the kit. -/
import Derived.Test.YthocaohlimollaaXI0
import Derived.Test.YthocaohlimollaaXI1
import Derived.Test.YthocaohlimollaaXI8
import Derived.Test.YthocaohlimollaaXI12
namespace Go.Proofs.Ythocaohlimollaa.XI
open Go.RowKit Go.Proofs.YthocaohlimollaaW.PrintWords Go.Proofs.YthocaohlimollaaW.PrintLast Go.Proofs.YthocaohlimollaaW.PrintMore
attribute [local go_sem] max2_int min2_int max_two min_two max_three min_three max_four min_four   -- for this text's walks alone
set_option linter.unusedVariables false
set_option linter.unusedSimpArgs false

/-! ### slices_IndexFunc_int_int_impl_wrong_1: function 170 -/
def slices_IndexFunc_int_int_impl_wrong_1.f (k : Nat) (l0 : List Int) (l1_0 : List (S70)) (a2_0 : Int) (l3_0 : List (S66)) : Option Int := idxM (fun x => impl_wrong_1.f k x l1_0 a2_0 l3_0) l0 0
theorem slices_IndexFunc_int_int_impl_wrong_1.mono : ∀ a0 a1 a2 a3 k, LeO (slices_IndexFunc_int_int_impl_wrong_1.f k a0 a1 a2 a3) (slices_IndexFunc_int_int_impl_wrong_1.f (k + 1) a0 a1 a2 a3) := by
 intro l0 l1_0 a2_0 l3_0 k
 unfold slices_IndexFunc_int_int_impl_wrong_1.f
 exact idxM_mono (fun x => impl_wrong_1.mono _ _ _ _ k) l0 0
set_option maxHeartbeats 8000000 in
set_option maxRecDepth 100000 in
theorem slices_IndexFunc_int_int_impl_wrong_1.calls (k : Nat) (A0 : Option Addr) (c0 : Nat) (l0 : List Int) (gp1 : Nat) (gp2 : Nat) (gp3 : Nat) (A1_0 : Option Addr) (c1_0 : Nat) (l1_0 : List (S70)) (a2_0 : Int) (A3_0 : Option Addr) (c3_0 : Nat) (l3_0 : List (S66)) (r : Int) (w : World) (hr0 : Kd.C (Kd.int .i64) w A0 l0.length l0) (hc0 : l0.length ≤ c0) (hr1_0 : Kd.C k70 w A1_0 l1_0.length l1_0) (hc1_0 : l1_0.length ≤ c1_0) (hr3_0 : Kd.C k66 w A3_0 l3_0.length l3_0) (hc3_0 : l3_0.length ≤ c3_0) (hb1 : w.heap[gp1]? = some (.cells #[.slice A1_0 l1_0.length c1_0] 35 (0, 0))) (hb2 : w.heap[gp2]? = some (.cells #[.int .i64 a2_0] 2 (0, 0))) (hb3 : w.heap[gp3]? = some (.cells #[.slice A3_0 l3_0.length c3_0] 26 (0, 0))) (h : slices_IndexFunc_int_int_impl_wrong_1.f k l0 l1_0 a2_0 l3_0 = some r) :
  Calls Try.prog 114 #[.slice A0 l0.length c0, .func (.func 116) #[] #[.pointer (some ⟨gp1, 0, none⟩), .pointer (some ⟨gp2, 0, none⟩), .pointer (some ⟨gp3, 0, none⟩)]] w fun e w' => e = .returned (.int .i64 r) ∧ Below w.heap.size w w' := by
 refine slices_IndexFunc_int_int_114.gen (fun W => Below w.heap.size w W) Try.func116 (by kernel_rfl) rfl (fun x => impl_wrong_1.f k x l1_0 a2_0 l3_0) A0 c0 l0 r w (Below.refl _ _) (fun W hW => Kd.C_below hr0 hW) hc0 ?_ h
 intro x b hp W hW
 refine (impl_wrong_1.calls k x gp1 A1_0 c1_0 l1_0 gp2 a2_0 gp3 A3_0 c3_0 l3_0 b W (Kd.C_below hr1_0 hW) hc1_0 (Kd.C_below hr3_0 hW) hc3_0 (blk_below hb1 hW) (blk_below hb2 hW) (blk_below hb3 hW) hp).mono ?_
 rintro e w' ⟨rfl, hd⟩
 exact ⟨rfl, below_then hW hW.size hd⟩

end Go.Proofs.Ythocaohlimollaa.XI
