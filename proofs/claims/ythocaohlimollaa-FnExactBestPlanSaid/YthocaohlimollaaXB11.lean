/- Contracts of functions of the given program, each for all arguments at which its Lean function answers; written by a program of this session (wip/xprint.py) over the print of the kit. -/
import Derived.Test.YthocaohlimollaaXB4
import Derived.Test.YthocaohlimollaaXB0
import Derived.Test.YthocaohlimollaaXB3
import Derived.Test.YthocaohlimollaaXB5
import Derived.Test.YthocaohlimollaaXB6
import Derived.Test.YthocaohlimollaaXB8
import Derived.Test.YthocaohlimollaaXB9
import Derived.Test.YthocaohlimollaaXB10
namespace Go.Proofs.Ythocaohlimollaa.XB
open Go.RowKit Go.Proofs.YthocaohlimollaaW.PrintWords Go.Proofs.YthocaohlimollaaW.PrintLast Go.Proofs.YthocaohlimollaaW.PrintMore
attribute [local go_sem] max2_int min2_int max_two min_two max_three min_three max_four min_four   -- for this text's walks alone
set_option linter.unusedVariables false
set_option linter.unusedSimpArgs false

/-! ### spec_l07Best: function 47 -/
def goG (l : List S66) (bound budget : Int) : Nat → Option Int → GS → List S70 → List Int → Int → Int → Option (Bool × GS)
 | 0, _, _, _, _, _, _ => none
 | k + 1, none, s, plan, free, done, taken =>
  if taken = (l.length : Int) then (spec_l07Length.f k l plan).bind fun n => some (true, { s with best := plan, least := n, found := true })
  else goG l bound budget k (some 0) s plan free done taken
 | k + 1, some j, s, plan, free, done, taken =>
  if j < (l.length : Int) then
   (if (Int.tmod (shr .u16 done j) 2 = 1 ∨ Go.bits .andNot .u16 (rd_T66 l j).f1 done ≠ 0) ∨ (s.found = true ∧ s.least = bound) then goG l bound budget k (some (wrap64 (j + 1))) s plan free done taken
   else (spec_l07Put.f k l plan free j).bind fun own =>
    if s.found = true ∧ wrap64 (wrap64 own.2 + wrap64 (rd_T66 l j).f0) ≥ s.least then goG l bound budget k (some (wrap64 (j + 1))) s plan free done taken
    else if s.tries = budget then some (false, s)
    else if 0 ≤ own.1 then (if own.1 < (free.length : Int) then
     (goG l bound budget k none { s with tries := wrap64 (s.tries + 1) } (plan.set j.toNat ⟨own.1, own.2⟩) (free.set own.1.toNat (wrap64 (wrap64 own.2 + wrap64 (rd_T66 l j).f0))) (Go.bits .or .u16 done (shl .u16 1 j)) (wrap64 (taken + 1))).bind fun r =>
      if r.1 = true then goG l bound budget k (some (wrap64 (j + 1))) r.2 plan free done taken else some (false, r.2)
     else none) else none)
  else some (true, s)
def ExitIs (b : Bool) (l : List S66) (bound : Int) (s : GS) (done j : Int) : Prop := b = true ↔ ((Int.tmod (shr .u16 done j) 2 = 1 ∨ Go.bits .andNot .u16 (rd_T66 l j).f1 done ≠ 0) ∨ (s.found = true ∧ s.least = bound))
def WorseIs (b : Bool) (s : GS) (fin : Int) : Prop := b = true ↔ (s.found = true ∧ fin ≥ s.least)
set_option maxHeartbeats 8000000 in
set_option maxRecDepth 100000 in
theorem go_calls (l : List S66) (hl : l.length ≤ 12) (bound budget : Int) (w0 : World) (G : Nat) (AL : Option Addr) (cL : Nat) (hC : Kd.C k66 w0 AL l.length l) (hcL : l.length ≤ cL) :
  ∀ (k : Nat) (vb : Value) (s s' : GS) (plan : List S70) (free : List Int) (A1 : Option Addr) (c1 : Nat) (A2 : Option Addr) (c2 : Nat) (done taken : Int) (r : Bool) (w : World), GT w0 w w G AL cL l bound budget vb s → plan.length = l.length → free.length ≤ 100 → plan.length ≤ c1 → free.length ≤ c2 → Keeps k70 w G A1 plan.length plan → Keeps (Kd.int .i64) w G A2 free.length free → goG l bound budget k none s plan free done taken = some (r, s') →
  Calls Try.prog 87 #[.pointer (some ⟨G, 0, none⟩), .slice A1 plan.length c1, .slice A2 free.length c2, .int .u16 done, .int .i64 taken] w fun e w' => e = .returned (.bool r) ∧ ∃ vb2, GT w0 w w' G AL cL l bound budget vb2 s' := by
 intro k
 induction k using Nat.strongRecOn with
 | _ k ih =>
 intro vb s s' plan free A1 c1 A2 c2 done taken r w hT hpl hfl hc1 hc2 hkp hkf h
 cases k with
 | zero => exact absurd h (by simp [goG])
 | succ k =>
 simp only [goG] at h
 have hcG0 := (blk_cell hT.1.1 0).trans rfl
 by_cases hD : taken = (l.length : Int)
 ·rw [if_pos hD] at h
  have cT : (taken == (l.length : Int)) = true := beq_iff_eq.mpr hD
  replace h := Option.bind_eq_some_iff.mp h
  obtain ⟨n, hn, h⟩ := h
  obtain ⟨rfl, rfl⟩ := Prod.mk.inj (Option.some.inj h)
  have HN0 := Aside0.mk hn
  have HT0 := Aside0.mk hT
  have HP := Aside0.mk hkp
  have HL := Aside0.mk (show plan.length = l.length ∧ plan.length ≤ c1 from ⟨hpl, hc1⟩)
  clear h hn hT hkp hkf hD ih hpl hfl hc1 hc2
  go_enter Try.func87, Try.ntmps87
  go_upto_region 3 with (first
   | ((with_reducible refine gate_dst (N := 24) rfl ?_); go_loud (refine Kd.R_lit k70 _ 70 ?hg (N := 24) ?hd (xs := ([] : List S70)) (inner := []) (ok := fun _ => True) (okp := fun _ => True) ?hr ?hp (fun _ hk => hk) trivial (Below.refl _ _) (Nat.le_refl _) (by simp) ?_; (case hd => rfl); (case hg => rfl); (case hr => first | (go_simp; done) | (go_simp; rfl)); (case hp => exact (Reps.none _ _)); intro v1 w1 ho hb hg hnew; have HO := Aside0.mk ho; have HB := Aside0.mk hb; clear ho hb hg hnew))
   | ((with_reducible refine gate_builtin (b := .append) (xs := #[.tmp 24, .tmp 25]) rfl ?_); go_loud (refine Kd.R_append_rows k70 (w0 := w) w.heap.size rfl (.tmp 24) (.tmp 25) 35 70 (.agg #[(.int .i8 0), (.int .i16 0)]) 4 rfl Try.underlying35 linfo70 rfl (by decide) (by omega) v1 [] plan A1 plan.length c1 (fun _ => True) (fun _ => False) rfl rfl HO.out (Kd.C_below (HP.out w (fun _ _ _ => rfl)) HB.out) (fun x cs hk => by rw [k70_open hk]; exact k70_mkM _ _ _ x) (fun _ hk => hk.elim) (fun _ _ => trivial) HB.out (below_size HB.out) (by have := HL.out.1; simp; omega) ?_; intro v2 w2 ho hb hg hat; rw [List.nil_append] at ho; obtain ⟨A3, c3, rfl⟩ := Kd.R_slice ho; have HO2 := Aside0.mk ho; have HB2 := Aside0.mk hb; clear ho hb hg hat; have HT2 := Aside0.mk (HT0.out.below HB2.out); have hcG4 := (blk_cell HT2.out.1.1 4).trans rfl; have hfG4 := blk_frozen HT2.out.1.1 4)))
  have HT3 := Aside0.mk (HT2.out.best (Kd.R_lower HO2.out (HT0.out.2.1.size)))
  generalize (World.setCell _ ⟨G, 4, none⟩ _) = w3 at HT3 ⊢
  clear hcG4 hfG4 HT2 HO2 HB2 HO HB HT0 hcG0
  have hcG0 := (blk_cell HT3.out.1.1 0).trans rfl
  have HC4 := Aside0.mk (spec_l07Length.calls k AL cL l A1 c1 plan n w3 (Kd.C_below hC HT3.out.2.1) hcL (HP.out _ HT3.out.2.2.1) HL.out.2 HN0.out)
  go_upto_region 4 with ((with_reducible refine gate_callee (f := 55) rfl ?_); go_loud (refine goesL_ (some 35) rfl rfl Try.func55 (by kernel_rfl) rfl #[.slice AL l.length cL, .slice A1 plan.length c1] rfl (by (try simp only [List.map_toArray, List.map_cons, List.map_nil]); first | done | rfl) ?_; (with_reducible refine (HC4.out).mono ?_); rintro e w4 ⟨rfl, hd⟩; have HT4 := Aside0.mk (HT3.out.below hd.below); clear hd; have hcG5 := (blk_cell HT4.out.1.1 5).trans rfl; have hfG5 := blk_frozen HT4.out.1.1 5; refine ⟨_, rfl, ?_⟩))
  have HT5 := Aside0.mk (HT4.out.field (j := 5) (u := .int .i64 n) (s2 := { s with best := plan, least := n }) rfl rfl)
  generalize (World.setCell _ ⟨G, 5, none⟩ (.int .i64 n)) = w5 at HT5 ⊢
  clear hcG5 hfG5 HT4 HT3 hcG0
  have hcG6 := (blk_cell HT5.out.1.1 6).trans rfl
  have hfG6 := blk_frozen HT5.out.1.1 6
  go_wp2
  go_ret
  exact ⟨rfl, _, HT5.out.field (j := 6) (u := .bool true) (s2 := { s with best := plan, least := n, found := true }) rfl rfl⟩
 ·rw [if_neg hD] at h
  have cT : (taken == (l.length : Int)) = false := beq_eq_false_iff_ne.mpr hD
  have H0 := Aside0.mk h
  have HT0 := Aside0.mk hT
  have HP := Aside0.mk hkp
  have HQ := Aside0.mk hkf
  have HL := Aside0.mk (show plan.length = l.length ∧ free.length ≤ 100 ∧ plan.length ≤ c1 ∧ free.length ≤ c2 from ⟨hpl, hfl, hc1, hc2⟩)
  clear h hT hkp hkf hD hpl hfl hc1 hc2
  go_enter Try.func87, Try.ntmps87
  go_wp2
  clear hcG0 cT
  go_loopg [11] k (fun kq v11 w' => ∃ (j : Int) (s1 : GS) (vb1 : Value), v11 = .int .i64 j ∧ Aside0 (0 ≤ j) ∧ Aside0 (goG l bound budget kq (some j) s1 plan free done taken = some (r, s')) ∧ Aside0 (kq ≤ k) ∧ Aside0 (GT w0 w w' G AL cL l bound budget vb1 s1))
  case atStart => exact ⟨0, s, vb, rfl, ⟨Int.le_refl _⟩, H0, ⟨Nat.le_refl _⟩, HT0⟩
  case round =>
   clear H0 HT0
   obtain ⟨j, s1, vb1, rfl, HI, HA, HK1, HT⟩ := hrel
   cases gk with
   | zero => exact absurd HA.out (by simp [goG])
   | succ k1 =>
    have H := HA.out
    clear HA
    simp only [goG] at H
    have hcG0 := (blk_cell HT.out.1.1 0).trans rfl
    by_cases c1 : j < (l.length : Int)
    ·rw [if_pos c1] at H
     have c1b : decide (j < (l.length : Int)) = true := decide_eq_true c1
     obtain ⟨ad, e, hx0, hx1⟩ := at_T66 hC j HI.out c1
     cases e
     have HX0 := Aside0.mk hx0
     have HX1 := Aside0.mk hx1
     have hu66 := Try.underlying66
     have p1 := eq_true HI.out
     have q1 := eq_true c1
     have HJ : Aside0 (IntKind.u64.wrap j = j) := ⟨by have := HI.out; simp [IntKind.wrap, IntKind.bits, IntKind.signed]; omega⟩
     have H' := Aside0.mk H
     clear c1 hx0 hx1 H
     go_upto_region 9 with (fail)
     clear hcG0
     go_cut [85] (fun v85 wc => ∃ b : Bool, v85 = .bool b ∧ wc = wr.drew ∧ Aside0 (ExitIs b l bound s1 done j))
     case first =>
      have f0 := (blk_cell HT.out.1.1 0).trans rfl
      have f1 := (HT.out.2.1.cell (World.block_lt_of_cell? w0 _ HX1.out)).trans HX1.out
      have f2 := (blk_cell HT.out.1.1 5).trans rfl
      have f3 := (blk_cell HT.out.1.1 1).trans rfl
      have f4 := (blk_cell HT.out.1.1 6).trans rfl
      by_cases c2 : Int.tmod (shr .u16 done j) 2 = 1
      ·have hn : Aside0 (ExitIs true l bound s1 done j) := ⟨fun _ => .inl (.inl c2), fun _ => rfl⟩
       refine go_r9a G l.length cL ad done _ j (rd_T66 l j).f1 s1.least bound (fun _ _ _ _ _ h => h) f0 f1 f2 f3 p1 q1 HJ.out rfl (beq_iff_eq.mpr c2) ?_
       intros
       clear f0 f1 f2 f3 f4 c2
       go_wp2
       go_meet
       case rel => exact ⟨true, rfl, rfl, hn⟩
      ·by_cases c3 : Go.bits .andNot .u16 (rd_T66 l j).f1 done ≠ 0
       ·have hn : Aside0 (ExitIs true l bound s1 done j) := ⟨fun _ => .inl (.inr c3), fun _ => rfl⟩
        refine go_r9b G l.length cL ad done _ j (rd_T66 l j).f1 s1.least bound (fun _ _ _ _ _ h => h) f0 f1 f2 f3 p1 q1 HJ.out rfl (beq_eq_false_iff_ne.mpr c2) (bne_iff_ne.mpr c3) ?_
        intros
        clear f0 f1 f2 f3 f4 c2 c3
        go_wp2
        go_meet
        case rel => exact ⟨true, rfl, rfl, hn⟩
       ·have c3b : (Go.bits .andNot .u16 (rd_T66 l j).f1 done != 0) = false := by simpa using c3
        cases hfd : s1.found with
        | false =>
         have hn : Aside0 (ExitIs false l bound s1 done j) := ⟨fun h => (by cases h), fun h => by rcases h with (h | h) | h; exact absurd h c2; exact absurd h c3; rw [hfd] at h; cases h.1⟩
         rw [hfd] at f4
         refine go_r9c G l.length cL ad done _ j (rd_T66 l j).f1 s1.least bound (fun _ _ _ _ _ h => h) f0 f1 f2 f3 p1 q1 HJ.out rfl f4 (beq_eq_false_iff_ne.mpr c2) c3b ?_
         intros
         clear f0 f1 f2 f3 f4 c2 c3 c3b hfd
         go_wp2
         go_meet
         case rel => exact ⟨false, rfl, rfl, hn⟩
        | true =>
         have hn : Aside0 (ExitIs (s1.least == bound) l bound s1 done j) := ⟨fun h => .inr ⟨hfd, beq_iff_eq.mp h⟩, fun h => by rcases h with (h | h) | h; exact absurd h c2; exact absurd h c3; exact beq_iff_eq.mpr h.2⟩
         obtain ⟨b, hb⟩ : ∃ b, (s1.least == bound) = b := ⟨_, rfl⟩
         rw [hb] at hn
         rw [hfd] at f4
         refine go_r9d G l.length cL ad done _ j (rd_T66 l j).f1 s1.least bound b (fun _ _ _ _ _ h => h) f0 f1 f2 f3 p1 q1 HJ.out rfl f4 (beq_eq_false_iff_ne.mpr c2) c3b hb ?_
         intros
         clear f0 f1 f2 f3 f4 c2 c3 c3b hfd hb
         go_wp2
         go_meet
         case rel => exact ⟨b, rfl, rfl, hn⟩
     case rest =>
      obtain ⟨b5, rfl, hwc, hn⟩ := hcut
      have HT8 := Aside0.mk (HT.out.below (below_drew1 (Below.refl _ _)))
      rw [← hwc] at HT8
      clear hwc HT
      have H := H'.out
      cases b5 with
      | true =>
       rw [if_pos (hn.out.1 rfl)] at H
       have H2 := Aside0.mk H
       clear H H' hn
       go_wp2
       go_roundg k1
       case measure => omega
       case rel => exact ⟨wrap64 (j + 1), s1, vb1, rfl, ⟨by have h0 := HI.out; have h1 := of_eq_true q1; unfold wrap64; omega⟩, H2, ⟨by have := HK1.out; omega⟩, HT8⟩
      | false =>
       rw [if_neg (fun h => by have := hn.out.2 h; cases this)] at H
       replace H := Option.bind_eq_some_iff.mp H
       obtain ⟨⟨own1, own2⟩, A8, H⟩ := H
       obtain ⟨fin, hfin⟩ : ∃ f_ : Int, wrap64 (wrap64 own2 + wrap64 (rd_T66 l j).f0) = f_ := ⟨_, rfl⟩
       dsimp only at H
       rw [hfin] at H
       have HF := Aside0.mk hfin
       have HC8 := Aside0.mk (spec_l07Put.calls k1 (some ad) cL l A1 c1 plan A2 c2 free j own1 own2 wc (Kd.C_below hC HT8.out.2.1) hcL (HP.out _ HT8.out.2.2.1) HL.out.2.2.1 (HQ.out _ HT8.out.2.2.1) HL.out.2.2.2 A8)
       have H2 := Aside0.mk H
       clear H H' hn A8 hfin
       have hcG0 := (blk_cell HT8.out.1.1 0).trans rfl
       go_upto_region 11 with (first
        | ((with_reducible refine gate_callee (f := 79) rfl ?_); go_loud (refine goesL_ (some 93) rfl rfl Try.func79 (by kernel_rfl) rfl #[.slice (some ad) l.length cL, .slice A1 plan.length c1, .slice A2 free.length c2, .int .i64 j] rfl (by (try simp only [List.map_toArray, List.map_cons, List.map_nil]); first | done | rfl) ?_; (with_reducible refine (HC8.out).mono ?_); rintro e w9 ⟨rfl, hb9⟩; have HB9 := Aside0.mk hb9; clear hb9; refine ⟨_, rfl, ?_⟩))
        | ((with_reducible refine gate_dst (N := 12) rfl ?_); go_loud (refine box_event ?hg (N := 12) ?hd (cs := #[.int .i8 0, .int .i16 0]) (t := 70) ?hr ?_; (case hd => rfl); (case hg => rfl); (case hr => first | (go_simp; done) | (go_simp; rfl)); intro g12 hg12 w10 hbox7 hb7; have HG7 := Aside0.mk hg12; have HX7 := Aside0.mk hbox7; have HB7 := Aside0.mk hb7; have hc70 := (blk_cell hbox7 0).trans rfl; have hc71 := (blk_cell hbox7 1).trans rfl; have hf70 := blk_frozen hbox7 0; have hf71 := blk_frozen hbox7 1; clear hg12 hbox7 hb7)))
       have hbel : Below wc.heap.size wc ((w10.setCell ⟨g12, 0, none⟩ (.int .i8 own1)).setCell ⟨g12, 1, none⟩ (.int .i16 own2)) := below_set (below_set (below_then HB9.out HB9.out.size HB7.out) (by rw [HG7.out]; exact HB9.out.size)) (by rw [HG7.out]; exact HB9.out.size)
       have HT11 := Aside0.mk (HT8.out.below hbel)
       have HY11 := Aside0.mk (blk_put (blk_put HX7.out 0 (.int .i8 own1) rfl) 1 (.int .i16 own2) rfl : ((w10.setCell ⟨g12, 0, none⟩ (.int .i8 own1)).setCell ⟨g12, 1, none⟩ (.int .i16 own2)).heap[g12]? = some (.cells #[.int .i8 own1, .int .i16 own2] 70 (0, 0)))
       have HN : Aside0 (wc.heap.size ≤ g12) := ⟨by rw [HG7.out]; exact HB9.out.size⟩
       clear hbel hcG0 hc70 hc71 hf70 hf71 HB9 HB7 HX7 HG7 HC8
       generalize ((w10.setCell ⟨g12, 0, none⟩ (.int .i8 own1)).setCell ⟨g12, 1, none⟩ (.int .i16 own2)) = w11 at HT11 HY11 ⊢
       go_wp2
       refine go_r11 G l.length cL g12 ad j own2 (rd_T66 l j).f0 (fun _ _ _ _ _ h => h) ((blk_cell HT11.out.1.1 0).trans rfl) ((HT11.out.2.1.cell (World.block_lt_of_cell? w0 _ HX0.out)).trans HX0.out) ((blk_cell HY11.out 1).trans rfl) p1 q1 ?_
       intros
       rw [HF.out]
       have HT12 := Aside0.mk (HT11.out.below (below_drew1 (Below.refl _ _)))
       have HY12 := Aside0.mk (blk_drew HY11.out)
       clear HT11 HY11
       generalize w11.drew = w12 at HT12 HY12 ⊢
       have hcG6 := (blk_cell HT12.out.1.1 6).trans rfl
       have hcG5 := (blk_cell HT12.out.1.1 5).trans rfl
       go_upto_region 12 with (fail)
       go_cut [118] (fun v118 wd => ∃ b : Bool, v118 = .bool b ∧ wd = w12 ∧ Aside0 (WorseIs b s1 fin))
       case first =>
        cases hfd : s1.found with
        | false =>
         have hn : Aside0 (WorseIs false s1 fin) := ⟨fun h => (by cases h), fun h => by rw [hfd] at h; cases h.1⟩
         rw [hfd] at hcG6
         clear hfd
         go_wp2
         go_meet
         case rel => exact ⟨false, rfl, rfl, hn⟩
        | true =>
         rw [hfd] at hcG6
         by_cases c5 : fin ≥ s1.least
         ·have hn : Aside0 (WorseIs true s1 fin) := ⟨fun _ => ⟨hfd, c5⟩, fun _ => rfl⟩
          have c5b : decide (s1.least ≤ fin) = true := decide_eq_true c5
          clear c5 hfd
          go_wp2
          go_meet
          case rel => exact ⟨true, rfl, rfl, hn⟩
         ·have hn : Aside0 (WorseIs false s1 fin) := ⟨fun h => (by cases h), fun h => absurd h.2 c5⟩
          have c5b : decide (s1.least ≤ fin) = false := decide_eq_false c5
          clear c5 hfd
          go_wp2
          go_meet
          case rel => exact ⟨false, rfl, rfl, hn⟩
       case rest =>
        obtain ⟨b6, rfl, hwd, hn⟩ := hcut
        subst hwd
        clear hcG5 hcG6
        have H := H2.out
        clear H2
        cases b6 with
        | true =>
         rw [if_pos (hn.out.1 rfl)] at H
         have H2 := Aside0.mk H
         clear H hn
         go_wp2
         go_roundg k1
         case measure => omega
         case rel => exact ⟨wrap64 (j + 1), s1, vb1, rfl, ⟨by have h0 := HI.out; have h1 := of_eq_true q1; unfold wrap64; omega⟩, H2, ⟨by have := HK1.out; omega⟩, HT12⟩
        | false =>
         rw [if_neg (fun h => by have := hn.out.2 h; cases this)] at H
         clear hn
         go_wp2
         by_cases c6 : s1.tries = budget
         ·rw [if_pos c6] at H
          obtain ⟨rfl, rfl⟩ := Prod.mk.inj (Option.some.inj H)
          clear H
          refine go_r13 G s1.tries budget true (fun _ _ _ _ _ h => h) ((blk_cell HT12.out.1.1 3).trans rfl) ((blk_cell HT12.out.1.1 2).trans rfl) (beq_iff_eq.mpr c6) ?_
          intros
          clear c6
          have HT13 := Aside0.mk (HT12.out.below (below_drew1 (Below.refl _ _)))
          go_wp2
          go_ret
          exact ⟨rfl, vb1, HT13.out⟩
         ·rw [if_neg c6] at H
          refine go_r13 G s1.tries budget false (fun _ _ _ _ _ h => h) ((blk_cell HT12.out.1.1 3).trans rfl) ((blk_cell HT12.out.1.1 2).trans rfl) (beq_eq_false_iff_ne.mpr c6) ?_
          intros
          clear c6
          have HT13 := Aside0.mk (HT12.out.below (below_drew1 (Below.refl _ _)))
          have HY13 := Aside0.mk (blk_drew HY12.out)
          clear HT12 HY12
          generalize (World.drew _) = w13 at HT13 HY13 ⊢
          have c7 : 0 ≤ own1 := by
           rcases Int.lt_or_le own1 0 with h0 | h0
           ·rw [if_neg (by omega)] at H; cases H
           ·exact h0
          rw [if_pos c7] at H
          have c8 : own1 < (free.length : Int) := by
           rcases Int.lt_or_le own1 (free.length : Int) with h0 | h0
           ·exact h0
           ·rw [if_neg (by omega)] at H; cases H
          rw [if_pos c8] at H
          replace H := Option.bind_eq_some_iff.mp H
          obtain ⟨⟨r2, s2⟩, AR, H⟩ := H
          dsimp only at H
          have AR' := Aside0.mk AR
          have H' := Aside0.mk H
          have p7 := eq_true c7
          have q8 := eq_true c8
          clear AR H c7 c8
          have hcG3 := (blk_cell HT13.out.1.1 3).trans rfl
          have hfG3 := blk_frozen HT13.out.1.1 3
          go_upto_region 16 with (fail)
          have hbel : g12 ≠ G := fun e => by have h1 := HT13.out.1.1; rw [← e, HY13.out] at h1; simp at h1
          have HT14 := Aside0.mk (HT13.out.field (j := 3) (u := .int .i64 (wrap64 (s1.tries + 1))) (s2 := { s1 with tries := wrap64 (s1.tries + 1) }) rfl rfl)
          have HY14 := Aside0.mk (blk_far HY13.out (p := ⟨G, 3, none⟩) hbel (.int .i64 (wrap64 (s1.tries + 1))))
          clear hbel hcG3 hfG3 HT13 HY13
          generalize (World.setCell _ ⟨G, 3, none⟩ _) = w14 at HT14 HY14 ⊢
          have HPn : Aside0 (0 < plan.length ∧ j < (plan.length : Int)) := ⟨by have h0 := HI.out; have h1 := of_eq_true q1; have h2 := HL.out.1; omega, by have h1 := of_eq_true q1; have h2 := HL.out.1; omega⟩
          go_upto_region 17 with (first
           | ((with_reducible refine gate_dst (N := 135) rfl ?_); go_loud (refine Kd.R_lit k70 _ 70 ?hg (N := 135) ?hd (xs := ([] : List S70)) (inner := []) (ok := fun _ => True) (okp := fun _ => True) ?hr ?hp (fun _ hk => hk) trivial (Below.refl _ _) (Nat.le_refl _) (by simp) ?_; (case hd => rfl); (case hg => rfl); (case hr => first | (go_simp; done) | (go_simp; rfl)); (case hp => exact (Reps.none _ _)); intro v1 w15 ho hb hg hnew; have HO := Aside0.mk ho; have HB := Aside0.mk hb; have HKP := Aside0.mk (Kd.C_below (HP.out _ HT14.out.2.2.1) hb); clear ho hb hg hnew))
           | ((with_reducible refine gate_builtin (b := .append) (xs := #[.tmp 135, .tmp 136]) rfl ?_); go_loud (refine Kd.R_append_rows k70 (w0 := w14) w14.heap.size rfl (.tmp 135) (.tmp 136) 35 70 (.agg #[(.int .i8 0), (.int .i16 0)]) 4 rfl Try.underlying35 linfo70 rfl (by decide) (by omega) v1 [] plan A1 plan.length c1 (fun _ => True) (fun _ => False) rfl rfl HO.out HKP.out (fun x cs hk => by rw [k70_open hk]; exact k70_mkM _ _ _ x) (fun _ hk => hk.elim) (fun _ _ => trivial) HB.out (below_size HB.out) (by have := HL.out.1; simp; omega) ?_; intro v2 w16 ho hb hg hat; rw [List.nil_append] at ho; obtain ⟨go, co, rfl, hgo, _⟩ := Kd.R_form ho HPn.out.1; have HO2 := Aside0.mk ho; have HB2 := Aside0.mk hb; have HGO := Aside0.mk hgo; clear ho hb hg hat hgo)))
          have HO3 := Aside0.mk (put70 HO2.out j HI.out HPn.out.2 ⟨own1, own2⟩)
          have HB3 := Aside0.mk (HB2.out.grown HO3.out.2 (below_size HB2.out) (fun k hk => by cases hk; exact HGO.out))
          have hc120 := (blk_cell (blk_below HY14.out HB2.out) 0).trans rfl
          have hc121 := (blk_cell (blk_below HY14.out HB2.out) 1).trans rfl
          obtain ⟨hcp0, hcp1, hfp0, hfp1⟩ : w16.cell? ⟨go, j.toNat * 2, none⟩ = some (.int .i8 (rd_T70 plan j).f0) ∧ w16.cell? ⟨go, j.toNat * 2 + 1, none⟩ = some (.int .i16 (rd_T70 plan j).f1) ∧ w16.frozen? ⟨go, j.toNat * 2, none⟩ = false ∧ w16.frozen? ⟨go, j.toNat * 2 + 1, none⟩ = false := by
           obtain ⟨c, hcl, hM, hcc, hfr⟩ := Kd.R_elem HO2.out z70 j HI.out HPn.out.2
           rw [k70_openM hM] at hcc
           exact ⟨hcc 0 _ rfl, hcc 1 _ rfl, hfr 0, hfr 1⟩
          have qp := eq_true HPn.out.2
          go_upto_region 18 with (fail)
          clear hc120 hc121 hcp0 hcp1 hfp0 hfp1 HO2 HB2 HO HB HKP
          have HT17 := Aside0.mk (HT14.out.below HB3.out)
          have HY17 := Aside0.mk (blk_below HY14.out HB3.out)
          have HR3 := Aside0.mk HO3.out.1
          clear HO3 HB3 HT14 HY14
          generalize (World.setCell _ ⟨go, j.toNat * 2 + 1, none⟩ (.int .i16 own2)) = w17 at HT17 HY17 HR3 ⊢
          go_upto_region 19 with (first
           | ((with_reducible refine gate_dst (N := 142) rfl ?_); go_loud (refine Kd.R_lit (Kd.int .i64) _ 2 ?hg (N := 142) ?hd (xs := ([] : List Int)) (inner := []) (ok := fun _ => True) (okp := fun _ => True) ?hr ?hp (fun _ hk => hk) trivial (Below.refl _ _) (Nat.le_refl _) (by simp) ?_; (case hd => rfl); (case hg => rfl); (case hr => first | (go_simp; done) | (go_simp; rfl)); (case hp => exact (Reps.none _ _)); intro v3 w18 ho hb hg hnew; have HO := Aside0.mk ho; have HB := Aside0.mk hb; have HKQ := Aside0.mk (Kd.C_below (HQ.out _ HT17.out.2.2.1) hb); clear ho hb hg hnew))
           | ((with_reducible refine gate_builtin (b := .append) (xs := #[.tmp 142, .tmp 143]) rfl ?_); go_loud (refine Kd.R_append_row (Value.int .i64) (0 : Int) (w0 := w17) w17.heap.size rfl (.tmp 142) (.tmp 143) 32 2 (.int .i64 0) 8 rfl Try.underlying32 info2 rfl (by decide) v3 [] free A2 free.length c2 (fun _ => True) rfl rfl (fun _ _ => trivial) HO.out HKQ.out HB.out (below_size HB.out) (by have := HL.out.2.1; simp; omega) ?_; intro v4 w19 ho hb hg hat; rw [List.nil_append] at ho; obtain ⟨gq, cq, rfl, hgq, _⟩ := Kd.R_form ho (by have h7 := of_eq_true p7; have h8 := of_eq_true q8; omega); have HO4 := Aside0.mk ho; have HB4 := Aside0.mk hb; have HGQ := Aside0.mk hgq; clear ho hb hg hat hgq)))
          obtain ⟨hcq, hfq⟩ := Kd.R_celln (0 : Int) HO4.out own1 (of_eq_true p7) (of_eq_true q8)
          have HO5 := Aside0.mk (Kd.R_putg HO4.out own1 fin)
          have HB5 := Aside0.mk (HB4.out.grown HO5.out.2 (below_size HB4.out) (fun k hk => by cases hk; exact HGQ.out))
          have hc120 := (blk_cell (blk_below HY17.out HB4.out) 0).trans rfl
          go_upto_region 20 with (fail)
          clear hc120 hcq hfq HO4 HB4 HO HB HKQ
          have HT20 := Aside0.mk (HT17.out.below HB5.out)
          have HR4 := Aside0.mk (Kd.R_below HR3.out HB5.out)
          have HR5 := Aside0.mk HO5.out.1
          clear HO5 HB5 HT17 HY17 HR3
          generalize (World.setCell _ ⟨gq, own1.toNat, none⟩ (.int .i64 fin)) = w20 at HT20 HR4 HR5 ⊢
          have AR := AR'.out
          have H := H'.out
          clear AR' H'
          have es : shl .u16 1 j = IntKind.u16.wrap (2 ^ min j.toNat 16) := by unfold shl; rw [Int.one_mul]; rfl
          have HIH0 := ih k1 (by have := HK1.out; omega) vb1 _ s2 _ _ (some ⟨go, 0, none⟩) co (some ⟨gq, 0, none⟩) cq _ _ r2 w20 HT20.out.reset ((List.length_set).trans HL.out.1) (by rw [List.length_set]; exact HL.out.2.1) (by rw [List.length_set]; exact (Kd.R_reads' HR4.out).2.1) (by rw [List.length_set]; exact (Kd.R_reads' HR5.out).2.1) (keeps_of_R (Kd.R_mono (Kd.R_types HR4.out HT20.out.1.1 (by decide)) (fun k hk => hk.2))) (keeps_of_R (Kd.R_mono (Kd.R_types HR5.out HT20.out.1.1 (by decide)) (fun k hk => hk.2))) AR
          rw [List.length_set, List.length_set, es] at HIH0
          have HIH := Aside0.mk HIH0
          clear HIH0 AR es HR4 HR5
          have hju := HJ.out
          cases r2 with
          | false =>
           rw [if_neg (by decide)] at H
           obtain ⟨rfl, rfl⟩ := Prod.mk.inj (Option.some.inj H)
           clear H
           go_wp2_with ((with_reducible refine gate_callee (f := 87) rfl ?_); go_loud (refine goesL_ (some 160) rfl rfl Try.func87 (by kernel_rfl) rfl #[.pointer (some ⟨G, 0, none⟩), .slice (some ⟨go, 0, none⟩) plan.length co, .slice (some ⟨gq, 0, none⟩) free.length cq, .int .u16 (Go.bits .or .u16 done (IntKind.u16.wrap (2 ^ min j.toNat 16))), .int .i64 (wrap64 (taken + 1))] rfl (by (try simp only [List.map_toArray, List.map_cons, List.map_nil]); first | done | rfl) ?_; (with_reducible refine (HIH.out).mono ?_); rintro e w21 ⟨rfl, vb2, hT21⟩; have HT21 := Aside0.mk hT21; clear hT21; refine ⟨_, rfl, ?_⟩))
           go_ret
           exact ⟨rfl, vb2, HT20.out.then HT21.out⟩
          | true =>
           rw [if_pos rfl] at H
           have H' := Aside0.mk H
           clear H
           go_wp2_with ((with_reducible refine gate_callee (f := 87) rfl ?_); go_loud (refine goesL_ (some 160) rfl rfl Try.func87 (by kernel_rfl) rfl #[.pointer (some ⟨G, 0, none⟩), .slice (some ⟨go, 0, none⟩) plan.length co, .slice (some ⟨gq, 0, none⟩) free.length cq, .int .u16 (Go.bits .or .u16 done (IntKind.u16.wrap (2 ^ min j.toNat 16))), .int .i64 (wrap64 (taken + 1))] rfl (by (try simp only [List.map_toArray, List.map_cons, List.map_nil]); first | done | rfl) ?_; (with_reducible refine (HIH.out).mono ?_); rintro e w21 ⟨rfl, vb2, hT21⟩; have HT21 := Aside0.mk hT21; clear hT21; refine ⟨_, rfl, ?_⟩))
           have HT22 := Aside0.mk (HT20.out.then HT21.out)
           go_roundg k1
           case measure => omega
           case rel => exact ⟨wrap64 (j + 1), s2, vb2, rfl, ⟨by have h0 := HI.out; have h1 := of_eq_true q1; unfold wrap64; omega⟩, H', ⟨by have := HK1.out; omega⟩, HT22⟩
    ·rw [if_neg c1] at H
     have c1b : decide (j < (l.length : Int)) = false := decide_eq_false c1
     obtain ⟨rfl, rfl⟩ := Prod.mk.inj (Option.some.inj H)
     clear H
     go_wp2
     go_ret
     exact ⟨rfl, vb1, HT.out⟩
def spec_l07Best.f (k : Nat) (l0 : List S66) (a1 a2 : Int) : Option (List S70 × Int × Int) :=
 (spec_l07Asked.f k l0 a1).bind fun c => if c = 0 then (spec_l00In.f a2 0 20000).bind fun b =>
  if b = true then (if l0.length ≤ 12 ∧ 0 ≤ a1 ∧ a1 ≤ 100 then (spec_l07Bound.f k l0 a1).bind fun bd => (goG l0 bd a2 k none ⟨0, [], 0, false⟩ (List.replicate l0.length z70) (List.replicate a1.toNat 0) 0 0).bind fun r => if r.1 = true then some (r.2.best, r.2.least, 0) else some ([], 0, 7) else none)
  else some ([], 0, 2)
 else some ([], 0, c)
theorem goG_mono (l : List S66) (bd bu : Int) : ∀ k i s p f d t, LeO (goG l bd bu k i s p f d t) (goG l bd bu (k + 1) i s p f d t) := by
 intro k
 induction k with
 | zero => intro i s p f d t r h; simp [goG] at h
 | succ k ih =>
  intro i s p f d t
  cases i with
  | none =>
   unfold goG
   split
   ·exact LeO.bind (spec_l07Length.mono _ _ k) (fun _ => LeO.refl _)
   ·exact ih _ _ _ _ _ _
  | some i =>
   unfold goG
   split
   ·split
    ·exact ih _ _ _ _ _ _
    ·refine LeO.bind (spec_l07Put.mono _ _ _ _ k) (fun own => ?_)
     split
     ·exact ih _ _ _ _ _ _
     ·split
      ·exact LeO.refl _
      ·split
       ·split
        ·refine LeO.bind (ih _ _ _ _ _ _) (fun r => ?_)
         split
         ·exact ih _ _ _ _ _ _
         ·exact LeO.refl _
        ·exact LeO.refl _
       ·exact LeO.refl _
   ·exact LeO.refl _
theorem spec_l07Best.mono : ∀ a0 a1 a2 k, LeO (spec_l07Best.f k a0 a1 a2) (spec_l07Best.f (k + 1) a0 a1 a2) := by
 intro a0 a1 a2 k
 unfold spec_l07Best.f
 refine LeO.bind (spec_l07Asked.mono _ _ k) (fun c => ?_)
 split
 ·refine LeO.bind (LeO.refl _) (fun b => ?_)
  split
  ·split
   ·refine LeO.bind (spec_l07Bound.mono _ _ k) (fun bd => LeO.bind (goG_mono _ _ _ k _ _ _ _ _ _) (fun _ => LeO.refl _))
   ·exact LeO.refl _
  ·exact LeO.refl _
 ·exact LeO.refl _
set_option maxHeartbeats 8000000 in
set_option maxRecDepth 100000 in
theorem spec_l07Best.calls (k : Nat) (A0 : Option Addr) (c0 : Nat) (l0 : List (S66)) (a1 : Int) (a2 : Int) (r1 : List S70) (r2 : Int) (r3 : Int) (w : World) (hr0 : Kd.C k66 w A0 l0.length l0) (hc0 : l0.length ≤ c0) (h : spec_l07Best.f k l0 a1 a2 = some (r1, r2, r3)) :
  Calls Try.prog 47 #[.slice A0 l0.length c0, .int .i64 a1, .int .i64 a2] w fun e w' => ∃ v0_ : Value, e = .returned (.tuple #[v0_, .int .i64 r2, .int .i64 r3]) ∧ Kd.R k70 70 w' w.heap.size (fun _ => True) v0_ r1 ∧ Below w.heap.size w w' := by
 unfold spec_l07Best.f at h
 replace h := Option.bind_eq_some_iff.mp h
 obtain ⟨c, hc, h⟩ := h
 have HR := Aside0.mk hr0
 have HC := Aside0.mk hc0
 have HA := Aside0.mk (spec_l07Asked.calls k A0 c0 l0 a1 c w hr0 hc0 hc)
 clear hr0 hc0 hc
 obtain ⟨bi, hbi⟩ : ∃ b, spec_l00In.f a2 0 20000 = some b := by unfold spec_l00In.f; split <;> exact ⟨_, rfl⟩
 have HIN := Aside0.mk hbi
 by_cases hz : c = 0
 ·subst hz
  rw [if_pos rfl, hbi] at h
  simp only [Option.bind_some] at h
  clear hbi
  cases bi with
  | false =>
   rw [if_neg (by decide)] at h
   have h2 := Prod.mk.inj (Option.some.inj h)
   clear h
   obtain ⟨rfl, h3⟩ := h2
   obtain ⟨rfl, rfl⟩ := Prod.mk.inj h3
   clear h3
   go_enter Try.func47, Try.ntmps47
   go_wp2_with (first | ((with_reducible refine gate_callee (f := 78) rfl ?_); go_loud (refine goesL_ (some 13) rfl rfl Try.func78 (by kernel_rfl) rfl #[.slice A0 l0.length c0, .int .i64 a1] rfl (by (try simp only [List.map_toArray, List.map_cons, List.map_nil]); first | done | rfl) ?_; (with_reducible refine (HA.out).mono ?_); rintro e w1 ⟨rfl, hB⟩; have HB := Aside0.mk hB; clear hB; have HI := Aside0.mk (spec_l00In.calls a2 0 20000 _ w1 HIN.out); refine ⟨_, rfl, ?_⟩)) | ((with_reducible refine gate_callee (f := 46) rfl ?_); (try (refine gate_guard (by rfl) ?_; dsimp only)); go_loud (refine goesL_ (some 18) rfl rfl Try.func46 (by kernel_rfl) rfl #[.int .i64 a2, .int .i64 0, .int .i64 20000] rfl (by (try simp only [List.map_toArray, List.map_cons, List.map_nil]); first | done | rfl) ?_; (with_reducible refine (HI.out).mono ?_); rintro e w2 ⟨rfl, hd⟩; have HD2 := Aside0.mk hd; clear hd; refine ⟨_, rfl, ?_⟩)) | ((with_reducible refine gate_dst (N := 23) rfl ?_); go_loud (refine Kd.R_lit k70 _ 70 ?hg (N := 23) ?hd (xs := ([] : List S70)) (inner := []) (ok := fun _ => True) (okp := fun _ => True) ?hr ?hp (fun _ hk => hk) trivial (Below.refl _ _) (Nat.le_refl _) (by simp) ?_; (case hd => rfl); (case hg => rfl); (case hr => first | (go_simp; done) | (go_simp; rfl)); (case hp => exact (Reps.none _ _)); intro v1 w5 ho hb hg hnew; have HO := Aside0.mk ho; have HB5 := Aside0.mk hb; clear ho hb hg hnew)))
   go_ret3
   exact ⟨v1, rfl, Kd.R_lower HO.out (below_then HB.out HB.out.size HD2.out.below).size, below_then (below_then HB.out HB.out.size HD2.out.below) (below_then HB.out HB.out.size HD2.out.below).size HB5.out⟩
  | true =>
   rw [if_pos rfl] at h
   by_cases hd : l0.length ≤ 12 ∧ 0 ≤ a1 ∧ a1 ≤ 100
   ·rw [if_pos hd] at h
    obtain ⟨hn, h0, h1⟩ := hd
    replace h := Option.bind_eq_some_iff.mp h
    obtain ⟨bd, hbd, h⟩ := h
    replace h := Option.bind_eq_some_iff.mp h
    obtain ⟨⟨rb, s'⟩, hl, h⟩ := h
    have HL := Aside0.mk hl
    have HBD := Aside0.mk hbd
    have HN := Aside0.mk (And.intro hn (And.intro h0 h1))
    have H := Aside0.mk h
    clear hl hbd hn h0 h1 h
    go_enter Try.func47, Try.ntmps47
    go_upto_region 6 with (first | ((with_reducible refine gate_callee (f := 78) rfl ?_); go_loud (refine goesL_ (some 13) rfl rfl Try.func78 (by kernel_rfl) rfl #[.slice A0 l0.length c0, .int .i64 a1] rfl (by (try simp only [List.map_toArray, List.map_cons, List.map_nil]); first | done | rfl) ?_; (with_reducible refine (HA.out).mono ?_); rintro e w1 ⟨rfl, hB⟩; have HB := Aside0.mk hB; clear hB; have HI := Aside0.mk (spec_l00In.calls a2 0 20000 _ w1 HIN.out); refine ⟨_, rfl, ?_⟩)) | ((with_reducible refine gate_callee (f := 46) rfl ?_); (try (refine gate_guard (by rfl) ?_; dsimp only)); go_loud (refine goesL_ (some 18) rfl rfl Try.func46 (by kernel_rfl) rfl #[.int .i64 a2, .int .i64 0, .int .i64 20000] rfl (by (try simp only [List.map_toArray, List.map_cons, List.map_nil]); first | done | rfl) ?_; (with_reducible refine (HI.out).mono ?_); rintro e w2 ⟨rfl, hd⟩; have HD2 := Aside0.mk hd; clear hd; refine ⟨_, rfl, ?_⟩)))
    have hB2 := below_then HB.out HB.out.size HD2.out.below
    have HR2 := Aside0.mk (Kd.C_below HR.out hB2)
    have HB2 := Aside0.mk hB2
    clear hB2
    go_wp2_with (first
     | ((with_reducible refine gate_callee (f := 82) rfl ?_); go_loud (refine goesL_ (some 28) rfl rfl Try.func82 (by kernel_rfl) rfl #[.slice A0 l0.length c0, .int .i64 a1] rfl (by (try simp only [List.map_toArray, List.map_cons, List.map_nil]); first | done | rfl) ?_; (with_reducible refine (spec_l07Bound.calls k A0 c0 l0 a1 bd _ HR2.out HC.out HBD.out).mono ?_); rintro e w3 ⟨rfl, hB3⟩; have HB3 := Aside0.mk hB3; clear hB3; refine ⟨_, rfl, ?_⟩))
     | ((with_reducible refine gate_dst (N := 31) rfl ?_); go_loud (refine box_event ?hg (N := 31) ?hd (cs := #[.slice A0 l0.length c0, .int .i64 bd, .int .i64 a2, .int .i64 0, .slice none 0 0, .int .i64 0, .bool false]) (t := 118) ?hr ?_; (case hd => rfl); (case hg => rfl); (case hr => first | (go_simp; done) | (go_simp; rfl)); intro G hG w4 hbox hb; have HG4 := Aside0.mk hG; have HX4 := Aside0.mk hbox; have HB4 := Aside0.mk hb; clear hG hbox hb)))
    have HB04 := Aside0.mk (below_then HB2.out HB2.out.size (below_then HB3.out HB3.out.size HB4.out))
    have HGE : Aside0 (w.heap.size ≤ G) := ⟨by rw [HG4.out]; exact Nat.le_trans HB2.out.size HB3.out.size⟩
    have HT : Aside0 (GT w w4 w4 G A0 c0 l0 bd a2 (.slice none 0 0) ⟨0, [], 0, false⟩) := ⟨⟨HX4.out, HGE.out, Kd.R_nil _ _ _ _ _⟩, HB04.out, fun _ _ _ => rfl, Nat.le_refl _⟩
    refine go_r7 l0.length c0 G A0 a1 rb (fun w' => ∃ vb2, GT w w4 w' G A0 c0 l0 bd a2 vb2 s') (fun _ _ _ _ _ h => h) HN.out.1 HN.out.2.1 HN.out.2.2 ?_ ?_
    ·intro gp gf cp cf w5 hP hF hB5
     have hT5 := HT.out.below hB5
     have := go_calls l0 HN.out.1 bd a2 w G A0 c0 HR.out HC.out k (.slice none 0 0) ⟨0, [], 0, false⟩ s' (List.replicate l0.length z70) (List.replicate a1.toNat 0) (some ⟨gp, 0, none⟩) cp (some ⟨gf, 0, none⟩) cf 0 0 rb w5 hT5.reset List.length_replicate (by rw [List.length_replicate]; have := HN.out.2.2; omega) (by rw [List.length_replicate]; have := (Kd.R_reads' hP).2.1; exact this) (by rw [List.length_replicate]; have := (Kd.R_reads' hF).2.1; exact this) (keeps_of_R (Kd.R_mono (Kd.R_types hP hT5.1.1 (by decide)) (fun k hk => hk.2))) (keeps_of_R (Kd.R_mono (Kd.R_types hF hT5.1.1 (by decide)) (fun k hk => hk.2))) HL.out
     rw [List.length_replicate, List.length_replicate] at this
     refine this.mono ?_
     rintro e w6 ⟨rfl, vb2, hT6⟩
     exact ⟨rfl, vb2, hT5.then hT6⟩
    ·intro w6
     intros
     rename_i hp6
     obtain ⟨vb2, hT6⟩ := hp6
     have HT6 := Aside0.mk hT6
     have h := H.out
     clear hT6 H HT HGE HX4 HG4 HB4 HB3 HR2
     cases rb with
     | false =>
      rw [if_neg (by decide)] at h
      have h2 := Prod.mk.inj (Option.some.inj h)
      clear h
      obtain ⟨rfl, h3⟩ := h2
      obtain ⟨rfl, rfl⟩ := Prod.mk.inj h3
      clear h3
      go_wp2_with ((with_reducible refine gate_dst (N := 40) rfl ?_); go_loud (refine Kd.R_lit k70 _ 70 ?hg (N := 40) ?hd (xs := ([] : List S70)) (inner := []) (ok := fun _ => True) (okp := fun _ => True) ?hr ?hp (fun _ hk => hk) trivial (Below.refl _ _) (Nat.le_refl _) (by simp) ?_; (case hd => rfl); (case hg => rfl); (case hr => first | (go_simp; done) | (go_simp; rfl)); (case hp => exact (Reps.none _ _)); intro v1 w5 ho hb hg hnew; have HO := Aside0.mk ho; have HB5 := Aside0.mk hb; clear ho hb hg hnew))
      go_ret3
      exact ⟨v1, rfl, Kd.R_lower HO.out HT6.out.2.1.size, below_then HT6.out.2.1 HT6.out.2.1.size HB5.out⟩
     | true =>
      rw [if_pos rfl] at h
      have h2 := Prod.mk.inj (Option.some.inj h)
      clear h
      obtain ⟨rfl, h3⟩ := h2
      obtain ⟨rfl, rfl⟩ := Prod.mk.inj h3
      clear h3
      have hv := Kd.R_slice HT6.out.1.2.2
      obtain ⟨Av, cv, rfl⟩ := hv
      go_wp2
      refine go_r9 G _ cv Av s'.least (fun _ _ _ _ _ h => h) ((blk_cell HT6.out.1.1 4).trans rfl) ((blk_cell HT6.out.1.1 5).trans rfl) ?_
      intros
      go_wp2
      go_ret3
      exact ⟨_, rfl, Kd.R_drew HT6.out.1.2.2, below_drew1 HT6.out.2.1⟩
   ·rw [if_neg hd] at h
    cases h
 ·rw [if_neg hz] at h
  have h2 := Prod.mk.inj (Option.some.inj h)
  clear h hbi
  obtain ⟨rfl, h3⟩ := h2
  obtain ⟨rfl, rfl⟩ := Prod.mk.inj h3
  clear h3
  have hzb : (c == 0) = false := beq_eq_false_iff_ne.mpr hz
  have hzn : (c != 0) = true := bne_iff_ne.mpr hz
  clear hz
  go_enter Try.func47, Try.ntmps47
  go_wp2_with (first | ((with_reducible refine gate_callee (f := 78) rfl ?_); go_loud (refine goesL_ (some 13) rfl rfl Try.func78 (by kernel_rfl) rfl #[.slice A0 l0.length c0, .int .i64 a1] rfl (by (try simp only [List.map_toArray, List.map_cons, List.map_nil]); first | done | rfl) ?_; (with_reducible refine (HA.out).mono ?_); rintro e w1 ⟨rfl, hB⟩; have HB := Aside0.mk hB; clear hB; have HI := Aside0.mk (spec_l00In.calls a2 0 20000 _ w1 HIN.out); refine ⟨_, rfl, ?_⟩)) | ((with_reducible refine gate_dst (N := 23) rfl ?_); go_loud (refine Kd.R_lit k70 _ 70 ?hg (N := 23) ?hd (xs := ([] : List S70)) (inner := []) (ok := fun _ => True) (okp := fun _ => True) ?hr ?hp (fun _ hk => hk) trivial (Below.refl _ _) (Nat.le_refl _) (by simp) ?_; (case hd => rfl); (case hg => rfl); (case hr => first | (go_simp; done) | (go_simp; rfl)); (case hp => exact (Reps.none _ _)); intro v1 w5 ho hb hg hnew; have HO := Aside0.mk ho; have HB5 := Aside0.mk hb; clear ho hb hg hnew)))
  go_ret3
  exact ⟨v1, rfl, Kd.R_lower HO.out HB.out.size, below_then HB.out HB.out.size HB5.out⟩

end Go.Proofs.Ythocaohlimollaa.XB
