/- Contracts of functions of the given program, each for all arguments at which its Lean function answers; written by a program of this session (wip/xprint.py) over the print of the kit. -/
import Derived.Test.YthocaohlimollaaXB4
import Derived.Test.YthocaohlimollaaXB5
import Derived.Test.YthocaohlimollaaXB0
import Derived.Test.YthocaohlimollaaXB3
namespace Go.Proofs.Ythocaohlimollaa.XB
open Go.RowKit Go.Proofs.YthocaohlimollaaW.PrintWords Go.Proofs.YthocaohlimollaaW.PrintLast Go.Proofs.YthocaohlimollaaW.PrintMore
attribute [local go_sem] max2_int min2_int max_two min_two max_three min_three max_four min_four   -- for this text's walks alone
set_option linter.unusedVariables false
set_option linter.unusedSimpArgs false

theorem own_form {α : Type} {d : Kd α} {e : Nat} {W : World} {base : Nat} {ok : Nat → Prop} {v : Value} {xs : List α} (h : d.R e W base ok v xs) (hb : ∃ b, v.ownBlock = some b) : ∃ g c, v = .slice (some ⟨g, 0, none⟩) xs.length c := by
 obtain ⟨b, hb⟩ := hb
 obtain ⟨ad, c, rfl⟩ := own_slice_at h hb
 obtain ⟨g, rfl⟩ := Kd.R_head h
 exact ⟨g, c, rfl⟩
set_option maxHeartbeats 8000000 in
set_option maxRecDepth 100000 in
theorem shop_r1 (n cL : Nat) (AL : Option Addr) (hands : Int) {u2 u3 u4 u5 u6 u7 u8 u9 u10 u11 u12 : Value} {W : World} {Q : Exit → Act → World → Prop} (hP : ∀ c (a : Act) (d : Tmp) u_ w1, Q (.panic c) (a.put (some d) u_) w1 → Q (.panic c) a w1) (hn : n ≤ 12) (h0 : 0 ≤ hands) (h1 : hands ≤ 100)
  (hK : ∀ (g gp gf cp cf : Nat) (w1 : World) (v5 v6 v7 v8 v9 v10 v11 v12 : Value), w1.heap[g]? = some (.cells #[.slice AL n cL, .slice (some ⟨gp, 0, none⟩) n cp, .slice (some ⟨gf, 0, none⟩) hands.toNat cf] 109 (0, 0)) → W.heap.size ≤ g → Kd.R k70 70 w1 W.heap.size (fun k_ => some k_ ≠ (Value.slice (some ⟨gf, 0, none⟩) hands.toNat cf).ownBlock) (.slice (some ⟨gp, 0, none⟩) n cp) (List.replicate n z70) → Kd.R (Kd.int .i64) 2 w1 W.heap.size (fun k_ => some k_ ≠ (Value.slice (some ⟨gp, 0, none⟩) n cp).ownBlock) (.slice (some ⟨gf, 0, none⟩) hands.toNat cf) (List.replicate hands.toNat 0) → Below W.heap.size W w1 → Q .normal ⟨#[.slice AL n cL, .int .i64 hands, u2, u3, .pointer (some ⟨g, 0, none⟩), v5, v6, v7, v8, v9, v10, v11, v12], []⟩ w1) :
  Code.wp Try.prog (regionOf Try.f75 1) Q ⟨#[.slice AL n cL, .int .i64 hands, u2, u3, u4, u5, u6, u7, u8, u9, u10, u11, u12], []⟩ W := by
 conv => arg 2; whnf
 have HB := Aside0.mk (below_drew1 (Below.refl W.heap.size W))
 have q0 := eq_true h0
 refine start_ (n := 9) (S := fun w' => True) (ds := []) #[false, false, false, false, false, false, false, false, false] (by kernel_rfl) rfl rfl trivial (fun hHeld => ?_)
 refine pure_ (i := 0) (N := some 5) (v := ?_) (a' := ?_) #[true, false, false, false, false, false, false, false, false] rfl rfl (by kernel_rfl) (fun _ _ _ h => hP _ _ _ _ _ h) (Or.inl ⟨by rfl, ?_⟩) ?_ ?_; rotate_left; (· intro w'; go_simp; with_reducible rfl); rotate_left; (· simp only [Act.put, List.setIfInBounds_toArray, List.set_cons_zero, List.set_cons_succ, i64_w, i32_w]; rfl)
 refine pure_ (i := 1) (N := some 6) (v := ?_) (a' := ?_) #[true, true, false, false, false, false, false, false, false] rfl rfl (by kernel_rfl) (fun _ _ _ h => hP _ _ _ _ _ h) (Or.inl ⟨by rfl, ?_⟩) ?_ ?_; rotate_left; (· intro w'; go_simp; with_reducible rfl); rotate_left; (· simp only [Act.put, List.setIfInBounds_toArray, List.set_cons_zero, List.set_cons_succ, i64_w, i32_w]; rfl)
 refine pure_ (i := 2) (N := some 7) (v := ?_) (a' := ?_) #[true, true, true, false, false, false, false, false, false] rfl rfl (by kernel_rfl) (fun _ _ _ h => hP _ _ _ _ _ h) (Or.inl ⟨by rfl, ?_⟩) ?_ ?_; rotate_left; (· intro w'; go_simp; with_reducible rfl); rotate_left; (· simp only [Act.put, List.setIfInBounds_toArray, List.set_cons_zero, List.set_cons_succ, i64_w, i32_w]; rfl)
 refine pure_ (i := 4) (N := some 9) (v := ?_) (a' := ?_) #[true, true, true, false, true, false, false, false, false] rfl rfl (by kernel_rfl) (fun _ _ _ h => hP _ _ _ _ _ h) (Or.inl ⟨by rfl, ?_⟩) ?_ ?_; rotate_left; (· intro w'; go_simp; with_reducible rfl); rotate_left; (· simp only [Act.put, List.setIfInBounds_toArray, List.set_cons_zero, List.set_cons_succ, i64_w, i32_w]; rfl)
 refine join_ (σ := Value × Value) 3 #[true, true, true, true, true, true, false, false, false] (fun s_ => [(8, s_.1), (10, s_.2)]) (fun s_ w' => Kd.R k70 70 w' W.heap.size (fun k_ => some k_ ≠ (s_.2 : Value).ownBlock) s_.1 (List.replicate n z70) ∧ Kd.R (Kd.int .i64) 2 w' W.heap.size (fun k_ => some k_ ≠ (s_.1 : Value).ownBlock) s_.2 (List.replicate hands.toNat 0) ∧ (∃ b, (s_.1 : Value).ownBlock = some b) ∧ (∃ b, (s_.2 : Value).ownBlock = some b) ∧ Below W.heap.size W w') ?_ ?_
 rotate_left
 ·intro hCont
  refine two_ (i := 3) (j := 5) (Ni := some 8) (Nj := some 10) #[true, true, true, true, true, false, false, false, false] #[true, true, true, false, true, true, false, false, false] rfl rfl rfl rfl (by kernel_rfl) (by decide) (by decide) (fun K hK => ?_) (fun K hK => ?_)
  ·skip
   refine Kd.R_make_step k70 _ 70 (by rfl) (N := 8) rfl 35 _ _ rfl (n : Int) rfl rfl Try.underlying35 (.agg #[(.int .i8 0), (.int .i16 0)]) 4 linfo70 rfl (by decide) (by omega) z70 (ok := fun _ => True) (okp := fun _ => True) (k70_mkM _ _ _ z70) (fun _ hk => hk) trivial (Int.natCast_nonneg _) (by have := hn; simp; omega) (Below.refl _ _) (Nat.le_refl _) ?_
   intro va wa ho hb hg hnew
   rw [Int.toNat_natCast] at ho
   have HEa := Aside0.mk (show ∃ b, va.ownBlock = some b from by obtain ⟨b, h1, _⟩ := hnew; exact ⟨b, h1⟩)
   have HOa := Aside0.mk (Kd.R_lower ho (below_size HB.out))
   have HB' := Aside0.mk (below_step HB.out hb)
   clear HB ho hb hg hnew
   have HB := HB'
   clear HB'
   refine hK.out _ _ trivial (fun hHeld => ?_)
   clear hK K
   refine norm_ (a' := ?_) ?_ ?_
   rotate_left
   ·show Act.put _ (some 8) _ = _
    simp only [Act.put, List.setIfInBounds_toArray, List.set_cons_zero, List.set_cons_succ, i64_w, i32_w]
    rfl
   refine one_ (i := 5) (N := some 10) #[true, true, true, true, true, true, false, false, false] rfl rfl (by kernel_rfl) (by decide) (fun K hK => ?_)
   refine Kd.R_make_step (Kd.int .i64) _ 2 (by rfl) (N := 10) rfl 32 _ _ rfl hands rfl rfl Try.underlying32 (.int .i64 0) 8 info2 rfl (by decide) (by omega) 0 (ok := fun _ => True) (okp := fun _ => True) rfl (fun _ hk => hk) trivial h0 (by have := h1; omega) (Below.refl _ _) (Nat.le_refl _) ?_
   intro vb wb ho hb hg hnew
   have HEb := Aside0.mk (show ∃ b, vb.ownBlock = some b from by obtain ⟨b, h1, _⟩ := hnew; exact ⟨b, h1⟩)
   have HPa := Aside0.mk (Kd.R_elder' HOa.out (Kd.R_base ho) hb)
   have HPb := Aside0.mk (Kd.R_lower (Kd.R_new' ho (Kd.R_lt HOa.out)) (below_size HB.out))
   have HB' := Aside0.mk (below_step HB.out hb)
   clear HB ho hb hg hnew
   have HB := HB'
   clear HB'
   refine hK.out _ _ trivial (fun hHeld => ?_)
   clear hK K
   refine norm_ (a' := ?_) ?_ ?_
   rotate_left
   ·show Act.put _ (some 10) _ = _
    simp only [Act.put, List.setIfInBounds_toArray, List.set_cons_zero, List.set_cons_succ, i64_w, i32_w]
    rfl
   exact norm_ (by simp only [putAll, Act.put, List.setIfInBounds_toArray, List.set_cons_zero, List.set_cons_succ]) (hCont (va, vb) _ ⟨Kd.R_mono HPa.out (fun _ hk => hk.2), Kd.R_mono HPb.out (fun _ hk => hk.2), HEa.out, HEb.out, HB.out⟩)
  ·skip
   refine Kd.R_make_step (Kd.int .i64) _ 2 (by rfl) (N := 10) rfl 32 _ _ rfl hands rfl rfl Try.underlying32 (.int .i64 0) 8 info2 rfl (by decide) (by omega) 0 (ok := fun _ => True) (okp := fun _ => True) rfl (fun _ hk => hk) trivial h0 (by have := h1; omega) (Below.refl _ _) (Nat.le_refl _) ?_
   intro vb wb ho hb hg hnew
   have HEb := Aside0.mk (show ∃ b, vb.ownBlock = some b from by obtain ⟨b, h1, _⟩ := hnew; exact ⟨b, h1⟩)
   have HOb := Aside0.mk (Kd.R_lower ho (below_size HB.out))
   have HB' := Aside0.mk (below_step HB.out hb)
   clear HB ho hb hg hnew
   have HB := HB'
   clear HB'
   refine hK.out _ _ trivial (fun hHeld => ?_)
   clear hK K
   refine norm_ (a' := ?_) ?_ ?_
   rotate_left
   ·show Act.put _ (some 10) _ = _
    simp only [Act.put, List.setIfInBounds_toArray, List.set_cons_zero, List.set_cons_succ, i64_w, i32_w]
    rfl
   refine one_ (i := 3) (N := some 8) #[true, true, true, true, true, true, false, false, false] rfl rfl (by kernel_rfl) (by decide) (fun K hK => ?_)
   refine Kd.R_make_step k70 _ 70 (by rfl) (N := 8) rfl 35 _ _ rfl (n : Int) rfl rfl Try.underlying35 (.agg #[(.int .i8 0), (.int .i16 0)]) 4 linfo70 rfl (by decide) (by omega) z70 (ok := fun _ => True) (okp := fun _ => True) (k70_mkM _ _ _ z70) (fun _ hk => hk) trivial (Int.natCast_nonneg _) (by have := hn; simp; omega) (Below.refl _ _) (Nat.le_refl _) ?_
   intro va wa ho hb hg hnew
   rw [Int.toNat_natCast] at ho
   have HEa := Aside0.mk (show ∃ b, va.ownBlock = some b from by obtain ⟨b, h1, _⟩ := hnew; exact ⟨b, h1⟩)
   have HPb := Aside0.mk (Kd.R_elder' HOb.out (Kd.R_base ho) hb)
   have HPa := Aside0.mk (Kd.R_lower (Kd.R_new' ho (Kd.R_lt HOb.out)) (below_size HB.out))
   have HB' := Aside0.mk (below_step HB.out hb)
   clear HB ho hb hg hnew
   have HB := HB'
   clear HB'
   refine hK.out _ _ trivial (fun hHeld => ?_)
   clear hK K
   refine norm_ (a' := ?_) ?_ ?_
   rotate_left
   ·show Act.put _ (some 8) _ = _
    simp only [Act.put, List.setIfInBounds_toArray, List.set_cons_zero, List.set_cons_succ, i64_w, i32_w]
    rfl
   exact norm_ (by simp only [putAll, Act.put, List.setIfInBounds_toArray, List.set_cons_zero, List.set_cons_succ]) (hCont (va, vb) _ ⟨Kd.R_mono HPa.out (fun _ hk => hk.2), Kd.R_mono HPb.out (fun _ hk => hk.2), HEa.out, HEb.out, HB.out⟩)
 rintro ⟨va, vb⟩ w10 ⟨h0_, h1_, h2_, h3_, h4_⟩
 obtain ⟨gp, cp, rfl⟩ := own_form h0_ h2_
 obtain ⟨gf, cf, rfl⟩ := own_form h1_ h3_
 simp only [List.length_replicate] at h0_ h1_ ⊢
 have HOa := Aside0.mk h0_
 have HOb := Aside0.mk h1_
 clear HB
 have HB := Aside0.mk h4_
 clear h0_ h1_ h2_ h3_ h4_
 have hHeld := trivial
 refine norm_ (a' := ?_) ?_ ?_
 rotate_left
 ·simp only [putAll, Act.put, List.setIfInBounds_toArray, List.set_cons_zero, List.set_cons_succ]
  rfl
 refine pure_ (i := 6) (N := some 11) (v := ?_) (a' := ?_) #[true, true, true, true, true, true, true, false, false] rfl rfl (by kernel_rfl) (fun _ _ _ h => hP _ _ _ _ _ h) (Or.inl ⟨by rfl, ?_⟩) ?_ ?_; rotate_left; (· intro w'; go_simp; with_reducible rfl); rotate_left; (· simp only [Act.put, List.setIfInBounds_toArray, List.set_cons_zero, List.set_cons_succ, i64_w, i32_w]; rfl)
 refine one_ (i := 7) (N := some 12) #[true, true, true, true, true, true, true, true, false] rfl rfl (by kernel_rfl) (by decide) (fun K hK => ?_)
 refine box_step (by rfl) (N := 12) rfl (cs := #[.slice AL n cL, .slice (some ⟨gp, 0, none⟩) n cp, .slice (some ⟨gf, 0, none⟩) hands.toNat cf]) (t := 109) ?hr ?_
 (case hr => first | (go_simp; done) | (go_simp; rfl))
 intro g hg w11 hbox hb
 have HG := Aside0.mk (show W.heap.size ≤ g from by rw [hg]; exact HB.out.size)
 have HX := Aside0.mk hbox
 have HOa' := Aside0.mk (Kd.R_below HOa.out hb)
 have HOb' := Aside0.mk (Kd.R_below HOb.out hb)
 have HB' := Aside0.mk (below_then HB.out HB.out.size hb)
 clear hg hbox hb HOa HOb HB
 refine hK.out _ _ trivial (fun hHeld => ?_)
 clear hK K
 refine norm_ (a' := ?_) ?_ ?_
 rotate_left
 ·show Act.put _ (some 12) _ = _
  simp only [Act.put, List.setIfInBounds_toArray, List.set_cons_zero, List.set_cons_succ, i64_w, i32_w]
  rfl
 refine pure_ (i := 8) (N := some 4) (v := ?_) (a' := ?_) #[true, true, true, true, true, true, true, true, true] rfl rfl (by kernel_rfl) (fun _ _ _ h => hP _ _ _ _ _ h) (Or.inl ⟨by rfl, ?_⟩) ?_ ?_; rotate_left; (· intro w'; go_simp; with_reducible rfl); rotate_left; (· simp only [Act.put, List.setIfInBounds_toArray, List.set_cons_zero, List.set_cons_succ, i64_w, i32_w]; rfl)
 refine done_ (by kernel_rfl) ?_
 exact hK g gp gf cp cf _ _ _ _ _ _ _ _ _ HX.out HG.out HOa'.out HOb'.out HB'.out
set_option maxHeartbeats 8000000 in
set_option maxRecDepth 100000 in
theorem best_r3 (F nv cv : Nat) (av : Option Addr) (len : Int) (ov : Bool) {u0 u1 u2 u3 u4 u5 u6 u7 u8 u10 u11 u12 u13 u14 u15 u16 u17 u18 u19 u20 u21 u22 u23 u24 u25 u26 u27 u28 u29 u30 u31 u32 u33 : Value} {W : World} {Q : Exit → Act → World → Prop} (hP : ∀ c (a : Act) (d : Tmp) u_ w1, Q (.panic c) (a.put (some d) u_) w1 → Q (.panic c) a w1) (h0 : W.cell? ⟨F, 2, none⟩ = some (.slice av nv cv)) (h1 : W.cell? ⟨F, 3, none⟩ = some (.int .i64 len)) (h2 : W.cell? ⟨F, 7, none⟩ = some (.bool ov))
  (hK : ∀ (v21 v22 v23 v24 v25 v26 v27 v28 v29 v30 v31 v32 v33 : Value), Q .normal ⟨#[u0, u1, u2, u3, u4, u5, .slice av nv cv, .int .i64 len, .bool (!ov), .pointer (some ⟨F, 0, none⟩), u10, u11, u12, u13, u14, u15, u16, u17, u18, u19, u20, v21, v22, v23, v24, v25, v26, v27, v28, v29, v30, v31, v32, v33], []⟩ W.drew) :
  Code.wp Try.prog (regionOf Try.f52 3) Q ⟨#[u0, u1, u2, u3, u4, u5, u6, u7, u8, .pointer (some ⟨F, 0, none⟩), u10, u11, u12, u13, u14, u15, u16, u17, u18, u19, u20, u21, u22, u23, u24, u25, u26, u27, u28, u29, u30, u31, u32, u33], []⟩ W := by
 conv => arg 2; whnf
 refine start_ (n := 16) (S := fun w' => w'.cell? ⟨F, 2, none⟩ = some (.slice av nv cv) ∧ w'.cell? ⟨F, 3, none⟩ = some (.int .i64 len) ∧ w'.cell? ⟨F, 7, none⟩ = some (.bool ov)) (ds := []) #[false, false, false, false, false, false, false, false, false, false, false, false, false, false, false, false] (by kernel_rfl) rfl rfl ⟨h0, h1, h2⟩ (fun hHeld => ?_)
 refine pure_ (i := 0) (N := some 21) (v := ?_) (a' := ?_) #[true, false, false, false, false, false, false, false, false, false, false, false, false, false, false, false] rfl rfl (by kernel_rfl) (fun _ _ _ h => hP _ _ _ _ _ h) (Or.inl ⟨by rfl, ?_⟩) ?_ ?_; rotate_left; (· intro w'; go_simp; with_reducible rfl); rotate_left; (· simp only [Act.put, List.setIfInBounds_toArray, List.set_cons_zero, List.set_cons_succ, i64_w, i32_w]; rfl)
 refine pure_ (i := 1) (N := some 22) (v := ?_) (a' := ?_) #[true, true, false, false, false, false, false, false, false, false, false, false, false, false, false, false] rfl rfl (by kernel_rfl) (fun _ _ _ h => hP _ _ _ _ _ h) (Or.inl ⟨by rfl, ?_⟩) ?_ ?_; rotate_left; (· intro w'; go_simp; with_reducible rfl); rotate_left; (· simp only [Act.put, List.setIfInBounds_toArray, List.set_cons_zero, List.set_cons_succ, i64_w, i32_w]; rfl)
 refine pure_ (i := 2) (N := some 23) (v := ?_) (a' := ?_) #[true, true, true, false, false, false, false, false, false, false, false, false, false, false, false, false] rfl rfl (by kernel_rfl) (fun _ _ _ h => hP _ _ _ _ _ h) (Or.inl ⟨by rfl, ?_⟩) ?_ ?_; rotate_left; (· intro w'; go_simp; with_reducible rfl); rotate_left; (· simp only [Act.put, List.setIfInBounds_toArray, List.set_cons_zero, List.set_cons_succ, i64_w, i32_w]; rfl)
 refine pure_ (i := 4) (N := some 25) (v := ?_) (a' := ?_) #[true, true, true, false, true, false, false, false, false, false, false, false, false, false, false, false] rfl rfl (by kernel_rfl) (fun _ _ _ h => hP _ _ _ _ _ h) (Or.inl ⟨by rfl, ?_⟩) ?_ ?_; rotate_left; (· intro w'; go_simp; with_reducible rfl); rotate_left; (· simp only [Act.put, List.setIfInBounds_toArray, List.set_cons_zero, List.set_cons_succ, i64_w, i32_w]; rfl)
 refine pure_ (i := 5) (N := some 26) (v := ?_) (a' := ?_) #[true, true, true, false, true, true, false, false, false, false, false, false, false, false, false, false] rfl rfl (by kernel_rfl) (fun _ _ _ h => hP _ _ _ _ _ h) (Or.inl ⟨by rfl, ?_⟩) ?_ ?_; rotate_left; (· intro w'; go_simp; with_reducible rfl); rotate_left; (· simp only [Act.put, List.setIfInBounds_toArray, List.set_cons_zero, List.set_cons_succ, i64_w, i32_w]; rfl)
 refine pure_ (i := 6) (N := some 27) (v := ?_) (a' := ?_) #[true, true, true, false, true, true, true, false, false, false, false, false, false, false, false, false] rfl rfl (by kernel_rfl) (fun _ _ _ h => hP _ _ _ _ _ h) (Or.inl ⟨by rfl, ?_⟩) ?_ ?_; rotate_left; (· intro w'; go_simp; with_reducible rfl); rotate_left; (· simp only [Act.put, List.setIfInBounds_toArray, List.set_cons_zero, List.set_cons_succ, i64_w, i32_w]; rfl)
 refine pure_ (i := 8) (N := some 29) (v := ?_) (a' := ?_) #[true, true, true, false, true, true, true, false, true, false, false, false, false, false, false, false] rfl rfl (by kernel_rfl) (fun _ _ _ h => hP _ _ _ _ _ h) (Or.inl ⟨by rfl, ?_⟩) ?_ ?_; rotate_left; (· intro w'; go_simp; with_reducible rfl); rotate_left; (· simp only [Act.put, List.setIfInBounds_toArray, List.set_cons_zero, List.set_cons_succ, i64_w, i32_w]; rfl)
 refine pure_ (i := 9) (N := some 30) (v := ?_) (a' := ?_) #[true, true, true, false, true, true, true, false, true, true, false, false, false, false, false, false] rfl rfl (by kernel_rfl) (fun _ _ _ h => hP _ _ _ _ _ h) (Or.inl ⟨by rfl, ?_⟩) ?_ ?_; rotate_left; (· intro w'; go_simp; with_reducible rfl); rotate_left; (· simp only [Act.put, List.setIfInBounds_toArray, List.set_cons_zero, List.set_cons_succ, i64_w, i32_w]; rfl)
 refine pure_ (i := 10) (N := some 31) (v := ?_) (a' := ?_) #[true, true, true, false, true, true, true, false, true, true, true, false, false, false, false, false] rfl rfl (by kernel_rfl) (fun _ _ _ h => hP _ _ _ _ _ h) (Or.inl ⟨by rfl, ?_⟩) ?_ ?_; rotate_left; (· intro w'; go_simp; with_reducible rfl); rotate_left; (· simp only [Act.put, List.setIfInBounds_toArray, List.set_cons_zero, List.set_cons_succ, i64_w, i32_w]; rfl)
 refine take_ (i := 3) (N := some 24) (v := ?_) (a' := ?_) #[true, true, true, true, true, true, true, false, true, true, true, false, false, false, false, false] rfl rfl (by kernel_rfl) (fun _ _ _ h => hP _ _ _ _ _ h) (Or.inl ⟨by rfl, ?_⟩) hHeld ?_ ?_; rotate_left; (· rintro w' ⟨s0, s1, s2⟩; go_simp; with_reducible rfl); rotate_left; (· simp only [Act.put, List.setIfInBounds_toArray, List.set_cons_zero, List.set_cons_succ, i64_w, i32_w]; rfl)
 refine pure_ (i := 13) (N := some 6) (v := ?_) (a' := ?_) #[true, true, true, true, true, true, true, false, true, true, true, false, false, true, false, false] rfl rfl (by kernel_rfl) (fun _ _ _ h => hP _ _ _ _ _ h) (Or.inl ⟨by rfl, ?_⟩) ?_ ?_; rotate_left; (· intro w'; go_simp; with_reducible rfl); rotate_left; (· simp only [Act.put, List.setIfInBounds_toArray, List.set_cons_zero, List.set_cons_succ, i64_w, i32_w]; rfl)
 refine take_ (i := 7) (N := some 28) (v := ?_) (a' := ?_) #[true, true, true, true, true, true, true, true, true, true, true, false, false, true, false, false] rfl rfl (by kernel_rfl) (fun _ _ _ h => hP _ _ _ _ _ h) (Or.inl ⟨by rfl, ?_⟩) hHeld ?_ ?_; rotate_left; (· rintro w' ⟨s0, s1, s2⟩; go_simp; with_reducible rfl); rotate_left; (· simp only [Act.put, List.setIfInBounds_toArray, List.set_cons_zero, List.set_cons_succ, i64_w, i32_w]; rfl)
 refine pure_ (i := 14) (N := some 7) (v := ?_) (a' := ?_) #[true, true, true, true, true, true, true, true, true, true, true, false, false, true, true, false] rfl rfl (by kernel_rfl) (fun _ _ _ h => hP _ _ _ _ _ h) (Or.inl ⟨by rfl, ?_⟩) ?_ ?_; rotate_left; (· intro w'; go_simp; with_reducible rfl); rotate_left; (· simp only [Act.put, List.setIfInBounds_toArray, List.set_cons_zero, List.set_cons_succ, i64_w, i32_w]; rfl)
 refine take_ (i := 11) (N := some 32) (v := ?_) (a' := ?_) #[true, true, true, true, true, true, true, true, true, true, true, true, false, true, true, false] rfl rfl (by kernel_rfl) (fun _ _ _ h => hP _ _ _ _ _ h) (Or.inl ⟨by rfl, ?_⟩) hHeld ?_ ?_; rotate_left; (· rintro w' ⟨s0, s1, s2⟩; go_simp; with_reducible rfl); rotate_left; (· simp only [Act.put, List.setIfInBounds_toArray, List.set_cons_zero, List.set_cons_succ, i64_w, i32_w]; rfl)
 refine pure_ (i := 12) (N := some 33) (v := ?_) (a' := ?_) #[true, true, true, true, true, true, true, true, true, true, true, true, true, true, true, false] rfl rfl (by kernel_rfl) (fun _ _ _ h => hP _ _ _ _ _ h) (Or.inl ⟨by rfl, ?_⟩) ?_ ?_; rotate_left; (· intro w'; go_simp; with_reducible rfl); rotate_left; (· simp only [Act.put, List.setIfInBounds_toArray, List.set_cons_zero, List.set_cons_succ, i64_w, i32_w]; rfl)
 refine pure_ (i := 15) (N := some 8) (v := ?_) (a' := ?_) #[true, true, true, true, true, true, true, true, true, true, true, true, true, true, true, true] rfl rfl (by kernel_rfl) (fun _ _ _ h => hP _ _ _ _ _ h) (Or.inl ⟨by rfl, ?_⟩) ?_ ?_; rotate_left; (· intro w'; go_simp; with_reducible rfl); rotate_left; (· simp only [Act.put, List.setIfInBounds_toArray, List.set_cons_zero, List.set_cons_succ, i64_w, i32_w]; rfl)
 refine done_ (by kernel_rfl) ?_
 exact hK _ _ _ _ _ _ _ _ _ _ _ _ _
set_option maxHeartbeats 8000000 in
set_option maxRecDepth 100000 in
theorem go_r7 (n cL G : Nat) (AL : Option Addr) (hands : Int) (b : Bool) (P : World → Prop) {u2 u3 u4 u5 u6 u7 u8 u9 u11 u12 u13 u14 u15 u16 u17 u18 u19 u20 u21 u22 u23 u24 u25 u26 u27 u28 u29 u30 u31 u32 u33 u34 u35 u36 u37 u38 u39 u40 u41 u42 u43 u44 u45 u46 u47 u48 : Value} {W : World} {Q : Exit → Act → World → Prop} (hP : ∀ c (a : Act) (d : Tmp) u_ w1, Q (.panic c) (a.put (some d) u_) w1 → Q (.panic c) a w1) (hn : n ≤ 12) (h0 : 0 ≤ hands) (h1 : hands ≤ 100) (hc : ∀ (gp gf cp cf : Nat) (w1 : World), Kd.R k70 70 w1 W.heap.size (fun k_ => some k_ ≠ (Value.slice (some ⟨gf, 0, none⟩) hands.toNat cf).ownBlock) (.slice (some ⟨gp, 0, none⟩) n cp) (List.replicate n z70) → Kd.R (Kd.int .i64) 2 w1 W.heap.size (fun k_ => some k_ ≠ (Value.slice (some ⟨gp, 0, none⟩) n cp).ownBlock) (.slice (some ⟨gf, 0, none⟩) hands.toNat cf) (List.replicate hands.toNat 0) → Below W.heap.size W w1 → Calls Try.prog 87 #[.pointer (some ⟨G, 0, none⟩), .slice (some ⟨gp, 0, none⟩) n cp, .slice (some ⟨gf, 0, none⟩) hands.toNat cf, .int .u16 0, .int .i64 0] w1 fun e w2 => e = .returned (.bool b) ∧ P w2)
  (hK : ∀ (w2 : World) (v32 v33 v34 v35 v36 v37 v38 : Value), P w2 → Q .normal ⟨#[.slice AL n cL, .int .i64 hands, u2, u3, u4, u5, u6, u7, u8, u9, .pointer (some ⟨G, 0, none⟩), u11, u12, u13, u14, u15, u16, u17, u18, u19, u20, u21, u22, u23, u24, u25, u26, u27, u28, u29, u30, u31, v32, v33, v34, v35, v36, v37, v38, .bool (!b), u40, u41, u42, u43, u44, u45, u46, u47, u48], []⟩ w2) :
  Code.wp Try.prog (regionOf Try.f47 7) Q ⟨#[.slice AL n cL, .int .i64 hands, u2, u3, u4, u5, u6, u7, u8, u9, .pointer (some ⟨G, 0, none⟩), u11, u12, u13, u14, u15, u16, u17, u18, u19, u20, u21, u22, u23, u24, u25, u26, u27, u28, u29, u30, u31, u32, u33, u34, u35, u36, u37, u38, u39, u40, u41, u42, u43, u44, u45, u46, u47, u48], []⟩ W := by
 conv => arg 2; whnf
 have HB := Aside0.mk (below_drew1 (Below.refl W.heap.size W))
 have q0 := eq_true h0
 have HC := Aside0.mk hc
 clear hc
 refine start_ (n := 8) (S := fun w' => True) (ds := []) #[false, false, false, false, false, false, false, false] (by kernel_rfl) rfl rfl trivial (fun hHeld => ?_)
 refine pure_ (i := 0) (N := some 32) (v := ?_) (a' := ?_) #[true, false, false, false, false, false, false, false] rfl rfl (by kernel_rfl) (fun _ _ _ h => hP _ _ _ _ _ h) (Or.inl ⟨by rfl, ?_⟩) ?_ ?_; rotate_left; (· intro w'; go_simp; with_reducible rfl); rotate_left; (· simp only [Act.put, List.setIfInBounds_toArray, List.set_cons_zero, List.set_cons_succ, i64_w, i32_w]; rfl)
 refine pure_ (i := 1) (N := some 33) (v := ?_) (a' := ?_) #[true, true, false, false, false, false, false, false] rfl rfl (by kernel_rfl) (fun _ _ _ h => hP _ _ _ _ _ h) (Or.inl ⟨by rfl, ?_⟩) ?_ ?_; rotate_left; (· intro w'; go_simp; with_reducible rfl); rotate_left; (· simp only [Act.put, List.setIfInBounds_toArray, List.set_cons_zero, List.set_cons_succ, i64_w, i32_w]; rfl)
 refine pure_ (i := 2) (N := some 34) (v := ?_) (a' := ?_) #[true, true, true, false, false, false, false, false] rfl rfl (by kernel_rfl) (fun _ _ _ h => hP _ _ _ _ _ h) (Or.inl ⟨by rfl, ?_⟩) ?_ ?_; rotate_left; (· intro w'; go_simp; with_reducible rfl); rotate_left; (· simp only [Act.put, List.setIfInBounds_toArray, List.set_cons_zero, List.set_cons_succ, i64_w, i32_w]; rfl)
 refine pure_ (i := 4) (N := some 36) (v := ?_) (a' := ?_) #[true, true, true, false, true, false, false, false] rfl rfl (by kernel_rfl) (fun _ _ _ h => hP _ _ _ _ _ h) (Or.inl ⟨by rfl, ?_⟩) ?_ ?_; rotate_left; (· intro w'; go_simp; with_reducible rfl); rotate_left; (· simp only [Act.put, List.setIfInBounds_toArray, List.set_cons_zero, List.set_cons_succ, i64_w, i32_w]; rfl)
 refine join_ (σ := Value × Value) 2 #[true, true, true, true, true, true, false, false] (fun s_ => [(35, s_.1), (37, s_.2)]) (fun s_ w' => Kd.R k70 70 w' W.heap.size (fun k_ => some k_ ≠ (s_.2 : Value).ownBlock) s_.1 (List.replicate n z70) ∧ Kd.R (Kd.int .i64) 2 w' W.heap.size (fun k_ => some k_ ≠ (s_.1 : Value).ownBlock) s_.2 (List.replicate hands.toNat 0) ∧ (∃ b, (s_.1 : Value).ownBlock = some b) ∧ (∃ b, (s_.2 : Value).ownBlock = some b) ∧ Below W.heap.size W w') ?_ ?_
 rotate_left
 ·intro hCont
  refine two_ (i := 3) (j := 5) (Ni := some 35) (Nj := some 37) #[true, true, true, true, true, false, false, false] #[true, true, true, false, true, true, false, false] rfl rfl rfl rfl (by kernel_rfl) (by decide) (by decide) (fun K hK => ?_) (fun K hK => ?_)
  ·skip
   refine Kd.R_make_step k70 _ 70 (by rfl) (N := 35) rfl 35 _ _ rfl (n : Int) rfl rfl Try.underlying35 (.agg #[(.int .i8 0), (.int .i16 0)]) 4 linfo70 rfl (by decide) (by omega) z70 (ok := fun _ => True) (okp := fun _ => True) (k70_mkM _ _ _ z70) (fun _ hk => hk) trivial (Int.natCast_nonneg _) (by have := hn; simp; omega) (Below.refl _ _) (Nat.le_refl _) ?_
   intro va wa ho hb hg hnew
   rw [Int.toNat_natCast] at ho
   have HEa := Aside0.mk (show ∃ b, va.ownBlock = some b from by obtain ⟨b, h1, _⟩ := hnew; exact ⟨b, h1⟩)
   have HOa := Aside0.mk (Kd.R_lower ho (below_size HB.out))
   have HB' := Aside0.mk (below_step HB.out hb)
   clear HB ho hb hg hnew
   have HB := HB'
   clear HB'
   refine hK.out _ _ trivial (fun hHeld => ?_)
   clear hK K
   refine norm_ (a' := ?_) ?_ ?_
   rotate_left
   ·show Act.put _ (some 35) _ = _
    simp only [Act.put, List.setIfInBounds_toArray, List.set_cons_zero, List.set_cons_succ, i64_w, i32_w]
    rfl
   refine one_ (i := 5) (N := some 37) #[true, true, true, true, true, true, false, false] rfl rfl (by kernel_rfl) (by decide) (fun K hK => ?_)
   refine Kd.R_make_step (Kd.int .i64) _ 2 (by rfl) (N := 37) rfl 32 _ _ rfl hands rfl rfl Try.underlying32 (.int .i64 0) 8 info2 rfl (by decide) (by omega) 0 (ok := fun _ => True) (okp := fun _ => True) rfl (fun _ hk => hk) trivial h0 (by have := h1; omega) (Below.refl _ _) (Nat.le_refl _) ?_
   intro vb wb ho hb hg hnew
   have HEb := Aside0.mk (show ∃ b, vb.ownBlock = some b from by obtain ⟨b, h1, _⟩ := hnew; exact ⟨b, h1⟩)
   have HPa := Aside0.mk (Kd.R_elder' HOa.out (Kd.R_base ho) hb)
   have HPb := Aside0.mk (Kd.R_lower (Kd.R_new' ho (Kd.R_lt HOa.out)) (below_size HB.out))
   have HB' := Aside0.mk (below_step HB.out hb)
   clear HB ho hb hg hnew
   have HB := HB'
   clear HB'
   refine hK.out _ _ trivial (fun hHeld => ?_)
   clear hK K
   refine norm_ (a' := ?_) ?_ ?_
   rotate_left
   ·show Act.put _ (some 37) _ = _
    simp only [Act.put, List.setIfInBounds_toArray, List.set_cons_zero, List.set_cons_succ, i64_w, i32_w]
    rfl
   exact norm_ (by simp only [putAll, Act.put, List.setIfInBounds_toArray, List.set_cons_zero, List.set_cons_succ]) (hCont (va, vb) _ ⟨Kd.R_mono HPa.out (fun _ hk => hk.2), Kd.R_mono HPb.out (fun _ hk => hk.2), HEa.out, HEb.out, HB.out⟩)
  ·skip
   refine Kd.R_make_step (Kd.int .i64) _ 2 (by rfl) (N := 37) rfl 32 _ _ rfl hands rfl rfl Try.underlying32 (.int .i64 0) 8 info2 rfl (by decide) (by omega) 0 (ok := fun _ => True) (okp := fun _ => True) rfl (fun _ hk => hk) trivial h0 (by have := h1; omega) (Below.refl _ _) (Nat.le_refl _) ?_
   intro vb wb ho hb hg hnew
   have HEb := Aside0.mk (show ∃ b, vb.ownBlock = some b from by obtain ⟨b, h1, _⟩ := hnew; exact ⟨b, h1⟩)
   have HOb := Aside0.mk (Kd.R_lower ho (below_size HB.out))
   have HB' := Aside0.mk (below_step HB.out hb)
   clear HB ho hb hg hnew
   have HB := HB'
   clear HB'
   refine hK.out _ _ trivial (fun hHeld => ?_)
   clear hK K
   refine norm_ (a' := ?_) ?_ ?_
   rotate_left
   ·show Act.put _ (some 37) _ = _
    simp only [Act.put, List.setIfInBounds_toArray, List.set_cons_zero, List.set_cons_succ, i64_w, i32_w]
    rfl
   refine one_ (i := 3) (N := some 35) #[true, true, true, true, true, true, false, false] rfl rfl (by kernel_rfl) (by decide) (fun K hK => ?_)
   refine Kd.R_make_step k70 _ 70 (by rfl) (N := 35) rfl 35 _ _ rfl (n : Int) rfl rfl Try.underlying35 (.agg #[(.int .i8 0), (.int .i16 0)]) 4 linfo70 rfl (by decide) (by omega) z70 (ok := fun _ => True) (okp := fun _ => True) (k70_mkM _ _ _ z70) (fun _ hk => hk) trivial (Int.natCast_nonneg _) (by have := hn; simp; omega) (Below.refl _ _) (Nat.le_refl _) ?_
   intro va wa ho hb hg hnew
   rw [Int.toNat_natCast] at ho
   have HEa := Aside0.mk (show ∃ b, va.ownBlock = some b from by obtain ⟨b, h1, _⟩ := hnew; exact ⟨b, h1⟩)
   have HPb := Aside0.mk (Kd.R_elder' HOb.out (Kd.R_base ho) hb)
   have HPa := Aside0.mk (Kd.R_lower (Kd.R_new' ho (Kd.R_lt HOb.out)) (below_size HB.out))
   have HB' := Aside0.mk (below_step HB.out hb)
   clear HB ho hb hg hnew
   have HB := HB'
   clear HB'
   refine hK.out _ _ trivial (fun hHeld => ?_)
   clear hK K
   refine norm_ (a' := ?_) ?_ ?_
   rotate_left
   ·show Act.put _ (some 35) _ = _
    simp only [Act.put, List.setIfInBounds_toArray, List.set_cons_zero, List.set_cons_succ, i64_w, i32_w]
    rfl
   exact norm_ (by simp only [putAll, Act.put, List.setIfInBounds_toArray, List.set_cons_zero, List.set_cons_succ]) (hCont (va, vb) _ ⟨Kd.R_mono HPa.out (fun _ hk => hk.2), Kd.R_mono HPb.out (fun _ hk => hk.2), HEa.out, HEb.out, HB.out⟩)
 rintro ⟨va, vb⟩ w10 ⟨h0_, h1_, h2_, h3_, h4_⟩
 obtain ⟨gp, cp, rfl⟩ := own_form h0_ h2_
 obtain ⟨gf, cf, rfl⟩ := own_form h1_ h3_
 simp only [List.length_replicate] at h0_ h1_ ⊢
 have HOa := Aside0.mk h0_
 have HOb := Aside0.mk h1_
 clear HB
 have HB := Aside0.mk h4_
 clear h0_ h1_ h2_ h3_ h4_
 have hHeld := trivial
 refine norm_ (a' := ?_) ?_ ?_
 rotate_left
 ·simp only [putAll, Act.put, List.setIfInBounds_toArray, List.set_cons_zero, List.set_cons_succ]
  rfl
 refine one_ (i := 6) (N := some 38) #[true, true, true, true, true, true, true, false] rfl rfl (by kernel_rfl) (by decide) (fun K hK => ?_)
 refine goes_ Try.func87 (by kernel_rfl) rfl #[.pointer (some ⟨G, 0, none⟩), .slice (some ⟨gp, 0, none⟩) n cp, .slice (some ⟨gf, 0, none⟩) hands.toNat cf, .int .u16 0, .int .i64 0] (by rfl) rfl rfl (by simp only [List.map_toArray, List.map_cons, List.map_nil]; rfl) ?_
 with_reducible refine (HC.out gp gf cp cf _ HOa.out HOb.out HB.out).mono ?_
 rintro e w12 ⟨rfl, hp12⟩
 refine ⟨_, rfl, ?_⟩
 have HP12 := Aside0.mk hp12
 clear hp12
 refine hK.out _ _ trivial (fun hHeld => ?_)
 clear hK K
 refine norm_ (a' := ?_) ?_ ?_
 rotate_left
 ·show Act.put _ (some 38) _ = _
  simp only [Act.put, List.setIfInBounds_toArray, List.set_cons_zero, List.set_cons_succ, i64_w, i32_w]
  rfl
 refine pure_ (i := 7) (N := some 39) (v := ?_) (a' := ?_) #[true, true, true, true, true, true, true, true] rfl rfl (by kernel_rfl) (fun _ _ _ h => hP _ _ _ _ _ h) (Or.inl ⟨by rfl, ?_⟩) ?_ ?_; rotate_left; (· intro w'; go_simp; with_reducible rfl); rotate_left; (· simp only [Act.put, List.setIfInBounds_toArray, List.set_cons_zero, List.set_cons_succ, i64_w, i32_w]; rfl)
 refine done_ (by kernel_rfl) ?_
 exact hK _ _ _ _ _ _ _ _ HP12.out
set_option maxHeartbeats 8000000 in
set_option maxRecDepth 100000 in
theorem go_r9 (G nv cv : Nat) (av : Option Addr) (len : Int) {u0 u1 u2 u3 u4 u5 u6 u7 u8 u9 u11 u12 u13 u14 u15 u16 u17 u18 u19 u20 u21 u22 u23 u24 u25 u26 u27 u28 u29 u30 u31 u32 u33 u34 u35 u36 u37 u38 u39 u40 u41 u42 u43 u44 u45 u46 u47 u48 : Value} {W : World} {Q : Exit → Act → World → Prop} (hP : ∀ c (a : Act) (d : Tmp) u_ w1, Q (.panic c) (a.put (some d) u_) w1 → Q (.panic c) a w1) (h0 : W.cell? ⟨G, 4, none⟩ = some (.slice av nv cv)) (h1 : W.cell? ⟨G, 5, none⟩ = some (.int .i64 len))
  (hK : ∀ (v41 v42 v43 v44 v45 v46 v47 v48 : Value), Q .normal ⟨#[u0, u1, u2, u3, u4, u5, .slice av nv cv, .int .i64 len, .int .i64 0, u9, .pointer (some ⟨G, 0, none⟩), u11, u12, u13, u14, u15, u16, u17, u18, u19, u20, u21, u22, u23, u24, u25, u26, u27, u28, u29, u30, u31, u32, u33, u34, u35, u36, u37, u38, u39, u40, v41, v42, v43, v44, v45, v46, v47, v48], []⟩ W.drew) :
  Code.wp Try.prog (regionOf Try.f47 9) Q ⟨#[u0, u1, u2, u3, u4, u5, u6, u7, u8, u9, .pointer (some ⟨G, 0, none⟩), u11, u12, u13, u14, u15, u16, u17, u18, u19, u20, u21, u22, u23, u24, u25, u26, u27, u28, u29, u30, u31, u32, u33, u34, u35, u36, u37, u38, u39, u40, u41, u42, u43, u44, u45, u46, u47, u48], []⟩ W := by
 conv => arg 2; whnf
 refine start_ (n := 11) (S := fun w' => w'.cell? ⟨G, 4, none⟩ = some (.slice av nv cv) ∧ w'.cell? ⟨G, 5, none⟩ = some (.int .i64 len)) (ds := []) #[false, false, false, false, false, false, false, false, false, false, false] (by kernel_rfl) rfl rfl ⟨h0, h1⟩ (fun hHeld => ?_)
 refine pure_ (i := 0) (N := some 41) (v := ?_) (a' := ?_) #[true, false, false, false, false, false, false, false, false, false, false] rfl rfl (by kernel_rfl) (fun _ _ _ h => hP _ _ _ _ _ h) (Or.inl ⟨by rfl, ?_⟩) ?_ ?_; rotate_left; (· intro w'; go_simp; with_reducible rfl); rotate_left; (· simp only [Act.put, List.setIfInBounds_toArray, List.set_cons_zero, List.set_cons_succ, i64_w, i32_w]; rfl)
 refine pure_ (i := 1) (N := some 42) (v := ?_) (a' := ?_) #[true, true, false, false, false, false, false, false, false, false, false] rfl rfl (by kernel_rfl) (fun _ _ _ h => hP _ _ _ _ _ h) (Or.inl ⟨by rfl, ?_⟩) ?_ ?_; rotate_left; (· intro w'; go_simp; with_reducible rfl); rotate_left; (· simp only [Act.put, List.setIfInBounds_toArray, List.set_cons_zero, List.set_cons_succ, i64_w, i32_w]; rfl)
 refine pure_ (i := 2) (N := some 43) (v := ?_) (a' := ?_) #[true, true, true, false, false, false, false, false, false, false, false] rfl rfl (by kernel_rfl) (fun _ _ _ h => hP _ _ _ _ _ h) (Or.inl ⟨by rfl, ?_⟩) ?_ ?_; rotate_left; (· intro w'; go_simp; with_reducible rfl); rotate_left; (· simp only [Act.put, List.setIfInBounds_toArray, List.set_cons_zero, List.set_cons_succ, i64_w, i32_w]; rfl)
 refine pure_ (i := 4) (N := some 45) (v := ?_) (a' := ?_) #[true, true, true, false, true, false, false, false, false, false, false] rfl rfl (by kernel_rfl) (fun _ _ _ h => hP _ _ _ _ _ h) (Or.inl ⟨by rfl, ?_⟩) ?_ ?_; rotate_left; (· intro w'; go_simp; with_reducible rfl); rotate_left; (· simp only [Act.put, List.setIfInBounds_toArray, List.set_cons_zero, List.set_cons_succ, i64_w, i32_w]; rfl)
 refine pure_ (i := 5) (N := some 46) (v := ?_) (a' := ?_) #[true, true, true, false, true, true, false, false, false, false, false] rfl rfl (by kernel_rfl) (fun _ _ _ h => hP _ _ _ _ _ h) (Or.inl ⟨by rfl, ?_⟩) ?_ ?_; rotate_left; (· intro w'; go_simp; with_reducible rfl); rotate_left; (· simp only [Act.put, List.setIfInBounds_toArray, List.set_cons_zero, List.set_cons_succ, i64_w, i32_w]; rfl)
 refine pure_ (i := 6) (N := some 47) (v := ?_) (a' := ?_) #[true, true, true, false, true, true, true, false, false, false, false] rfl rfl (by kernel_rfl) (fun _ _ _ h => hP _ _ _ _ _ h) (Or.inl ⟨by rfl, ?_⟩) ?_ ?_; rotate_left; (· intro w'; go_simp; with_reducible rfl); rotate_left; (· simp only [Act.put, List.setIfInBounds_toArray, List.set_cons_zero, List.set_cons_succ, i64_w, i32_w]; rfl)
 refine take_ (i := 3) (N := some 44) (v := ?_) (a' := ?_) #[true, true, true, true, true, true, true, false, false, false, false] rfl rfl (by kernel_rfl) (fun _ _ _ h => hP _ _ _ _ _ h) (Or.inl ⟨by rfl, ?_⟩) hHeld ?_ ?_; rotate_left; (· rintro w' ⟨s0, s1⟩; go_simp; with_reducible rfl); rotate_left; (· simp only [Act.put, List.setIfInBounds_toArray, List.set_cons_zero, List.set_cons_succ, i64_w, i32_w]; rfl)
 refine pure_ (i := 8) (N := some 6) (v := ?_) (a' := ?_) #[true, true, true, true, true, true, true, false, true, false, false] rfl rfl (by kernel_rfl) (fun _ _ _ h => hP _ _ _ _ _ h) (Or.inl ⟨by rfl, ?_⟩) ?_ ?_; rotate_left; (· intro w'; go_simp; with_reducible rfl); rotate_left; (· simp only [Act.put, List.setIfInBounds_toArray, List.set_cons_zero, List.set_cons_succ, i64_w, i32_w]; rfl)
 refine take_ (i := 7) (N := some 48) (v := ?_) (a' := ?_) #[true, true, true, true, true, true, true, true, true, false, false] rfl rfl (by kernel_rfl) (fun _ _ _ h => hP _ _ _ _ _ h) (Or.inl ⟨by rfl, ?_⟩) hHeld ?_ ?_; rotate_left; (· rintro w' ⟨s0, s1⟩; go_simp; with_reducible rfl); rotate_left; (· simp only [Act.put, List.setIfInBounds_toArray, List.set_cons_zero, List.set_cons_succ, i64_w, i32_w]; rfl)
 refine pure_ (i := 9) (N := some 7) (v := ?_) (a' := ?_) #[true, true, true, true, true, true, true, true, true, true, false] rfl rfl (by kernel_rfl) (fun _ _ _ h => hP _ _ _ _ _ h) (Or.inl ⟨by rfl, ?_⟩) ?_ ?_; rotate_left; (· intro w'; go_simp; with_reducible rfl); rotate_left; (· simp only [Act.put, List.setIfInBounds_toArray, List.set_cons_zero, List.set_cons_succ, i64_w, i32_w]; rfl)
 refine pure_ (i := 10) (N := some 8) (v := ?_) (a' := ?_) #[true, true, true, true, true, true, true, true, true, true, true] rfl rfl (by kernel_rfl) (fun _ _ _ h => hP _ _ _ _ _ h) (Or.inl ⟨by rfl, ?_⟩) ?_ ?_; rotate_left; (· intro w'; go_simp; with_reducible rfl); rotate_left; (· simp only [Act.put, List.setIfInBounds_toArray, List.set_cons_zero, List.set_cons_succ, i64_w, i32_w]; rfl)
 refine done_ (by kernel_rfl) ?_
 exact hK _ _ _ _ _ _ _ _

end Go.Proofs.Ythocaohlimollaa.XB
