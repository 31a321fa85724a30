/- Walks of the functions of the layer of hair, first part. Conditions: none. -/
import Derived.Test.YtofpabocpcfbfaaDoorMF
set_option linter.unusedSimpArgs false
set_option linter.unusedVariables false

/- Walks: T1. -/
namespace Go.Proofs.YtofpabocpcfbfaaDoor
open Go Go.Proofs K

theorem c82 (w : World) (n lo hi : Int) : Cv Tryd.prog 82 #[.int .i64 n, .int .i64 lo, .int .i64 hi] w (fun v w' => v = .bool (decide (lo ≤ n) && decide (n ≤ hi)) ∧ Ext no w w') := by
  refine cv_intro Tryd.func82 rfl rfl Tryd.ntmps82 rfl (by kernel_rfl) ?_
  have hS := St.nil w
  refine k_seq ?_
  refine k_region ?_
  refine r_assign (by conv => lhs; whnf) rfl rfl ?_
  refine wpl_nil ?_
  refine thn ?_
  refine k_seq ?_
  refine k_region ?_
  refine r_move (by conv => lhs; whnf) rfl rfl ?_
  refine r_move (by conv => lhs; whnf) rfl rfl ?_
  refine r_leq rfl rfl rfl rfl ?_
  refine r_moveb rfl rfl rfl (fun hb1 => ?_) (fun hb1 => ?_)
  · -- True
    have hb10 := hb1
    (try simp only [decide_eq_true_eq, decide_eq_false_iff_not, Bool.and_eq_true, Bool.and_eq_false_iff, Bool.not_eq_true', Bool.not_eq_false', Int.not_lt, Int.not_le] at hb1)
    refine r_move (by conv => lhs; whnf) rfl rfl ?_
    refine r_move (by conv => lhs; whnf) rfl rfl ?_
    refine r_leq rfl rfl rfl rfl ?_
    refine r_pick_t rfl (by conv => lhs; whnf) rfl rfl ?_
    refine r_assign (by conv => lhs; whnf) rfl rfl ?_
    refine wpl_nil ?_
    refine thn ?_
    refine ret1 (fun _ _ _ => rfl) (by conv => lhs; whnf) ?_
    exact ⟨by (refine congrArg Value.bool ?_; (first | (simp [*]; done) | (rw [Bool.eq_iff_iff]; simp [*]; done) | (rw [Bool.eq_iff_iff]; simp [*]; (intros; omega)) | (rw [Bool.eq_iff_iff]; simp []; omega) | (simp []; grind) | (rw [Bool.eq_iff_iff]; simp []; grind))), hS.ext⟩
  · -- False
    have hb10 := hb1
    (try simp only [decide_eq_true_eq, decide_eq_false_iff_not, Bool.and_eq_true, Bool.and_eq_false_iff, Bool.not_eq_true', Bool.not_eq_false', Int.not_lt, Int.not_le] at hb1)
    refine r_skip rfl rfl ?_
    refine r_skip rfl rfl ?_
    refine r_skip rfl rfl ?_
    refine r_pick_f rfl (by conv => lhs; whnf) rfl rfl ?_
    refine r_assign (by conv => lhs; whnf) rfl rfl ?_
    refine wpl_nil ?_
    refine thn ?_
    refine ret1 (fun _ _ _ => rfl) (by conv => lhs; whnf) ?_
    exact ⟨by (refine congrArg Value.bool ?_; (first | (simp [*]; done) | (rw [Bool.eq_iff_iff]; simp [*]; done) | (rw [Bool.eq_iff_iff]; simp [*]; (intros; omega)) | (rw [Bool.eq_iff_iff]; simp []; omega) | (simp []; grind) | (rw [Bool.eq_iff_iff]; simp []; grind))), hS.ext⟩

theorem c99 (w : World) (sl sh lo hi wd : Int) (h0 : 0 ≤ lo) (h1 : hi ≤ 1000) : Cv Tryd.prog 99 #[.agg #[.int .i64 sl, .int .i64 sh], .int .i64 lo, .int .i64 hi, .int .i64 wd] w (fun v w' => v = .bool (decide (lo ≤ sl) && decide (sl ≤ sh) && decide (sh ≤ hi) && decide (sh - sl ≤ wd)) ∧ Ext no w w') := by
  refine cv_intro Tryd.func99 rfl rfl Tryd.ntmps99 rfl (by kernel_rfl) ?_
  have hS := St.nil w
  refine k_seq ?_
  refine k_region ?_
  refine r_boxa hS rfl rfl rfl ?_
  intro b4 w1 hS hE hB4
  refine r_assign (by conv => lhs; whnf) rfl rfl ?_
  refine wpl_nil ?_
  refine thn ?_
  refine k_seq ?_
  refine k_region ?_
  refine r_move (by conv => lhs; whnf) rfl rfl ?_
  refine r_field rfl fl_35_0 rfl rfl ?_
  refine r_load rfl (ld_bs hS (i := 0) rfl rfl sc_3) rfl rfl ?_
  refine r_leq rfl rfl rfl rfl ?_
  refine r_moveb rfl rfl rfl (fun hb2 => ?_) (fun hb2 => ?_)
  · -- True
    have hb20 := hb2
    (try simp only [decide_eq_true_eq, decide_eq_false_iff_not, Bool.and_eq_true, Bool.and_eq_false_iff, Bool.not_eq_true', Bool.not_eq_false', Int.not_lt, Int.not_le] at hb2)
    refine r_field rfl fl_35_0 rfl rfl ?_
    refine r_load rfl (ld_bs hS (i := 0) rfl rfl sc_3) rfl rfl ?_
    refine r_field rfl fl_35_1 rfl rfl ?_
    refine r_load rfl (ld_bs hS (i := 0) rfl rfl sc_3) rfl rfl ?_
    refine r_leq rfl rfl rfl rfl ?_
    refine r_pick_t rfl (by conv => lhs; whnf) rfl rfl ?_
    refine r_moveb rfl rfl rfl (fun hb3 => ?_) (fun hb3 => ?_)
    · -- True
      have hb30 := hb3
      (try simp only [decide_eq_true_eq, decide_eq_false_iff_not, Bool.and_eq_true, Bool.and_eq_false_iff, Bool.not_eq_true', Bool.not_eq_false', Int.not_lt, Int.not_le] at hb3)
      refine r_field rfl fl_35_1 rfl rfl ?_
      refine r_load rfl (ld_bs hS (i := 0) rfl rfl sc_3) rfl rfl ?_
      refine r_move (by conv => lhs; whnf) rfl rfl ?_
      refine r_leq rfl rfl rfl rfl ?_
      refine r_pick_t rfl (by conv => lhs; whnf) rfl rfl ?_
      refine r_moveb rfl rfl rfl (fun hb4 => ?_) (fun hb4 => ?_)
      · -- True
        have hb40 := hb4
        (try simp only [decide_eq_true_eq, decide_eq_false_iff_not, Bool.and_eq_true, Bool.and_eq_false_iff, Bool.not_eq_true', Bool.not_eq_false', Int.not_lt, Int.not_le] at hb4)
        refine r_field rfl fl_35_1 rfl rfl ?_
        refine r_load rfl (ld_bs hS (i := 0) rfl rfl sc_3) rfl rfl ?_
        refine r_field rfl fl_35_0 rfl rfl ?_
        refine r_load rfl (ld_bs hS (i := 0) rfl rfl sc_3) rfl rfl ?_
        refine r_sub rfl rfl rfl rfl (by omega) ?_
        refine r_move (by conv => lhs; whnf) rfl rfl ?_
        refine r_leq rfl rfl rfl rfl ?_
        refine r_pick_t rfl (by conv => lhs; whnf) rfl rfl ?_
        refine r_assign (by conv => lhs; whnf) rfl rfl ?_
        refine wpl_nil ?_
        refine thn ?_
        refine ret1 (fun _ _ _ => rfl) (by conv => lhs; whnf) ?_
        exact ⟨by (refine congrArg Value.bool ?_; (first | (simp [*]; done) | (rw [Bool.eq_iff_iff]; simp [*]; done) | (rw [Bool.eq_iff_iff]; simp [*]; (intros; omega)) | (rw [Bool.eq_iff_iff]; simp []; omega) | (simp []; grind) | (rw [Bool.eq_iff_iff]; simp []; grind))), hS.ext⟩
      · -- False
        have hb40 := hb4
        (try simp only [decide_eq_true_eq, decide_eq_false_iff_not, Bool.and_eq_true, Bool.and_eq_false_iff, Bool.not_eq_true', Bool.not_eq_false', Int.not_lt, Int.not_le] at hb4)
        refine r_skip rfl rfl ?_
        refine r_skip rfl rfl ?_
        refine r_skip rfl rfl ?_
        refine r_skip rfl rfl ?_
        refine r_skip rfl rfl ?_
        refine r_skip rfl rfl ?_
        refine r_skip rfl rfl ?_
        refine r_pick_f rfl (by conv => lhs; whnf) rfl rfl ?_
        refine r_assign (by conv => lhs; whnf) rfl rfl ?_
        refine wpl_nil ?_
        refine thn ?_
        refine ret1 (fun _ _ _ => rfl) (by conv => lhs; whnf) ?_
        exact ⟨by (refine congrArg Value.bool ?_; (first | (simp [*]; done) | (rw [Bool.eq_iff_iff]; simp [*]; done) | (rw [Bool.eq_iff_iff]; simp [*]; (intros; omega)) | (rw [Bool.eq_iff_iff]; simp []; omega) | (simp []; grind) | (rw [Bool.eq_iff_iff]; simp []; grind))), hS.ext⟩
    · -- False
      have hb30 := hb3
      (try simp only [decide_eq_true_eq, decide_eq_false_iff_not, Bool.and_eq_true, Bool.and_eq_false_iff, Bool.not_eq_true', Bool.not_eq_false', Int.not_lt, Int.not_le] at hb3)
      refine r_skip rfl rfl ?_
      refine r_skip rfl rfl ?_
      refine r_skip rfl rfl ?_
      refine r_skip rfl rfl ?_
      refine r_pick_f rfl (by conv => lhs; whnf) rfl rfl ?_
      refine r_move (by conv => lhs; whnf) rfl rfl ?_
      refine r_skip rfl rfl ?_
      refine r_skip rfl rfl ?_
      refine r_skip rfl rfl ?_
      refine r_skip rfl rfl ?_
      refine r_skip rfl rfl ?_
      refine r_skip rfl rfl ?_
      refine r_skip rfl rfl ?_
      refine r_pick_f rfl (by conv => lhs; whnf) rfl rfl ?_
      refine r_assign (by conv => lhs; whnf) rfl rfl ?_
      refine wpl_nil ?_
      refine thn ?_
      refine ret1 (fun _ _ _ => rfl) (by conv => lhs; whnf) ?_
      exact ⟨by (refine congrArg Value.bool ?_; (first | (simp [*]; done) | (rw [Bool.eq_iff_iff]; simp [*]; done) | (rw [Bool.eq_iff_iff]; simp [*]; (intros; omega)) | (rw [Bool.eq_iff_iff]; simp []; omega) | (simp []; grind) | (rw [Bool.eq_iff_iff]; simp []; grind))), hS.ext⟩
  · -- False
    have hb20 := hb2
    (try simp only [decide_eq_true_eq, decide_eq_false_iff_not, Bool.and_eq_true, Bool.and_eq_false_iff, Bool.not_eq_true', Bool.not_eq_false', Int.not_lt, Int.not_le] at hb2)
    refine r_skip rfl rfl ?_
    refine r_skip rfl rfl ?_
    refine r_skip rfl rfl ?_
    refine r_skip rfl rfl ?_
    refine r_skip rfl rfl ?_
    refine r_pick_f rfl (by conv => lhs; whnf) rfl rfl ?_
    refine r_move (by conv => lhs; whnf) rfl rfl ?_
    refine r_skip rfl rfl ?_
    refine r_skip rfl rfl ?_
    refine r_skip rfl rfl ?_
    refine r_skip rfl rfl ?_
    refine r_pick_f rfl (by conv => lhs; whnf) rfl rfl ?_
    refine r_move (by conv => lhs; whnf) rfl rfl ?_
    refine r_skip rfl rfl ?_
    refine r_skip rfl rfl ?_
    refine r_skip rfl rfl ?_
    refine r_skip rfl rfl ?_
    refine r_skip rfl rfl ?_
    refine r_skip rfl rfl ?_
    refine r_skip rfl rfl ?_
    refine r_pick_f rfl (by conv => lhs; whnf) rfl rfl ?_
    refine r_assign (by conv => lhs; whnf) rfl rfl ?_
    refine wpl_nil ?_
    refine thn ?_
    refine ret1 (fun _ _ _ => rfl) (by conv => lhs; whnf) ?_
    exact ⟨by (refine congrArg Value.bool ?_; (first | (simp [*]; done) | (rw [Bool.eq_iff_iff]; simp [*]; done) | (rw [Bool.eq_iff_iff]; simp [*]; (intros; omega)) | (rw [Bool.eq_iff_iff]; simp []; omega) | (simp []; grind) | (rw [Bool.eq_iff_iff]; simp []; grind))), hS.ext⟩

theorem c46 (w : World) (b : HBook) (A1 A2 : Option Addr) (n1 c1 n2 c2 : Nat) (h1 : RdRow Hank.enc 4 w A1 n1 b.hanks) (h2 : RdRow Horse.enc 3 w A2 n2 b.horses) : Cv Tryd.prog 46 #[.agg #[.slice A1 n1 c1, .slice A2 n2 c2, .int .i64 b.dark, .int .i64 b.near, .int .i64 b.mat]] w (fun v w' => v = .int .i64 b.chk ∧ Ext no w w') := by
  refine cv_intro Tryd.func46 rfl rfl Tryd.ntmps46 rfl (by kernel_rfl) ?_
  have hS := St.nil w
  have hl1 := h1.1
  have hl2 := h2.1
  have hm1 := h1.2.1
  have hm2 := h2.2.1
  refine k_seq ?_
  refine k_region ?_
  refine r_boxa hS rfl rfl rfl ?_
  intro b1 w1 hS hE hB1
  refine r_assign (by conv => lhs; whnf) rfl rfl ?_
  refine wpl_nil ?_
  refine thn ?_
  refine k_cut (ι := Unit) [3, 8, 9, 10, 11, 12, 13, 14, 15, 16, 17, 18, 19, 20, 21, 22, 23, 24, 25, 26, 27, 28, 29, 30, 31, 32] (fun _ => [(3, .bool (headOk b))]) (fun _ w' => St (bs w) w' [box b1 25 [.slice A1 n1 c1, .slice A2 n2 c2, .int .i64 b.dark, .int .i64 b.near, .int .i64 b.mat]]) ?_ ?_
  · -- piece
    refine k_region ?_
    refine r_field rfl fl_25_0 rfl rfl ?_
    refine r_load rfl (ld_bs hS (i := 0) rfl rfl sc_22) rfl rfl ?_
    refine r_len rfl sl_22 rfl rfl ?_
    refine r_leq rfl rfl rfl rfl ?_
    refine r_moveb rfl rfl rfl (fun hb2 => ?_) (fun hb2 => ?_)
    · -- True
      have hb20 := hb2
      (try simp only [decide_eq_true_eq, decide_eq_false_iff_not, Bool.and_eq_true, Bool.and_eq_false_iff, Bool.not_eq_true', Bool.not_eq_false', Int.not_lt, Int.not_le] at hb2)
      refine r_field rfl fl_25_1 rfl rfl ?_
      refine r_load rfl (ld_bs hS (i := 0) rfl rfl sc_23) rfl rfl ?_
      refine r_len rfl sl_23 rfl rfl ?_
      refine r_leq rfl rfl rfl rfl ?_
      refine r_pick_t rfl (by conv => lhs; whnf) rfl rfl ?_
      refine r_moveb rfl rfl rfl (fun hb3 => ?_) (fun hb3 => ?_)
      · -- True
        have hb30 := hb3
        (try simp only [decide_eq_true_eq, decide_eq_false_iff_not, Bool.and_eq_true, Bool.and_eq_false_iff, Bool.not_eq_true', Bool.not_eq_false', Int.not_lt, Int.not_le] at hb3)
        refine r_field rfl fl_25_2 rfl rfl ?_
        refine r_load rfl (ld_bs hS (i := 0) rfl rfl sc_3) rfl rfl ?_
        refine r_call rfl (c82 _ _ _ _) rfl rfl ?_
        rintro _ w4 ⟨rfl, hE⟩
        have hS := hS.step hE
        refine r_pick_t rfl (by conv => lhs; whnf) rfl rfl ?_
        refine r_moveb rfl rfl rfl (fun hb5 => ?_) (fun hb5 => ?_)
        · -- True
          have hb50 := hb5
          (try simp only [decide_eq_true_eq, decide_eq_false_iff_not, Bool.and_eq_true, Bool.and_eq_false_iff, Bool.not_eq_true', Bool.not_eq_false', Int.not_lt, Int.not_le] at hb5)
          refine r_field rfl fl_25_3 rfl rfl ?_
          refine r_load rfl (ld_bs hS (i := 0) rfl rfl sc_3) rfl rfl ?_
          refine r_call rfl (c82 _ _ _ _) rfl rfl ?_
          rintro _ w6 ⟨rfl, hE⟩
          have hS := hS.step hE
          refine r_pick_t rfl (by conv => lhs; whnf) rfl rfl ?_
          refine r_moveb rfl rfl rfl (fun hb7 => ?_) (fun hb7 => ?_)
          · -- True
            have hb70 := hb7
            (try simp only [decide_eq_true_eq, decide_eq_false_iff_not, Bool.and_eq_true, Bool.and_eq_false_iff, Bool.not_eq_true', Bool.not_eq_false', Int.not_lt, Int.not_le] at hb7)
            refine r_field rfl fl_25_4 rfl rfl ?_
            refine r_load rfl (ld_bs hS (i := 0) rfl rfl sc_3) rfl rfl ?_
            refine r_call rfl (c82 _ _ _ _) rfl rfl ?_
            rintro _ w8 ⟨rfl, hE⟩
            have hS := hS.step hE
            refine r_pick_t rfl (by conv => lhs; whnf) rfl rfl ?_
            refine r_assign (by conv => lhs; whnf) rfl rfl ?_
            refine wpl_nil ?_
            refine thn ?_
            refine ⟨(), ⟨(by refine congrArg Value.bool ?_; unfold headOk; rw [hl1, hl2]; (first | (simp [*]; done) | (rw [Bool.eq_iff_iff]; simp [*]; done) | (rw [Bool.eq_iff_iff]; simp [*]; (intros; omega)) | (rw [Bool.eq_iff_iff]; simp []; omega) | (simp []; grind) | (rw [Bool.eq_iff_iff]; simp []; grind))), trivial⟩, ?_, ?_, rfl⟩
            · exact hS
            · (repeat (first | exact Agree.refl _ _ | exact agree_hv rfl (Agree.refl _ _) | refine agree_upd rfl ?_ | refine agree_mkF rfl ?_ | refine agree_hv rfl ?_))
          · -- False
            have hb70 := hb7
            (try simp only [decide_eq_true_eq, decide_eq_false_iff_not, Bool.and_eq_true, Bool.and_eq_false_iff, Bool.not_eq_true', Bool.not_eq_false', Int.not_lt, Int.not_le] at hb7)
            refine r_skip rfl rfl ?_
            refine r_skip rfl rfl ?_
            refine r_skip rfl rfl ?_
            refine r_pick_f rfl (by conv => lhs; whnf) rfl rfl ?_
            refine r_assign (by conv => lhs; whnf) rfl rfl ?_
            refine wpl_nil ?_
            refine thn ?_
            refine ⟨(), ⟨(by refine congrArg Value.bool ?_; unfold headOk; rw [hl1, hl2]; (first | (simp [*]; done) | (rw [Bool.eq_iff_iff]; simp [*]; done) | (rw [Bool.eq_iff_iff]; simp [*]; (intros; omega)) | (rw [Bool.eq_iff_iff]; simp []; omega) | (simp []; grind) | (rw [Bool.eq_iff_iff]; simp []; grind))), trivial⟩, ?_, ?_, rfl⟩
            · exact hS
            · (repeat (first | exact Agree.refl _ _ | exact agree_hv rfl (Agree.refl _ _) | refine agree_upd rfl ?_ | refine agree_mkF rfl ?_ | refine agree_hv rfl ?_))
        · -- False
          have hb50 := hb5
          (try simp only [decide_eq_true_eq, decide_eq_false_iff_not, Bool.and_eq_true, Bool.and_eq_false_iff, Bool.not_eq_true', Bool.not_eq_false', Int.not_lt, Int.not_le] at hb5)
          refine r_skip rfl rfl ?_
          refine r_skip rfl rfl ?_
          refine r_skip rfl rfl ?_
          refine r_pick_f rfl (by conv => lhs; whnf) rfl rfl ?_
          refine r_move (by conv => lhs; whnf) rfl rfl ?_
          refine r_skip rfl rfl ?_
          refine r_skip rfl rfl ?_
          refine r_skip rfl rfl ?_
          refine r_pick_f rfl (by conv => lhs; whnf) rfl rfl ?_
          refine r_assign (by conv => lhs; whnf) rfl rfl ?_
          refine wpl_nil ?_
          refine thn ?_
          refine ⟨(), ⟨(by refine congrArg Value.bool ?_; unfold headOk; rw [hl1, hl2]; (first | (simp [*]; done) | (rw [Bool.eq_iff_iff]; simp [*]; done) | (rw [Bool.eq_iff_iff]; simp [*]; (intros; omega)) | (rw [Bool.eq_iff_iff]; simp []; omega) | (simp []; grind) | (rw [Bool.eq_iff_iff]; simp []; grind))), trivial⟩, ?_, ?_, rfl⟩
          · exact hS
          · (repeat (first | exact Agree.refl _ _ | exact agree_hv rfl (Agree.refl _ _) | refine agree_upd rfl ?_ | refine agree_mkF rfl ?_ | refine agree_hv rfl ?_))
      · -- False
        have hb30 := hb3
        (try simp only [decide_eq_true_eq, decide_eq_false_iff_not, Bool.and_eq_true, Bool.and_eq_false_iff, Bool.not_eq_true', Bool.not_eq_false', Int.not_lt, Int.not_le] at hb3)
        refine r_skip rfl rfl ?_
        refine r_skip rfl rfl ?_
        refine r_skip rfl rfl ?_
        refine r_pick_f rfl (by conv => lhs; whnf) rfl rfl ?_
        refine r_move (by conv => lhs; whnf) rfl rfl ?_
        refine r_skip rfl rfl ?_
        refine r_skip rfl rfl ?_
        refine r_skip rfl rfl ?_
        refine r_pick_f rfl (by conv => lhs; whnf) rfl rfl ?_
        refine r_move (by conv => lhs; whnf) rfl rfl ?_
        refine r_skip rfl rfl ?_
        refine r_skip rfl rfl ?_
        refine r_skip rfl rfl ?_
        refine r_pick_f rfl (by conv => lhs; whnf) rfl rfl ?_
        refine r_assign (by conv => lhs; whnf) rfl rfl ?_
        refine wpl_nil ?_
        refine thn ?_
        refine ⟨(), ⟨(by refine congrArg Value.bool ?_; unfold headOk; rw [hl1, hl2]; (first | (simp [*]; done) | (rw [Bool.eq_iff_iff]; simp [*]; done) | (rw [Bool.eq_iff_iff]; simp [*]; (intros; omega)) | (rw [Bool.eq_iff_iff]; simp []; omega) | (simp []; grind) | (rw [Bool.eq_iff_iff]; simp []; grind))), trivial⟩, ?_, ?_, rfl⟩
        · exact hS
        · (repeat (first | exact Agree.refl _ _ | exact agree_hv rfl (Agree.refl _ _) | refine agree_upd rfl ?_ | refine agree_mkF rfl ?_ | refine agree_hv rfl ?_))
    · -- False
      have hb20 := hb2
      (try simp only [decide_eq_true_eq, decide_eq_false_iff_not, Bool.and_eq_true, Bool.and_eq_false_iff, Bool.not_eq_true', Bool.not_eq_false', Int.not_lt, Int.not_le] at hb2)
      refine r_skip rfl rfl ?_
      refine r_skip rfl rfl ?_
      refine r_skip rfl rfl ?_
      refine r_skip rfl rfl ?_
      refine r_pick_f rfl (by conv => lhs; whnf) rfl rfl ?_
      refine r_move (by conv => lhs; whnf) rfl rfl ?_
      refine r_skip rfl rfl ?_
      refine r_skip rfl rfl ?_
      refine r_skip rfl rfl ?_
      refine r_pick_f rfl (by conv => lhs; whnf) rfl rfl ?_
      refine r_move (by conv => lhs; whnf) rfl rfl ?_
      refine r_skip rfl rfl ?_
      refine r_skip rfl rfl ?_
      refine r_skip rfl rfl ?_
      refine r_pick_f rfl (by conv => lhs; whnf) rfl rfl ?_
      refine r_move (by conv => lhs; whnf) rfl rfl ?_
      refine r_skip rfl rfl ?_
      refine r_skip rfl rfl ?_
      refine r_skip rfl rfl ?_
      refine r_pick_f rfl (by conv => lhs; whnf) rfl rfl ?_
      refine r_assign (by conv => lhs; whnf) rfl rfl ?_
      refine wpl_nil ?_
      refine thn ?_
      refine ⟨(), ⟨(by refine congrArg Value.bool ?_; unfold headOk; rw [hl1, hl2]; (first | (simp [*]; done) | (rw [Bool.eq_iff_iff]; simp [*]; done) | (rw [Bool.eq_iff_iff]; simp [*]; (intros; omega)) | (rw [Bool.eq_iff_iff]; simp []; omega) | (simp []; grind) | (rw [Bool.eq_iff_iff]; simp []; grind))), trivial⟩, ?_, ?_, rfl⟩
      · exact hS
      · (repeat (first | exact Agree.refl _ _ | exact agree_hv rfl (Agree.refl _ _) | refine agree_upd rfl ?_ | refine agree_mkF rfl ?_ | refine agree_hv rfl ?_))
  · -- rest
    intro _ j9 w9 hS
    refine k_seq ?_
    refine k_seq ?_
    refine k_region ?_
    refine r_field rfl fl_25_0 rfl rfl ?_
    refine r_load rfl (ld_bs hS (i := 0) rfl rfl sc_22) rfl rfl ?_
    refine r_len rfl sl_22 rfl rfl ?_
    refine r_move (by conv => lhs; whnf) rfl rfl ?_
    refine wpl_nil ?_
    refine thn ?_
    refine k_block ?_
    refine k_loop (ι := Nat) [3, 5, 36, 37, 38, 39, 40, 41, 42, 43, 44, 45, 46, 47, 48, 49, 50, 51] (fun k => [(3, .bool (accAll (headOk b) hankOk b.hanks k)), (36, .int .i64 (k : Int))]) (fun k w' => k ≤ n1 ∧ St (bs w) w' [box b1 25 [.slice A1 n1 c1, .slice A2 n2 c2, .int .i64 b.dark, .int .i64 b.near, .int .i64 b.mat]]) (fun k => n1 - k) 0 ⟨(by refine congrArg Value.bool ?_; rw [accAll_zero]; first | done | simp [*]), rfl, trivial⟩ ⟨Nat.zero_le _, hS⟩ ?_
    rintro k j w2 ⟨hk0, hS⟩
    refine k_seq ?_
    refine k_region ?_
    refine r_lss rfl rfl rfl rfl ?_
    refine wpl_nil ?_
    refine thn ?_
    refine k_seq ?_
    refine k_cond rfl (fun hc11 => ?_) (fun hc11 => ?_)
    · -- t
      have hc110 := hc11
      (try simp only [decide_eq_true_eq, decide_eq_false_iff_not, Bool.and_eq_true, Bool.and_eq_false_iff, Bool.not_eq_true', Bool.not_eq_false', Int.not_lt, Int.not_le] at hc11)
      have hk : k < n1 := by omega
      obtain ⟨x, a, hx, hA, hcl⟩ := h1.get hk
      subst hA
      refine k_skip ?_
      refine thn ?_
      refine k_seq ?_
      refine k_block ?_
      refine k_seq ?_
      refine k_region ?_
      refine r_index rfl rfl sl_22 (by omega) rfl rfl ?_
      refine r_load rfl (ld_ag (hcl.ext hS.ext) ag_42 rfl) rfl rfl ?_
      refine r_alloc hS z_42 rfl rfl rfl ?_
      intro b5 w13 hS hE hB5
      refine r_storea hS (i := 1) rfl rfl rfl sz_42 rfl rfl rfl ?_
      intro w14 hS hE
      refine wpl_nil ?_
      refine thn ?_
      refine k_region ?_
      refine r_move (by conv => lhs; whnf) rfl rfl ?_
      refine r_moveb rfl rfl rfl (fun hb15 => ?_) (fun hb15 => ?_)
      · -- True
        have hb150 := hb15
        (try simp only [decide_eq_true_eq, decide_eq_false_iff_not, Bool.and_eq_true, Bool.and_eq_false_iff, Bool.not_eq_true', Bool.not_eq_false', Int.not_lt, Int.not_le] at hb15)
        refine r_field rfl fl_42_0 rfl rfl ?_
        refine r_load rfl (ld_ba hS (i := 1) rfl rfl rfl ag_35) rfl rfl ?_
        refine r_call rfl (c99 _ _ _ _ _ _ (by omega) (by omega)) rfl rfl ?_
        rintro _ w16 ⟨rfl, hE⟩
        have hS := hS.step hE
        refine r_pick_t rfl (by conv => lhs; whnf) rfl rfl ?_
        refine r_moveb rfl rfl rfl (fun hb17 => ?_) (fun hb17 => ?_)
        · -- True
          have hb170 := hb17
          (try simp only [decide_eq_true_eq, decide_eq_false_iff_not, Bool.and_eq_true, Bool.and_eq_false_iff, Bool.not_eq_true', Bool.not_eq_false', Int.not_lt, Int.not_le] at hb17)
          refine r_field rfl fl_42_1 rfl rfl ?_
          refine r_load rfl (ld_ba hS (i := 1) rfl rfl rfl ag_35) rfl rfl ?_
          refine r_call rfl (c99 _ _ _ _ _ _ (by omega) (by omega)) rfl rfl ?_
          rintro _ w18 ⟨rfl, hE⟩
          have hS := hS.step hE
          refine r_pick_t rfl (by conv => lhs; whnf) rfl rfl ?_
          refine r_assign (by conv => lhs; whnf) rfl rfl ?_
          refine wpl_nil ?_
          refine blk_n ?_
          refine thn ?_
          refine k_region ?_
          refine r_add rfl rfl rfl rfl (by omega) ?_
          refine r_move (by conv => lhs; whnf) rfl rfl ?_
          refine wpl_nil ?_
          refine thn ?_
          refine ⟨k + 1, ⟨(by refine congrArg Value.bool ?_; rw [accAll_succ hx]; (first | (simp [hankOk, *]; done) | (rw [Bool.eq_iff_iff]; simp [hankOk, *]; done) | (rw [Bool.eq_iff_iff]; simp [hankOk, *]; (intros; omega)) | (rw [Bool.eq_iff_iff]; simp [hankOk]; omega) | (simp [hankOk]; grind) | (rw [Bool.eq_iff_iff]; simp [hankOk]; grind))), rfl, trivial⟩, ?_, ?_, ?_, rfl⟩
          · exact ⟨by omega, hS.take 1⟩
          · omega
          · (repeat (first | exact Agree.refl _ _ | exact agree_hv rfl (Agree.refl _ _) | refine agree_upd rfl ?_ | refine agree_mkF rfl ?_ | refine agree_hv rfl ?_))
        · -- False
          have hb170 := hb17
          (try simp only [decide_eq_true_eq, decide_eq_false_iff_not, Bool.and_eq_true, Bool.and_eq_false_iff, Bool.not_eq_true', Bool.not_eq_false', Int.not_lt, Int.not_le] at hb17)
          refine r_skip rfl rfl ?_
          refine r_skip rfl rfl ?_
          refine r_skip rfl rfl ?_
          refine r_pick_f rfl (by conv => lhs; whnf) rfl rfl ?_
          refine r_assign (by conv => lhs; whnf) rfl rfl ?_
          refine wpl_nil ?_
          refine blk_n ?_
          refine thn ?_
          refine k_region ?_
          refine r_add rfl rfl rfl rfl (by omega) ?_
          refine r_move (by conv => lhs; whnf) rfl rfl ?_
          refine wpl_nil ?_
          refine thn ?_
          refine ⟨k + 1, ⟨(by refine congrArg Value.bool ?_; rw [accAll_succ hx]; (first | (simp [hankOk, *]; done) | (rw [Bool.eq_iff_iff]; simp [hankOk, *]; done) | (rw [Bool.eq_iff_iff]; simp [hankOk, *]; (intros; omega)) | (rw [Bool.eq_iff_iff]; simp [hankOk]; omega) | (simp [hankOk]; grind) | (rw [Bool.eq_iff_iff]; simp [hankOk]; grind))), rfl, trivial⟩, ?_, ?_, ?_, rfl⟩
          · exact ⟨by omega, hS.take 1⟩
          · omega
          · (repeat (first | exact Agree.refl _ _ | exact agree_hv rfl (Agree.refl _ _) | refine agree_upd rfl ?_ | refine agree_mkF rfl ?_ | refine agree_hv rfl ?_))
      · -- False
        have hb150 := hb15
        (try simp only [decide_eq_true_eq, decide_eq_false_iff_not, Bool.and_eq_true, Bool.and_eq_false_iff, Bool.not_eq_true', Bool.not_eq_false', Int.not_lt, Int.not_le] at hb15)
        refine r_skip rfl rfl ?_
        refine r_skip rfl rfl ?_
        refine r_skip rfl rfl ?_
        refine r_pick_f rfl (by conv => lhs; whnf) rfl rfl ?_
        refine r_move (by conv => lhs; whnf) rfl rfl ?_
        refine r_skip rfl rfl ?_
        refine r_skip rfl rfl ?_
        refine r_skip rfl rfl ?_
        refine r_pick_f rfl (by conv => lhs; whnf) rfl rfl ?_
        refine r_assign (by conv => lhs; whnf) rfl rfl ?_
        refine wpl_nil ?_
        refine blk_n ?_
        refine thn ?_
        refine k_region ?_
        refine r_add rfl rfl rfl rfl (by omega) ?_
        refine r_move (by conv => lhs; whnf) rfl rfl ?_
        refine wpl_nil ?_
        refine thn ?_
        refine ⟨k + 1, ⟨(by refine congrArg Value.bool ?_; rw [accAll_succ hx]; (first | (simp [hankOk, *]; done) | (rw [Bool.eq_iff_iff]; simp [hankOk, *]; done) | (rw [Bool.eq_iff_iff]; simp [hankOk, *]; (intros; omega)) | (rw [Bool.eq_iff_iff]; simp [hankOk]; omega) | (simp [hankOk]; grind) | (rw [Bool.eq_iff_iff]; simp [hankOk]; grind))), rfl, trivial⟩, ?_, ?_, ?_, rfl⟩
        · exact ⟨by omega, hS.take 1⟩
        · omega
        · (repeat (first | exact Agree.refl _ _ | exact agree_hv rfl (Agree.refl _ _) | refine agree_upd rfl ?_ | refine agree_mkF rfl ?_ | refine agree_hv rfl ?_))
    · -- f
      have hc110 := hc11
      (try simp only [decide_eq_true_eq, decide_eq_false_iff_not, Bool.and_eq_true, Bool.and_eq_false_iff, Bool.not_eq_true', Bool.not_eq_false', Int.not_lt, Int.not_le] at hc11)
      have hk : accAll (headOk b) hankOk b.hanks k = (headOk b && b.hanks.all hankOk) := accAll_end (by rw [h1.1]; omega)
      refine k_exit ?_
      refine thn_e ?_
      refine thn_e ?_
      refine blk_e ?_
      refine thn ?_
      refine k_seq ?_
      refine k_seq ?_
      refine k_region ?_
      refine r_field rfl fl_25_1 rfl rfl ?_
      refine r_load rfl (ld_bs hS (i := 0) rfl rfl sc_23) rfl rfl ?_
      refine r_len rfl sl_23 rfl rfl ?_
      refine r_move (by conv => lhs; whnf) rfl rfl ?_
      refine wpl_nil ?_
      refine thn ?_
      refine k_block ?_
      refine k_loop (ι := Nat) [3, 7, 55, 56, 57, 58, 59, 60, 61, 62, 63, 64, 65, 66, 67, 68, 69, 70, 71, 72, 73, 74, 75] (fun k => [(3, .bool (accAll (headOk b && b.hanks.all hankOk) horseOk b.horses k)), (55, .int .i64 (k : Int))]) (fun k w' => k ≤ n2 ∧ St (bs w) w' [box b1 25 [.slice A1 n1 c1, .slice A2 n2 c2, .int .i64 b.dark, .int .i64 b.near, .int .i64 b.mat]]) (fun k => n2 - k) 0 ⟨(by refine congrArg Value.bool ?_; rw [accAll_zero]; first | done | simp [*]), rfl, trivial⟩ ⟨Nat.zero_le _, hS⟩ ?_
      rintro k j w2 ⟨hk0, hS⟩
      refine k_seq ?_
      refine k_region ?_
      refine r_lss rfl rfl rfl rfl ?_
      refine wpl_nil ?_
      refine thn ?_
      refine k_seq ?_
      refine k_cond rfl (fun hc20 => ?_) (fun hc20 => ?_)
      · -- t
        have hc200 := hc20
        (try simp only [decide_eq_true_eq, decide_eq_false_iff_not, Bool.and_eq_true, Bool.and_eq_false_iff, Bool.not_eq_true', Bool.not_eq_false', Int.not_lt, Int.not_le] at hc20)
        have hk : k < n2 := by omega
        obtain ⟨x, a, hx, hA, hcl⟩ := h2.get hk
        subst hA
        refine k_skip ?_
        refine thn ?_
        refine k_seq ?_
        refine k_block ?_
        refine k_seq ?_
        refine k_region ?_
        refine r_index rfl rfl sl_23 (by omega) rfl rfl ?_
        refine r_load rfl (ld_ag (hcl.ext hS.ext) ag_65 rfl) rfl rfl ?_
        refine r_alloc hS z_65 rfl rfl rfl ?_
        intro b7 w22 hS hE hB7
        refine r_storea hS (i := 1) rfl rfl rfl sz_65 rfl rfl rfl ?_
        intro w23 hS hE
        refine wpl_nil ?_
        refine thn ?_
        refine k_region ?_
        refine r_move (by conv => lhs; whnf) rfl rfl ?_
        refine r_moveb rfl rfl rfl (fun hb24 => ?_) (fun hb24 => ?_)
        · -- True
          have hb240 := hb24
          (try simp only [decide_eq_true_eq, decide_eq_false_iff_not, Bool.and_eq_true, Bool.and_eq_false_iff, Bool.not_eq_true', Bool.not_eq_false', Int.not_lt, Int.not_le] at hb24)
          refine r_field rfl fl_65_0 rfl rfl ?_
          refine r_load rfl (ld_bs hS (i := 1) rfl rfl sc_3) rfl rfl ?_
          refine r_call rfl (c82 _ _ _ _) rfl rfl ?_
          rintro _ w25 ⟨rfl, hE⟩
          have hS := hS.step hE
          refine r_pick_t rfl (by conv => lhs; whnf) rfl rfl ?_
          refine r_moveb rfl rfl rfl (fun hb26 => ?_) (fun hb26 => ?_)
          · -- True
            have hb260 := hb26
            (try simp only [decide_eq_true_eq, decide_eq_false_iff_not, Bool.and_eq_true, Bool.and_eq_false_iff, Bool.not_eq_true', Bool.not_eq_false', Int.not_lt, Int.not_le] at hb26)
            refine r_field rfl fl_65_1 rfl rfl ?_
            refine r_load rfl (ld_bs hS (i := 1) rfl rfl sc_3) rfl rfl ?_
            refine r_call rfl (c82 _ _ _ _) rfl rfl ?_
            rintro _ w27 ⟨rfl, hE⟩
            have hS := hS.step hE
            refine r_pick_t rfl (by conv => lhs; whnf) rfl rfl ?_
            refine r_moveb rfl rfl rfl (fun hb28 => ?_) (fun hb28 => ?_)
            · -- True
              have hb280 := hb28
              (try simp only [decide_eq_true_eq, decide_eq_false_iff_not, Bool.and_eq_true, Bool.and_eq_false_iff, Bool.not_eq_true', Bool.not_eq_false', Int.not_lt, Int.not_le] at hb28)
              refine r_field rfl fl_65_2 rfl rfl ?_
              refine r_load rfl (ld_bs hS (i := 1) rfl rfl sc_3) rfl rfl ?_
              refine r_call rfl (c82 _ _ _ _) rfl rfl ?_
              rintro _ w29 ⟨rfl, hE⟩
              have hS := hS.step hE
              refine r_pick_t rfl (by conv => lhs; whnf) rfl rfl ?_
              refine r_assign (by conv => lhs; whnf) rfl rfl ?_
              refine wpl_nil ?_
              refine blk_n ?_
              refine thn ?_
              refine k_region ?_
              refine r_add rfl rfl rfl rfl (by omega) ?_
              refine r_move (by conv => lhs; whnf) rfl rfl ?_
              refine wpl_nil ?_
              refine thn ?_
              refine ⟨k + 1, ⟨(by refine congrArg Value.bool ?_; rw [accAll_succ hx]; (first | (simp [horseOk, *]; done) | (rw [Bool.eq_iff_iff]; simp [horseOk, *]; done) | (rw [Bool.eq_iff_iff]; simp [horseOk, *]; (intros; omega)) | (rw [Bool.eq_iff_iff]; simp [horseOk]; omega) | (simp [horseOk]; grind) | (rw [Bool.eq_iff_iff]; simp [horseOk]; grind))), rfl, trivial⟩, ?_, ?_, ?_, rfl⟩
              · exact ⟨by omega, hS.take 1⟩
              · omega
              · (repeat (first | exact Agree.refl _ _ | exact agree_hv rfl (Agree.refl _ _) | refine agree_upd rfl ?_ | refine agree_mkF rfl ?_ | refine agree_hv rfl ?_))
            · -- False
              have hb280 := hb28
              (try simp only [decide_eq_true_eq, decide_eq_false_iff_not, Bool.and_eq_true, Bool.and_eq_false_iff, Bool.not_eq_true', Bool.not_eq_false', Int.not_lt, Int.not_le] at hb28)
              refine r_skip rfl rfl ?_
              refine r_skip rfl rfl ?_
              refine r_skip rfl rfl ?_
              refine r_pick_f rfl (by conv => lhs; whnf) rfl rfl ?_
              refine r_assign (by conv => lhs; whnf) rfl rfl ?_
              refine wpl_nil ?_
              refine blk_n ?_
              refine thn ?_
              refine k_region ?_
              refine r_add rfl rfl rfl rfl (by omega) ?_
              refine r_move (by conv => lhs; whnf) rfl rfl ?_
              refine wpl_nil ?_
              refine thn ?_
              refine ⟨k + 1, ⟨(by refine congrArg Value.bool ?_; rw [accAll_succ hx]; (first | (simp [horseOk, *]; done) | (rw [Bool.eq_iff_iff]; simp [horseOk, *]; done) | (rw [Bool.eq_iff_iff]; simp [horseOk, *]; (intros; omega)) | (rw [Bool.eq_iff_iff]; simp [horseOk]; omega) | (simp [horseOk]; grind) | (rw [Bool.eq_iff_iff]; simp [horseOk]; grind))), rfl, trivial⟩, ?_, ?_, ?_, rfl⟩
              · exact ⟨by omega, hS.take 1⟩
              · omega
              · (repeat (first | exact Agree.refl _ _ | exact agree_hv rfl (Agree.refl _ _) | refine agree_upd rfl ?_ | refine agree_mkF rfl ?_ | refine agree_hv rfl ?_))
          · -- False
            have hb260 := hb26
            (try simp only [decide_eq_true_eq, decide_eq_false_iff_not, Bool.and_eq_true, Bool.and_eq_false_iff, Bool.not_eq_true', Bool.not_eq_false', Int.not_lt, Int.not_le] at hb26)
            refine r_skip rfl rfl ?_
            refine r_skip rfl rfl ?_
            refine r_skip rfl rfl ?_
            refine r_pick_f rfl (by conv => lhs; whnf) rfl rfl ?_
            refine r_move (by conv => lhs; whnf) rfl rfl ?_
            refine r_skip rfl rfl ?_
            refine r_skip rfl rfl ?_
            refine r_skip rfl rfl ?_
            refine r_pick_f rfl (by conv => lhs; whnf) rfl rfl ?_
            refine r_assign (by conv => lhs; whnf) rfl rfl ?_
            refine wpl_nil ?_
            refine blk_n ?_
            refine thn ?_
            refine k_region ?_
            refine r_add rfl rfl rfl rfl (by omega) ?_
            refine r_move (by conv => lhs; whnf) rfl rfl ?_
            refine wpl_nil ?_
            refine thn ?_
            refine ⟨k + 1, ⟨(by refine congrArg Value.bool ?_; rw [accAll_succ hx]; (first | (simp [horseOk, *]; done) | (rw [Bool.eq_iff_iff]; simp [horseOk, *]; done) | (rw [Bool.eq_iff_iff]; simp [horseOk, *]; (intros; omega)) | (rw [Bool.eq_iff_iff]; simp [horseOk]; omega) | (simp [horseOk]; grind) | (rw [Bool.eq_iff_iff]; simp [horseOk]; grind))), rfl, trivial⟩, ?_, ?_, ?_, rfl⟩
            · exact ⟨by omega, hS.take 1⟩
            · omega
            · (repeat (first | exact Agree.refl _ _ | exact agree_hv rfl (Agree.refl _ _) | refine agree_upd rfl ?_ | refine agree_mkF rfl ?_ | refine agree_hv rfl ?_))
        · -- False
          have hb240 := hb24
          (try simp only [decide_eq_true_eq, decide_eq_false_iff_not, Bool.and_eq_true, Bool.and_eq_false_iff, Bool.not_eq_true', Bool.not_eq_false', Int.not_lt, Int.not_le] at hb24)
          refine r_skip rfl rfl ?_
          refine r_skip rfl rfl ?_
          refine r_skip rfl rfl ?_
          refine r_pick_f rfl (by conv => lhs; whnf) rfl rfl ?_
          refine r_move (by conv => lhs; whnf) rfl rfl ?_
          refine r_skip rfl rfl ?_
          refine r_skip rfl rfl ?_
          refine r_skip rfl rfl ?_
          refine r_pick_f rfl (by conv => lhs; whnf) rfl rfl ?_
          refine r_move (by conv => lhs; whnf) rfl rfl ?_
          refine r_skip rfl rfl ?_
          refine r_skip rfl rfl ?_
          refine r_skip rfl rfl ?_
          refine r_pick_f rfl (by conv => lhs; whnf) rfl rfl ?_
          refine r_assign (by conv => lhs; whnf) rfl rfl ?_
          refine wpl_nil ?_
          refine blk_n ?_
          refine thn ?_
          refine k_region ?_
          refine r_add rfl rfl rfl rfl (by omega) ?_
          refine r_move (by conv => lhs; whnf) rfl rfl ?_
          refine wpl_nil ?_
          refine thn ?_
          refine ⟨k + 1, ⟨(by refine congrArg Value.bool ?_; rw [accAll_succ hx]; (first | (simp [horseOk, *]; done) | (rw [Bool.eq_iff_iff]; simp [horseOk, *]; done) | (rw [Bool.eq_iff_iff]; simp [horseOk, *]; (intros; omega)) | (rw [Bool.eq_iff_iff]; simp [horseOk]; omega) | (simp [horseOk]; grind) | (rw [Bool.eq_iff_iff]; simp [horseOk]; grind))), rfl, trivial⟩, ?_, ?_, ?_, rfl⟩
          · exact ⟨by omega, hS.take 1⟩
          · omega
          · (repeat (first | exact Agree.refl _ _ | exact agree_hv rfl (Agree.refl _ _) | refine agree_upd rfl ?_ | refine agree_mkF rfl ?_ | refine agree_hv rfl ?_))
      · -- f
        have hc200 := hc20
        (try simp only [decide_eq_true_eq, decide_eq_false_iff_not, Bool.and_eq_true, Bool.and_eq_false_iff, Bool.not_eq_true', Bool.not_eq_false', Int.not_lt, Int.not_le] at hc20)
        have hk : accAll (headOk b && b.hanks.all hankOk) horseOk b.horses k = b.valid := accAll_end (by rw [h2.1]; omega)
        refine k_exit ?_
        refine thn_e ?_
        refine thn_e ?_
        refine blk_e ?_
        refine thn ?_
        refine k_seq ?_
        refine k_seq ?_
        refine k_region ?_
        refine r_move (by conv => lhs; whnf) rfl rfl ?_
        refine r_not rfl rfl rfl ?_
        refine wpl_nil ?_
        refine thn ?_
        refine k_cond rfl (fun hc30 => ?_) (fun hc30 => ?_)
        · -- t
          have hc300 := hc30
          (try simp only [decide_eq_true_eq, decide_eq_false_iff_not, Bool.and_eq_true, Bool.and_eq_false_iff, Bool.not_eq_true', Bool.not_eq_false', Int.not_lt, Int.not_le] at hc30)
          refine k_seq ?_
          refine k_region ?_
          refine r_assign (by conv => lhs; whnf) rfl rfl ?_
          refine wpl_nil ?_
          refine thn ?_
          refine ret1 (fun _ _ _ => rfl) (by conv => lhs; whnf) ?_
          refine ⟨?_, hS.ext⟩
          unfold HBook.chk
          simp_all
        · -- f
          have hc300 := hc30
          (try simp only [decide_eq_true_eq, decide_eq_false_iff_not, Bool.and_eq_true, Bool.and_eq_false_iff, Bool.not_eq_true', Bool.not_eq_false', Int.not_lt, Int.not_le] at hc30)
          refine k_skip ?_
          refine thn ?_
          refine k_seq ?_
          refine k_region ?_
          refine r_assign (by conv => lhs; whnf) rfl rfl ?_
          refine wpl_nil ?_
          refine thn ?_
          refine ret1 (fun _ _ _ => rfl) (by conv => lhs; whnf) ?_
          refine ⟨?_, hS.ext⟩
          unfold HBook.chk
          simp_all
end Go.Proofs.YtofpabocpcfbfaaDoor

/- Walks: T2. -/
namespace Go.Proofs.YtofpabocpcfbfaaDoor
open Go Go.Proofs K

theorem c160 (w : World) (x : Int) (ns : List Int) (A : Option Addr) (n c : Nat) (h : RdInts w A n ns) : Cv Tryd.prog 160 #[.int .i64 x, .slice A n c] w (fun v w' => v = .int .i64 (ns.foldl max x) ∧ Ext no w w') := by
  refine cv_intro Tryd.func160 rfl rfl Tryd.ntmps160 rfl (by kernel_rfl) ?_
  have hS := St.nil w
  have hl := h.1
  have hlb := h.2.1
  refine k_seq ?_
  refine k_region ?_
  refine r_assign (by conv => lhs; whnf) rfl rfl ?_
  refine wpl_nil ?_
  refine thn ?_
  refine k_seq ?_
  refine k_seq ?_
  refine k_region ?_
  refine r_move (by conv => lhs; whnf) rfl rfl ?_
  refine r_len rfl sl_26 rfl rfl ?_
  refine r_move (by conv => lhs; whnf) rfl rfl ?_
  refine wpl_nil ?_
  refine thn ?_
  refine k_block ?_
  refine k_loop (ι := Nat) [0, 6, 9, 10, 11, 12, 13, 14, 15, 16] (fun k => [(0, .int .i64 ((ns.take k).foldl max x)), (9, .int .i64 (k : Int))]) (fun k w' => k ≤ n ∧ St (bs w) w' []) (fun k => n - k) 0 ⟨rfl, rfl, trivial⟩ ⟨Nat.zero_le _, hS⟩ ?_
  rintro k j w2 ⟨hk0, hS⟩
  refine k_seq ?_
  refine k_region ?_
  refine r_lss rfl rfl rfl rfl ?_
  refine wpl_nil ?_
  refine thn ?_
  refine k_seq ?_
  refine k_cond rfl (fun hc2 => ?_) (fun hc2 => ?_)
  · -- t
    have hc20 := hc2
    (try simp only [decide_eq_true_eq, decide_eq_false_iff_not, Bool.and_eq_true, Bool.and_eq_false_iff, Bool.not_eq_true', Bool.not_eq_false', Int.not_lt, Int.not_le] at hc2)
    have hk : k < n := by omega
    obtain ⟨x1, a, hx, hA, hcl⟩ := h.get hk
    subst hA
    refine k_skip ?_
    refine thn ?_
    refine k_seq ?_
    refine k_block ?_
    refine k_seq ?_
    refine k_region ?_
    refine r_index rfl rfl sl_26 (by omega) rfl rfl ?_
    refine r_load rfl (ld_sc ((hcl.ext hS.ext) 0 _ rfl) sc_3) rfl rfl ?_
    refine r_assign (by conv => lhs; whnf) rfl rfl ?_
    refine wpl_nil ?_
    refine thn ?_
    refine k_region ?_
    refine r_move (by conv => lhs; whnf) rfl rfl ?_
    refine r_move (by conv => lhs; whnf) rfl rfl ?_
    refine r_max2 rfl rfl rfl rfl ?_
    refine r_assign (by conv => lhs; whnf) rfl rfl ?_
    refine wpl_nil ?_
    refine blk_n ?_
    refine thn ?_
    refine k_region ?_
    refine r_add rfl rfl rfl rfl (by omega) ?_
    refine r_move (by conv => lhs; whnf) rfl rfl ?_
    refine wpl_nil ?_
    refine thn ?_
    refine ⟨k + 1, ⟨(by refine congrArg iv ?_; rw [foldl_take _ _ _ hx]), rfl, trivial⟩, ?_, ?_, ?_, rfl⟩
    · exact ⟨by omega, hS⟩
    · omega
    · (repeat (first | exact Agree.refl _ _ | exact agree_hv rfl (Agree.refl _ _) | refine agree_upd rfl ?_ | refine agree_mkF rfl ?_ | refine agree_hv rfl ?_))
  · -- f
    have hc20 := hc2
    (try simp only [decide_eq_true_eq, decide_eq_false_iff_not, Bool.and_eq_true, Bool.and_eq_false_iff, Bool.not_eq_true', Bool.not_eq_false', Int.not_lt, Int.not_le] at hc2)
    have hk : (ns.take k) = ns := take_all (by omega)
    refine k_exit ?_
    refine thn_e ?_
    refine thn_e ?_
    refine blk_e ?_
    refine thn ?_
    refine k_seq ?_
    refine k_region ?_
    refine r_move (by conv => lhs; whnf) rfl rfl ?_
    refine r_assign (by conv => lhs; whnf) rfl rfl ?_
    refine wpl_nil ?_
    refine thn ?_
    refine ret1 (fun _ _ _ => rfl) (by conv => lhs; whnf) ?_
    refine ⟨?_, hS.ext⟩
    rw [hk]

theorem c133 (w : World) (b : HBook) (A1 A2 : Option Addr) (n1 c1 n2 c2 m : Nat) (hB : Bk w A1 A2 n1 n2 m b) (i mh ms th ts : Int) (hi : 0 ≤ i ∧ i < n2) (hmh : 0 ≤ mh ∧ mh < n1) (hth : 0 ≤ th ∧ th < n1) (hms : 0 ≤ ms ∧ ms ≤ b.dark) (hts : 0 ≤ ts ∧ ts ≤ b.dark) : Cv Tryd.prog 133 #[.agg #[.slice A1 n1 c1, .slice A2 n2 c2, .int .i64 b.dark, .int .i64 b.near, .int .i64 b.mat, .map (some m)], .int .i64 i, .agg #[.int .i64 mh, .int .i64 ms], .agg #[.int .i64 th, .int .i64 ts]] w (fun v w' => v = .bool (b.mt i mh ms th ts) ∧ Ext no w w') := by
  refine cv_intro Tryd.func133 rfl rfl Tryd.ntmps133 rfl (by kernel_rfl) ?_
  have hl1 := hB.h1.1
  have hl2 := hB.h2.1
  have hg := hB.good
  have hg1 := hg.l1
  have hg2 := hg.l2
  have hgd := hg.dark
  have hgn := hg.near
  have hgm := hg.mat
  have hS := St.nil w
  have hq1 := hg.hankAt (k := mh) (by omega)
  have hq2 := hg.hankAt (k := th) (by omega)
  have hq3 := hg.horseAt (k := i) (by omega)
  refine k_seq ?_
  refine k_region ?_
  refine r_boxa hS rfl rfl rfl ?_
  intro b4 w1 hS hE hB4
  refine r_boxa hS rfl rfl rfl ?_
  intro b6 w2 hS hE hB6
  refine r_boxa hS rfl rfl rfl ?_
  intro b7 w3 hS hE hB7
  refine r_assign (by conv => lhs; whnf) rfl rfl ?_
  refine wpl_nil ?_
  refine thn ?_
  refine k_seq ?_
  refine k_region ?_
  refine r_field rfl fl_99_0 rfl rfl ?_
  refine r_field rfl fl_25_1 rfl rfl ?_
  refine r_load rfl (ld_bs hS (i := 0) rfl rfl sc_23) rfl rfl ?_
  refine r_move (by conv => lhs; whnf) rfl rfl ?_
  obtain ⟨a2, hA2, hc2⟩ := hB.horse (k := i) (by omega)
  subst hA2
  refine r_index rfl rfl sl_23 (by omega) rfl rfl ?_
  refine r_field rfl fl_65_2 rfl rfl ?_
  refine r_load rfl (ld_sc ((hc2.ext hS.ext) 2 _ rfl) sc_3) rfl rfl ?_
  refine r_assign (by conv => lhs; whnf) rfl rfl ?_
  refine wpl_nil ?_
  refine thn ?_
  refine k_seq ?_
  apply k_draw (m := 11) (ss := [.val _, .val _, .val _, .val _, .val _, .val _, .val _, .val _, .ex (Mk 35 _), .ex (Mk 35 _), .st 8 (Mk 35 _)]) mixed rfl (by kernel_rfl) (by kernel_rfl) rfl rfl rfl
  · refine ⟨?_, ?_, ?_, ?_, ?_, ?_, ?_, ?_, ?_, ?_, ?_, trivial⟩
    · -- op 0
      intro jnk vals lo hi w8 hE0 hd
      have hS := hS.step hE0
      refine r_field rfl fl_99_1 rfl rfl ?_
      refine wpl_end ?_
      exact ⟨rfl, Ext.refl _ _, rfl⟩
    · -- op 1
      intro jnk vals lo hi w9 hE0 hd
      have hS := hS.step hE0
      refine r_load rfl (ld_bs hS (i := 0) rfl rfl sc_97) rfl rfl ?_
      refine wpl_end ?_
      exact ⟨rfl, Ext.refl _ _, rfl⟩
    · -- op 2
      intro jnk vals lo hi w10 hE0 hd
      have hS := hS.step hE0
      refine r_load rfl (ld_ba hS (i := 1) rfl rfl rfl ag_122) rfl rfl ?_
      refine wpl_end ?_
      exact ⟨rfl, Ext.refl _ _, rfl⟩
    · -- op 3
      intro jnk vals lo hi w11 hE0 hd
      have hS := hS.step hE0
      refine r_lookup (z := _) (k := [mh, ms]) (heap_ext hS.ext hB.hm) mp_97 ik_122 z_35 rfl rfl (fun e he => shTo_keys e he) rfl rfl rfl ?_
      rw [mapVal_sh (by omega) (by omega)]
      refine wpl_end ?_
      exact ⟨rfl, Ext.refl _ _, rfl⟩
    · -- op 4
      intro jnk vals lo hi w13 hE0 hd
      have hS := hS.step hE0
      refine r_field rfl fl_99_1 rfl rfl ?_
      refine wpl_end ?_
      exact ⟨rfl, Ext.refl _ _, rfl⟩
    · -- op 5
      intro jnk vals lo hi w14 hE0 hd
      have hS := hS.step hE0
      refine r_load rfl (ld_bs hS (i := 0) rfl rfl sc_97) rfl rfl ?_
      refine wpl_end ?_
      exact ⟨rfl, Ext.refl _ _, rfl⟩
    · -- op 6
      intro jnk vals lo hi w15 hE0 hd
      have hS := hS.step hE0
      refine r_load rfl (ld_ba hS (i := 2) rfl rfl rfl ag_122) rfl rfl ?_
      refine wpl_end ?_
      exact ⟨rfl, Ext.refl _ _, rfl⟩
    · -- op 7
      intro jnk vals lo hi w16 hE0 hd
      have hS := hS.step hE0
      refine r_lookup (z := _) (k := [th, ts]) (heap_ext hS.ext hB.hm) mp_97 ik_122 z_35 rfl rfl (fun e he => shTo_keys e he) rfl rfl rfl ?_
      rw [mapVal_sh (by omega) (by omega)]
      refine wpl_end ?_
      exact ⟨rfl, Ext.refl _ _, rfl⟩
    · -- op 8
      intro jnk vals lo hi w18 hE0 hd
      have hS := hS.step hE0
      refine r_alloc hS z_35 rfl rfl rfl ?_
      intro b10 w19 hS hE hB10
      refine wpl_end ?_
      exact ⟨rfl, hE.of_no, mk_alloc (hS.get (i := 3) rfl) hB10⟩
    · -- op 9
      intro jnk vals lo hi w20 hE0 hd
      have hS := hS.step hE0
      refine r_alloc hS z_35 rfl rfl rfl ?_
      intro b11 w21 hS hE hB11
      refine wpl_end ?_
      exact ⟨rfl, hE.of_no, mk_alloc (hS.get (i := 3) rfl) hB11⟩
    · -- op 10
      intro jnk vals lo hi w22 hE0 hd
      have hS := hS.step hE0
      obtain ⟨b8, hv8, hl8, hh8, hb8⟩ := hd 8 (by decide) rfl
      rw [vset_eq hv8]
      refine r_store0 rfl rfl rfl hb8 sz_35 rfl rfl rfl ?_
      intro w23 hE hb
      refine wpl_end ?_
      exact ⟨rfl, ext_wr hE ⟨8, rfl, hl8, hh8⟩, ⟨b8, rfl, hl8, hh8, hb⟩⟩
  · intro φ hφ v lo hi S w1 w2 hEa hEb hSb
    rcases hφ with hφ | ⟨j, hφ⟩ <;> simp at hφ <;> (first | (obtain ⟨_, rfl⟩ := hφ) | (rcases hφ with rfl | rfl) | (rcases hφ with ⟨_, rfl⟩ | ⟨_, rfl⟩) | subst hφ) <;> first | exact mk_stays hEa hEb hSb | exact row_stays hEa hEb hSb
  intro jnk vals lo hi w24 hE0 hsat hdj hbd
  obtain ⟨c24_8, hv8, hl8, hh8, hb8⟩ := hsat 10 (by decide) rfl
  rw [vset_eq hv8]
  obtain ⟨c24_9, hv9, hl9, hh9, hb9⟩ := hsat 9 (by decide) rfl
  rw [vset_eq hv9]
  have hS := mk_add2 hS hE0 (hbd 8 (by decide)) (hbd 9 (by decide)) (hdj 8 9 (by decide) (by decide) (by decide)) hl8 hh8 hb8 hl9 hh9 hb9
  refine r_storea hS (i := 4) rfl rfl rfl sz_35 rfl rfl rfl ?_
  intro w25 hS hE
  refine wpl_nil ?_
  refine thn ?_
  refine k_seq ?_
  refine k_seq ?_
  apply k_draw (m := 21) (ss := [.val _, .val _, .val _, .val _, .val _, .val _, .val _, .val _, .val _, .val _, .val _, .val _, .val _, .val _, .val _, .val _, .ex (Row [_, _, _] 3 3), .val _, .val _, .val _, .val _]) mixed rfl (by kernel_rfl) (by kernel_rfl) rfl rfl rfl
  · refine ⟨?_, ?_, ?_, ?_, ?_, ?_, ?_, ?_, ?_, ?_, ?_, ?_, ?_, ?_, ?_, ?_, ?_, ?_, ?_, ?_, ?_, trivial⟩
    · -- op 0
      intro jnk vals lo hi w26 hE0 hd
      have hS := hS.step hE0
      refine r_field rfl fl_35_1 rfl rfl ?_
      refine wpl_end ?_
      exact ⟨rfl, Ext.refl _ _, rfl⟩
    · -- op 1
      intro jnk vals lo hi w27 hE0 hd
      have hS := hS.step hE0
      refine r_load rfl (ld_bs hS (i := 3) rfl rfl sc_3) rfl rfl ?_
      refine wpl_end ?_
      exact ⟨rfl, Ext.refl _ _, rfl⟩
    · -- op 2
      intro jnk vals lo hi w28 hE0 hd
      have hS := hS.step hE0
      refine r_move (by conv => lhs; whnf) rfl rfl ?_
      refine wpl_end ?_
      exact ⟨rfl, Ext.refl _ _, rfl⟩
    · -- op 3
      intro jnk vals lo hi w29 hE0 hd
      have hS := hS.step hE0
      refine r_sub rfl rfl rfl rfl (by omega) ?_
      refine wpl_end ?_
      exact ⟨rfl, Ext.refl _ _, rfl⟩
    · -- op 4
      intro jnk vals lo hi w30 hE0 hd
      have hS := hS.step hE0
      refine r_move (by conv => lhs; whnf) rfl rfl ?_
      refine wpl_end ?_
      exact ⟨rfl, Ext.refl _ _, rfl⟩
    · -- op 5
      intro jnk vals lo hi w31 hE0 hd
      have hS := hS.step hE0
      refine r_field rfl fl_35_0 rfl rfl ?_
      refine wpl_end ?_
      exact ⟨rfl, Ext.refl _ _, rfl⟩
    · -- op 6
      intro jnk vals lo hi w32 hE0 hd
      have hS := hS.step hE0
      refine r_load rfl (ld_bs hS (i := 3) rfl rfl sc_3) rfl rfl ?_
      refine wpl_end ?_
      exact ⟨rfl, Ext.refl _ _, rfl⟩
    · -- op 7
      intro jnk vals lo hi w33 hE0 hd
      have hS := hS.step hE0
      refine r_sub rfl rfl rfl rfl (by omega) ?_
      refine wpl_end ?_
      exact ⟨rfl, Ext.refl _ _, rfl⟩
    · -- op 8
      intro jnk vals lo hi w34 hE0 hd
      have hS := hS.step hE0
      refine r_field rfl fl_35_1 rfl rfl ?_
      refine wpl_end ?_
      exact ⟨rfl, Ext.refl _ _, rfl⟩
    · -- op 9
      intro jnk vals lo hi w35 hE0 hd
      have hS := hS.step hE0
      refine r_load rfl (ld_bs hS (i := 4) rfl rfl sc_3) rfl rfl ?_
      refine wpl_end ?_
      exact ⟨rfl, Ext.refl _ _, rfl⟩
    · -- op 10
      intro jnk vals lo hi w36 hE0 hd
      have hS := hS.step hE0
      refine r_move (by conv => lhs; whnf) rfl rfl ?_
      refine wpl_end ?_
      exact ⟨rfl, Ext.refl _ _, rfl⟩
    · -- op 11
      intro jnk vals lo hi w37 hE0 hd
      have hS := hS.step hE0
      refine r_sub rfl rfl rfl rfl (by omega) ?_
      refine wpl_end ?_
      exact ⟨rfl, Ext.refl _ _, rfl⟩
    · -- op 12
      intro jnk vals lo hi w38 hE0 hd
      have hS := hS.step hE0
      refine r_move (by conv => lhs; whnf) rfl rfl ?_
      refine wpl_end ?_
      exact ⟨rfl, Ext.refl _ _, rfl⟩
    · -- op 13
      intro jnk vals lo hi w39 hE0 hd
      have hS := hS.step hE0
      refine r_field rfl fl_35_0 rfl rfl ?_
      refine wpl_end ?_
      exact ⟨rfl, Ext.refl _ _, rfl⟩
    · -- op 14
      intro jnk vals lo hi w40 hE0 hd
      have hS := hS.step hE0
      refine r_load rfl (ld_bs hS (i := 4) rfl rfl sc_3) rfl rfl ?_
      refine wpl_end ?_
      exact ⟨rfl, Ext.refl _ _, rfl⟩
    · -- op 15
      intro jnk vals lo hi w41 hE0 hd
      have hS := hS.step hE0
      refine r_sub rfl rfl rfl rfl (by omega) ?_
      refine wpl_end ?_
      exact ⟨rfl, Ext.refl _ _, rfl⟩
    · -- op 16
      intro jnk vals lo hi w42 hE0 hd
      have hS := hS.step hE0
      refine r_buildSlice hS us_26 sz_3 z_3 rfl rfl rfl rfl rfl ?_
      intro b43 w43 hS hE hB43
      refine wpl_end ?_
      exact ⟨rfl, hE.of_no, row_build (hS.get (i := 5) rfl) hB43⟩
    · -- op 17
      intro jnk vals lo hi w44 hE0 hd
      have hS := hS.step hE0
      obtain ⟨r16, hv16, hl16, hh16, hr16⟩ := hd 16 (by decide) rfl
      rw [vset_eq hv16]
      refine r_call rfl (c160 _ _ [_, _, _] (some ⟨r16, 0, none⟩) 3 3 (cells_row (vs := [_, _, _]) hr16 (by simp))) rfl rfl ?_
      rintro _ w46 ⟨rfl, hE⟩
      refine wpl_end ?_
      exact ⟨rfl, hE.of_no, rfl⟩
    · -- op 18
      intro jnk vals lo hi w47 hE0 hd
      have hS := hS.step hE0
      refine r_field rfl fl_99_0 rfl rfl ?_
      refine wpl_end ?_
      exact ⟨rfl, Ext.refl _ _, rfl⟩
    · -- op 19
      intro jnk vals lo hi w48 hE0 hd
      have hS := hS.step hE0
      refine r_field rfl fl_25_3 rfl rfl ?_
      refine wpl_end ?_
      exact ⟨rfl, Ext.refl _ _, rfl⟩
    · -- op 20
      intro jnk vals lo hi w49 hE0 hd
      have hS := hS.step hE0
      refine r_load rfl (ld_bs hS (i := 0) rfl rfl sc_3) rfl rfl ?_
      refine wpl_end ?_
      exact ⟨rfl, Ext.refl _ _, rfl⟩
  · intro φ hφ v lo hi S w1 w2 hEa hEb hSb
    rcases hφ with hφ | ⟨j, hφ⟩ <;> simp at hφ <;> (first | (obtain ⟨_, rfl⟩ := hφ) | (rcases hφ with rfl | rfl) | (rcases hφ with ⟨_, rfl⟩ | ⟨_, rfl⟩) | subst hφ) <;> first | exact mk_stays hEa hEb hSb | exact row_stays hEa hEb hSb
  intro jnk vals lo hi w50 hE0 hsat hdj hbd
  have hS := hS.step hE0
  obtain ⟨r50_16, hv16, hl16, hh16, hr16⟩ := hsat 16 (by decide) rfl
  rw [vset_eq hv16]
  refine r_gtr rfl rfl rfl rfl ?_
  refine wpl_nil ?_
  refine thn ?_
  refine k_cond rfl (fun hc51 => ?_) (fun hc51 => ?_)
  · -- t
    have hc510 := hc51
    (try simp only [decide_eq_true_eq, decide_eq_false_iff_not, Bool.and_eq_true, Bool.and_eq_false_iff, Bool.not_eq_true', Bool.not_eq_false', Int.not_lt, Int.not_le] at hc51)
    refine k_seq ?_
    refine k_region ?_
    refine r_assign (by conv => lhs; whnf) rfl rfl ?_
    refine wpl_nil ?_
    refine thn ?_
    refine ret1 (fun _ _ _ => rfl) (by conv => lhs; whnf) ?_
    refine ⟨congrArg Value.bool ?_, hS.ext⟩
    simp only [HBook.mt]
    simp_all [-List.foldl_cons, -List.foldl_nil]
  · -- f
    have hc510 := hc51
    (try simp only [decide_eq_true_eq, decide_eq_false_iff_not, Bool.and_eq_true, Bool.and_eq_false_iff, Bool.not_eq_true', Bool.not_eq_false', Int.not_lt, Int.not_le] at hc51)
    refine k_skip ?_
    refine thn ?_
    refine k_seq ?_
    refine k_seq ?_
    refine k_region ?_
    refine r_field rfl fl_122_0 rfl rfl ?_
    refine r_load rfl (ld_bs hS (i := 1) rfl rfl sc_3) rfl rfl ?_
    refine r_field rfl fl_122_0 rfl rfl ?_
    refine r_load rfl (ld_bs hS (i := 2) rfl rfl sc_3) rfl rfl ?_
    refine r_eql rfl rfl rfl rfl ?_
    refine wpl_nil ?_
    refine thn ?_
    refine k_cond rfl (fun hc52 => ?_) (fun hc52 => ?_)
    · -- t
      have hc520 := hc52
      (try simp only [decide_eq_true_eq, decide_eq_false_iff_not, Bool.and_eq_true, Bool.and_eq_false_iff, Bool.not_eq_true', Bool.not_eq_false', Int.not_lt, Int.not_le] at hc52)
      refine k_seq ?_
      refine k_region ?_
      refine r_load rfl (ld_ba hS (i := 1) rfl rfl rfl ag_122) rfl rfl ?_
      refine r_load rfl (ld_ba hS (i := 2) rfl rfl rfl ag_122) rfl rfl ?_
      refine r_eqls (a := [mh, ms]) (b := [th, ts]) ik_122 eg_122 rfl rfl rfl rfl rfl rfl ?_
      refine r_moveb rfl rfl rfl (fun hb54 => ?_) (fun hb54 => ?_)
      · -- True
        have hb540 := hb54
        (try simp only [decide_eq_true_eq, decide_eq_false_iff_not, Bool.and_eq_true, Bool.and_eq_false_iff, Bool.not_eq_true', Bool.not_eq_false', Int.not_lt, Int.not_le] at hb54)
        refine r_skip rfl rfl ?_
        refine r_skip rfl rfl ?_
        refine r_skip rfl rfl ?_
        refine r_skip rfl rfl ?_
        refine r_skip rfl rfl ?_
        refine r_skip rfl rfl ?_
        refine r_skip rfl rfl ?_
        refine r_skip rfl rfl ?_
        refine r_skip rfl rfl ?_
        refine r_skip rfl rfl ?_
        refine r_skip rfl rfl ?_
        refine r_skip rfl rfl ?_
        refine r_skip rfl rfl ?_
        refine r_pick_t rfl (by conv => lhs; whnf) rfl rfl ?_
        refine r_assign (by conv => lhs; whnf) rfl rfl ?_
        refine wpl_nil ?_
        refine thn ?_
        refine ret1 (fun _ _ _ => rfl) (by conv => lhs; whnf) ?_
        refine ⟨congrArg Value.bool ?_, hS.ext⟩
        simp only [HBook.mt]
        simp_all [-List.foldl_cons, -List.foldl_nil]
      · -- False
        have hb540 := hb54
        (try simp only [decide_eq_true_eq, decide_eq_false_iff_not, Bool.and_eq_true, Bool.and_eq_false_iff, Bool.not_eq_true', Bool.not_eq_false', Int.not_lt, Int.not_le] at hb54)
        refine r_field rfl fl_122_1 rfl rfl ?_
        refine r_load rfl (ld_bs hS (i := 1) rfl rfl sc_3) rfl rfl ?_
        refine r_field rfl fl_122_1 rfl rfl ?_
        refine r_load rfl (ld_bs hS (i := 2) rfl rfl sc_3) rfl rfl ?_
        refine r_sub rfl rfl rfl rfl (by omega) ?_
        refine r_field rfl fl_99_0 rfl rfl ?_
        refine r_field rfl fl_25_4 rfl rfl ?_
        refine r_load rfl (ld_bs hS (i := 0) rfl rfl sc_3) rfl rfl ?_
        refine r_neg rfl rfl rfl (by omega) ?_
        refine r_field rfl fl_99_0 rfl rfl ?_
        refine r_field rfl fl_25_4 rfl rfl ?_
        refine r_load rfl (ld_bs hS (i := 0) rfl rfl sc_3) rfl rfl ?_
        refine r_call rfl (c82 _ _ _ _) rfl rfl ?_
        rintro _ w55 ⟨rfl, hE⟩
        have hS := hS.step hE
        refine r_pick_f rfl (by conv => lhs; whnf) rfl rfl ?_
        refine r_assign (by conv => lhs; whnf) rfl rfl ?_
        refine wpl_nil ?_
        refine thn ?_
        refine ret1 (fun _ _ _ => rfl) (by conv => lhs; whnf) ?_
        refine ⟨congrArg Value.bool ?_, hS.ext⟩
        simp only [HBook.mt]
        simp_all [-List.foldl_cons, -List.foldl_nil]
    · -- f
      have hc520 := hc52
      (try simp only [decide_eq_true_eq, decide_eq_false_iff_not, Bool.and_eq_true, Bool.and_eq_false_iff, Bool.not_eq_true', Bool.not_eq_false', Int.not_lt, Int.not_le] at hc52)
      refine k_skip ?_
      refine thn ?_
      refine k_seq ?_
      apply k_draw (m := 15) (ss := [.val _, .val _, .val _, .val _, .val _, .val _, .val _, .val _, .val _, .val _, .ex (Row [_] 1 1), .val _, .val _, .val _, .val _]) mixed rfl (by kernel_rfl) (by kernel_rfl) rfl rfl rfl
      · refine ⟨?_, ?_, ?_, ?_, ?_, ?_, ?_, ?_, ?_, ?_, ?_, ?_, ?_, ?_, ?_, trivial⟩
        · -- op 0
          intro jnk vals lo hi w56 hE0 hd
          have hS := hS.step hE0
          refine r_field rfl fl_35_1 rfl rfl ?_
          refine wpl_end ?_
          exact ⟨rfl, Ext.refl _ _, rfl⟩
        · -- op 1
          intro jnk vals lo hi w57 hE0 hd
          have hS := hS.step hE0
          refine r_load rfl (ld_bs hS (i := 3) rfl rfl sc_3) rfl rfl ?_
          refine wpl_end ?_
          exact ⟨rfl, Ext.refl _ _, rfl⟩
        · -- op 2
          intro jnk vals lo hi w58 hE0 hd
          have hS := hS.step hE0
          refine r_field rfl fl_35_0 rfl rfl ?_
          refine wpl_end ?_
          exact ⟨rfl, Ext.refl _ _, rfl⟩
        · -- op 3
          intro jnk vals lo hi w59 hE0 hd
          have hS := hS.step hE0
          refine r_load rfl (ld_bs hS (i := 4) rfl rfl sc_3) rfl rfl ?_
          refine wpl_end ?_
          exact ⟨rfl, Ext.refl _ _, rfl⟩
        · -- op 4
          intro jnk vals lo hi w60 hE0 hd
          have hS := hS.step hE0
          refine r_sub rfl rfl rfl rfl (by omega) ?_
          refine wpl_end ?_
          exact ⟨rfl, Ext.refl _ _, rfl⟩
        · -- op 5
          intro jnk vals lo hi w61 hE0 hd
          have hS := hS.step hE0
          refine r_field rfl fl_35_1 rfl rfl ?_
          refine wpl_end ?_
          exact ⟨rfl, Ext.refl _ _, rfl⟩
        · -- op 6
          intro jnk vals lo hi w62 hE0 hd
          have hS := hS.step hE0
          refine r_load rfl (ld_bs hS (i := 4) rfl rfl sc_3) rfl rfl ?_
          refine wpl_end ?_
          exact ⟨rfl, Ext.refl _ _, rfl⟩
        · -- op 7
          intro jnk vals lo hi w63 hE0 hd
          have hS := hS.step hE0
          refine r_field rfl fl_35_0 rfl rfl ?_
          refine wpl_end ?_
          exact ⟨rfl, Ext.refl _ _, rfl⟩
        · -- op 8
          intro jnk vals lo hi w64 hE0 hd
          have hS := hS.step hE0
          refine r_load rfl (ld_bs hS (i := 3) rfl rfl sc_3) rfl rfl ?_
          refine wpl_end ?_
          exact ⟨rfl, Ext.refl _ _, rfl⟩
        · -- op 9
          intro jnk vals lo hi w65 hE0 hd
          have hS := hS.step hE0
          refine r_sub rfl rfl rfl rfl (by omega) ?_
          refine wpl_end ?_
          exact ⟨rfl, Ext.refl _ _, rfl⟩
        · -- op 10
          intro jnk vals lo hi w66 hE0 hd
          have hS := hS.step hE0
          refine r_buildSlice hS us_26 sz_3 z_3 rfl rfl rfl rfl rfl ?_
          intro b82 w67 hS hE hB82
          refine wpl_end ?_
          exact ⟨rfl, hE.of_no, row_build (hS.get (i := 5) rfl) hB82⟩
        · -- op 11
          intro jnk vals lo hi w68 hE0 hd
          have hS := hS.step hE0
          obtain ⟨r10, hv10, hl10, hh10, hr10⟩ := hd 10 (by decide) rfl
          rw [vset_eq hv10]
          refine r_call rfl (c160 _ _ [_] (some ⟨r10, 0, none⟩) 1 1 (cells_row (vs := [_]) hr10 (by simp))) rfl rfl ?_
          rintro _ w70 ⟨rfl, hE⟩
          refine wpl_end ?_
          exact ⟨rfl, hE.of_no, rfl⟩
        · -- op 12
          intro jnk vals lo hi w71 hE0 hd
          have hS := hS.step hE0
          refine r_field rfl fl_99_0 rfl rfl ?_
          refine wpl_end ?_
          exact ⟨rfl, Ext.refl _ _, rfl⟩
        · -- op 13
          intro jnk vals lo hi w72 hE0 hd
          have hS := hS.step hE0
          refine r_field rfl fl_25_4 rfl rfl ?_
          refine wpl_end ?_
          exact ⟨rfl, Ext.refl _ _, rfl⟩
        · -- op 14
          intro jnk vals lo hi w73 hE0 hd
          have hS := hS.step hE0
          refine r_load rfl (ld_bs hS (i := 0) rfl rfl sc_3) rfl rfl ?_
          refine wpl_end ?_
          exact ⟨rfl, Ext.refl _ _, rfl⟩
      · intro φ hφ v lo hi S w1 w2 hEa hEb hSb
        rcases hφ with hφ | ⟨j, hφ⟩ <;> simp at hφ <;> (first | (obtain ⟨_, rfl⟩ := hφ) | (rcases hφ with rfl | rfl) | (rcases hφ with ⟨_, rfl⟩ | ⟨_, rfl⟩) | subst hφ) <;> first | exact mk_stays hEa hEb hSb | exact row_stays hEa hEb hSb
      intro jnk vals lo hi w74 hE0 hsat hdj hbd
      have hS := hS.step hE0
      obtain ⟨r74_10, hv10, hl10, hh10, hr10⟩ := hsat 10 (by decide) rfl
      rw [vset_eq hv10]
      refine r_leq rfl rfl rfl rfl ?_
      refine r_assign (by conv => lhs; whnf) rfl rfl ?_
      refine wpl_nil ?_
      refine thn ?_
      refine ret1 (fun _ _ _ => rfl) (by conv => lhs; whnf) ?_
      refine ⟨congrArg Value.bool ?_, hS.ext⟩
      simp only [HBook.mt]
      simp_all [-List.foldl_cons, -List.foldl_nil]
end Go.Proofs.YtofpabocpcfbfaaDoor

/- Walks: T3. -/
namespace Go.Proofs.YtofpabocpcfbfaaDoor
open Go Go.Proofs K

theorem c76 (w : World) (b : HBook) (A1 A2 : Option Addr) (n1 c1 n2 c2 : Nat) (h1 : RdRow Hank.enc 4 w A1 n1 b.hanks) (h2 : RdRow Horse.enc 3 w A2 n2 b.horses) (hg : GoodB b) (hP : Parts w) : Cv Tryd.prog 76 #[.agg #[.slice A1 n1 c1, .slice A2 n2 c2, .int .i64 b.dark, .int .i64 b.near, .int .i64 b.mat]] w (fun v w' => ∃ m, v = .agg #[.slice A1 n1 c1, .slice A2 n2 c2, .int .i64 b.dark, .int .i64 b.near, .int .i64 b.mat, .map (some m)] ∧ Ext no w w' ∧ Bk w' A1 A2 n1 n2 m b ∧ w.heap.size ≤ m) := by
  refine cv_intro Tryd.func76 rfl rfl Tryd.ntmps76 rfl (by kernel_rfl) ?_
  have hS := St.nil w
  have hl1 := h1.1
  have hg1 := hg.l1
  have hgd := hg.dark
  refine k_seq ?_
  refine k_region ?_
  refine r_boxa hS rfl rfl rfl ?_
  intro b1 w1 hS hE hB1
  refine r_alloc hS z_99 rfl rfl rfl ?_
  intro b2 w2 hS hE hB2
  refine wpl_nil ?_
  refine thn ?_
  refine k_seq ?_
  refine k_region ?_
  refine r_load rfl (ld_ba hS (i := 0) rfl rfl rfl ag_25) rfl rfl ?_
  refine r_makeMap hS rfl rfl ?_
  intro b8 w3 hS hE hB8
  refine r_build z_99 pl_99 rfl rfl rfl ?_
  refine r_alloc hS z_99 rfl rfl rfl ?_
  intro b3 w4 hS hE hB3
  refine r_storea hS (i := 3) rfl rfl rfl sz_99 rfl rfl rfl ?_
  intro w5 hS hE
  refine wpl_nil ?_
  refine thn ?_
  refine k_seq ?_
  refine k_seq ?_
  refine k_region ?_
  refine r_field rfl fl_25_0 rfl rfl ?_
  refine r_load rfl (ld_bs hS (i := 0) rfl rfl sc_22) rfl rfl ?_
  refine r_len rfl sl_22 rfl rfl ?_
  refine r_move (by conv => lhs; whnf) rfl rfl ?_
  refine wpl_nil ?_
  refine thn ?_
  refine k_block ?_
  refine k_loop (ι := Nat) [4, 5, 6, 13, 14, 15, 16, 17, 18, 19, 20, 21, 22, 23, 24, 25, 26, 27, 28, 29, 30, 31, 32, 33, 34, 35, 36, 37, 38, 39, 40, 41] (fun k => [(13, .int .i64 (k : Int))]) (fun k w' => k ≤ n1 ∧ St (bs w) w' [box b1 25 [.slice A1 n1 c1, .slice A2 n2 c2, .int .i64 b.dark, .int .i64 b.near, .int .i64 b.mat], box b2 99 [.slice none 0 0, .slice none 0 0, .int .i64 0, .int .i64 0, .int .i64 0, .map none], mp b8 (shTo b.hanks (b.dark + 1).toNat k), box b3 99 [.slice A1 n1 c1, .slice A2 n2 c2, .int .i64 b.dark, .int .i64 b.near, .int .i64 b.mat, .map (some b8)]]) (fun k => n1 - k) 0 ⟨rfl, trivial⟩ ⟨Nat.zero_le _, hS⟩ ?_
  rintro k j2 w2 ⟨hk0, hS⟩
  refine k_seq ?_
  refine k_region ?_
  refine r_lss rfl rfl rfl rfl ?_
  refine wpl_nil ?_
  refine thn ?_
  refine k_seq ?_
  refine k_cond rfl (fun hc7 => ?_) (fun hc7 => ?_)
  · -- t
    have hc70 := hc7
    (try simp only [decide_eq_true_eq, decide_eq_false_iff_not, Bool.and_eq_true, Bool.and_eq_false_iff, Bool.not_eq_true', Bool.not_eq_false', Int.not_lt, Int.not_le] at hc7)
    have hk : k < n1 := by omega
    obtain ⟨a, hA, hcl⟩ := h1.at (d := Hank0) (k := (k : Int)) (by omega)
    have hq := hg.hank _ (getD_mem (d := Hank0) (k := k) (by omega))
    refine k_skip ?_
    refine thn ?_
    refine k_seq ?_
    refine k_block ?_
    refine k_seq ?_
    refine k_region ?_
    refine r_move (by conv => lhs; whnf) rfl rfl ?_
    refine r_index (congrArg (fun A => Value.slice A n1 c1) hA) rfl sl_22 (by omega) rfl rfl ?_
    refine r_load rfl (ld_ag (hcl.ext hS.ext) ag_42 rfl) rfl rfl ?_
    refine r_alloc hS z_42 rfl rfl rfl ?_
    intro b5 w10 hS hE hB5
    refine r_assign (by conv => lhs; whnf) rfl rfl ?_
    refine r_storea hS (i := 4) rfl rfl rfl sz_42 rfl rfl rfl ?_
    intro w11 hS hE
    refine wpl_nil ?_
    refine thn ?_
    refine k_seq ?_
    refine k_region ?_
    refine r_field rfl fl_25_2 rfl rfl ?_
    refine r_load rfl (ld_bs hS (i := 0) rfl rfl sc_3) rfl rfl ?_
    refine r_add rfl rfl rfl rfl (by omega) ?_
    refine r_move (by conv => lhs; whnf) rfl rfl ?_
    refine wpl_nil ?_
    refine thn ?_
    refine k_block ?_
    refine k_loop (ι := Nat) [6, 21, 22, 23, 24, 25, 26, 27, 28, 29, 30, 31, 32, 33, 34, 35, 36, 37, 38, 39, 40] (fun j => [(21, .int .i64 (j : Int))]) (fun j w' => j ≤ (b.dark + 1).toNat ∧ St (bs w) w' [box b1 25 [.slice A1 n1 c1, .slice A2 n2 c2, .int .i64 b.dark, .int .i64 b.near, .int .i64 b.mat], box b2 99 [.slice none 0 0, .slice none 0 0, .int .i64 0, .int .i64 0, .int .i64 0, .map none], mp b8 (shTo b.hanks (b.dark + 1).toNat k ++ shRow k (b.hanks.getD k Hank0).s j), box b3 99 [.slice A1 n1 c1, .slice A2 n2 c2, .int .i64 b.dark, .int .i64 b.near, .int .i64 b.mat, .map (some b8)], box b5 42 (b.hanks.getD k Hank0).enc]) (fun j => (b.dark + 1).toNat - j) 0 ⟨rfl, trivial⟩ ⟨Nat.zero_le _, (by have h0 : shTo b.hanks (b.dark + 1).toNat k ++ shRow k (b.hanks.getD k Hank0).s 0 = shTo b.hanks (b.dark + 1).toNat k := List.append_nil _; rw [h0]; exact hS)⟩ ?_
    rintro j j3 w3 ⟨hj0, hS⟩
    refine k_seq ?_
    refine k_region ?_
    refine r_lss rfl rfl rfl rfl ?_
    refine wpl_nil ?_
    refine thn ?_
    refine k_seq ?_
    refine k_cond rfl (fun hc13 => ?_) (fun hc13 => ?_)
    · -- t
      have hc130 := hc13
      (try simp only [decide_eq_true_eq, decide_eq_false_iff_not, Bool.and_eq_true, Bool.and_eq_false_iff, Bool.not_eq_true', Bool.not_eq_false', Int.not_lt, Int.not_le] at hc13)
      refine k_skip ?_
      refine thn ?_
      refine k_seq ?_
      refine k_block ?_
      refine k_seq ?_
      refine k_region ?_
      refine r_move (by conv => lhs; whnf) rfl rfl ?_
      refine r_assign (by conv => lhs; whnf) rfl rfl ?_
      refine wpl_nil ?_
      refine thn ?_
      refine k_region ?_
      refine r_field rfl fl_99_1 rfl rfl ?_
      refine r_load rfl (ld_bs hS (i := 3) rfl rfl sc_97) rfl rfl ?_
      refine r_move (by conv => lhs; whnf) rfl rfl ?_
      refine r_move (by conv => lhs; whnf) rfl rfl ?_
      refine r_build z_122 pl_122 rfl rfl rfl ?_
      refine r_field rfl fl_42_1 rfl rfl ?_
      refine r_field rfl fl_35_0 rfl rfl ?_
      refine r_load rfl (ld_bs hS (i := 4) rfl rfl sc_3) rfl rfl ?_
      refine r_move (by conv => lhs; whnf) rfl rfl ?_
      refine r_add rfl rfl rfl rfl (by omega) ?_
      refine r_field rfl fl_42_1 rfl rfl ?_
      refine r_field rfl fl_35_1 rfl rfl ?_
      refine r_load rfl (ld_bs hS (i := 4) rfl rfl sc_3) rfl rfl ?_
      refine r_move (by conv => lhs; whnf) rfl rfl ?_
      refine r_add rfl rfl rfl rfl (by omega) ?_
      refine r_build z_35 pl_35 rfl rfl rfl ?_
      refine r_mapUpdate (i := 2) (k := [_, _]) (v := [_, _]) hS mp_97 ik_122 rfl rfl rfl rfl sh_keys rfl sh_new rfl ?_
      intro w14 hS hE
      rw [List.append_assoc, ← shRow_succ] at hS
      refine wpl_nil ?_
      refine blk_n ?_
      refine thn ?_
      refine k_region ?_
      refine r_add rfl rfl rfl rfl (by omega) ?_
      refine r_move (by conv => lhs; whnf) rfl rfl ?_
      refine wpl_nil ?_
      refine thn ?_
      refine ⟨j + 1, ⟨rfl, trivial⟩, ?_, ?_, ?_, rfl⟩
      · exact ⟨by omega, hS⟩
      · omega
      · (repeat (first | exact Agree.refl _ _ | exact agree_hv rfl (Agree.refl _ _) | refine agree_upd rfl ?_ | refine agree_mkF rfl ?_ | refine agree_hv rfl ?_))
    · -- f
      have hc130 := hc13
      (try simp only [decide_eq_true_eq, decide_eq_false_iff_not, Bool.and_eq_true, Bool.and_eq_false_iff, Bool.not_eq_true', Bool.not_eq_false', Int.not_lt, Int.not_le] at hc13)
      have hj : j = (b.dark + 1).toNat := by omega
      refine k_exit ?_
      refine thn_e ?_
      refine thn_e ?_
      refine blk_e ?_
      refine blk_n ?_
      refine thn ?_
      refine k_region ?_
      refine r_add rfl rfl rfl rfl (by omega) ?_
      refine r_move (by conv => lhs; whnf) rfl rfl ?_
      refine wpl_nil ?_
      refine thn ?_
      refine ⟨k + 1, ⟨rfl, trivial⟩, ?_, ?_, ?_, rfl⟩
      · refine ⟨by omega, ?_⟩
        subst hj
        rw [← shTo_succ] at hS
        exact hS.take 4
      · omega
      · (repeat (first | exact Agree.refl _ _ | exact agree_hv rfl (Agree.refl _ _) | refine agree_upd rfl ?_ | refine agree_mkF rfl ?_ | refine agree_hv rfl ?_))
  · -- f
    have hc70 := hc7
    (try simp only [decide_eq_true_eq, decide_eq_false_iff_not, Bool.and_eq_true, Bool.and_eq_false_iff, Bool.not_eq_true', Bool.not_eq_false', Int.not_lt, Int.not_le] at hc7)
    have hk : k = b.hanks.length := by omega
    refine k_exit ?_
    refine thn_e ?_
    refine thn_e ?_
    refine blk_e ?_
    refine thn ?_
    refine k_seq ?_
    refine k_region ?_
    refine r_load rfl (ld_ba hS (i := 3) rfl rfl rfl ag_99) rfl rfl ?_
    refine r_storea hS (i := 1) rfl rfl rfl sz_99 rfl rfl rfl ?_
    intro w15 hS hE
    refine wpl_nil ?_
    refine thn ?_
    refine retc (fun _ _ _ => rfl) rfl (ld_ba hS (i := 1) rfl rfl rfl ag_99) ?_
    refine ⟨b8, rfl, hS.ext, ⟨h1.ext hS.ext, h2.ext hS.ext, ?_, hg, hP.ext hS.ext⟩, (hS.rng (i := 2) rfl).1⟩
    subst hk
    exact hS.get (i := 2) rfl

theorem c88 (w : World) (b : HBook) (A1 A2 : Option Addr) (n1 c1 n2 c2 m : Nat) (hB : Bk w A1 A2 n1 n2 m b) (i mh th : Int) (hi : 0 ≤ i ∧ i < n2) (hmh : 0 ≤ mh ∧ mh < n1) (hth : 0 ≤ th ∧ th < n1) : Cv Tryd.prog 88 #[.agg #[.slice A1 n1 c1, .slice A2 n2 c2, .int .i64 b.dark, .int .i64 b.near, .int .i64 b.mat, .map (some m)], .int .i64 i, .int .i64 mh, .int .i64 th] w (fun v w' => v = .tuple #[.agg #[.int .i64 (bif b.sure i mh th then mh else 0), .int .i64 (b.dyo i mh th).1], .agg #[.int .i64 (bif b.sure i mh th then th else 0), .int .i64 (b.dyo i mh th).2], .bool (b.sure i mh th)] ∧ Ext no w w') := by
  refine cv_intro Tryd.func88 rfl rfl Tryd.ntmps88 rfl (by kernel_rfl) ?_
  have hl1 := hB.h1.1
  have hl2 := hB.h2.1
  have hg := hB.good
  have hg1 := hg.l1
  have hg2 := hg.l2
  have hgd := hg.dark
  have hgn := hg.near
  have hgm := hg.mat
  have hS := St.nil w
  refine k_seq ?_
  refine k_region ?_
  refine r_boxa hS rfl rfl rfl ?_
  intro b4 w1 hS hE hB4
  refine r_alloc hS z_122 rfl rfl rfl ?_
  intro b8 w2 hS hE hB8
  refine r_alloc hS z_122 rfl rfl rfl ?_
  intro b9 w3 hS hE hB9
  refine r_assign (by conv => lhs; whnf) rfl rfl ?_
  refine wpl_nil ?_
  refine thn ?_
  refine k_seq ?_
  refine k_region ?_
  refine r_load rfl (ld_ba hS (i := 0) rfl rfl rfl ag_99) rfl rfl ?_
  refine r_makeFuncv (v1 := [_]) (v2 := []) ⟨(by conv => lhs; whnf), trivial⟩ trivial rfl rfl ?_
  refine r_assign (by conv => lhs; whnf) rfl rfl ?_
  refine wpl_nil ?_
  refine thn ?_
  refine k_seq ?_
  refine k_seq ?_
  refine k_region ?_
  refine r_field rfl fl_99_0 rfl rfl ?_
  refine r_field rfl fl_25_2 rfl rfl ?_
  refine r_load rfl (ld_bs hS (i := 0) rfl rfl sc_3) rfl rfl ?_
  refine r_add rfl rfl rfl rfl (by omega) ?_
  refine r_move (by conv => lhs; whnf) rfl rfl ?_
  refine wpl_nil ?_
  refine thn ?_
  refine k_block ?_
  refine k_loop (ι := Nat) [10, 12, 13, 20, 21, 22, 23, 24, 25, 26, 27, 28, 29, 30, 31, 32, 33, 34, 35, 36, 37, 38, 39, 40, 41, 42, 43, 44, 45, 46] (fun k => [(20, .int .i64 (k : Int))]) (fun k w' => k ≤ (b.dark + 1).toNat ∧ (List.range k).findSome? (b.dyM i mh th) = none ∧ St (bs w) w' [box b4 99 [.slice A1 n1 c1, .slice A2 n2 c2, .int .i64 b.dark, .int .i64 b.near, .int .i64 b.mat, .map (some m)], box b8 122 [.int .i64 0, .int .i64 0], box b9 122 [.int .i64 0, .int .i64 0]]) (fun k => (b.dark + 1).toNat - k) 0 ⟨rfl, trivial⟩ ⟨Nat.zero_le _, rfl, hS⟩ ?_
  rintro k jn w2 ⟨hk0, hko, hS⟩
  refine k_seq ?_
  refine k_region ?_
  refine r_lss rfl rfl rfl rfl ?_
  refine wpl_nil ?_
  refine thn ?_
  refine k_seq ?_
  refine k_cond rfl (fun hc5 => ?_) (fun hc5 => ?_)
  · -- t
    have hc50 := hc5
    (try simp only [decide_eq_true_eq, decide_eq_false_iff_not, Bool.and_eq_true, Bool.and_eq_false_iff, Bool.not_eq_true', Bool.not_eq_false', Int.not_lt, Int.not_le] at hc5)
    refine k_skip ?_
    refine thn ?_
    refine k_seq ?_
    refine k_block ?_
    refine k_seq ?_
    refine k_region ?_
    refine r_move (by conv => lhs; whnf) rfl rfl ?_
    refine r_assign (by conv => lhs; whnf) rfl rfl ?_
    refine wpl_nil ?_
    refine thn ?_
    refine k_seq ?_
    refine k_region ?_
    refine r_field rfl fl_99_0 rfl rfl ?_
    refine r_field rfl fl_25_2 rfl rfl ?_
    refine r_load rfl (ld_bs hS (i := 0) rfl rfl sc_3) rfl rfl ?_
    refine r_add rfl rfl rfl rfl (by omega) ?_
    refine r_move (by conv => lhs; whnf) rfl rfl ?_
    refine wpl_nil ?_
    refine thn ?_
    refine k_block ?_
    refine k_loop (ι := Nat) [10, 13, 27, 28, 29, 30, 31, 32, 33, 34, 35, 36, 37, 38, 39, 40, 41, 42, 43, 44, 45] (fun j => [(27, .int .i64 (j : Int))]) (fun j w' => j ≤ (b.dark + 1).toNat ∧ (List.range j).findSome? (b.dyT i mh th k) = none ∧ St (bs w) w' [box b4 99 [.slice A1 n1 c1, .slice A2 n2 c2, .int .i64 b.dark, .int .i64 b.near, .int .i64 b.mat, .map (some m)], box b8 122 [.int .i64 0, .int .i64 0], box b9 122 [.int .i64 0, .int .i64 0]]) (fun j => (b.dark + 1).toNat - j) 0 ⟨rfl, trivial⟩ ⟨Nat.zero_le _, rfl, hS⟩ ?_
    rintro j jm w3 ⟨hj0, hji, hS⟩
    refine k_seq ?_
    refine k_region ?_
    refine r_lss rfl rfl rfl rfl ?_
    refine wpl_nil ?_
    refine thn ?_
    refine k_seq ?_
    refine k_cond rfl (fun hc7 => ?_) (fun hc7 => ?_)
    · -- t
      have hc70 := hc7
      (try simp only [decide_eq_true_eq, decide_eq_false_iff_not, Bool.and_eq_true, Bool.and_eq_false_iff, Bool.not_eq_true', Bool.not_eq_false', Int.not_lt, Int.not_le] at hc7)
      refine k_skip ?_
      refine thn ?_
      refine k_seq ?_
      refine k_block ?_
      refine k_seq ?_
      refine k_region ?_
      refine r_move (by conv => lhs; whnf) rfl rfl ?_
      refine r_assign (by conv => lhs; whnf) rfl rfl ?_
      refine wpl_nil ?_
      refine thn ?_
      refine k_seq ?_
      refine k_region ?_
      refine r_move (by conv => lhs; whnf) rfl rfl ?_
      refine r_move (by conv => lhs; whnf) rfl rfl ?_
      refine r_move (by conv => lhs; whnf) rfl rfl ?_
      refine r_move (by conv => lhs; whnf) rfl rfl ?_
      refine r_build z_122 pl_122 rfl rfl rfl ?_
      refine r_move (by conv => lhs; whnf) rfl rfl ?_
      refine r_move (by conv => lhs; whnf) rfl rfl ?_
      refine r_build z_122 pl_122 rfl rfl rfl ?_
      refine r_callv (l1 := [_]) (l2 := []) rfl (c133 _ b A1 A2 n1 c1 n2 c2 m (hB.ext hS.ext) _ _ _ _ _ (by omega) (by omega) (by omega) (by omega) (by omega)) rfl rfl ?_
      rintro _ w8 ⟨rfl, hE⟩
      have hS := hS.step hE
      refine wpl_nil ?_
      refine thn ?_
      refine k_cond rfl (fun hc9 => ?_) (fun hc9 => ?_)
      · -- t
        have hc := hc9
        refine k_seq ?_
        refine k_region ?_
        refine r_move (by conv => lhs; whnf) rfl rfl ?_
        refine r_move (by conv => lhs; whnf) rfl rfl ?_
        refine r_build z_122 pl_122 rfl rfl rfl ?_
        refine r_move (by conv => lhs; whnf) rfl rfl ?_
        refine r_move (by conv => lhs; whnf) rfl rfl ?_
        refine r_build z_122 pl_122 rfl rfl rfl ?_
        refine r_storea hS (i := 1) rfl rfl rfl sz_122 rfl rfl rfl ?_
        intro w10 hS hE
        refine r_storea hS (i := 2) rfl rfl rfl sz_122 rfl rfl rfl ?_
        intro w11 hS hE
        refine r_assign (by conv => lhs; whnf) rfl rfl ?_
        refine wpl_nil ?_
        refine thn ?_
        refine retcct (fun _ _ _ => rfl) rfl (ld_ba hS (i := 1) rfl rfl rfl ag_122) rfl (ld_ba hS (i := 2) rfl rfl rfl ag_122) (by conv => lhs; whnf) ?_
        refine ⟨?_, hS.ext⟩
        have hh : b.dy i mh th = some ((k : Int), (j : Int)) := fs_hit hko (fs_hit hji (by unfold HBook.dyT; rw [hc]; rfl) (by omega)) (by omega)
        rw [show b.sure i mh th = true by (unfold HBook.sure; rw [hh]; rfl), show b.dyo i mh th = ((k : Int), (j : Int)) by (unfold HBook.dyo; rw [hh]; rfl)]
        rfl
      · -- f
        have hc := hc9
        refine k_skip ?_
        refine blk_n ?_
        refine thn ?_
        refine k_region ?_
        refine r_add rfl rfl rfl rfl (by omega) ?_
        refine r_move (by conv => lhs; whnf) rfl rfl ?_
        refine wpl_nil ?_
        refine thn ?_
        refine ⟨j + 1, ⟨rfl, trivial⟩, ?_, ?_, ?_, rfl⟩
        · refine ⟨by omega, ?_, hS⟩
          rw [fs_succ, hji]
          show (b.dyT i mh th k j) = none
          unfold HBook.dyT
          rw [hc]
          rfl
        · omega
        · (repeat (first | exact Agree.refl _ _ | exact agree_hv rfl (Agree.refl _ _) | refine agree_upd rfl ?_ | refine agree_mkF rfl ?_ | refine agree_hv rfl ?_))
    · -- f
      have hc70 := hc7
      (try simp only [decide_eq_true_eq, decide_eq_false_iff_not, Bool.and_eq_true, Bool.and_eq_false_iff, Bool.not_eq_true', Bool.not_eq_false', Int.not_lt, Int.not_le] at hc7)
      have hj : j = (b.dark + 1).toNat := by omega
      refine k_exit ?_
      refine thn_e ?_
      refine thn_e ?_
      refine blk_e ?_
      refine blk_n ?_
      refine thn ?_
      refine k_region ?_
      refine r_add rfl rfl rfl rfl (by omega) ?_
      refine r_move (by conv => lhs; whnf) rfl rfl ?_
      refine wpl_nil ?_
      refine thn ?_
      refine ⟨k + 1, ⟨rfl, trivial⟩, ?_, ?_, ?_, rfl⟩
      · refine ⟨by omega, ?_, hS⟩
        rw [fs_succ, hko]
        show (b.dyM i mh th k) = none
        unfold HBook.dyM
        rw [← hj]
        exact hji
      · omega
      · (repeat (first | exact Agree.refl _ _ | exact agree_hv rfl (Agree.refl _ _) | refine agree_upd rfl ?_ | refine agree_mkF rfl ?_ | refine agree_hv rfl ?_))
  · -- f
    have hc50 := hc5
    (try simp only [decide_eq_true_eq, decide_eq_false_iff_not, Bool.and_eq_true, Bool.and_eq_false_iff, Bool.not_eq_true', Bool.not_eq_false', Int.not_lt, Int.not_le] at hc5)
    have hk : k = (b.dark + 1).toNat := by omega
    refine k_exit ?_
    refine thn_e ?_
    refine thn_e ?_
    refine blk_e ?_
    refine thn ?_
    refine k_seq ?_
    refine k_region ?_
    refine r_build z_122 pl_122 rfl rfl rfl ?_
    refine r_build z_122 pl_122 rfl rfl rfl ?_
    refine r_storea hS (i := 1) rfl rfl rfl sz_122 rfl rfl rfl ?_
    intro w12 hS hE
    refine r_storea hS (i := 2) rfl rfl rfl sz_122 rfl rfl rfl ?_
    intro w13 hS hE
    refine r_assign (by conv => lhs; whnf) rfl rfl ?_
    refine wpl_nil ?_
    refine thn ?_
    refine retcct (fun _ _ _ => rfl) rfl (ld_ba hS (i := 1) rfl rfl rfl ag_122) rfl (ld_ba hS (i := 2) rfl rfl rfl ag_122) (by conv => lhs; whnf) ?_
    refine ⟨?_, hS.ext⟩
    have hh : b.dy i mh th = none := by unfold HBook.dy; rw [← hk]; exact hko
    rw [show b.sure i mh th = false by (unfold HBook.sure; rw [hh]; rfl), show b.dyo i mh th = (0, 0) by (unfold HBook.dyo; rw [hh]; rfl)]
    rfl

theorem c84 (w : World) (b : HBook) (A1 A2 : Option Addr) (n1 c1 n2 c2 m : Nat) (hB : Bk w A1 A2 n1 n2 m b) (i mh th : Int) (hi : 0 ≤ i ∧ i < n2) (hmh : 0 ≤ mh ∧ mh < n1) (hth : 0 ≤ th ∧ th < n1) : Cv Tryd.prog 84 #[.agg #[.slice A1 n1 c1, .slice A2 n2 c2, .int .i64 b.dark, .int .i64 b.near, .int .i64 b.mat, .map (some m)], .int .i64 i, .int .i64 mh, .int .i64 th] w (fun v w' => v = .bool (b.sure i mh th) ∧ Ext no w w') := by
  refine cv_intro Tryd.func84 rfl rfl Tryd.ntmps84 rfl (by kernel_rfl) ?_
  have hl1 := hB.h1.1
  have hl2 := hB.h2.1
  have hg := hB.good
  have hg1 := hg.l1
  have hg2 := hg.l2
  have hgd := hg.dark
  have hgn := hg.near
  have hgm := hg.mat
  have hS := St.nil w
  refine k_seq ?_
  refine k_region ?_
  refine r_boxa hS rfl rfl rfl ?_
  intro b4 w1 hS hE hB4
  refine r_assign (by conv => lhs; whnf) rfl rfl ?_
  refine wpl_nil ?_
  refine thn ?_
  refine k_seq ?_
  refine k_region ?_
  refine r_load rfl (ld_ba hS (i := 0) rfl rfl rfl ag_99) rfl rfl ?_
  refine r_move (by conv => lhs; whnf) rfl rfl ?_
  refine r_move (by conv => lhs; whnf) rfl rfl ?_
  refine r_move (by conv => lhs; whnf) rfl rfl ?_
  refine r_call rfl (c88 _ b A1 A2 n1 c1 n2 c2 m (hB.ext hS.ext) _ _ _ (by omega) (by omega) (by omega)) rfl rfl ?_
  rintro _ w2 ⟨rfl, hE⟩
  have hS := hS.step hE
  refine r_move (by conv => lhs; whnf) rfl rfl ?_
  refine r_extract rfl rfl rfl rfl ?_
  refine r_extract rfl rfl rfl rfl ?_
  refine r_extract rfl rfl rfl rfl ?_
  refine r_alloc hS z_122 rfl rfl rfl ?_
  intro b9 w3 hS hE hB9
  refine r_alloc hS z_122 rfl rfl rfl ?_
  intro b10 w4 hS hE hB10
  refine r_storea hS (i := 1) rfl rfl rfl sz_122 rfl rfl rfl ?_
  intro w5 hS hE
  refine r_storea hS (i := 2) rfl rfl rfl sz_122 rfl rfl rfl ?_
  intro w6 hS hE
  refine r_assign (by conv => lhs; whnf) rfl rfl ?_
  refine wpl_nil ?_
  refine thn ?_
  refine k_seq ?_
  refine k_region ?_
  refine r_move (by conv => lhs; whnf) rfl rfl ?_
  refine r_assign (by conv => lhs; whnf) rfl rfl ?_
  refine wpl_nil ?_
  refine thn ?_
  refine ret1 (fun _ _ _ => rfl) (by conv => lhs; whnf) ?_
  exact ⟨rfl, hS.ext⟩

theorem c75 (w : World) (b : HBook) (A1 A2 : Option Addr) (n1 c1 n2 c2 m : Nat) (hB : Bk w A1 A2 n1 n2 m b) (k : Int) : Cv Tryd.prog 75 #[.agg #[.slice A1 n1 c1, .slice A2 n2 c2, .int .i64 b.dark, .int .i64 b.near, .int .i64 b.mat, .map (some m)], .int .i64 k] w (fun v w' => v = .bool (decide (0 ≤ k) && decide (k ≤ (n1 : Int) - 1)) ∧ Ext no w w') := by
  refine cv_intro Tryd.func75 rfl rfl Tryd.ntmps75 rfl (by kernel_rfl) ?_
  have hl1 := hB.h1.1
  have hl2 := hB.h2.1
  have hg := hB.good
  have hg1 := hg.l1
  have hg2 := hg.l2
  have hgd := hg.dark
  have hgn := hg.near
  have hgm := hg.mat
  have hS := St.nil w
  refine k_seq ?_
  refine k_region ?_
  refine r_boxa hS rfl rfl rfl ?_
  intro b2 w1 hS hE hB2
  refine r_assign (by conv => lhs; whnf) rfl rfl ?_
  refine wpl_nil ?_
  refine thn ?_
  refine k_seq ?_
  refine k_region ?_
  refine r_move (by conv => lhs; whnf) rfl rfl ?_
  refine r_field rfl fl_99_0 rfl rfl ?_
  refine r_field rfl fl_25_0 rfl rfl ?_
  refine r_load rfl (ld_bs hS (i := 0) rfl rfl sc_22) rfl rfl ?_
  refine r_len rfl sl_22 rfl rfl ?_
  refine r_sub rfl rfl rfl rfl (by omega) ?_
  refine r_call rfl (c82 _ _ _ _) rfl rfl ?_
  rintro _ w2 ⟨rfl, hE⟩
  have hS := hS.step hE
  refine r_assign (by conv => lhs; whnf) rfl rfl ?_
  refine wpl_nil ?_
  refine thn ?_
  refine ret1 (fun _ _ _ => rfl) (by conv => lhs; whnf) ?_
  refine ⟨congrArg Value.bool ?_, hS.ext⟩
  rfl

theorem c72 (w : World) : Cv Tryd.prog 72 #[] w (fun v w' => v = .agg #[.func (.func 128) #[] #[]] ∧ Ext no w w') := by
  refine cv_intro Tryd.func72 rfl rfl Tryd.ntmps72 rfl (by kernel_rfl) ?_
  have hS := St.nil w
  refine k_seq ?_
  refine k_region ?_
  refine r_alloc hS z_109 rfl rfl rfl ?_
  intro b0 w1 hS hE hB0
  refine wpl_nil ?_
  refine thn ?_
  refine k_seq ?_
  refine k_region ?_
  refine r_build z_109 pl_109 rfl rfl rfl ?_
  refine r_storea hS (i := 0) rfl rfl rfl sz_109 rfl rfl rfl ?_
  intro w2 hS hE
  refine wpl_nil ?_
  refine thn ?_
  refine retc (fun _ _ _ => rfl) rfl (ld_ba hS (i := 0) rfl rfl rfl ag_109) ?_
  exact ⟨rfl, hS.ext⟩

theorem c73 (w : World) : Cv Tryd.prog 73 #[] w (fun v w' => v = .agg #[.func (.func 129) #[] #[]] ∧ Ext no w w') := by
  refine cv_intro Tryd.func73 rfl rfl Tryd.ntmps73 rfl (by kernel_rfl) ?_
  have hS := St.nil w
  refine k_seq ?_
  refine k_region ?_
  refine r_alloc hS z_109 rfl rfl rfl ?_
  intro b0 w1 hS hE hB0
  refine wpl_nil ?_
  refine thn ?_
  refine k_seq ?_
  refine k_region ?_
  refine r_build z_109 pl_109 rfl rfl rfl ?_
  refine r_storea hS (i := 0) rfl rfl rfl sz_109 rfl rfl rfl ?_
  intro w2 hS hE
  refine wpl_nil ?_
  refine thn ?_
  refine retc (fun _ _ _ => rfl) rfl (ld_ba hS (i := 0) rfl rfl rfl ag_109) ?_
  exact ⟨rfl, hS.ext⟩

theorem c128 (w : World) (lo hi : Int) : Cv Tryd.prog 128 #[.agg #[.int .i64 lo, .int .i64 hi]] w (fun v w' => v = .int .i64 lo ∧ Ext no w w') := by
  refine cv_intro Tryd.func128 rfl rfl Tryd.ntmps128 rfl (by kernel_rfl) ?_
  have hS := St.nil w
  refine k_seq ?_
  refine k_region ?_
  refine r_boxa hS rfl rfl rfl ?_
  intro b1 w1 hS hE hB1
  refine r_assign (by conv => lhs; whnf) rfl rfl ?_
  refine wpl_nil ?_
  refine thn ?_
  refine k_seq ?_
  refine k_region ?_
  refine r_field rfl fl_35_0 rfl rfl ?_
  refine r_load rfl (ld_bs hS (i := 0) rfl rfl sc_3) rfl rfl ?_
  refine r_assign (by conv => lhs; whnf) rfl rfl ?_
  refine wpl_nil ?_
  refine thn ?_
  refine ret1 (fun _ _ _ => rfl) (by conv => lhs; whnf) ?_
  exact ⟨rfl, hS.ext⟩

theorem c129 (w : World) (lo hi : Int) : Cv Tryd.prog 129 #[.agg #[.int .i64 lo, .int .i64 hi]] w (fun v w' => v = .int .i64 hi ∧ Ext no w w') := by
  refine cv_intro Tryd.func129 rfl rfl Tryd.ntmps129 rfl (by kernel_rfl) ?_
  have hS := St.nil w
  refine k_seq ?_
  refine k_region ?_
  refine r_boxa hS rfl rfl rfl ?_
  intro b1 w1 hS hE hB1
  refine r_assign (by conv => lhs; whnf) rfl rfl ?_
  refine wpl_nil ?_
  refine thn ?_
  refine k_seq ?_
  refine k_region ?_
  refine r_field rfl fl_35_1 rfl rfl ?_
  refine r_load rfl (ld_bs hS (i := 0) rfl rfl sc_3) rfl rfl ?_
  refine r_assign (by conv => lhs; whnf) rfl rfl ?_
  refine wpl_nil ?_
  refine thn ?_
  refine ret1 (fun _ _ _ => rfl) (by conv => lhs; whnf) ?_
  exact ⟨rfl, hS.ext⟩

theorem c202 (w : World) (a b c : Int) : Cv Tryd.prog 202 #[.agg #[.int .i64 a, .int .i64 b, .int .i64 c]] w (fun v w' => v = .int .i64 a ∧ Ext no w w') := by
  refine cv_intro Tryd.func202 rfl rfl Tryd.ntmps202 rfl (by kernel_rfl) ?_
  have hS := St.nil w
  refine k_seq ?_
  refine k_region ?_
  refine r_boxa hS rfl rfl rfl ?_
  intro b1 w1 hS hE hB1
  refine r_assign (by conv => lhs; whnf) rfl rfl ?_
  refine wpl_nil ?_
  refine thn ?_
  refine k_seq ?_
  refine k_region ?_
  refine r_field rfl fl_165_0 rfl rfl ?_
  refine r_load rfl (ld_bs hS (i := 0) rfl rfl sc_3) rfl rfl ?_
  refine r_assign (by conv => lhs; whnf) rfl rfl ?_
  refine wpl_nil ?_
  refine thn ?_
  refine ret1 (fun _ _ _ => rfl) (by conv => lhs; whnf) ?_
  exact ⟨rfl, hS.ext⟩

theorem c205 (w : World) (a b c : Int) : Cv Tryd.prog 205 #[.agg #[.int .i64 a, .int .i64 b, .int .i64 c]] w (fun v w' => v = .int .i64 b ∧ Ext no w w') := by
  refine cv_intro Tryd.func205 rfl rfl Tryd.ntmps205 rfl (by kernel_rfl) ?_
  have hS := St.nil w
  refine k_seq ?_
  refine k_region ?_
  refine r_boxa hS rfl rfl rfl ?_
  intro b1 w1 hS hE hB1
  refine r_assign (by conv => lhs; whnf) rfl rfl ?_
  refine wpl_nil ?_
  refine thn ?_
  refine k_seq ?_
  refine k_region ?_
  refine r_field rfl fl_165_1 rfl rfl ?_
  refine r_load rfl (ld_bs hS (i := 0) rfl rfl sc_3) rfl rfl ?_
  refine r_assign (by conv => lhs; whnf) rfl rfl ?_
  refine wpl_nil ?_
  refine thn ?_
  refine ret1 (fun _ _ _ => rfl) (by conv => lhs; whnf) ?_
  exact ⟨rfl, hS.ext⟩
end Go.Proofs.YtofpabocpcfbfaaDoor

/- Walks: T4. -/
namespace Go.Proofs.YtofpabocpcfbfaaDoor
open Go Go.Proofs K

theorem cpart (w : World) (n : Nat) (a b c : Int) : Cv Tryd.prog (pq n) #[.agg #[.int .i64 a, .int .i64 b, .int .i64 c]] w (fun v w' => v = .int .i64 (bif n % 2 == 0 then a else b) ∧ Ext no w w') := by
  unfold pq
  cases (n % 2 == 0) with
  | true => exact c202 w a b c
  | false => exact c205 w a b c

theorem cend (w : World) (up : Bool) (lo hi : Int) : Cv Tryd.prog (bif up then 129 else 128) #[.agg #[.int .i64 lo, .int .i64 hi]] w (fun v w' => v = .int .i64 (bif up then hi else lo) ∧ Ext no w w') := by
  cases up with
  | true => exact c129 w lo hi
  | false => exact c128 w lo hi

theorem c127 (w : World) : Cv Tryd.prog 127 #[] w (fun v w' => v = .agg #[.int .i64 0, .int .i64 0, .int .i64 0, .int .i64 0, .int .i64 0] ∧ Ext no w w') := by
  refine cv_intro Tryd.func127 rfl rfl Tryd.ntmps127 rfl (by kernel_rfl) ?_
  have hS := St.nil w
  refine k_seq ?_
  refine k_region ?_
  refine r_alloc hS z_104 rfl rfl rfl ?_
  intro b0 w1 hS hE hB0
  refine wpl_nil ?_
  refine thn ?_
  refine k_seq ?_
  refine k_region ?_
  refine r_alloc hS z_104 rfl rfl rfl ?_
  intro b1 w2 hS hE hB1
  refine wpl_nil ?_
  refine thn ?_
  refine k_seq ?_
  refine k_region ?_
  refine r_load rfl (ld_ba hS (i := 1) rfl rfl rfl ag_104) rfl rfl ?_
  refine r_storea hS (i := 0) rfl rfl rfl sz_104 rfl rfl rfl ?_
  intro w3 hS hE
  refine wpl_nil ?_
  refine thn ?_
  refine retc (fun _ _ _ => rfl) rfl (ld_ba hS (i := 0) rfl rfl rfl ag_104) ?_
  exact ⟨rfl, hS.ext⟩

theorem c158 (w : World) (xs : List Int) (A : Option Addr) (n c q : Nat) (l1 l2 : List Value) (p : Int → Bool) (h : RdInts w A n xs) (hf : ∀ x w', Ext no w w' → Cv Tryd.prog q (l1 ++ [iv x] ++ l2).toArray w' (fun v w'' => v = .bool (p x) ∧ Ext no w' w'')) : Cv Tryd.prog 158 #[.slice A n c, .func (.func q) l1.toArray l2.toArray] w (fun v w' => ∃ r : Int, v = .int .i64 r ∧ decide (0 ≤ r) = xs.any p ∧ Ext no w w') := by
  refine cv_intro Tryd.func158 rfl rfl Tryd.ntmps158 rfl (by kernel_rfl) ?_
  have hS := St.nil w
  have hl := h.1
  have hlb := h.2.1
  refine k_seq ?_
  refine k_region ?_
  refine r_assign (by conv => lhs; whnf) rfl rfl ?_
  refine wpl_nil ?_
  refine thn ?_
  refine k_seq ?_
  refine k_seq ?_
  refine k_region ?_
  refine r_move (by conv => lhs; whnf) rfl rfl ?_
  refine r_len rfl sl_26 rfl rfl ?_
  refine r_move (by conv => lhs; whnf) rfl rfl ?_
  refine wpl_nil ?_
  refine thn ?_
  refine k_block ?_
  refine k_loop (ι := Nat) [4, 5, 8, 9, 10, 11, 12, 13, 14, 15, 16, 17, 18] (fun k => [(8, .int .i64 (k : Int))]) (fun k w' => k ≤ n ∧ (xs.take k).any p = false ∧ St (bs w) w' []) (fun k => n - k) 0 ⟨rfl, trivial⟩ ⟨Nat.zero_le _, rfl, hS⟩ ?_
  rintro k j w2 ⟨hk0, hany, hS⟩
  refine k_seq ?_
  refine k_region ?_
  refine r_lss rfl rfl rfl rfl ?_
  refine wpl_nil ?_
  refine thn ?_
  refine k_seq ?_
  refine k_cond rfl (fun hc2 => ?_) (fun hc2 => ?_)
  · -- t
    have hc20 := hc2
    (try simp only [decide_eq_true_eq, decide_eq_false_iff_not, Bool.and_eq_true, Bool.and_eq_false_iff, Bool.not_eq_true', Bool.not_eq_false', Int.not_lt, Int.not_le] at hc2)
    have hk : k < n := by omega
    obtain ⟨a, hA, hcl⟩ := h.nat (d := 0) hk
    refine k_skip ?_
    refine thn ?_
    refine k_seq ?_
    refine k_block ?_
    refine k_seq ?_
    refine k_region ?_
    refine r_move (by conv => lhs; whnf) rfl rfl ?_
    refine r_assign (by conv => lhs; whnf) rfl rfl ?_
    refine wpl_nil ?_
    refine thn ?_
    refine k_seq ?_
    refine k_region ?_
    refine r_move (by conv => lhs; whnf) rfl rfl ?_
    refine r_move (by conv => lhs; whnf) rfl rfl ?_
    refine r_move (by conv => lhs; whnf) rfl rfl ?_
    refine r_index (congrArg (fun A => Value.slice A n c) hA) rfl sl_26 (by omega) rfl rfl ?_
    refine r_load rfl (ld_sc ((hcl.ext hS.ext) 0 _ rfl) sc_3) rfl rfl ?_
    refine r_callv (l1 := l1) (l2 := l2) rfl (hf _ _ hS.ext) rfl rfl ?_
    rintro _ w5 ⟨rfl, hE⟩
    have hS := hS.step hE
    refine wpl_nil ?_
    refine thn ?_
    refine k_cond rfl (fun hc6 => ?_) (fun hc6 => ?_)
    · -- t
      have hcx := hc6
      refine k_seq ?_
      refine k_region ?_
      refine r_move (by conv => lhs; whnf) rfl rfl ?_
      refine r_assign (by conv => lhs; whnf) rfl rfl ?_
      refine wpl_nil ?_
      refine thn ?_
      refine ret1 (fun _ _ _ => rfl) (by conv => lhs; whnf) ?_
      refine ⟨_, rfl, ?_, hS.ext⟩
      have hx : xs.any p = true := any_of_at (d := 0) (by omega) hcx
      rw [hx]; simp
    · -- f
      have hcx := hc6
      refine k_skip ?_
      refine blk_n ?_
      refine thn ?_
      refine k_region ?_
      refine r_add rfl rfl rfl rfl (by omega) ?_
      refine r_move (by conv => lhs; whnf) rfl rfl ?_
      refine wpl_nil ?_
      refine thn ?_
      refine ⟨k + 1, ⟨rfl, trivial⟩, ?_, ?_, ?_, rfl⟩
      · refine ⟨by omega, ?_, hS⟩
        rw [any_take_succ (d := 0) (by omega), hany]
        exact hcx
      · omega
      · (repeat (first | exact Agree.refl _ _ | exact agree_hv rfl (Agree.refl _ _) | refine agree_upd rfl ?_ | refine agree_mkF rfl ?_ | refine agree_hv rfl ?_))
  · -- f
    have hc20 := hc2
    (try simp only [decide_eq_true_eq, decide_eq_false_iff_not, Bool.and_eq_true, Bool.and_eq_false_iff, Bool.not_eq_true', Bool.not_eq_false', Int.not_lt, Int.not_le] at hc2)
    have hk : k = xs.length := by omega
    refine k_exit ?_
    refine thn_e ?_
    refine thn_e ?_
    refine blk_e ?_
    refine thn ?_
    refine k_seq ?_
    refine k_region ?_
    refine r_assign (by conv => lhs; whnf) rfl rfl ?_
    refine wpl_nil ?_
    refine thn ?_
    refine ret1 (fun _ _ _ => rfl) (by conv => lhs; whnf) ?_
    refine ⟨_, rfl, ?_, hS.ext⟩
    rw [show xs.take k = xs from take_all (by omega)] at hany
    rw [hany]; rfl

theorem c125 (w : World) (xs : List Int) (A : Option Addr) (n c q : Nat) (l1 l2 : List Value) (p : Int → Bool) (h : RdInts w A n xs) (hf : ∀ x w', Ext no w w' → Cv Tryd.prog q (l1 ++ [iv x] ++ l2).toArray w' (fun v w'' => v = .bool (p x) ∧ Ext no w' w'')) : Cv Tryd.prog 125 #[.slice A n c, .func (.func q) l1.toArray l2.toArray] w (fun v w' => v = .bool (xs.any p) ∧ Ext no w w') := by
  refine cv_intro Tryd.func125 rfl rfl Tryd.ntmps125 rfl (by kernel_rfl) ?_
  have hS := St.nil w
  refine k_seq ?_
  refine k_region ?_
  refine r_assign (by conv => lhs; whnf) rfl rfl ?_
  refine wpl_nil ?_
  refine thn ?_
  refine k_seq ?_
  refine k_region ?_
  refine r_move (by conv => lhs; whnf) rfl rfl ?_
  refine r_move (by conv => lhs; whnf) rfl rfl ?_
  refine r_call rfl (c158 _ xs _ _ _ _ _ _ p (h.ext hS.ext) (fun x w2 hE2 => hf x w2 (hS.ext.trans hE2))) rfl rfl ?_
  rintro _ w1 ⟨r, rfl, hr, hE⟩
  have hS := hS.step hE
  refine r_geq rfl rfl rfl rfl ?_
  refine r_assign (by conv => lhs; whnf) rfl rfl ?_
  refine wpl_nil ?_
  refine thn ?_
  refine ret1 (fun _ _ _ => rfl) (by conv => lhs; whnf) ?_
  exact ⟨congrArg Value.bool (by rw [← hr]), hS.ext⟩

theorem c126 (w : World) (b : HBook) (A1 A2 : Option Addr) (n1 c1 n2 c2 m : Nat) (hB : Bk w A1 A2 n1 n2 m b) (q : Nat) (hq : w.heap[q]? = some (.cells (List.toArray [.slice A1 n1 c1, .slice A2 n2 c2, .int .i64 b.dark, .int .i64 b.near, .int .i64 b.mat, .map (some m)]) 99 (0, 0))) (x : Int) : Cv Tryd.prog 126 #[.int .i64 x, .pointer (some ⟨q, 0, none⟩)] w (fun v w' => v = .bool (!(decide (0 ≤ x) && decide (x ≤ (n1 : Int) - 1))) ∧ Ext no w w') := by
  refine cv_intro Tryd.func126 rfl rfl Tryd.ntmps126 rfl (by kernel_rfl) ?_
  have hl1 := hB.h1.1
  have hl2 := hB.h2.1
  have hg := hB.good
  have hg1 := hg.l1
  have hg2 := hg.l2
  have hgd := hg.dark
  have hgn := hg.near
  have hgm := hg.mat
  have hS := St.nil w
  refine k_seq ?_
  refine k_region ?_
  refine r_assign (by conv => lhs; whnf) rfl rfl ?_
  refine wpl_nil ?_
  refine thn ?_
  refine k_seq ?_
  refine k_region ?_
  refine r_load rfl (ld_hb (hS.ext.heap hq (fun x => x)) rfl rfl ag_99) rfl rfl ?_
  refine r_move (by conv => lhs; whnf) rfl rfl ?_
  refine r_call rfl (c75 _ b A1 A2 n1 c1 n2 c2 m (hB.ext hS.ext) _) rfl rfl ?_
  rintro _ w2 ⟨rfl, hE⟩
  have hS := hS.step hE
  refine r_not rfl rfl rfl ?_
  refine r_assign (by conv => lhs; whnf) rfl rfl ?_
  refine wpl_nil ?_
  refine thn ?_
  refine ret1 (fun _ _ _ => rfl) (by conv => lhs; whnf) ?_
  exact ⟨rfl, hS.ext⟩

theorem c67 (w : World) (b : HBook) (A1 A2 : Option Addr) (n1 c1 n2 c2 m : Nat) (hB : Bk w A1 A2 n1 n2 m b) (plan : List Int) (Ap : Option Addr) (np cp : Nat) (hp : RdInts w Ap np plan) : Cv Tryd.prog 67 #[.agg #[.slice A1 n1 c1, .slice A2 n2 c2, .int .i64 b.dark, .int .i64 b.near, .int .i64 b.mat, .map (some m)], .slice Ap np cp] w (fun v w' => v = .bool (b.isPlan plan) ∧ Ext no w w') := by
  refine cv_intro Tryd.func67 rfl rfl Tryd.ntmps67 rfl (by kernel_rfl) ?_
  have hl1 := hB.h1.1
  have hl2 := hB.h2.1
  have hg := hB.good
  have hg1 := hg.l1
  have hg2 := hg.l2
  have hgd := hg.dark
  have hgn := hg.near
  have hgm := hg.mat
  have hS := St.nil w
  have hpl := hp.1
  have hpb := hp.2.1
  refine k_seq ?_
  refine k_region ?_
  refine r_boxa hS rfl rfl rfl ?_
  intro b2 w1 hS hE hB2
  refine r_assign (by conv => lhs; whnf) rfl rfl ?_
  refine wpl_nil ?_
  refine thn ?_
  refine k_seq ?_
  refine k_region ?_
  refine r_move (by conv => lhs; whnf) rfl rfl ?_
  refine r_len rfl sl_26 rfl rfl ?_
  refine r_field rfl fl_99_0 rfl rfl ?_
  refine r_field rfl fl_25_1 rfl rfl ?_
  refine r_load rfl (ld_bs hS (i := 0) rfl rfl sc_23) rfl rfl ?_
  refine r_len rfl sl_23 rfl rfl ?_
  refine r_mul rfl rfl rfl rfl (by omega) ?_
  refine r_eql rfl rfl rfl rfl ?_
  refine r_moveb rfl rfl rfl (fun hb2 => ?_) (fun hb2 => ?_)
  · -- True
    have hb20 := hb2
    (try simp only [decide_eq_true_eq, decide_eq_false_iff_not, Bool.and_eq_true, Bool.and_eq_false_iff, Bool.not_eq_true', Bool.not_eq_false', Int.not_lt, Int.not_le] at hb2)
    refine r_move (by conv => lhs; whnf) rfl rfl ?_
    refine r_makeFuncv (v1 := []) (v2 := [_]) trivial ⟨(by conv => lhs; whnf), trivial⟩ rfl rfl ?_
    refine r_call rfl (c125 _ plan _ _ _ _ _ _ (fun x => !(decide (0 ≤ x) && decide (x ≤ (n1 : Int) - 1))) (hp.ext hS.ext) (fun x w2 hE2 => c126 w2 b A1 A2 n1 c1 n2 c2 m (hB.ext (hS.ext.trans hE2)) b2 (hE2.heap (hS.get (i := 0) rfl) (fun x => x)) x)) rfl rfl ?_
    rintro _ w3 ⟨rfl, hE⟩
    have hS := hS.step hE
    refine r_not rfl rfl rfl ?_
    refine r_pick_t rfl (by conv => lhs; whnf) rfl rfl ?_
    refine r_assign (by conv => lhs; whnf) rfl rfl ?_
    refine wpl_nil ?_
    refine thn ?_
    refine ret1 (fun _ _ _ => rfl) (by conv => lhs; whnf) ?_
    refine ⟨congrArg Value.bool ?_, hS.ext⟩
    unfold HBook.isPlan
    rw [hl1, hl2, hpl]
    rw [show decide (np = 2 * n2) = true by (simp; omega), Bool.true_and]
    exact any_not
  · -- False
    have hb20 := hb2
    (try simp only [decide_eq_true_eq, decide_eq_false_iff_not, Bool.and_eq_true, Bool.and_eq_false_iff, Bool.not_eq_true', Bool.not_eq_false', Int.not_lt, Int.not_le] at hb2)
    refine r_skip rfl rfl ?_
    refine r_skip rfl rfl ?_
    refine r_skip rfl rfl ?_
    refine r_skip rfl rfl ?_
    refine r_pick_f rfl (by conv => lhs; whnf) rfl rfl ?_
    refine r_assign (by conv => lhs; whnf) rfl rfl ?_
    refine wpl_nil ?_
    refine thn ?_
    refine ret1 (fun _ _ _ => rfl) (by conv => lhs; whnf) ?_
    refine ⟨congrArg Value.bool ?_, hS.ext⟩
    unfold HBook.isPlan
    rw [hl1, hl2, hpl]
    rw [show decide (np = 2 * n2) = false by (simp; omega)]
    rfl

theorem c70 (w : World) (b : HBook) (A1 A2 : Option Addr) (n1 c1 n2 c2 m : Nat) (hB : Bk w A1 A2 n1 n2 m b) (plan : List Int) (Ap : Option Addr) (np cp : Nat) (hp : RdInts w Ap np plan) (hip : b.isPlan plan = true) : Cv Tryd.prog 70 #[.agg #[.slice A1 n1 c1, .slice A2 n2 c2, .int .i64 b.dark, .int .i64 b.near, .int .i64 b.mat, .map (some m)], .slice Ap np cp] w (fun v w' => v = .agg ((b.cutOf plan).map iv).toArray ∧ Ext no w w') := by
  refine cv_intro Tryd.func70 rfl rfl Tryd.ntmps70 rfl (by kernel_rfl) ?_
  have hl1 := hB.h1.1
  have hl2 := hB.h2.1
  have hg := hB.good
  have hg1 := hg.l1
  have hg2 := hg.l2
  have hgd := hg.dark
  have hgn := hg.near
  have hgm := hg.mat
  have hS := St.nil w
  have hpl := hp.1
  have hpb := hp.2.1
  have hil := b.isPlan_len hip
  refine k_seq ?_
  refine k_region ?_
  refine r_boxa hS rfl rfl rfl ?_
  intro b2 w1 hS hE hB2
  refine r_alloc hS z_104 rfl rfl rfl ?_
  intro b4 w2 hS hE hB4
  refine wpl_nil ?_
  refine thn ?_
  refine k_seq ?_
  refine k_region ?_
  refine r_call rfl (c127 _) rfl rfl ?_
  rintro _ w3 ⟨rfl, hE⟩
  have hS := hS.step hE
  refine r_alloc hS z_104 rfl rfl rfl ?_
  intro b5 w4 hS hE hB5
  refine r_storea hS (i := 2) rfl rfl rfl sz_104 rfl rfl rfl ?_
  intro w5 hS hE
  refine wpl_nil ?_
  refine thn ?_
  refine k_seq ?_
  refine k_seq ?_
  refine k_region ?_
  refine r_move (by conv => lhs; whnf) rfl rfl ?_
  refine r_len rfl sl_26 rfl rfl ?_
  refine r_move (by conv => lhs; whnf) rfl rfl ?_
  refine wpl_nil ?_
  refine thn ?_
  refine k_block ?_
  refine k_loop (ι := Nat) [6, 7, 11, 12, 13, 14, 15, 16, 17, 18, 19, 20, 21, 22, 23, 24, 25, 26, 27, 28, 29, 30, 31, 32, 33] (fun n => [(11, .int .i64 (n : Int))]) (fun n w' => n ≤ np ∧ St (bs w) w' [box b2 99 [.slice A1 n1 c1, .slice A2 n2 c2, .int .i64 b.dark, .int .i64 b.near, .int .i64 b.mat, .map (some m)], box b4 104 [.int .i64 0, .int .i64 0, .int .i64 0, .int .i64 0, .int .i64 0], box b5 104 ((b.cutTo plan n).map iv)]) (fun n => np - n) 0 ⟨rfl, trivial⟩ ⟨Nat.zero_le _, hS⟩ ?_
  rintro n j w2 ⟨hk0, hS⟩
  refine k_seq ?_
  refine k_region ?_
  refine r_lss rfl rfl rfl rfl ?_
  refine wpl_nil ?_
  refine thn ?_
  refine k_seq ?_
  refine k_cond rfl (fun hc7 => ?_) (fun hc7 => ?_)
  · -- t
    have hc70 := hc7
    (try simp only [decide_eq_true_eq, decide_eq_false_iff_not, Bool.and_eq_true, Bool.and_eq_false_iff, Bool.not_eq_true', Bool.not_eq_false', Int.not_lt, Int.not_le] at hc7)
    have hk : n < np := by omega
    obtain ⟨ap, hAp, hcp⟩ := hp.nat (d := 0) hk
    have hpx := b.isPlan_at hip (n := n) (by omega)
    obtain ⟨a2, hA2, hc2⟩ : ∃ a, A2 = some a ∧ Cells w (a.add ((((n / 2 : Nat) : Int)).toNat * 3)) (b.horses.getD (n / 2) Horse0).enc := hB.horse (k := ((n / 2 : Nat) : Int)) (by omega)
    have hpb : 1 ≤ (bif n % 2 == 0 then (b.horses.getD (n / 2) Horse0).mane else (b.horses.getD (n / 2) Horse0).tail) ∧ (bif n % 2 == 0 then (b.horses.getD (n / 2) Horse0).mane else (b.horses.getD (n / 2) Horse0).tail) ≤ 30 := b.part_bd hg (by omega)
    have hu := b.cutTo_ok hg (plan := plan) (n := n) (by omega)
    have hub := hu.bd (plan.getD n 0).toNat
    refine k_skip ?_
    refine thn ?_
    refine k_seq ?_
    refine k_block ?_
    refine k_seq ?_
    refine k_region ?_
    refine r_move (by conv => lhs; whnf) rfl rfl ?_
    refine r_index (congrArg (fun A => Value.slice A np cp) hAp) rfl sl_26 (by omega) rfl rfl ?_
    refine r_load rfl (ld_sc ((hcp.ext hS.ext) 0 _ rfl) sc_3) rfl rfl ?_
    refine r_assign (by conv => lhs; whnf) rfl rfl ?_
    refine r_assign (by conv => lhs; whnf) rfl rfl ?_
    refine wpl_nil ?_
    refine thn ?_
    have hSb := hS
    apply k_draw (m := 15) (ss := [.val _, .val _, .val _, .val _, .val _, .val _, .val _, .val _, .val _, .val _, .val _, .val _, .val _, .val _, .val _]) mixed rfl (by kernel_rfl) (by kernel_rfl) rfl rfl rfl
    · refine ⟨?_, ?_, ?_, ?_, ?_, ?_, ?_, ?_, ?_, ?_, ?_, ?_, ?_, ?_, ?_, trivial⟩
      · -- op 0
        intro jnk vals lo hi w10 hE0 hd
        have hS := hS.step hE0
        refine r_move (by conv => lhs; whnf) rfl rfl ?_
        refine wpl_end ?_
        exact ⟨rfl, Ext.refl _ _, rfl⟩
      · -- op 1
        intro jnk vals lo hi w11 hE0 hd
        have hS := hS.step hE0
        refine r_indexa rfl rfl ar_104 (by omega) rfl rfl ?_
        refine wpl_end ?_
        exact ⟨rfl, Ext.refl _ _, rfl⟩
      · -- op 2
        intro jnk vals lo hi w12 hE0 hd
        have hS := hS.step hE0
        refine r_load rfl (ld_arr (u := b.cutTo plan n) (hS.get (i := 2) rfl) sc_3 (by rw [hu.len]; omega)) rfl rfl ?_
        refine wpl_end ?_
        exact ⟨rfl, Ext.refl _ _, rfl⟩
      · -- op 3
        intro jnk vals lo hi w14 hE0 hd
        have hS := hS.step hE0
        refine r_move (by conv => lhs; whnf) rfl rfl ?_
        refine wpl_end ?_
        exact ⟨rfl, Ext.refl _ _, rfl⟩
      · -- op 4
        intro jnk vals lo hi w15 hE0 hd
        have hS := hS.step hE0
        refine r_rem2 rfl rfl rfl rfl ?_
        refine wpl_end ?_
        exact ⟨rfl, Ext.refl _ _, rfl⟩
      · -- op 5
        intro jnk vals lo hi w17 hE0 hd
        have hS := hS.step hE0
        refine r_indexa rfl rfl ar_164 (by omega) rfl rfl ?_
        refine wpl_end ?_
        exact ⟨rfl, Ext.refl _ _, rfl⟩
      · -- op 6
        intro jnk vals lo hi w18 hE0 hd
        have hS := hS.step hE0
        refine r_load rfl (ld_parts (hB.parts.ext hS.ext) sc_163 n) rfl rfl ?_
        refine wpl_end ?_
        exact ⟨rfl, Ext.refl _ _, rfl⟩
      · -- op 7
        intro jnk vals lo hi w20 hE0 hd
        have hS := hS.step hE0
        refine r_field rfl fl_99_0 rfl rfl ?_
        refine wpl_end ?_
        exact ⟨rfl, Ext.refl _ _, rfl⟩
      · -- op 8
        intro jnk vals lo hi w21 hE0 hd
        have hS := hS.step hE0
        refine r_field rfl fl_25_1 rfl rfl ?_
        refine wpl_end ?_
        exact ⟨rfl, Ext.refl _ _, rfl⟩
      · -- op 9
        intro jnk vals lo hi w22 hE0 hd
        have hS := hS.step hE0
        refine r_load rfl (ld_bs hS (i := 0) rfl rfl sc_23) rfl rfl ?_
        refine wpl_end ?_
        exact ⟨rfl, Ext.refl _ _, rfl⟩
      · -- op 10
        intro jnk vals lo hi w23 hE0 hd
        have hS := hS.step hE0
        refine r_move (by conv => lhs; whnf) rfl rfl ?_
        refine wpl_end ?_
        exact ⟨rfl, Ext.refl _ _, rfl⟩
      · -- op 11
        intro jnk vals lo hi w24 hE0 hd
        have hS := hS.step hE0
        refine r_quo2 rfl rfl (by omega) rfl rfl ?_
        refine wpl_end ?_
        exact ⟨rfl, Ext.refl _ _, rfl⟩
      · -- op 12
        intro jnk vals lo hi w26 hE0 hd
        have hS := hS.step hE0
        refine r_index (congrArg (fun A => Value.slice A n2 c2) hA2) rfl sl_23 (by omega) rfl rfl ?_
        refine wpl_end ?_
        exact ⟨rfl, Ext.refl _ _, rfl⟩
      · -- op 13
        intro jnk vals lo hi w28 hE0 hd
        have hS := hS.step hE0
        refine r_load rfl (ld_ag (hc2.ext hS.ext) ag_65 rfl) rfl rfl ?_
        refine wpl_end ?_
        exact ⟨rfl, Ext.refl _ _, rfl⟩
      · -- op 14
        intro jnk vals lo hi w30 hE0 hd
        have hS := hS.step hE0
        refine r_callv (l1 := []) (l2 := []) rfl (cpart _ n _ _ _) rfl rfl ?_
        rintro _ w31 ⟨rfl, hE⟩
        have hS := hS.step hE
        refine wpl_end ?_
        exact ⟨rfl, hE.of_no, rfl⟩
    · intro φ hφ v lo hi S w1 w2 hEa hEb hSb2
      simp at hφ
    intro jnk vals lo hi w32 hE0 hsat hdj hbd
    have hS := hS.step hE0
    refine r_add rfl rfl rfl rfl (by omega) ?_
    refine r_indexa rfl rfl ar_104 (by omega) rfl rfl ?_
    refine r_store1 hS (i := 2) at_arr (by conv => lhs; whnf) rfl rfl sz_3 (by rw [Nat.blt_eq, List.length_map, hu.len]; omega) rfl rfl ?_
    intro w33 hS hE
    rw [set_iv] at hS
    refine wpl_nil ?_
    refine blk_n ?_
    refine thn ?_
    refine k_region ?_
    refine r_add rfl rfl rfl rfl (by omega) ?_
    refine r_move (by conv => lhs; whnf) rfl rfl ?_
    refine wpl_nil ?_
    refine thn ?_
    refine ⟨n + 1, ⟨rfl, trivial⟩, ?_, ?_, ?_, rfl⟩
    · refine ⟨by omega, ?_⟩
      rw [HBook.cutTo_succ]
      exact hS
    · omega
    · (repeat (first | exact Agree.refl _ _ | exact agree_hv rfl (Agree.refl _ _) | refine agree_upd rfl ?_ | refine agree_mkF rfl ?_ | refine agree_hv rfl ?_))
  · -- f
    have hc70 := hc7
    (try simp only [decide_eq_true_eq, decide_eq_false_iff_not, Bool.and_eq_true, Bool.and_eq_false_iff, Bool.not_eq_true', Bool.not_eq_false', Int.not_lt, Int.not_le] at hc7)
    have hk : n = plan.length := by omega
    have hu := b.cutTo_ok hg (plan := plan) (n := n) (by omega)
    refine k_exit ?_
    refine thn_e ?_
    refine thn_e ?_
    refine blk_e ?_
    refine thn ?_
    refine k_seq ?_
    refine k_region ?_
    refine r_load rfl (ld_ba hS (i := 2) rfl (take5 hu.len) (len5 hu.len) ag_104) rfl rfl ?_
    refine r_storeu hS (i := 1) rfl rfl rfl sz_104 hu.len rfl rfl ?_
    intro w36 hS hE
    refine wpl_nil ?_
    refine thn ?_
    refine retc (fun _ _ _ => rfl) rfl (ld_ba hS (i := 1) rfl (take5 hu.len) (len5 hu.len) ag_104) ?_
    exact ⟨by rw [hk]; rfl, hS.ext⟩
end Go.Proofs.YtofpabocpcfbfaaDoor

/- Walks: T5. -/
namespace Go.Proofs.YtofpabocpcfbfaaDoor
open Go Go.Proofs K

theorem c68 (w : World) (b : HBook) (A1 A2 : Option Addr) (n1 c1 n2 c2 m : Nat) (hB : Bk w A1 A2 n1 n2 m b) (plan : List Int) (Ap : Option Addr) (np cp : Nat) (hp : RdInts w Ap np plan) (hip : b.isPlan plan = true) : Cv Tryd.prog 68 #[.agg #[.slice A1 n1 c1, .slice A2 n2 c2, .int .i64 b.dark, .int .i64 b.near, .int .i64 b.mat, .map (some m)], .slice Ap np cp] w (fun v w' => v = .bool (b.works plan) ∧ Ext no w w') := by
  refine cv_intro Tryd.func68 rfl rfl Tryd.ntmps68 rfl (by kernel_rfl) ?_
  have hl1 := hB.h1.1
  have hl2 := hB.h2.1
  have hg := hB.good
  have hg1 := hg.l1
  have hg2 := hg.l2
  have hgd := hg.dark
  have hgn := hg.near
  have hgm := hg.mat
  have hS := St.nil w
  have hpl := hp.1
  have hpb := hp.2.1
  have hil := b.isPlan_len hip
  have hu : UOk (b.cutOf plan) _ := b.cutTo_ok hg (plan := plan) (n := plan.length) (by omega)
  refine k_seq ?_
  refine k_region ?_
  refine r_boxa hS rfl rfl rfl ?_
  intro b2 w1 hS hE hB2
  refine r_assign (by conv => lhs; whnf) rfl rfl ?_
  refine wpl_nil ?_
  refine thn ?_
  refine k_seq ?_
  refine k_region ?_
  refine r_load rfl (ld_ba hS (i := 0) rfl rfl rfl ag_99) rfl rfl ?_
  refine r_move (by conv => lhs; whnf) rfl rfl ?_
  refine r_call rfl (c70 _ b A1 A2 n1 c1 n2 c2 m (hB.ext hS.ext) plan Ap np cp (hp.ext hS.ext) hip) rfl rfl ?_
  rintro _ w2 ⟨rfl, hE⟩
  have hS := hS.step hE
  refine r_alloc hS z_104 rfl rfl rfl ?_
  intro b5 w3 hS hE hB5
  refine r_storeu hS (i := 1) rfl rfl rfl sz_104 hu.len rfl rfl ?_
  intro w5 hS hE
  refine wpl_nil ?_
  refine thn ?_
  refine k_seq ?_
  refine k_seq ?_
  refine k_region ?_
  refine r_field rfl fl_99_0 rfl rfl ?_
  refine r_field rfl fl_25_0 rfl rfl ?_
  refine r_load rfl (ld_bs hS (i := 0) rfl rfl sc_22) rfl rfl ?_
  refine r_len rfl sl_22 rfl rfl ?_
  refine r_move (by conv => lhs; whnf) rfl rfl ?_
  refine wpl_nil ?_
  refine thn ?_
  refine k_block ?_
  refine k_loop (ι := Nat) [4, 6, 7, 16, 17, 18, 19, 20, 21, 22, 23, 24, 25, 26, 27, 28] (fun k => [(16, .int .i64 (k : Int))]) (fun k w' => k ≤ n1 ∧ (List.range k).all (b.fits (b.cutOf plan)) = true ∧ St (bs w) w' [box b2 99 [.slice A1 n1 c1, .slice A2 n2 c2, .int .i64 b.dark, .int .i64 b.near, .int .i64 b.mat, .map (some m)], box b5 104 ((b.cutOf plan).map iv)]) (fun k => n1 - k) 0 ⟨rfl, trivial⟩ ⟨Nat.zero_le _, rfl, hS⟩ ?_
  rintro k j w2 ⟨hk0, hal, hS⟩
  refine k_seq ?_
  refine k_region ?_
  refine r_lss rfl rfl rfl rfl ?_
  refine wpl_nil ?_
  refine thn ?_
  refine k_seq ?_
  refine k_cond rfl (fun hc7 => ?_) (fun hc7 => ?_)
  · -- t
    have hc70 := hc7
    (try simp only [decide_eq_true_eq, decide_eq_false_iff_not, Bool.and_eq_true, Bool.and_eq_false_iff, Bool.not_eq_true', Bool.not_eq_false', Int.not_lt, Int.not_le] at hc7)
    have hk : k < n1 := by omega
    obtain ⟨a1, hA1, hc1⟩ := hB.h1.nat (d := Hank0) hk
    have hq := hg.hank _ (getD_mem (d := Hank0) (k := k) (by omega))
    refine k_skip ?_
    refine thn ?_
    refine k_seq ?_
    refine k_block ?_
    refine k_seq ?_
    refine k_region ?_
    refine r_move (by conv => lhs; whnf) rfl rfl ?_
    refine r_index (congrArg (fun A => Value.slice A n1 c1) hA1) rfl sl_22 (by omega) rfl rfl ?_
    refine r_load rfl (ld_ag (hc1.ext hS.ext) ag_42 rfl) rfl rfl ?_
    refine r_alloc hS z_42 rfl rfl rfl ?_
    intro b7 w10 hS hE hB7
    refine r_assign (by conv => lhs; whnf) rfl rfl ?_
    refine r_storea hS (i := 2) rfl rfl rfl sz_42 rfl rfl rfl ?_
    intro w11 hS hE
    refine wpl_nil ?_
    refine thn ?_
    refine k_seq ?_
    have hSb := hS
    apply k_draw (m := 6) (ss := [.val _, .val _, .val _, .val _, .val _, .val _]) mixed rfl (by kernel_rfl) (by kernel_rfl) rfl rfl rfl
    · refine ⟨?_, ?_, ?_, ?_, ?_, ?_, trivial⟩
      · -- op 0
        intro jnk vals lo hi w12 hE0 hd
        have hS := hS.step hE0
        refine r_move (by conv => lhs; whnf) rfl rfl ?_
        refine wpl_end ?_
        exact ⟨rfl, Ext.refl _ _, rfl⟩
      · -- op 1
        intro jnk vals lo hi w13 hE0 hd
        have hS := hS.step hE0
        refine r_indexa rfl rfl ar_104 (by omega) rfl rfl ?_
        refine wpl_end ?_
        exact ⟨rfl, Ext.refl _ _, rfl⟩
      · -- op 2
        intro jnk vals lo hi w14 hE0 hd
        have hS := hS.step hE0
        refine r_load rfl (ld_arr (u := (b.cutOf plan)) (hS.get (i := 1) rfl) sc_3 (by rw [hu.len]; omega)) rfl rfl ?_
        refine wpl_end ?_
        exact ⟨rfl, Ext.refl _ _, rfl⟩
      · -- op 3
        intro jnk vals lo hi w16 hE0 hd
        have hS := hS.step hE0
        refine r_field rfl fl_42_0 rfl rfl ?_
        refine wpl_end ?_
        exact ⟨rfl, Ext.refl _ _, rfl⟩
      · -- op 4
        intro jnk vals lo hi w17 hE0 hd
        have hS := hS.step hE0
        refine r_field rfl fl_35_0 rfl rfl ?_
        refine wpl_end ?_
        exact ⟨rfl, Ext.refl _ _, rfl⟩
      · -- op 5
        intro jnk vals lo hi w18 hE0 hd
        have hS := hS.step hE0
        refine r_load rfl (ld_bs hS (i := 2) rfl rfl sc_3) rfl rfl ?_
        refine wpl_end ?_
        exact ⟨rfl, Ext.refl _ _, rfl⟩
    · intro φ hφ v lo hi S w1 w2 hEa hEb hSb2
      simp at hφ
    intro jnk vals lo hi w19 hE0 hsat hdj hbd
    have hS := hS.step hE0
    refine r_gtr rfl rfl rfl rfl ?_
    refine wpl_nil ?_
    refine thn ?_
    refine k_cond rfl (fun hc20 => ?_) (fun hc20 => ?_)
    · -- t
      have hcx := hc20
      refine k_seq ?_
      refine k_region ?_
      refine r_assign (by conv => lhs; whnf) rfl rfl ?_
      refine wpl_nil ?_
      refine thn ?_
      refine ret1 (fun _ _ _ => rfl) (by conv => lhs; whnf) ?_
      refine ⟨congrArg Value.bool ?_, hS.ext⟩
      unfold HBook.works
      rw [all_false (p := b.fits (b.cutOf plan)) (k := k) ?_ (by omega)]
      · rfl
      unfold HBook.fits
      simp only [Int.toNat_natCast, decide_eq_false_iff_not, decide_eq_true_eq] at hcx ⊢
      omega
    · -- f
      have hcx := hc20
      refine k_skip ?_
      refine blk_n ?_
      refine thn ?_
      refine k_region ?_
      refine r_add rfl rfl rfl rfl (by omega) ?_
      refine r_move (by conv => lhs; whnf) rfl rfl ?_
      refine wpl_nil ?_
      refine thn ?_
      refine ⟨k + 1, ⟨rfl, trivial⟩, ?_, ?_, ?_, rfl⟩
      · refine ⟨by omega, ?_, hS.take 2⟩
        rw [all_succ, hal]
        show b.fits _ k = true
        unfold HBook.fits
        simp only [Int.toNat_natCast, decide_eq_false_iff_not, decide_eq_true_eq] at hcx ⊢
        omega
      · omega
      · (repeat (first | exact Agree.refl _ _ | exact agree_hv rfl (Agree.refl _ _) | refine agree_upd rfl ?_ | refine agree_mkF rfl ?_ | refine agree_hv rfl ?_))
  · -- f
    have hc70 := hc7
    (try simp only [decide_eq_true_eq, decide_eq_false_iff_not, Bool.and_eq_true, Bool.and_eq_false_iff, Bool.not_eq_true', Bool.not_eq_false', Int.not_lt, Int.not_le] at hc7)
    have hk : k = b.hanks.length := by omega
    refine k_exit ?_
    refine thn_e ?_
    refine thn_e ?_
    refine blk_e ?_
    refine thn ?_
    refine k_seq ?_
    refine k_seq ?_
    refine k_region ?_
    refine r_field rfl fl_99_0 rfl rfl ?_
    refine r_field rfl fl_25_1 rfl rfl ?_
    refine r_load rfl (ld_bs hS (i := 0) rfl rfl sc_23) rfl rfl ?_
    refine r_len rfl sl_23 rfl rfl ?_
    refine r_move (by conv => lhs; whnf) rfl rfl ?_
    refine wpl_nil ?_
    refine thn ?_
    refine k_block ?_
    refine k_loop (ι := Nat) [4, 8, 33, 34, 35, 36, 37, 38, 39, 40, 41, 42, 43, 44, 45, 46, 47, 48, 49, 50, 51] (fun n => [(33, .int .i64 (n : Int))]) (fun n w' => n ≤ n2 ∧ (List.range n).all (b.pair plan) = true ∧ St (bs w) w' [box b2 99 [.slice A1 n1 c1, .slice A2 n2 c2, .int .i64 b.dark, .int .i64 b.near, .int .i64 b.mat, .map (some m)], box b5 104 ((b.cutOf plan).map iv)]) (fun n => n2 - n) 0 ⟨rfl, trivial⟩ ⟨Nat.zero_le _, rfl, hS⟩ ?_
    rintro n jn w3 ⟨hn0, hpl2, hS⟩
    refine k_seq ?_
    refine k_region ?_
    refine r_lss rfl rfl rfl rfl ?_
    refine wpl_nil ?_
    refine thn ?_
    refine k_seq ?_
    refine k_cond rfl (fun hc22 => ?_) (fun hc22 => ?_)
    · -- t
      have hc220 := hc22
      (try simp only [decide_eq_true_eq, decide_eq_false_iff_not, Bool.and_eq_true, Bool.and_eq_false_iff, Bool.not_eq_true', Bool.not_eq_false', Int.not_lt, Int.not_le] at hc22)
      have hk2 : n < n2 := by omega
      obtain ⟨ap, hAp, hcp⟩ := hp.at (d := 0) (k := 2 * (n : Int)) (by omega)
      obtain ⟨aq, hAq, hcq⟩ := hp.at (d := 0) (k := 2 * (n : Int) + 1) (by omega)
      have hpx := b.isPlan_at hip (n := (2 * (n : Int)).toNat) (by omega)
      have hpy := b.isPlan_at hip (n := (2 * (n : Int) + 1).toNat) (by omega)
      refine k_skip ?_
      refine thn ?_
      refine k_seq ?_
      refine k_block ?_
      refine k_seq ?_
      refine k_region ?_
      refine r_move (by conv => lhs; whnf) rfl rfl ?_
      refine r_assign (by conv => lhs; whnf) rfl rfl ?_
      refine wpl_nil ?_
      refine thn ?_
      refine k_seq ?_
      have hSb := hS
      apply k_draw (m := 13) (ss := [.val _, .val _, .val _, .val _, .val _, .val _, .val _, .val _, .val _, .val _, .val _, .val _, .val _]) mixed rfl (by kernel_rfl) (by kernel_rfl) rfl rfl rfl
      · refine ⟨?_, ?_, ?_, ?_, ?_, ?_, ?_, ?_, ?_, ?_, ?_, ?_, ?_, trivial⟩
        · -- op 0
          intro jnk vals lo hi w23 hE0 hd
          have hS := hS.step hE0
          refine r_load rfl (ld_ba hS (i := 0) rfl rfl rfl ag_99) rfl rfl ?_
          refine wpl_end ?_
          exact ⟨rfl, Ext.refl _ _, rfl⟩
        · -- op 1
          intro jnk vals lo hi w24 hE0 hd
          have hS := hS.step hE0
          refine r_move (by conv => lhs; whnf) rfl rfl ?_
          refine wpl_end ?_
          exact ⟨rfl, Ext.refl _ _, rfl⟩
        · -- op 2
          intro jnk vals lo hi w25 hE0 hd
          have hS := hS.step hE0
          refine r_move (by conv => lhs; whnf) rfl rfl ?_
          refine wpl_end ?_
          exact ⟨rfl, Ext.refl _ _, rfl⟩
        · -- op 3
          intro jnk vals lo hi w26 hE0 hd
          have hS := hS.step hE0
          refine r_move (by conv => lhs; whnf) rfl rfl ?_
          refine wpl_end ?_
          exact ⟨rfl, Ext.refl _ _, rfl⟩
        · -- op 4
          intro jnk vals lo hi w27 hE0 hd
          have hS := hS.step hE0
          refine r_mul rfl rfl rfl rfl (by omega) ?_
          refine wpl_end ?_
          exact ⟨rfl, Ext.refl _ _, rfl⟩
        · -- op 5
          intro jnk vals lo hi w28 hE0 hd
          have hS := hS.step hE0
          refine r_index (congrArg (fun A => Value.slice A np cp) hAp) rfl sl_26 (by omega) rfl rfl ?_
          refine wpl_end ?_
          exact ⟨rfl, Ext.refl _ _, rfl⟩
        · -- op 6
          intro jnk vals lo hi w30 hE0 hd
          have hS := hS.step hE0
          refine r_load rfl (ld_sc ((hcp.ext hS.ext) 0 _ rfl) sc_3) rfl rfl ?_
          refine wpl_end ?_
          exact ⟨rfl, Ext.refl _ _, rfl⟩
        · -- op 7
          intro jnk vals lo hi w32 hE0 hd
          have hS := hS.step hE0
          refine r_move (by conv => lhs; whnf) rfl rfl ?_
          refine wpl_end ?_
          exact ⟨rfl, Ext.refl _ _, rfl⟩
        · -- op 8
          intro jnk vals lo hi w33 hE0 hd
          have hS := hS.step hE0
          refine r_move (by conv => lhs; whnf) rfl rfl ?_
          refine wpl_end ?_
          exact ⟨rfl, Ext.refl _ _, rfl⟩
        · -- op 9
          intro jnk vals lo hi w34 hE0 hd
          have hS := hS.step hE0
          refine r_mul rfl rfl rfl rfl (by omega) ?_
          refine wpl_end ?_
          exact ⟨rfl, Ext.refl _ _, rfl⟩
        · -- op 10
          intro jnk vals lo hi w35 hE0 hd
          have hS := hS.step hE0
          refine r_add rfl rfl rfl rfl (by omega) ?_
          refine wpl_end ?_
          exact ⟨rfl, Ext.refl _ _, rfl⟩
        · -- op 11
          intro jnk vals lo hi w36 hE0 hd
          have hS := hS.step hE0
          refine r_index (congrArg (fun A => Value.slice A np cp) hAq) rfl sl_26 (by omega) rfl rfl ?_
          refine wpl_end ?_
          exact ⟨rfl, Ext.refl _ _, rfl⟩
        · -- op 12
          intro jnk vals lo hi w38 hE0 hd
          have hS := hS.step hE0
          refine r_load rfl (ld_sc ((hcq.ext hS.ext) 0 _ rfl) sc_3) rfl rfl ?_
          refine wpl_end ?_
          exact ⟨rfl, Ext.refl _ _, rfl⟩
      · intro φ hφ v lo hi S w1 w2 hEa hEb hSb2
        simp at hφ
      intro jnk vals lo hi w40 hE0 hsat hdj hbd
      have hS := hS.step hE0
      refine r_call rfl (c84 _ b A1 A2 n1 c1 n2 c2 m (hB.ext hS.ext) _ _ _ (by omega) (by omega) (by omega)) rfl rfl ?_
      rintro _ w41 ⟨rfl, hE⟩
      have hS := hS.step hE
      refine r_not rfl rfl rfl ?_
      refine wpl_nil ?_
      refine thn ?_
      refine k_cond rfl (fun hc42 => ?_) (fun hc42 => ?_)
      · -- t
        have hcy := hc42
        refine k_seq ?_
        refine k_region ?_
        refine r_assign (by conv => lhs; whnf) rfl rfl ?_
        refine wpl_nil ?_
        refine thn ?_
        refine ret1 (fun _ _ _ => rfl) (by conv => lhs; whnf) ?_
        refine ⟨congrArg Value.bool ?_, hS.ext⟩
        unfold HBook.works
        rw [all_false (p := b.pair plan) (k := n) ?_ (by omega), Bool.and_false]
        unfold HBook.pair
        simpa using hcy
      · -- f
        have hcy := hc42
        refine k_skip ?_
        refine blk_n ?_
        refine thn ?_
        refine k_region ?_
        refine r_add rfl rfl rfl rfl (by omega) ?_
        refine r_move (by conv => lhs; whnf) rfl rfl ?_
        refine wpl_nil ?_
        refine thn ?_
        refine ⟨n + 1, ⟨rfl, trivial⟩, ?_, ?_, ?_, rfl⟩
        · refine ⟨by omega, ?_, hS⟩
          rw [all_succ, hpl2]
          show b.pair plan n = true
          unfold HBook.pair
          simpa using hcy
        · omega
        · (repeat (first | exact Agree.refl _ _ | exact agree_hv rfl (Agree.refl _ _) | refine agree_upd rfl ?_ | refine agree_mkF rfl ?_ | refine agree_hv rfl ?_))
    · -- f
      have hc220 := hc22
      (try simp only [decide_eq_true_eq, decide_eq_false_iff_not, Bool.and_eq_true, Bool.and_eq_false_iff, Bool.not_eq_true', Bool.not_eq_false', Int.not_lt, Int.not_le] at hc22)
      have hk2 : n = b.horses.length := by omega
      refine k_exit ?_
      refine thn_e ?_
      refine thn_e ?_
      refine blk_e ?_
      refine thn ?_
      refine k_seq ?_
      refine k_region ?_
      refine r_assign (by conv => lhs; whnf) rfl rfl ?_
      refine wpl_nil ?_
      refine thn ?_
      refine ret1 (fun _ _ _ => rfl) (by conv => lhs; whnf) ?_
      refine ⟨congrArg Value.bool ?_, hS.ext⟩
      unfold HBook.works
      rw [← hk, ← hk2, hal, hpl2]
      rfl

theorem c71 (w : World) (b : HBook) (A1 A2 : Option Addr) (n1 c1 n2 c2 m : Nat) (hB : Bk w A1 A2 n1 n2 m b) (u : List Int) (up : Bool) (hu : UOk u 180) : Cv Tryd.prog 71 #[.agg #[.slice A1 n1 c1, .slice A2 n2 c2, .int .i64 b.dark, .int .i64 b.near, .int .i64 b.mat, .map (some m)], .agg (u.map iv).toArray, .agg #[.func (.func (bif up then 129 else 128)) #[] #[]]] w (fun v w' => v = .int .i64 (b.offOf u up) ∧ Ext no w w') := by
  refine cv_intro Tryd.func71 rfl rfl Tryd.ntmps71 rfl (by kernel_rfl) ?_
  have hl1 := hB.h1.1
  have hl2 := hB.h2.1
  have hg := hB.good
  have hg1 := hg.l1
  have hg2 := hg.l2
  have hgd := hg.dark
  have hgn := hg.near
  have hgm := hg.mat
  have hS := St.nil w
  refine k_seq ?_
  refine k_region ?_
  refine r_boxa hS rfl rfl rfl ?_
  intro b3 w1 hS hE hB3
  refine r_boxa hS rfl rfl rfl ?_
  intro b4 w2 hS hE hB4
  refine r_boxa hS rfl rfl rfl ?_
  intro b5 w3 hS hE hB5
  refine r_assign (by conv => lhs; whnf) rfl rfl ?_
  refine wpl_nil ?_
  refine thn ?_
  refine k_seq ?_
  refine k_region ?_
  refine r_assign (by conv => lhs; whnf) rfl rfl ?_
  refine wpl_nil ?_
  refine thn ?_
  refine k_seq ?_
  refine k_seq ?_
  have hSb := hS
  apply k_draw (m := 2) (ss := [.val _, .val _]) mixed rfl (by kernel_rfl) (by kernel_rfl) rfl rfl rfl
  · refine ⟨?_, ?_, trivial⟩
    · -- op 0
      intro jnk vals lo hi w4 hE0 hd
      have hS := hS.step hE0
      refine r_load rfl (ld_ba hS (i := 1) rfl (take5 hu.len) (len5 hu.len) ag_104) rfl rfl ?_
      refine wpl_end ?_
      exact ⟨rfl, Ext.refl _ _, rfl⟩
    · -- op 1
      intro jnk vals lo hi w6 hE0 hd
      have hS := hS.step hE0
      refine r_call rfl (c127 _) rfl rfl ?_
      rintro _ w7 ⟨rfl, hE⟩
      have hS := hS.step hE
      refine wpl_end ?_
      exact ⟨rfl, hE.of_no, rfl⟩
  · intro φ hφ v lo hi S w1 w2 hEa hEb hSb2
    simp at hφ
  intro jnk vals lo hi w8 hE0 hsat hdj hbd
  have hS := hS.step hE0
  refine r_eqla (a := u) (b := zero5) ia_104 eg_104 rfl rfl hu.len rfl rfl rfl ?_
  refine wpl_nil ?_
  refine thn ?_
  refine k_cond rfl (fun hc10 => ?_) (fun hc10 => ?_)
  · -- t
    have hcz := hc10
    refine k_seq ?_
    refine k_region ?_
    refine r_move (by conv => lhs; whnf) rfl rfl ?_
    refine r_assign (by conv => lhs; whnf) rfl rfl ?_
    refine wpl_nil ?_
    refine thn ?_
    refine ret1 (fun _ _ _ => rfl) (by conv => lhs; whnf) ?_
    refine ⟨congrArg iv ?_, hS.ext⟩
    have hz : u = zero5 := of_decide_eq_true hcz
    rw [hz]
    exact HBook.offTo_zero.symm
  · -- f
    have hcz := hc10
    refine k_skip ?_
    refine thn ?_
    refine k_seq ?_
    refine k_seq ?_
    refine k_region ?_
    refine r_field rfl fl_99_0 rfl rfl ?_
    refine r_field rfl fl_25_0 rfl rfl ?_
    refine r_load rfl (ld_bs hS (i := 0) rfl rfl sc_22) rfl rfl ?_
    refine r_len rfl sl_22 rfl rfl ?_
    refine r_move (by conv => lhs; whnf) rfl rfl ?_
    refine wpl_nil ?_
    refine thn ?_
    refine k_block ?_
    refine k_loop (ι := Nat) [7, 8, 9, 18, 19, 20, 21, 22, 23, 24, 25, 26, 27, 28, 29, 30, 31, 32, 33, 34, 35, 36, 37, 38] (fun k => [(7, .int .i64 (b.offTo u up k)), (18, .int .i64 (k : Int))]) (fun k w' => k ≤ n1 ∧ St (bs w) w' [box b3 99 [.slice A1 n1 c1, .slice A2 n2 c2, .int .i64 b.dark, .int .i64 b.near, .int .i64 b.mat, .map (some m)], box b4 104 (u.map iv), box b5 109 [.func (.func (bif up then 129 else 128)) #[] #[]]]) (fun k => n1 - k) 0 ⟨rfl, rfl, trivial⟩ ⟨Nat.zero_le _, hS⟩ ?_
    rintro k j w2 ⟨hk0, hS⟩
    refine k_seq ?_
    refine k_region ?_
    refine r_lss rfl rfl rfl rfl ?_
    refine wpl_nil ?_
    refine thn ?_
    refine k_seq ?_
    refine k_cond rfl (fun hc12 => ?_) (fun hc12 => ?_)
    · -- t
      have hc120 := hc12
      (try simp only [decide_eq_true_eq, decide_eq_false_iff_not, Bool.and_eq_true, Bool.and_eq_false_iff, Bool.not_eq_true', Bool.not_eq_false', Int.not_lt, Int.not_le] at hc12)
      have hk : k < n1 := by omega
      obtain ⟨a1, hA1, hc1⟩ := hB.h1.nat (d := Hank0) hk
      have hq := hg.hank _ (getD_mem (d := Hank0) (k := k) (by omega))
      have hub := hu.bd ((k : Int)).toNat
      have hob := b.offTo_bd hg hu (up := up) (k := k) (by omega)
      have hab : 1 ≤ (bif up then (b.hanks.getD k Hank0).w.hi else (b.hanks.getD k Hank0).w.lo) ∧ (bif up then (b.hanks.getD k Hank0).w.hi else (b.hanks.getD k Hank0).w.lo) ≤ 60 := Hank.at_bd hg (by omega)
      refine k_skip ?_
      refine thn ?_
      refine k_seq ?_
      refine k_block ?_
      refine k_seq ?_
      refine k_region ?_
      refine r_move (by conv => lhs; whnf) rfl rfl ?_
      refine r_index (congrArg (fun A => Value.slice A n1 c1) hA1) rfl sl_22 (by omega) rfl rfl ?_
      refine r_load rfl (ld_ag (hc1.ext hS.ext) ag_42 rfl) rfl rfl ?_
      refine r_alloc hS z_42 rfl rfl rfl ?_
      intro b9 w15 hS hE hB9
      refine r_assign (by conv => lhs; whnf) rfl rfl ?_
      refine r_storea hS (i := 3) rfl rfl rfl sz_42 rfl rfl rfl ?_
      intro w16 hS hE
      refine wpl_nil ?_
      refine thn ?_
      refine k_seq ?_
      refine k_region ?_
      refine r_move (by conv => lhs; whnf) rfl rfl ?_
      refine r_indexa rfl rfl ar_104 (by omega) rfl rfl ?_
      refine r_load rfl (ld_arr (u := u) (hS.get (i := 1) rfl) sc_3 (by rw [hu.len]; omega)) rfl rfl ?_
      refine r_gtr rfl rfl rfl rfl ?_
      refine wpl_nil ?_
      refine thn ?_
      refine k_cond rfl (fun hc18 => ?_) (fun hc18 => ?_)
      · -- t
        have hcx : decide (0 < u.getD k 0) = _ := hc18
        have hSb := hS
        apply k_draw (m := 10) (ss := [.val _, .val _, .val _, .val _, .val _, .val _, .val _, .val _, .val _, .val _]) mixed rfl (by kernel_rfl) (by kernel_rfl) rfl rfl rfl
        · refine ⟨?_, ?_, ?_, ?_, ?_, ?_, ?_, ?_, ?_, ?_, trivial⟩
          · -- op 0
            intro jnk vals lo hi w19 hE0 hd
            have hS := hS.step hE0
            refine r_move (by conv => lhs; whnf) rfl rfl ?_
            refine wpl_end ?_
            exact ⟨rfl, Ext.refl _ _, rfl⟩
          · -- op 1
            intro jnk vals lo hi w20 hE0 hd
            have hS := hS.step hE0
            refine r_field rfl fl_109_0 rfl rfl ?_
            refine wpl_end ?_
            exact ⟨rfl, Ext.refl _ _, rfl⟩
          · -- op 2
            intro jnk vals lo hi w21 hE0 hd
            have hS := hS.step hE0
            refine r_load rfl (ld_bs hS (i := 2) rfl rfl sc_107) rfl rfl ?_
            refine wpl_end ?_
            exact ⟨rfl, Ext.refl _ _, rfl⟩
          · -- op 3
            intro jnk vals lo hi w22 hE0 hd
            have hS := hS.step hE0
            refine r_field rfl fl_42_0 rfl rfl ?_
            refine wpl_end ?_
            exact ⟨rfl, Ext.refl _ _, rfl⟩
          · -- op 4
            intro jnk vals lo hi w23 hE0 hd
            have hS := hS.step hE0
            refine r_load rfl (ld_ba hS (i := 3) rfl rfl rfl ag_35) rfl rfl ?_
            refine wpl_end ?_
            exact ⟨rfl, Ext.refl _ _, rfl⟩
          · -- op 5
            intro jnk vals lo hi w24 hE0 hd
            have hS := hS.step hE0
            refine r_callv (l1 := []) (l2 := []) rfl (cend _ up _ _) rfl rfl ?_
            rintro _ w25 ⟨rfl, hE⟩
            have hS := hS.step hE
            refine wpl_end ?_
            exact ⟨rfl, hE.of_no, rfl⟩
          · -- op 6
            intro jnk vals lo hi w26 hE0 hd
            have hS := hS.step hE0
            refine r_move (by conv => lhs; whnf) rfl rfl ?_
            refine wpl_end ?_
            exact ⟨rfl, Ext.refl _ _, rfl⟩
          · -- op 7
            intro jnk vals lo hi w27 hE0 hd
            have hS := hS.step hE0
            refine r_indexa rfl rfl ar_104 (by omega) rfl rfl ?_
            refine wpl_end ?_
            exact ⟨rfl, Ext.refl _ _, rfl⟩
          · -- op 8
            intro jnk vals lo hi w28 hE0 hd
            have hS := hS.step hE0
            refine r_load rfl (ld_arr (u := u) (hS.get (i := 1) rfl) sc_3 (by rw [hu.len]; omega)) rfl rfl ?_
            refine wpl_end ?_
            exact ⟨rfl, Ext.refl _ _, rfl⟩
          · -- op 9
            intro jnk vals lo hi w30 hE0 hd
            have hS := hS.step hE0
            refine r_sub rfl rfl rfl rfl (by omega) ?_
            refine wpl_end ?_
            exact ⟨rfl, Ext.refl _ _, rfl⟩
        · intro φ hφ v lo hi S w1 w2 hEa hEb hSb2
          simp at hφ
        intro jnk vals lo hi w31 hE0 hsat hdj hbd
        have hS := hS.step hE0
        refine r_add rfl rfl rfl rfl (by omega) ?_
        refine r_assign (by conv => lhs; whnf) rfl rfl ?_
        refine wpl_nil ?_
        refine blk_n ?_
        refine thn ?_
        refine k_region ?_
        refine r_add rfl rfl rfl rfl (by omega) ?_
        refine r_move (by conv => lhs; whnf) rfl rfl ?_
        refine wpl_nil ?_
        refine thn ?_
        refine ⟨k + 1, ⟨(by refine congrArg iv ?_; rw [HBook.offTo_succ, hcx]; rfl), rfl, trivial⟩, ?_, ?_, ?_, rfl⟩
        · exact ⟨by omega, hS.take 3⟩
        · omega
        · (repeat (first | exact Agree.refl _ _ | exact agree_hv rfl (Agree.refl _ _) | refine agree_upd rfl ?_ | refine agree_mkF rfl ?_ | refine agree_hv rfl ?_))
      · -- f
        have hcx : decide (0 < u.getD k 0) = _ := hc18
        refine k_skip ?_
        refine blk_n ?_
        refine thn ?_
        refine k_region ?_
        refine r_add rfl rfl rfl rfl (by omega) ?_
        refine r_move (by conv => lhs; whnf) rfl rfl ?_
        refine wpl_nil ?_
        refine thn ?_
        refine ⟨k + 1, ⟨(by refine congrArg iv ?_; rw [HBook.offTo_succ, hcx]; rfl), rfl, trivial⟩, ?_, ?_, ?_, rfl⟩
        · exact ⟨by omega, hS.take 3⟩
        · omega
        · (repeat (first | exact Agree.refl _ _ | exact agree_hv rfl (Agree.refl _ _) | refine agree_upd rfl ?_ | refine agree_mkF rfl ?_ | refine agree_hv rfl ?_))
    · -- f
      have hc120 := hc12
      (try simp only [decide_eq_true_eq, decide_eq_false_iff_not, Bool.and_eq_true, Bool.and_eq_false_iff, Bool.not_eq_true', Bool.not_eq_false', Int.not_lt, Int.not_le] at hc12)
      have hk : k = b.hanks.length := by omega
      refine k_exit ?_
      refine thn_e ?_
      refine thn_e ?_
      refine blk_e ?_
      refine thn ?_
      refine k_seq ?_
      refine k_region ?_
      refine r_move (by conv => lhs; whnf) rfl rfl ?_
      refine r_assign (by conv => lhs; whnf) rfl rfl ?_
      refine wpl_nil ?_
      refine thn ?_
      refine ret1 (fun _ _ _ => rfl) (by conv => lhs; whnf) ?_
      refine ⟨congrArg iv ?_, hS.ext⟩
      rw [hk]
      rfl
end Go.Proofs.YtofpabocpcfbfaaDoor

/- Walks: T6. -/
namespace Go.Proofs.YtofpabocpcfbfaaDoor
open Go Go.Proofs K

theorem c132 (b : HBook) (up : Bool) (A1 A2 : Option Addr) (n1 c1 n2 c2 m x3 x4 x5 l y4 y5 : Nat) (J Jx : List (List Int × List Int) → (Nat → Prop) → World → Prop) (W : World) (items : List (List Int × List Int)) (hstJ : ∀ pre O w w', Ext no w w' → J pre O w → J pre O w') (hown : ∀ pre O w z, J pre O w → O z → ¬ (datP b up A1 A2 n1 c1 n2 c2 m x3 x4 x5).fp z ∧ z < w.heap.size) (hWd : ∀ z, (datP b up A1 A2 n1 c1 n2 c2 m x3 x4 x5).fp z → z < W.heap.size) (hY : ∀ pre x args it O w, (pre ++ [x]) <+: items → J pre O w → EnP x args it → it.ok w → (∀ z, it.fp z → ¬ O z ∧ W.heap.size ≤ z ∧ z < w.heap.size) → W.heap.size ≤ w.heap.size → YieldOk Tryd.prog l args w (fun bb w' => ∃ O', (∀ z, O' z → O z ∨ w.heap.size ≤ z ∨ it.fp z) ∧ Ext (fun z => O z ∨ it.fp z) w w' ∧ (bif bb then J (pre ++ [x]) O' w' else Jx (pre ++ [x]) O' w'))) (r : Nat) (ih : ∀ q, r = q + 1 → CutOk Tryd.prog b up A1 A2 n1 c1 n2 c2 m x3 x4 x5 l y4 y5 J Jx W items q) : CutOk Tryd.prog b up A1 A2 n1 c1 n2 c2 m x3 x4 x5 l y4 y5 J Jx W items r := by
  intro plan u pre O w a c hr hpe hu hpre hJ hdat hy4 hy5 hn4 hn5 hWw hrow hrf
  refine cv_intro Tryd.func132 rfl rfl Tryd.ntmps132 rfl (by kernel_rfl) ?_
  have hdd : ∀ z, (datP b up A1 A2 n1 c1 n2 c2 m x3 x4 x5).fp z → ¬ O z ∧ z < w.heap.size := fun z hz => ⟨fun h => (hown _ _ _ _ hJ h).1 hz, Nat.lt_of_lt_of_le (hWd z hz) hWw⟩
  obtain ⟨hB, hx3, hx4, hx5⟩ := id hdat
  have hy40 := hy4
  have hy50 := hy5
  have hl1 := hB.h1.1
  have hl2 := hB.h2.1
  have hg := hB.good
  have hg1 := hg.l1
  have hg2 := hg.l2
  have hgd := hg.dark
  have hgn := hg.near
  have hgm := hg.mat
  have hS := St.nil w
  refine k_seq ?_
  refine k_region ?_
  refine r_boxa hS rfl rfl rfl ?_
  intro b8 w1 hS hE hB8
  refine r_assign (by conv => lhs; whnf) rfl rfl ?_
  refine wpl_nil ?_
  refine thn ?_
  refine k_scope ?_
  refine k_seq ?_
  refine k_region ?_
  refine r_move (by conv => lhs; whnf) rfl rfl ?_
  refine r_len rfl sl_26 rfl rfl ?_
  refine r_assign (by conv => lhs; whnf) rfl rfl ?_
  refine wpl_nil ?_
  refine thn ?_
  refine k_seq ?_
  refine k_seq ?_
  refine k_region ?_
  refine r_move (by conv => lhs; whnf) rfl rfl ?_
  refine r_field rfl fl_99_0 rfl rfl ?_
  refine r_field rfl fl_25_1 rfl rfl ?_
  refine r_load rfl (ld_hs (hS.ext.heap hx3 (fun x => x)) rfl sc_23) rfl rfl ?_
  refine r_len rfl sl_23 rfl rfl ?_
  refine r_mul rfl rfl rfl rfl (by omega) ?_
  refine r_eql rfl rfl rfl rfl ?_
  refine wpl_nil ?_
  refine thn ?_
  refine k_cond rfl (fun hc2 => ?_) (fun hc2 => ?_)
  · -- t
    have hc20 := hc2
    (try simp only [decide_eq_true_eq, decide_eq_false_iff_not, Bool.and_eq_true, Bool.and_eq_false_iff, Bool.not_eq_true', Bool.not_eq_false', Int.not_lt, Int.not_le] at hc2)
    obtain rfl : r = 0 := by omega
    refine k_seq ?_
    refine k_region ?_
    refine r_load rfl (ld_hs (hS.ext.heap hy4 (fun x => x)) rfl sc_166) rfl rfl ?_
    refine r_move (by conv => lhs; whnf) rfl rfl ?_
    refine r_load rfl (ld_ba hS (i := 0) rfl (take5 hu.len) (len5 hu.len) ag_104) rfl rfl ?_
    refine r_yield (l := l) rfl (hY pre (plan, u) _ (row 3 1 a plan.length c (plan.map iv)) O _ hpre (hstJ _ _ _ _ hS.e hJ) ⟨a, c, rfl, rfl⟩ ((row 3 1 a plan.length c (plan.map iv)).loc w _ (fun z hz => hS.e.block z (hrf z hz).2.2 (fun x => x)) hrow) (fun z hz => ⟨(hrf z hz).1, (hrf z hz).2.1, Nat.lt_of_lt_of_le (hrf z hz).2.2 hS.e.size⟩) (Nat.le_trans hWw hS.e.size)) rfl rfl ?_
    rintro bb w4 ⟨O2, hO2, hE2, hJ2⟩
    refine r_assign (by conv => lhs; whnf) rfl rfl ?_
    refine wpl_nil ?_
    refine thn ?_
    refine ret1 (fun _ _ _ => rfl) (by conv => lhs; whnf) ?_
    refine ⟨O2, bb, rfl, ?_, ?_, ?_⟩
    · exact (hS.e.mono (S' := fun z => O z ∨ a = some ⟨z, 0, none⟩) (fun _ x => x.elim)).trans hE2
    · intro z hz
      rcases hO2 z hz with h | h | h
      · exact .inl h
      · exact .inr (.inl (Nat.le_trans hS.e.size h))
      · exact .inr (.inr h)
    · cases bb with
      | true => exact hJ2
      | false => exact ⟨_, hpre, hJ2⟩
  · -- f
    have hc20 := hc2
    (try simp only [decide_eq_true_eq, decide_eq_false_iff_not, Bool.and_eq_true, Bool.and_eq_false_iff, Bool.not_eq_true', Bool.not_eq_false', Int.not_lt, Int.not_le] at hc2)
    have hr0 : r ≠ 0 := by omega
    obtain ⟨r, rfl⟩ : ∃ q, r = q + 1 := ⟨r - 1, by omega⟩
    have ih := ih r rfl
    have hn8 : ¬ O b8 := fun h => by have := (hown _ _ _ _ hJ h).2; omega
    have hpb : 1 ≤ (bif plan.length % 2 == 0 then (b.horses.getD (plan.length / 2) Horse0).mane else (b.horses.getD (plan.length / 2) Horse0).tail) ∧ (bif plan.length % 2 == 0 then (b.horses.getD (plan.length / 2) Horse0).mane else (b.horses.getD (plan.length / 2) Horse0).tail) ≤ 30 := b.part_bd hg (by omega)
    have hpb0 : 0 ≤ b.part plan.length ∧ b.part plan.length ≤ 30 := by have := b.part_bd hg (n := plan.length) (by omega); omega
    obtain ⟨a2, hA2, hc2⟩ : ∃ a, A2 = some a ∧ Cells w (a.add ((((plan.length / 2 : Nat) : Int)).toNat * 3)) (b.horses.getD (plan.length / 2) Horse0).enc := hB.horse (k := ((plan.length / 2 : Nat) : Int)) (by omega)
    refine k_skip ?_
    refine thn ?_
    refine k_seq ?_
    have hSb := hS
    apply k_draw (m := 11) (ss := [.val _, .val _, .val _, .val _, .val _, .val _, .val _, .val _, .val _, .val _, .val _]) mixed rfl (by kernel_rfl) (by kernel_rfl) rfl rfl rfl
    · refine ⟨?_, ?_, ?_, ?_, ?_, ?_, ?_, ?_, ?_, ?_, ?_, trivial⟩
      · -- op 0
        intro jnk vals lo hi w5 hE0 hd
        have hS := hS.step hE0
        refine r_move (by conv => lhs; whnf) rfl rfl ?_
        refine wpl_end ?_
        exact ⟨rfl, Ext.refl _ _, rfl⟩
      · -- op 1
        intro jnk vals lo hi w6 hE0 hd
        have hS := hS.step hE0
        refine r_rem2 rfl rfl rfl rfl ?_
        refine wpl_end ?_
        exact ⟨rfl, Ext.refl _ _, rfl⟩
      · -- op 2
        intro jnk vals lo hi w8 hE0 hd
        have hS := hS.step hE0
        refine r_indexa rfl rfl ar_164 (by omega) rfl rfl ?_
        refine wpl_end ?_
        exact ⟨rfl, Ext.refl _ _, rfl⟩
      · -- op 3
        intro jnk vals lo hi w9 hE0 hd
        have hS := hS.step hE0
        refine r_load rfl (ld_parts (hB.parts.ext hS.e) sc_163 plan.length) rfl rfl ?_
        refine wpl_end ?_
        exact ⟨rfl, Ext.refl _ _, rfl⟩
      · -- op 4
        intro jnk vals lo hi w11 hE0 hd
        have hS := hS.step hE0
        refine r_field rfl fl_99_0 rfl rfl ?_
        refine wpl_end ?_
        exact ⟨rfl, Ext.refl _ _, rfl⟩
      · -- op 5
        intro jnk vals lo hi w12 hE0 hd
        have hS := hS.step hE0
        refine r_field rfl fl_25_1 rfl rfl ?_
        refine wpl_end ?_
        exact ⟨rfl, Ext.refl _ _, rfl⟩
      · -- op 6
        intro jnk vals lo hi w13 hE0 hd
        have hS := hS.step hE0
        refine r_load rfl (ld_hs (hS.ext.heap hx3 (fun x => x)) rfl sc_23) rfl rfl ?_
        refine wpl_end ?_
        exact ⟨rfl, Ext.refl _ _, rfl⟩
      · -- op 7
        intro jnk vals lo hi w14 hE0 hd
        have hS := hS.step hE0
        refine r_move (by conv => lhs; whnf) rfl rfl ?_
        refine wpl_end ?_
        exact ⟨rfl, Ext.refl _ _, rfl⟩
      · -- op 8
        intro jnk vals lo hi w15 hE0 hd
        have hS := hS.step hE0
        refine r_quo2 rfl rfl (by omega) rfl rfl ?_
        refine wpl_end ?_
        exact ⟨rfl, Ext.refl _ _, rfl⟩
      · -- op 9
        intro jnk vals lo hi w17 hE0 hd
        have hS := hS.step hE0
        refine r_index (congrArg (fun A => Value.slice A n2 c2) hA2) rfl sl_23 (by omega) rfl rfl ?_
        refine wpl_end ?_
        exact ⟨rfl, Ext.refl _ _, rfl⟩
      · -- op 10
        intro jnk vals lo hi w19 hE0 hd
        have hS := hS.step hE0
        refine r_load rfl (ld_ag (hc2.ext hS.e) ag_65 rfl) rfl rfl ?_
        refine wpl_end ?_
        exact ⟨rfl, Ext.refl _ _, rfl⟩
    · intro φ hφ v lo hi S w1 w2 hEa hEb hSb2
      simp at hφ
    intro jnk vals lo hi w21 hE0 hsat hdj hbd
    have hS := hS.step hE0
    refine r_callv (l1 := []) (l2 := []) rfl (cpart _ plan.length _ _ _) rfl rfl ?_
    rintro _ w22 ⟨rfl, hE⟩
    have hS := hS.step hE
    refine r_assign (by conv => lhs; whnf) rfl rfl ?_
    refine wpl_nil ?_
    refine thn ?_
    refine k_seq ?_
    refine k_label ?_
    refine thn ?_
    refine k_seq ?_
    refine k_seq ?_
    refine k_region ?_
    refine r_field rfl fl_99_0 rfl rfl ?_
    refine r_field rfl fl_25_0 rfl rfl ?_
    refine r_load rfl (ld_hs (hS.ext.heap hx3 (fun x => x)) rfl sc_22) rfl rfl ?_
    refine r_len rfl sl_22 rfl rfl ?_
    refine r_move (by conv => lhs; whnf) rfl rfl ?_
    refine wpl_nil ?_
    refine thn ?_
    refine k_block ?_
    refine k_loop (ι := Nat) [9, 12, 13, 14, 44, 45, 46, 47, 48, 49, 50, 51, 52, 53, 54, 55, 56, 57, 58, 59, 60, 61, 62, 63, 64, 65, 66, 67, 68, 69, 70, 71, 72, 73, 74, 75, 76, 77, 78, 79, 80, 81, 82, 83, 84, 85, 86, 87, 88, 89, 90, 91, 92, 93, 94, 95, 96] (fun k => [(44, .int .i64 (k : Int))]) (fun k w' => k ≤ n1 ∧ ∃ O1, J (pre ++ (List.range k).flatMap (fun k => bif b.okK up plan u k then b.plansFrom up r (plan ++ [(k : Int)]) (addAt u k (b.part plan.length)) else [])) O1 w' ∧ Ext O w w' ∧ (∀ z, O1 z → O z ∨ w.heap.size ≤ z) ∧ ¬ O1 b8 ∧ w'.heap[b8]? = some (.cells (u.map iv).toArray 104 (0, 0))) (fun k => n1 - k) 0 ⟨rfl, trivial⟩ ⟨Nat.zero_le _, O, (by rw [show (List.range 0).flatMap (fun k => bif b.okK up plan u k then b.plansFrom up r (plan ++ [(k : Int)]) (addAt u k (b.part plan.length)) else []) = [] from rfl, List.append_nil]; exact hstJ _ _ _ _ hS.e hJ), hS.e.of_no, fun z h => .inl h, hn8, hS.get (i := 0) rfl⟩ ?_
    rintro k jn w1 ⟨hk0, O1, hJ1, hE1, hO1, hO18, hb8⟩
    have hwsz : w.heap.size ≤ w1.heap.size := hE1.size
    have hdat1 := dat_stays hdat hE1 hdd
    obtain ⟨hB1, hx3, hx4, hx5⟩ := hdat1
    have hy4 : w1.heap[y4]? = _ := (hE1.block y4 (Array.getElem?_eq_some_iff.1 hy4).1 hn4).trans hy4
    have hy5 : w1.heap[y5]? = _ := (hE1.block y5 (Array.getElem?_eq_some_iff.1 hy5).1 hn5).trans hy5
    have hrow1 : (row 3 1 a plan.length c (plan.map iv)).ok w1 := (row 3 1 a plan.length c (plan.map iv)).loc w w1 (fun z hz => hE1.block z (hrf z hz).2.2 (hrf z hz).1) hrow
    have hpd := row_rd hrow1 (by omega)
    have hS := St.nil w1
    refine k_seq ?_
    refine k_region ?_
    refine r_lss rfl rfl rfl rfl ?_
    refine wpl_nil ?_
    refine thn ?_
    refine k_seq ?_
    refine k_cond rfl (fun hc24 => ?_) (fun hc24 => ?_)
    · -- t
      have hc240 := hc24
      (try simp only [decide_eq_true_eq, decide_eq_false_iff_not, Bool.and_eq_true, Bool.and_eq_false_iff, Bool.not_eq_true', Bool.not_eq_false', Int.not_lt, Int.not_le] at hc24)
      have hk : k < n1 := by omega
      obtain ⟨a1, hA1, hc1⟩ := hB1.h1.nat (d := Hank0) hk
      have hq := hg.hank _ (getD_mem (d := Hank0) (k := k) (by omega))
      have hub := hu.bd ((k : Int)).toNat
      have hu1 : UOk (addAt u k (b.part plan.length)) _ := hu.addAt (k := (k : Int)) hpb0
      have hlen : ((plan.length : Int)).toNat + 1 = (plan ++ [(k : Int)]).length := by simp
      have hmap : plan.map iv ++ [iv (k : Int)] = (plan ++ [(k : Int)]).map iv := by simp
      have hab : 1 ≤ (bif up then (b.hanks.getD k Hank0).w.hi else (b.hanks.getD k Hank0).w.lo) ∧ (bif up then (b.hanks.getD k Hank0).w.hi else (b.hanks.getD k Hank0).w.lo) ≤ 60 := Hank.at_bd hg (by omega)
      refine k_skip ?_
      refine thn ?_
      refine k_seq ?_
      refine k_block ?_
      refine k_seq ?_
      refine k_region ?_
      refine r_move (by conv => lhs; whnf) rfl rfl ?_
      refine r_index (congrArg (fun A => Value.slice A n1 c1) hA1) rfl sl_22 (by omega) rfl rfl ?_
      refine r_load rfl (ld_ag (hc1.ext hS.e) ag_42 rfl) rfl rfl ?_
      refine r_alloc hS z_42 rfl rfl rfl ?_
      intro b13 w27 hS hE hB13
      refine r_assign (by conv => lhs; whnf) rfl rfl ?_
      refine r_storea hS (i := 0) rfl rfl rfl sz_42 rfl rfl rfl ?_
      intro w28 hS hE
      refine wpl_nil ?_
      refine thn ?_
      refine k_seq ?_
      refine k_seq ?_
      cases hX : decide ((bif up then (b.hanks.getD k Hank0).w.hi else (b.hanks.getD k Hank0).w.lo) < u.getD ((k : Int)).toNat 0 + (bif plan.length % 2 == 0 then (b.horses.getD (plan.length / 2) Horse0).mane else (b.horses.getD (plan.length / 2) Horse0).tail)) with
      | true =>
        have hSb := hS
        apply k_draw (m := 25) (ss := [.val _, .val _, .val _, .val _, .val _, .val _, .val _, .val _, .val _, .val _, .val _, .val _, .val _, .val _, .val _, .val _, .val _, .val _, .val _, .val _, .val _, .val _, .val _, .val _, .val _]) mixed rfl (by kernel_rfl) (by kernel_rfl) rfl rfl rfl
        · refine ⟨?_, ?_, ?_, ?_, ?_, ?_, ?_, ?_, ?_, ?_, ?_, ?_, ?_, ?_, ?_, ?_, ?_, ?_, ?_, ?_, ?_, ?_, ?_, ?_, ?_, trivial⟩
          · -- op 0
            intro jnk vals lo hi w29 hE0 hd
            have hS := hS.step hE0
            refine r_move (by conv => lhs; whnf) rfl rfl ?_
            refine wpl_end ?_
            exact ⟨rfl, Ext.refl _ _, rfl⟩
          · -- op 1
            intro jnk vals lo hi w30 hE0 hd
            have hS := hS.step hE0
            refine r_indexa rfl rfl ar_104 (by omega) rfl rfl ?_
            refine wpl_end ?_
            exact ⟨rfl, Ext.refl _ _, rfl⟩
          · -- op 2
            intro jnk vals lo hi w31 hE0 hd
            have hS := hS.step hE0
            refine r_load rfl (ld_arr (u := u) (hS.e.heap hb8 (fun x => x)) sc_3 (by rw [hu.len]; omega)) rfl rfl ?_
            refine wpl_end ?_
            exact ⟨rfl, Ext.refl _ _, rfl⟩
          · -- op 3
            intro jnk vals lo hi w33 hE0 hd
            have hS := hS.step hE0
            refine r_move (by conv => lhs; whnf) rfl rfl ?_
            refine wpl_end ?_
            exact ⟨rfl, Ext.refl _ _, rfl⟩
          · -- op 4
            intro jnk vals lo hi w34 hE0 hd
            have hS := hS.step hE0
            refine r_add rfl rfl rfl rfl (by omega) ?_
            refine wpl_end ?_
            exact ⟨rfl, Ext.refl _ _, rfl⟩
          · -- op 5
            intro jnk vals lo hi w35 hE0 hd
            have hS := hS.step hE0
            refine r_field rfl fl_109_0 rfl rfl ?_
            refine wpl_end ?_
            exact ⟨rfl, Ext.refl _ _, rfl⟩
          · -- op 6
            intro jnk vals lo hi w36 hE0 hd
            have hS := hS.step hE0
            refine r_load rfl (ld_hs (hS.ext.heap hx4 (fun x => x)) rfl sc_107) rfl rfl ?_
            refine wpl_end ?_
            exact ⟨rfl, Ext.refl _ _, rfl⟩
          · -- op 7
            intro jnk vals lo hi w37 hE0 hd
            have hS := hS.step hE0
            refine r_field rfl fl_42_0 rfl rfl ?_
            refine wpl_end ?_
            exact ⟨rfl, Ext.refl _ _, rfl⟩
          · -- op 8
            intro jnk vals lo hi w38 hE0 hd
            have hS := hS.step hE0
            refine r_load rfl (ld_ba hS (i := 0) rfl rfl rfl ag_35) rfl rfl ?_
            refine wpl_end ?_
            exact ⟨rfl, Ext.refl _ _, rfl⟩
          · -- op 9
            intro jnk vals lo hi w39 hE0 hd
            have hS := hS.step hE0
            refine r_callv (l1 := []) (l2 := []) rfl (cend _ up _ _) rfl rfl ?_
            rintro _ w40 ⟨rfl, hE⟩
            have hS := hS.step hE
            refine wpl_end ?_
            exact ⟨rfl, hE.of_no, rfl⟩
          · -- op 10
            intro jnk vals lo hi w41 hE0 hd
            have hS := hS.step hE0
            refine r_gtrv rfl rfl hX rfl rfl ?_
            refine wpl_end ?_
            exact ⟨rfl, Ext.refl _ _, rfl⟩
          · -- op 11
            intro jnk vals lo hi w43 hE0 hd
            have hS := hS.step hE0
            refine r_move (by conv => lhs; whnf) rfl rfl ?_
            refine wpl_end ?_
            exact ⟨rfl, Ext.refl _ _, rfl⟩
          · -- op 12
            intro jnk vals lo hi w44 hE0 hd
            have hS := hS.step hE0
            refine r_skip rfl rfl ?_
            refine wpl_end ?_
            exact ⟨rfl, Ext.refl _ _, rfl⟩
          · -- op 13
            intro jnk vals lo hi w45 hE0 hd
            have hS := hS.step hE0
            refine r_skip rfl rfl ?_
            refine wpl_end ?_
            exact ⟨rfl, Ext.refl _ _, rfl⟩
          · -- op 14
            intro jnk vals lo hi w46 hE0 hd
            have hS := hS.step hE0
            refine r_skip rfl rfl ?_
            refine wpl_end ?_
            exact ⟨rfl, Ext.refl _ _, rfl⟩
          · -- op 15
            intro jnk vals lo hi w47 hE0 hd
            have hS := hS.step hE0
            refine r_skip rfl rfl ?_
            refine wpl_end ?_
            exact ⟨rfl, Ext.refl _ _, rfl⟩
          · -- op 16
            intro jnk vals lo hi w48 hE0 hd
            have hS := hS.step hE0
            refine r_skip rfl rfl ?_
            refine wpl_end ?_
            exact ⟨rfl, Ext.refl _ _, rfl⟩
          · -- op 17
            intro jnk vals lo hi w49 hE0 hd
            have hS := hS.step hE0
            refine r_skip rfl rfl ?_
            refine wpl_end ?_
            exact ⟨rfl, Ext.refl _ _, rfl⟩
          · -- op 18
            intro jnk vals lo hi w50 hE0 hd
            have hS := hS.step hE0
            refine r_skip rfl rfl ?_
            refine wpl_end ?_
            exact ⟨rfl, Ext.refl _ _, rfl⟩
          · -- op 19
            intro jnk vals lo hi w51 hE0 hd
            have hS := hS.step hE0
            refine r_skip rfl rfl ?_
            refine wpl_end ?_
            exact ⟨rfl, Ext.refl _ _, rfl⟩
          · -- op 20
            intro jnk vals lo hi w52 hE0 hd
            have hS := hS.step hE0
            refine r_skip rfl rfl ?_
            refine wpl_end ?_
            exact ⟨rfl, Ext.refl _ _, rfl⟩
          · -- op 21
            intro jnk vals lo hi w53 hE0 hd
            have hS := hS.step hE0
            refine r_skip rfl rfl ?_
            refine wpl_end ?_
            exact ⟨rfl, Ext.refl _ _, rfl⟩
          · -- op 22
            intro jnk vals lo hi w54 hE0 hd
            have hS := hS.step hE0
            refine r_skip rfl rfl ?_
            refine wpl_end ?_
            exact ⟨rfl, Ext.refl _ _, rfl⟩
          · -- op 23
            intro jnk vals lo hi w55 hE0 hd
            have hS := hS.step hE0
            refine r_skip rfl rfl ?_
            refine wpl_end ?_
            exact ⟨rfl, Ext.refl _ _, rfl⟩
          · -- op 24
            intro jnk vals lo hi w56 hE0 hd
            have hS := hS.step hE0
            refine r_skip rfl rfl ?_
            refine wpl_end ?_
            exact ⟨rfl, Ext.refl _ _, rfl⟩
        · intro φ hφ v lo hi S w1 w2 hEa hEb hSb2
          simp at hφ
        intro jnk vals lo hi w57 hE0 hsat hdj hbd
        have hS := hS.step hE0
        refine r_skip rfl rfl ?_
        refine r_skip rfl rfl ?_
        refine r_skip rfl rfl ?_
        refine r_pick_t rfl (by conv => lhs; whnf) rfl rfl ?_
        refine wpl_nil ?_
        refine thn ?_
        refine k_cond_t rfl ?_
        refine k_exit ?_
        refine thn_e ?_
        refine blk_e ?_
        refine thn ?_
        refine k_region ?_
        refine r_add rfl rfl rfl rfl (by omega) ?_
        refine r_move (by conv => lhs; whnf) rfl rfl ?_
        refine wpl_nil ?_
        refine thn ?_
        refine ⟨k + 1, ⟨rfl, trivial⟩, ?_, ?_, ?_, rfl⟩
        · have hok : b.okK up plan u k = false := by unfold HBook.okK; rw [show (decide ((b.hanks.getD k Hank0).at up < u.getD k 0 + b.part plan.length)) = true from hX]; rfl
          refine ⟨by omega, O1, ?_, hE1.trans hS.e.of_no, hO1, hO18, hS.e.heap hb8 (fun x => x)⟩
          rw [fm_succ]
          simp only [hok, cond_false, List.append_nil]
          exact hstJ _ _ _ _ hS.e hJ1
        · omega
        · (repeat (first | exact Agree.refl _ _ | exact agree_hv rfl (Agree.refl _ _) | refine agree_upd rfl ?_ | refine agree_mkF rfl ?_ | refine agree_hv rfl ?_))
      | false =>
        cases hY1 : decide (((plan.length % 2 : Nat) : Int) = 1) with
        | false =>
          have hSb := hS
          apply k_draw (m := 25) (ss := [.val _, .val _, .val _, .val _, .val _, .val _, .val _, .val _, .val _, .val _, .val _, .val _, .val _, .val _, .val _, .val _, .val _, .val _, .val _, .val _, .val _, .val _, .val _, .val _, .val _]) mixed rfl (by kernel_rfl) (by kernel_rfl) rfl rfl rfl
          · refine ⟨?_, ?_, ?_, ?_, ?_, ?_, ?_, ?_, ?_, ?_, ?_, ?_, ?_, ?_, ?_, ?_, ?_, ?_, ?_, ?_, ?_, ?_, ?_, ?_, ?_, trivial⟩
            · -- op 0
              intro jnk vals lo hi w58 hE0 hd
              have hS := hS.step hE0
              refine r_move (by conv => lhs; whnf) rfl rfl ?_
              refine wpl_end ?_
              exact ⟨rfl, Ext.refl _ _, rfl⟩
            · -- op 1
              intro jnk vals lo hi w59 hE0 hd
              have hS := hS.step hE0
              refine r_indexa rfl rfl ar_104 (by omega) rfl rfl ?_
              refine wpl_end ?_
              exact ⟨rfl, Ext.refl _ _, rfl⟩
            · -- op 2
              intro jnk vals lo hi w60 hE0 hd
              have hS := hS.step hE0
              refine r_load rfl (ld_arr (u := u) (hS.e.heap hb8 (fun x => x)) sc_3 (by rw [hu.len]; omega)) rfl rfl ?_
              refine wpl_end ?_
              exact ⟨rfl, Ext.refl _ _, rfl⟩
            · -- op 3
              intro jnk vals lo hi w62 hE0 hd
              have hS := hS.step hE0
              refine r_move (by conv => lhs; whnf) rfl rfl ?_
              refine wpl_end ?_
              exact ⟨rfl, Ext.refl _ _, rfl⟩
            · -- op 4
              intro jnk vals lo hi w63 hE0 hd
              have hS := hS.step hE0
              refine r_add rfl rfl rfl rfl (by omega) ?_
              refine wpl_end ?_
              exact ⟨rfl, Ext.refl _ _, rfl⟩
            · -- op 5
              intro jnk vals lo hi w64 hE0 hd
              have hS := hS.step hE0
              refine r_field rfl fl_109_0 rfl rfl ?_
              refine wpl_end ?_
              exact ⟨rfl, Ext.refl _ _, rfl⟩
            · -- op 6
              intro jnk vals lo hi w65 hE0 hd
              have hS := hS.step hE0
              refine r_load rfl (ld_hs (hS.ext.heap hx4 (fun x => x)) rfl sc_107) rfl rfl ?_
              refine wpl_end ?_
              exact ⟨rfl, Ext.refl _ _, rfl⟩
            · -- op 7
              intro jnk vals lo hi w66 hE0 hd
              have hS := hS.step hE0
              refine r_field rfl fl_42_0 rfl rfl ?_
              refine wpl_end ?_
              exact ⟨rfl, Ext.refl _ _, rfl⟩
            · -- op 8
              intro jnk vals lo hi w67 hE0 hd
              have hS := hS.step hE0
              refine r_load rfl (ld_ba hS (i := 0) rfl rfl rfl ag_35) rfl rfl ?_
              refine wpl_end ?_
              exact ⟨rfl, Ext.refl _ _, rfl⟩
            · -- op 9
              intro jnk vals lo hi w68 hE0 hd
              have hS := hS.step hE0
              refine r_callv (l1 := []) (l2 := []) rfl (cend _ up _ _) rfl rfl ?_
              rintro _ w69 ⟨rfl, hE⟩
              have hS := hS.step hE
              refine wpl_end ?_
              exact ⟨rfl, hE.of_no, rfl⟩
            · -- op 10
              intro jnk vals lo hi w70 hE0 hd
              have hS := hS.step hE0
              refine r_gtrv rfl rfl hX rfl rfl ?_
              refine wpl_end ?_
              exact ⟨rfl, Ext.refl _ _, rfl⟩
            · -- op 11
              intro jnk vals lo hi w72 hE0 hd
              have hS := hS.step hE0
              refine r_move (by conv => lhs; whnf) rfl rfl ?_
              refine wpl_end ?_
              exact ⟨rfl, Ext.refl _ _, rfl⟩
            · -- op 12
              intro jnk vals lo hi w73 hE0 hd
              have hS := hS.step hE0
              refine r_move (by conv => lhs; whnf) rfl rfl ?_
              refine wpl_end ?_
              exact ⟨rfl, Ext.refl _ _, rfl⟩
            · -- op 13
              intro jnk vals lo hi w74 hE0 hd
              have hS := hS.step hE0
              refine r_rem2 rfl rfl rfl rfl ?_
              refine wpl_end ?_
              exact ⟨rfl, Ext.refl _ _, rfl⟩
            · -- op 14
              intro jnk vals lo hi w76 hE0 hd
              have hS := hS.step hE0
              refine r_eqlv rfl rfl hY1 rfl rfl ?_
              refine wpl_end ?_
              exact ⟨rfl, Ext.refl _ _, rfl⟩
            · -- op 15
              intro jnk vals lo hi w78 hE0 hd
              have hS := hS.step hE0
              refine r_move (by conv => lhs; whnf) rfl rfl ?_
              refine wpl_end ?_
              exact ⟨rfl, Ext.refl _ _, rfl⟩
            · -- op 16
              intro jnk vals lo hi w79 hE0 hd
              have hS := hS.step hE0
              refine r_skip rfl rfl ?_
              refine wpl_end ?_
              exact ⟨rfl, Ext.refl _ _, rfl⟩
            · -- op 17
              intro jnk vals lo hi w80 hE0 hd
              have hS := hS.step hE0
              refine r_skip rfl rfl ?_
              refine wpl_end ?_
              exact ⟨rfl, Ext.refl _ _, rfl⟩
            · -- op 18
              intro jnk vals lo hi w81 hE0 hd
              have hS := hS.step hE0
              refine r_skip rfl rfl ?_
              refine wpl_end ?_
              exact ⟨rfl, Ext.refl _ _, rfl⟩
            · -- op 19
              intro jnk vals lo hi w82 hE0 hd
              have hS := hS.step hE0
              refine r_skip rfl rfl ?_
              refine wpl_end ?_
              exact ⟨rfl, Ext.refl _ _, rfl⟩
            · -- op 20
              intro jnk vals lo hi w83 hE0 hd
              have hS := hS.step hE0
              refine r_skip rfl rfl ?_
              refine wpl_end ?_
              exact ⟨rfl, Ext.refl _ _, rfl⟩
            · -- op 21
              intro jnk vals lo hi w84 hE0 hd
              have hS := hS.step hE0
              refine r_skip rfl rfl ?_
              refine wpl_end ?_
              exact ⟨rfl, Ext.refl _ _, rfl⟩
            · -- op 22
              intro jnk vals lo hi w85 hE0 hd
              have hS := hS.step hE0
              refine r_skip rfl rfl ?_
              refine wpl_end ?_
              exact ⟨rfl, Ext.refl _ _, rfl⟩
            · -- op 23
              intro jnk vals lo hi w86 hE0 hd
              have hS := hS.step hE0
              refine r_skip rfl rfl ?_
              refine wpl_end ?_
              exact ⟨rfl, Ext.refl _ _, rfl⟩
            · -- op 24
              intro jnk vals lo hi w87 hE0 hd
              have hS := hS.step hE0
              refine r_skip rfl rfl ?_
              refine wpl_end ?_
              exact ⟨rfl, Ext.refl _ _, rfl⟩
          · intro φ hφ v lo hi S w1 w2 hEa hEb hSb2
            simp at hφ
          intro jnk vals lo hi w88 hE0 hsat hdj hbd
          have hS := hS.step hE0
          refine r_skip rfl rfl ?_
          refine r_skip rfl rfl ?_
          refine r_pick_f rfl (by conv => lhs; whnf) rfl rfl ?_
          refine r_pick_f rfl (by conv => lhs; whnf) rfl rfl ?_
          refine wpl_nil ?_
          refine thn ?_
          refine k_cond_f rfl ?_
          refine k_skip ?_
          refine thn ?_
          refine k_seq ?_
          refine k_region ?_
          refine r_load rfl (ld_hb (hS.e.heap hb8 (fun x => x)) (take5 hu.len) (len5 hu.len) ag_104) rfl rfl ?_
          refine r_alloc hS z_104 rfl rfl rfl ?_
          intro b14 w90 hS hE hB14
          refine r_storeu hS (i := 1) rfl rfl rfl sz_104 hu.len rfl rfl ?_
          intro w92 hS hE
          refine wpl_nil ?_
          refine thn ?_
          refine k_seq ?_
          refine k_region ?_
          refine r_move (by conv => lhs; whnf) rfl rfl ?_
          refine r_indexa rfl rfl ar_104 (by omega) rfl rfl ?_
          refine r_load rfl (ld_arr (u := u) (hS.get (i := 1) rfl) sc_3 (by rw [hu.len]; omega)) rfl rfl ?_
          refine r_move (by conv => lhs; whnf) rfl rfl ?_
          refine r_add rfl rfl rfl rfl (by omega) ?_
          refine r_indexa rfl rfl ar_104 (by omega) rfl rfl ?_
          refine r_store1 hS (i := 1) at_arr (by conv => lhs; whnf) rfl rfl sz_3 (by rw [Nat.blt_eq, List.length_map, hu.len]; omega) rfl rfl ?_
          intro w94 hS hE
          rw [set_iv] at hS
          refine wpl_nil ?_
          refine thn ?_
          refine k_seq ?_
          have hSb := hS
          apply k_draw (m := 9) (ss := [.val _, .val _, .val _, .val _, .val _, .val _, .ex (Row [iv (k : Int)] 1 1), .ex (RowN 3 1 (plan ++ [(k : Int)]).length ((plan ++ [(k : Int)]).map iv)), .val _]) mixed rfl (by kernel_rfl) (by kernel_rfl) rfl rfl rfl
          · refine ⟨?_, ?_, ?_, ?_, ?_, ?_, ?_, ?_, ?_, trivial⟩
            · -- op 0
              intro jnk vals lo hi w95 hE0 hd
              have hS := hS.step hE0
              refine r_load rfl (ld_hs (hS.ext.heap hy5 (fun x => x)) rfl sc_166) rfl rfl ?_
              refine wpl_end ?_
              exact ⟨rfl, Ext.refl _ _, rfl⟩
            · -- op 1
              intro jnk vals lo hi w96 hE0 hd
              have hS := hS.step hE0
              refine r_move (by conv => lhs; whnf) rfl rfl ?_
              refine wpl_end ?_
              exact ⟨rfl, Ext.refl _ _, rfl⟩
            · -- op 2
              intro jnk vals lo hi w97 hE0 hd
              have hS := hS.step hE0
              refine r_move (by conv => lhs; whnf) rfl rfl ?_
              refine wpl_end ?_
              exact ⟨rfl, Ext.refl _ _, rfl⟩
            · -- op 3
              intro jnk vals lo hi w98 hE0 hd
              have hS := hS.step hE0
              refine r_move (by conv => lhs; whnf) rfl rfl ?_
              refine wpl_end ?_
              exact ⟨rfl, Ext.refl _ _, rfl⟩
            · -- op 4
              intro jnk vals lo hi w99 hE0 hd
              have hS := hS.step hE0
              refine r_slice3 (e := 0) rfl rfl rfl sl_26 (by have := row_cap hrow1; omega) rfl rfl ?_
              refine wpl_end ?_
              exact ⟨rfl, Ext.refl _ _, rfl⟩
            · -- op 5
              intro jnk vals lo hi w101 hE0 hd
              have hS := hS.step hE0
              refine r_move (by conv => lhs; whnf) rfl rfl ?_
              refine wpl_end ?_
              exact ⟨rfl, Ext.refl _ _, rfl⟩
            · -- op 6
              intro jnk vals lo hi w102 hE0 hd
              have hS := hS.step hE0
              refine r_buildSlice hS us_26 sz_3 z_3 rfl rfl rfl rfl rfl ?_
              intro b91 w103 hS hE hB91
              refine wpl_end ?_
              exact ⟨rfl, hE.of_no, row_build (hS.get (i := 2) rfl) hB91⟩
            · -- op 7
              intro jnk vals lo hi w104 hE0 hd
              have hS := hS.step hE0
              obtain ⟨r6, hv6, hl6, hh6, hr6⟩ := hd 6 (by decide) rfl
              rw [vset_eq hv6]
              refine r_appendn (a := a) (n := ((plan.length : Int)).toNat) (c := ((plan.length : Int)).toNat) hS rfl rfl us_26 us_26 sz_3 by_3 z_3 rfl (row_src ((row 3 1 a plan.length c (plan.map iv)).loc w1 _ (fun z hz => hS.e.block z (by have := (hrf z hz).2.2; omega) (fun x => x)) hrow1)) (by simp) (show Src _ (some _) _ from hr6) rfl (by omega) (by omega) rfl rfl rfl ?_
              intro b7 c7 w106 hS hE hB7
              refine wpl_end ?_
              exact ⟨rfl, hE.of_no, rown_mk (hS.get (i := 2) rfl) hlen hmap hB7⟩
            · -- op 8
              intro jnk vals lo hi w107 hE0 hd
              have hS := hS.step hE0
              refine r_load rfl (ld_ba hS (i := 1) rfl (take5 hu1.len) (len5 hu1.len) ag_104) rfl rfl ?_
              refine wpl_end ?_
              exact ⟨rfl, Ext.refl _ _, rfl⟩
          · intro φ hφ v lo hi S w1 w2 hEa hEb hSb2
            rcases hφ with hφ | ⟨j, hφ⟩ <;> simp at hφ <;> (first | subst hφ | (rcases hφ with rfl | rfl) | (rcases hφ with rfl | rfl | rfl) | (obtain ⟨_, rfl⟩ := hφ) | (rcases hφ with ⟨_, rfl⟩ | ⟨_, rfl⟩)) <;> first | exact mk_stays hEa hEb hSb2 | exact row_stays hEa hEb hSb2 | exact rown_stays hEa hEb hSb2
          intro jnk vals lo hi w109 hE0 hsat hdj hbd
          have hS := hS.step hE0
          obtain ⟨r109_6, hv6, hl6, hh6, hr6⟩ := hsat 6 (by decide) rfl
          rw [vset_eq hv6]
          obtain ⟨q7, qc7, hv7, hl7, hh7, hr7⟩ := hsat 7 (by decide) rfl
          rw [vset_eq hv7]
          have hE1s := hS.e
          have hE1s2 := hE1s.size
          have hok : b.okK up plan u k = true := by unfold HBook.okK; rw [show (decide ((b.hanks.getD k Hank0).at up < u.getD k 0 + b.part plan.length)) = false from hX]; rw [show decide (((plan.length % 2 : Nat) : Int) = 1) = false from hY1]; rfl
          have hfm : (List.range (k + 1)).flatMap (fun k => bif b.okK up plan u k then b.plansFrom up r (plan ++ [(k : Int)]) (addAt u k (b.part plan.length)) else []) = (List.range k).flatMap (fun k => bif b.okK up plan u k then b.plansFrom up r (plan ++ [(k : Int)]) (addAt u k (b.part plan.length)) else []) ++ b.plansFrom up r (plan ++ [(k : Int)]) (addAt u k (b.part plan.length)) := by rw [fm_succ]; simp only [hok, cond_true]
          have hpre2 : ((pre ++ (List.range k).flatMap (fun k => bif b.okK up plan u k then b.plansFrom up r (plan ++ [(k : Int)]) (addAt u k (b.part plan.length)) else [])) ++ b.plansFrom up r (plan ++ [(k : Int)]) (addAt u k (b.part plan.length))) <+: items := by rw [List.append_assoc, ← hfm]; exact List.IsPrefix.trans ((List.prefix_append_right_inj pre).2 (fm_prefix (by omega))) hpre
          have hrk := hr7
          have hb7 : w1.heap.size ≤ q7 := by have := (hbd 7 (by decide)).1; have := hSb.sz; omega
          have hq7 : q7 < _ := hh7
          have hq7b := (hbd 7 (by decide)).2.2
          have hrkf : ∀ z, (some (⟨q7, 0, none⟩ : Addr)) = some ⟨z, 0, none⟩ → ¬ O1 z ∧ W.heap.size ≤ z ∧ z < _ := fun z hz => by cases hz; exact ⟨fun h => by have := (hown _ _ _ _ hJ1 h).2; omega, by omega, Nat.lt_of_lt_of_le hq7 hq7b⟩
          have hn41 : ¬ O1 y4 := fun h => by rcases hO1 _ h with h | h; exact hn4 h; have := (Array.getElem?_eq_some_iff.1 hy40).1; omega
          have hn51 : ¬ O1 y5 := fun h => by rcases hO1 _ h with h | h; exact hn5 h; have := (Array.getElem?_eq_some_iff.1 hy50).1; omega
          have hpe2 : ∀ x ∈ plan ++ [(k : Int)], 0 ≤ x ∧ x < b.hanks.length := fun x hx => by rcases List.mem_append.1 hx with hx | hx; exact hpe x hx; cases List.mem_singleton.1 hx; omega
          have hu2 : UOk (addAt u k (b.part plan.length)) (30 * ((plan ++ [(k : Int)]).length : Nat)) := (hu.addAt (k := (k : Int)) (x := b.part plan.length) hpb0).mono (by simp; omega)
          refine r_callv (l1 := []) (l2 := [_, _, _, _, _]) rfl (ih (plan ++ [(k : Int)]) (addAt u k (b.part plan.length)) (pre ++ (List.range k).flatMap (fun k => bif b.okK up plan u k then b.plansFrom up r (plan ++ [(k : Int)]) (addAt u k (b.part plan.length)) else [])) O1 _ _ _ (by simp; omega) hpe2 hu2 hpre2 (hstJ _ _ _ _ hE1s hJ1) (dat_stays ⟨hB1, hx3, hx4, hx5⟩ hE1s (fun z hz => ⟨fun x => x, Nat.lt_of_lt_of_le (hWd z hz) (by omega)⟩)) (hE1s.heap hy4 (fun x => x)) (hE1s.heap hy5 (fun x => x)) hn41 hn51 (by have := hE1s.size; omega) hrk hrkf) rfl rfl ?_
          rintro _ w110 ⟨O3, bb, rfl, hE3, hO3, hJ3⟩
          have hEw3 : Ext O w w110 := (hE1.trans hE1s.of_no).comp hE3 (fun z hz => by rcases hz with hz | hz; exact hO1 z hz; cases hz; exact .inr (by omega))
          have hO3w : ∀ z, O3 z → O z ∨ w.heap.size ≤ z := fun z hz => by rcases hO3 z hz with h | h | h; exact hO1 z h; exact .inr (by omega); cases h; exact .inr (by omega)
          have h8lt := (Array.getElem?_eq_some_iff.1 hb8).1
          have hO38 : ¬ O3 b8 := fun h => by rcases hO3 _ h with h | h | h; exact hO18 h; omega; cases h; omega
          have hb83 : w110.heap[b8]? = _ := (hE3.block b8 (by omega) (fun h => by rcases h with h | h; exact hO18 h; cases h; omega)).trans (hE1s.heap hb8 (fun x => x))
          refine r_not rfl rfl rfl ?_
          refine wpl_nil ?_
          refine thn ?_
          refine k_cond rfl (fun hc111 => ?_) (fun hc111 => ?_)
          · -- t
            have hcb := hc111
            refine k_seq ?_
            refine k_region ?_
            refine r_assign (by conv => lhs; whnf) rfl rfl ?_
            refine wpl_nil ?_
            refine thn ?_
            refine ret1 (fun _ _ _ => rfl) (by conv => lhs; whnf) ?_
            have hbb : bb = false := by simpa using hcb
            subst hbb
            obtain ⟨pre2, hp2, hJx⟩ := hJ3
            refine ⟨O3, false, rfl, ?_, ?_, pre2, hp2, hJx⟩
            · exact hEw3.mono (fun z h => .inl h)
            · exact fun z hz => (hO3w z hz).imp id .inl
          · -- f
            have hcb := hc111
            refine k_skip ?_
            refine blk_n ?_
            refine thn ?_
            refine k_region ?_
            refine r_add rfl rfl rfl rfl (by omega) ?_
            refine r_move (by conv => lhs; whnf) rfl rfl ?_
            refine wpl_nil ?_
            refine thn ?_
            refine ⟨k + 1, ⟨rfl, trivial⟩, ?_, ?_, ?_, rfl⟩
            · have hbb : bb = true := by simpa using hcb
              subst hbb
              refine ⟨by omega, O3, ?_, hEw3, hO3w, hO38, hb83⟩
              rw [fm_succ]
              simp only [hok, cond_true]
              rw [← List.append_assoc]
              exact hJ3
            · omega
            · (repeat (first | exact Agree.refl _ _ | exact agree_hv rfl (Agree.refl _ _) | refine agree_upd rfl ?_ | refine agree_mkF rfl ?_ | refine agree_hv rfl ?_))
        | true =>
          have hodd : ((plan.length % 2 : Nat) : Int) = 1 := of_decide_eq_true hY1
          obtain ⟨ap, hAp, hcp⟩ := hpd.at (d := 0) (k := (plan.length : Int) - 1) (by omega)
          have hpx := hpe _ (getD_mem (d := 0) (k := ((plan.length : Int) - 1).toNat) (by omega))
          have hSb := hS
          apply k_draw (m := 25) (ss := [.val _, .val _, .val _, .val _, .val _, .val _, .val _, .val _, .val _, .val _, .val _, .val _, .val _, .val _, .val _, .val _, .val _, .val _, .val _, .val _, .val _, .val _, .val _, .val _, .val _]) mixed rfl (by kernel_rfl) (by kernel_rfl) rfl rfl rfl
          · refine ⟨?_, ?_, ?_, ?_, ?_, ?_, ?_, ?_, ?_, ?_, ?_, ?_, ?_, ?_, ?_, ?_, ?_, ?_, ?_, ?_, ?_, ?_, ?_, ?_, ?_, trivial⟩
            · -- op 0
              intro jnk vals lo hi w112 hE0 hd
              have hS := hS.step hE0
              refine r_move (by conv => lhs; whnf) rfl rfl ?_
              refine wpl_end ?_
              exact ⟨rfl, Ext.refl _ _, rfl⟩
            · -- op 1
              intro jnk vals lo hi w113 hE0 hd
              have hS := hS.step hE0
              refine r_indexa rfl rfl ar_104 (by omega) rfl rfl ?_
              refine wpl_end ?_
              exact ⟨rfl, Ext.refl _ _, rfl⟩
            · -- op 2
              intro jnk vals lo hi w114 hE0 hd
              have hS := hS.step hE0
              refine r_load rfl (ld_arr (u := u) (hS.e.heap hb8 (fun x => x)) sc_3 (by rw [hu.len]; omega)) rfl rfl ?_
              refine wpl_end ?_
              exact ⟨rfl, Ext.refl _ _, rfl⟩
            · -- op 3
              intro jnk vals lo hi w116 hE0 hd
              have hS := hS.step hE0
              refine r_move (by conv => lhs; whnf) rfl rfl ?_
              refine wpl_end ?_
              exact ⟨rfl, Ext.refl _ _, rfl⟩
            · -- op 4
              intro jnk vals lo hi w117 hE0 hd
              have hS := hS.step hE0
              refine r_add rfl rfl rfl rfl (by omega) ?_
              refine wpl_end ?_
              exact ⟨rfl, Ext.refl _ _, rfl⟩
            · -- op 5
              intro jnk vals lo hi w118 hE0 hd
              have hS := hS.step hE0
              refine r_field rfl fl_109_0 rfl rfl ?_
              refine wpl_end ?_
              exact ⟨rfl, Ext.refl _ _, rfl⟩
            · -- op 6
              intro jnk vals lo hi w119 hE0 hd
              have hS := hS.step hE0
              refine r_load rfl (ld_hs (hS.ext.heap hx4 (fun x => x)) rfl sc_107) rfl rfl ?_
              refine wpl_end ?_
              exact ⟨rfl, Ext.refl _ _, rfl⟩
            · -- op 7
              intro jnk vals lo hi w120 hE0 hd
              have hS := hS.step hE0
              refine r_field rfl fl_42_0 rfl rfl ?_
              refine wpl_end ?_
              exact ⟨rfl, Ext.refl _ _, rfl⟩
            · -- op 8
              intro jnk vals lo hi w121 hE0 hd
              have hS := hS.step hE0
              refine r_load rfl (ld_ba hS (i := 0) rfl rfl rfl ag_35) rfl rfl ?_
              refine wpl_end ?_
              exact ⟨rfl, Ext.refl _ _, rfl⟩
            · -- op 9
              intro jnk vals lo hi w122 hE0 hd
              have hS := hS.step hE0
              refine r_callv (l1 := []) (l2 := []) rfl (cend _ up _ _) rfl rfl ?_
              rintro _ w123 ⟨rfl, hE⟩
              have hS := hS.step hE
              refine wpl_end ?_
              exact ⟨rfl, hE.of_no, rfl⟩
            · -- op 10
              intro jnk vals lo hi w124 hE0 hd
              have hS := hS.step hE0
              refine r_gtrv rfl rfl hX rfl rfl ?_
              refine wpl_end ?_
              exact ⟨rfl, Ext.refl _ _, rfl⟩
            · -- op 11
              intro jnk vals lo hi w126 hE0 hd
              have hS := hS.step hE0
              refine r_move (by conv => lhs; whnf) rfl rfl ?_
              refine wpl_end ?_
              exact ⟨rfl, Ext.refl _ _, rfl⟩
            · -- op 12
              intro jnk vals lo hi w127 hE0 hd
              have hS := hS.step hE0
              refine r_move (by conv => lhs; whnf) rfl rfl ?_
              refine wpl_end ?_
              exact ⟨rfl, Ext.refl _ _, rfl⟩
            · -- op 13
              intro jnk vals lo hi w128 hE0 hd
              have hS := hS.step hE0
              refine r_rem2 rfl rfl rfl rfl ?_
              refine wpl_end ?_
              exact ⟨rfl, Ext.refl _ _, rfl⟩
            · -- op 14
              intro jnk vals lo hi w130 hE0 hd
              have hS := hS.step hE0
              refine r_eqlv rfl rfl hY1 rfl rfl ?_
              refine wpl_end ?_
              exact ⟨rfl, Ext.refl _ _, rfl⟩
            · -- op 15
              intro jnk vals lo hi w132 hE0 hd
              have hS := hS.step hE0
              refine r_move (by conv => lhs; whnf) rfl rfl ?_
              refine wpl_end ?_
              exact ⟨rfl, Ext.refl _ _, rfl⟩
            · -- op 16
              intro jnk vals lo hi w133 hE0 hd
              have hS := hS.step hE0
              refine r_load rfl (ld_hs (hS.ext.heap hx5 (fun x => x)) rfl sc_56) rfl rfl ?_
              refine wpl_end ?_
              exact ⟨rfl, Ext.refl _ _, rfl⟩
            · -- op 17
              intro jnk vals lo hi w134 hE0 hd
              have hS := hS.step hE0
              refine r_move (by conv => lhs; whnf) rfl rfl ?_
              refine wpl_end ?_
              exact ⟨rfl, Ext.refl _ _, rfl⟩
            · -- op 18
              intro jnk vals lo hi w135 hE0 hd
              have hS := hS.step hE0
              refine r_quo2 rfl rfl (by omega) rfl rfl ?_
              refine wpl_end ?_
              exact ⟨rfl, Ext.refl _ _, rfl⟩
            · -- op 19
              intro jnk vals lo hi w137 hE0 hd
              have hS := hS.step hE0
              refine r_move (by conv => lhs; whnf) rfl rfl ?_
              refine wpl_end ?_
              exact ⟨rfl, Ext.refl _ _, rfl⟩
            · -- op 20
              intro jnk vals lo hi w138 hE0 hd
              have hS := hS.step hE0
              refine r_move (by conv => lhs; whnf) rfl rfl ?_
              refine wpl_end ?_
              exact ⟨rfl, Ext.refl _ _, rfl⟩
            · -- op 21
              intro jnk vals lo hi w139 hE0 hd
              have hS := hS.step hE0
              refine r_sub rfl rfl rfl rfl (by omega) ?_
              refine wpl_end ?_
              exact ⟨rfl, Ext.refl _ _, rfl⟩
            · -- op 22
              intro jnk vals lo hi w140 hE0 hd
              have hS := hS.step hE0
              refine r_index (congrArg (fun A => Value.slice A plan.length c) hAp) rfl sl_26 (by omega) rfl rfl ?_
              refine wpl_end ?_
              exact ⟨rfl, Ext.refl _ _, rfl⟩
            · -- op 23
              intro jnk vals lo hi w142 hE0 hd
              have hS := hS.step hE0
              refine r_load rfl (ld_sc ((hcp.ext hS.e) 0 _ rfl) sc_3) rfl rfl ?_
              refine wpl_end ?_
              exact ⟨rfl, Ext.refl _ _, rfl⟩
            · -- op 24
              intro jnk vals lo hi w144 hE0 hd
              have hS := hS.step hE0
              refine r_move (by conv => lhs; whnf) rfl rfl ?_
              refine wpl_end ?_
              exact ⟨rfl, Ext.refl _ _, rfl⟩
          · intro φ hφ v lo hi S w1 w2 hEa hEb hSb2
            simp at hφ
          intro jnk vals lo hi w145 hE0 hsat hdj hbd
          have hS := hS.step hE0
          refine r_callv (l1 := [_]) (l2 := []) rfl (c84 _ b A1 A2 n1 c1 n2 c2 m (hB1.ext hS.e) _ _ _ (by omega) (by omega) (by omega)) rfl rfl ?_
          rintro _ w146 ⟨rfl, hE⟩
          have hS := hS.step hE
          refine r_not rfl rfl rfl ?_
          refine r_pick_t rfl (by conv => lhs; whnf) rfl rfl ?_
          refine r_pick_f rfl (by conv => lhs; whnf) rfl rfl ?_
          refine wpl_nil ?_
          refine thn ?_
          refine k_cond rfl (fun hc147 => ?_) (fun hc147 => ?_)
          · -- t
            have hcs := hc147
            refine k_exit ?_
            refine thn_e ?_
            refine blk_e ?_
            refine thn ?_
            refine k_region ?_
            refine r_add rfl rfl rfl rfl (by omega) ?_
            refine r_move (by conv => lhs; whnf) rfl rfl ?_
            refine wpl_nil ?_
            refine thn ?_
            refine ⟨k + 1, ⟨rfl, trivial⟩, ?_, ?_, ?_, rfl⟩
            · have hsu : b.sure ((plan.length / 2 : Nat) : Int) (plan.getD ((plan.length : Int) - 1).toNat 0) k = false := by simpa using hcs
              have hok : b.okK up plan u k = false := by unfold HBook.okK; rw [show decide (((plan.length % 2 : Nat) : Int) = 1) = true from hY1, hsu, Bool.not_false, Bool.true_and, Bool.or_true]; rfl
              refine ⟨by omega, O1, ?_, hE1.trans hS.e.of_no, hO1, hO18, hS.e.heap hb8 (fun x => x)⟩
              rw [fm_succ]
              simp only [hok, cond_false, List.append_nil]
              exact hstJ _ _ _ _ hS.e hJ1
            · omega
            · (repeat (first | exact Agree.refl _ _ | exact agree_hv rfl (Agree.refl _ _) | refine agree_upd rfl ?_ | refine agree_mkF rfl ?_ | refine agree_hv rfl ?_))
          · -- f
            have hcs := hc147
            refine k_skip ?_
            refine thn ?_
            refine k_seq ?_
            refine k_region ?_
            refine r_load rfl (ld_hb (hS.e.heap hb8 (fun x => x)) (take5 hu.len) (len5 hu.len) ag_104) rfl rfl ?_
            refine r_alloc hS z_104 rfl rfl rfl ?_
            intro b14 w149 hS hE hB14
            refine r_storeu hS (i := 1) rfl rfl rfl sz_104 hu.len rfl rfl ?_
            intro w151 hS hE
            refine wpl_nil ?_
            refine thn ?_
            refine k_seq ?_
            refine k_region ?_
            refine r_move (by conv => lhs; whnf) rfl rfl ?_
            refine r_indexa rfl rfl ar_104 (by omega) rfl rfl ?_
            refine r_load rfl (ld_arr (u := u) (hS.get (i := 1) rfl) sc_3 (by rw [hu.len]; omega)) rfl rfl ?_
            refine r_move (by conv => lhs; whnf) rfl rfl ?_
            refine r_add rfl rfl rfl rfl (by omega) ?_
            refine r_indexa rfl rfl ar_104 (by omega) rfl rfl ?_
            refine r_store1 hS (i := 1) at_arr (by conv => lhs; whnf) rfl rfl sz_3 (by rw [Nat.blt_eq, List.length_map, hu.len]; omega) rfl rfl ?_
            intro w153 hS hE
            rw [set_iv] at hS
            refine wpl_nil ?_
            refine thn ?_
            refine k_seq ?_
            have hSb := hS
            apply k_draw (m := 9) (ss := [.val _, .val _, .val _, .val _, .val _, .val _, .ex (Row [iv (k : Int)] 1 1), .ex (RowN 3 1 (plan ++ [(k : Int)]).length ((plan ++ [(k : Int)]).map iv)), .val _]) mixed rfl (by kernel_rfl) (by kernel_rfl) rfl rfl rfl
            · refine ⟨?_, ?_, ?_, ?_, ?_, ?_, ?_, ?_, ?_, trivial⟩
              · -- op 0
                intro jnk vals lo hi w154 hE0 hd
                have hS := hS.step hE0
                refine r_load rfl (ld_hs (hS.ext.heap hy5 (fun x => x)) rfl sc_166) rfl rfl ?_
                refine wpl_end ?_
                exact ⟨rfl, Ext.refl _ _, rfl⟩
              · -- op 1
                intro jnk vals lo hi w155 hE0 hd
                have hS := hS.step hE0
                refine r_move (by conv => lhs; whnf) rfl rfl ?_
                refine wpl_end ?_
                exact ⟨rfl, Ext.refl _ _, rfl⟩
              · -- op 2
                intro jnk vals lo hi w156 hE0 hd
                have hS := hS.step hE0
                refine r_move (by conv => lhs; whnf) rfl rfl ?_
                refine wpl_end ?_
                exact ⟨rfl, Ext.refl _ _, rfl⟩
              · -- op 3
                intro jnk vals lo hi w157 hE0 hd
                have hS := hS.step hE0
                refine r_move (by conv => lhs; whnf) rfl rfl ?_
                refine wpl_end ?_
                exact ⟨rfl, Ext.refl _ _, rfl⟩
              · -- op 4
                intro jnk vals lo hi w158 hE0 hd
                have hS := hS.step hE0
                refine r_slice3 (e := 0) rfl rfl rfl sl_26 (by have := row_cap hrow1; omega) rfl rfl ?_
                refine wpl_end ?_
                exact ⟨rfl, Ext.refl _ _, rfl⟩
              · -- op 5
                intro jnk vals lo hi w160 hE0 hd
                have hS := hS.step hE0
                refine r_move (by conv => lhs; whnf) rfl rfl ?_
                refine wpl_end ?_
                exact ⟨rfl, Ext.refl _ _, rfl⟩
              · -- op 6
                intro jnk vals lo hi w161 hE0 hd
                have hS := hS.step hE0
                refine r_buildSlice hS us_26 sz_3 z_3 rfl rfl rfl rfl rfl ?_
                intro b91 w162 hS hE hB91
                refine wpl_end ?_
                exact ⟨rfl, hE.of_no, row_build (hS.get (i := 2) rfl) hB91⟩
              · -- op 7
                intro jnk vals lo hi w163 hE0 hd
                have hS := hS.step hE0
                obtain ⟨r6, hv6, hl6, hh6, hr6⟩ := hd 6 (by decide) rfl
                rw [vset_eq hv6]
                refine r_appendn (a := a) (n := ((plan.length : Int)).toNat) (c := ((plan.length : Int)).toNat) hS rfl rfl us_26 us_26 sz_3 by_3 z_3 rfl (row_src ((row 3 1 a plan.length c (plan.map iv)).loc w1 _ (fun z hz => hS.e.block z (by have := (hrf z hz).2.2; omega) (fun x => x)) hrow1)) (by simp) (show Src _ (some _) _ from hr6) rfl (by omega) (by omega) rfl rfl rfl ?_
                intro b7 c7 w165 hS hE hB7
                refine wpl_end ?_
                exact ⟨rfl, hE.of_no, rown_mk (hS.get (i := 2) rfl) hlen hmap hB7⟩
              · -- op 8
                intro jnk vals lo hi w166 hE0 hd
                have hS := hS.step hE0
                refine r_load rfl (ld_ba hS (i := 1) rfl (take5 hu1.len) (len5 hu1.len) ag_104) rfl rfl ?_
                refine wpl_end ?_
                exact ⟨rfl, Ext.refl _ _, rfl⟩
            · intro φ hφ v lo hi S w1 w2 hEa hEb hSb2
              rcases hφ with hφ | ⟨j, hφ⟩ <;> simp at hφ <;> (first | subst hφ | (rcases hφ with rfl | rfl) | (rcases hφ with rfl | rfl | rfl) | (obtain ⟨_, rfl⟩ := hφ) | (rcases hφ with ⟨_, rfl⟩ | ⟨_, rfl⟩)) <;> first | exact mk_stays hEa hEb hSb2 | exact row_stays hEa hEb hSb2 | exact rown_stays hEa hEb hSb2
            intro jnk vals lo hi w168 hE0 hsat hdj hbd
            have hS := hS.step hE0
            obtain ⟨r168_6, hv6, hl6, hh6, hr6⟩ := hsat 6 (by decide) rfl
            rw [vset_eq hv6]
            obtain ⟨q7, qc7, hv7, hl7, hh7, hr7⟩ := hsat 7 (by decide) rfl
            rw [vset_eq hv7]
            have hE1s := hS.e
            have hE1s2 := hE1s.size
            have hok : b.okK up plan u k = true := by unfold HBook.okK; rw [show (decide ((b.hanks.getD k Hank0).at up < u.getD k 0 + b.part plan.length)) = false from hX]; rw [show decide (((plan.length % 2 : Nat) : Int) = 1) = true from hY1]; have hsu : b.sure ((plan.length / 2 : Nat) : Int) (plan.getD ((plan.length : Int) - 1).toNat 0) k = true := (by simpa using hcs); rw [hsu]; rfl
            have hfm : (List.range (k + 1)).flatMap (fun k => bif b.okK up plan u k then b.plansFrom up r (plan ++ [(k : Int)]) (addAt u k (b.part plan.length)) else []) = (List.range k).flatMap (fun k => bif b.okK up plan u k then b.plansFrom up r (plan ++ [(k : Int)]) (addAt u k (b.part plan.length)) else []) ++ b.plansFrom up r (plan ++ [(k : Int)]) (addAt u k (b.part plan.length)) := by rw [fm_succ]; simp only [hok, cond_true]
            have hpre2 : ((pre ++ (List.range k).flatMap (fun k => bif b.okK up plan u k then b.plansFrom up r (plan ++ [(k : Int)]) (addAt u k (b.part plan.length)) else [])) ++ b.plansFrom up r (plan ++ [(k : Int)]) (addAt u k (b.part plan.length))) <+: items := by rw [List.append_assoc, ← hfm]; exact List.IsPrefix.trans ((List.prefix_append_right_inj pre).2 (fm_prefix (by omega))) hpre
            have hrk := hr7
            have hb7 : w1.heap.size ≤ q7 := by have := (hbd 7 (by decide)).1; have := hSb.sz; omega
            have hq7 : q7 < _ := hh7
            have hq7b := (hbd 7 (by decide)).2.2
            have hrkf : ∀ z, (some (⟨q7, 0, none⟩ : Addr)) = some ⟨z, 0, none⟩ → ¬ O1 z ∧ W.heap.size ≤ z ∧ z < _ := fun z hz => by cases hz; exact ⟨fun h => by have := (hown _ _ _ _ hJ1 h).2; omega, by omega, Nat.lt_of_lt_of_le hq7 hq7b⟩
            have hn41 : ¬ O1 y4 := fun h => by rcases hO1 _ h with h | h; exact hn4 h; have := (Array.getElem?_eq_some_iff.1 hy40).1; omega
            have hn51 : ¬ O1 y5 := fun h => by rcases hO1 _ h with h | h; exact hn5 h; have := (Array.getElem?_eq_some_iff.1 hy50).1; omega
            have hpe2 : ∀ x ∈ plan ++ [(k : Int)], 0 ≤ x ∧ x < b.hanks.length := fun x hx => by rcases List.mem_append.1 hx with hx | hx; exact hpe x hx; cases List.mem_singleton.1 hx; omega
            have hu2 : UOk (addAt u k (b.part plan.length)) (30 * ((plan ++ [(k : Int)]).length : Nat)) := (hu.addAt (k := (k : Int)) (x := b.part plan.length) hpb0).mono (by simp; omega)
            refine r_callv (l1 := []) (l2 := [_, _, _, _, _]) rfl (ih (plan ++ [(k : Int)]) (addAt u k (b.part plan.length)) (pre ++ (List.range k).flatMap (fun k => bif b.okK up plan u k then b.plansFrom up r (plan ++ [(k : Int)]) (addAt u k (b.part plan.length)) else [])) O1 _ _ _ (by simp; omega) hpe2 hu2 hpre2 (hstJ _ _ _ _ hE1s hJ1) (dat_stays ⟨hB1, hx3, hx4, hx5⟩ hE1s (fun z hz => ⟨fun x => x, Nat.lt_of_lt_of_le (hWd z hz) (by omega)⟩)) (hE1s.heap hy4 (fun x => x)) (hE1s.heap hy5 (fun x => x)) hn41 hn51 (by have := hE1s.size; omega) hrk hrkf) rfl rfl ?_
            rintro _ w169 ⟨O3, bb, rfl, hE3, hO3, hJ3⟩
            have hEw3 : Ext O w w169 := (hE1.trans hE1s.of_no).comp hE3 (fun z hz => by rcases hz with hz | hz; exact hO1 z hz; cases hz; exact .inr (by omega))
            have hO3w : ∀ z, O3 z → O z ∨ w.heap.size ≤ z := fun z hz => by rcases hO3 z hz with h | h | h; exact hO1 z h; exact .inr (by omega); cases h; exact .inr (by omega)
            have h8lt := (Array.getElem?_eq_some_iff.1 hb8).1
            have hO38 : ¬ O3 b8 := fun h => by rcases hO3 _ h with h | h | h; exact hO18 h; omega; cases h; omega
            have hb83 : w169.heap[b8]? = _ := (hE3.block b8 (by omega) (fun h => by rcases h with h | h; exact hO18 h; cases h; omega)).trans (hE1s.heap hb8 (fun x => x))
            refine r_not rfl rfl rfl ?_
            refine wpl_nil ?_
            refine thn ?_
            refine k_cond rfl (fun hc170 => ?_) (fun hc170 => ?_)
            · -- t
              have hcb := hc170
              refine k_seq ?_
              refine k_region ?_
              refine r_assign (by conv => lhs; whnf) rfl rfl ?_
              refine wpl_nil ?_
              refine thn ?_
              refine ret1 (fun _ _ _ => rfl) (by conv => lhs; whnf) ?_
              have hbb : bb = false := by simpa using hcb
              subst hbb
              obtain ⟨pre2, hp2, hJx⟩ := hJ3
              refine ⟨O3, false, rfl, ?_, ?_, pre2, hp2, hJx⟩
              · exact hEw3.mono (fun z h => .inl h)
              · exact fun z hz => (hO3w z hz).imp id .inl
            · -- f
              have hcb := hc170
              refine k_skip ?_
              refine blk_n ?_
              refine thn ?_
              refine k_region ?_
              refine r_add rfl rfl rfl rfl (by omega) ?_
              refine r_move (by conv => lhs; whnf) rfl rfl ?_
              refine wpl_nil ?_
              refine thn ?_
              refine ⟨k + 1, ⟨rfl, trivial⟩, ?_, ?_, ?_, rfl⟩
              · have hbb : bb = true := by simpa using hcb
                subst hbb
                refine ⟨by omega, O3, ?_, hEw3, hO3w, hO38, hb83⟩
                rw [fm_succ]
                simp only [hok, cond_true]
                rw [← List.append_assoc]
                exact hJ3
              · omega
              · (repeat (first | exact Agree.refl _ _ | exact agree_hv rfl (Agree.refl _ _) | refine agree_upd rfl ?_ | refine agree_mkF rfl ?_ | refine agree_hv rfl ?_))
    · -- f
      have hc240 := hc24
      (try simp only [decide_eq_true_eq, decide_eq_false_iff_not, Bool.and_eq_true, Bool.and_eq_false_iff, Bool.not_eq_true', Bool.not_eq_false', Int.not_lt, Int.not_le] at hc24)
      have hk : k = b.hanks.length := by omega
      refine k_exit ?_
      refine thn_e ?_
      refine thn_e ?_
      refine blk_e ?_
      refine thn ?_
      refine k_seq ?_
      refine k_region ?_
      refine r_assign (by conv => lhs; whnf) rfl rfl ?_
      refine wpl_nil ?_
      refine thn ?_
      refine ret1 (fun _ _ _ => rfl) (by conv => lhs; whnf) ?_
      subst hk
      refine ⟨O1, true, rfl, ?_, ?_, ?_⟩
      · exact hE1.mono (fun z h => .inl h)
      · exact fun z hz => (hO1 z hz).imp id .inl
      · exact hJ1
end Go.Proofs.YtofpabocpcfbfaaDoor

/- Walks: T7. -/
namespace Go.Proofs.YtofpabocpcfbfaaDoor
open Go Go.Proofs K

theorem c132a (b : HBook) (up : Bool) (A1 A2 : Option Addr) (n1 c1 n2 c2 m x3 x4 x5 l y4 y5 : Nat) (J Jx : List (List Int × List Int) → (Nat → Prop) → World → Prop) (W : World) (items : List (List Int × List Int)) (hstJ : ∀ pre O w w', Ext no w w' → J pre O w → J pre O w') (hown : ∀ pre O w z, J pre O w → O z → ¬ (datP b up A1 A2 n1 c1 n2 c2 m x3 x4 x5).fp z ∧ z < w.heap.size) (hWd : ∀ z, (datP b up A1 A2 n1 c1 n2 c2 m x3 x4 x5).fp z → z < W.heap.size) (hY : ∀ pre x args it O w, (pre ++ [x]) <+: items → J pre O w → EnP x args it → it.ok w → (∀ z, it.fp z → ¬ O z ∧ W.heap.size ≤ z ∧ z < w.heap.size) → W.heap.size ≤ w.heap.size → YieldOk Tryd.prog l args w (fun bb w' => ∃ O', (∀ z, O' z → O z ∨ w.heap.size ≤ z ∨ it.fp z) ∧ Ext (fun z => O z ∨ it.fp z) w w' ∧ (bif bb then J (pre ++ [x]) O' w' else Jx (pre ++ [x]) O' w'))) : ∀ r, CutOk Tryd.prog b up A1 A2 n1 c1 n2 c2 m x3 x4 x5 l y4 y5 J Jx W items r := by
  intro r
  induction r with
  | zero => exact c132 b up A1 A2 n1 c1 n2 c2 m x3 x4 x5 l y4 y5 J Jx W items hstJ hown hWd hY 0 (fun q h => by omega)
  | succ r ih => exact c132 b up A1 A2 n1 c1 n2 c2 m x3 x4 x5 l y4 y5 J Jx W items hstJ hown hWd hY (r + 1) (fun q h => by cases h; exact ih)

theorem iterP (b : HBook) (up : Bool) (A1 A2 : Option Addr) (n1 c1 n2 c2 m x3 x4 x5 : Nat) : Iter Tryd.prog 131 [] [ptr x3, ptr x4, ptr x5] (b.plans up) EnP (datP b up A1 A2 n1 c1 n2 c2 m x3 x4 x5) := by
  intro l J Jx O0 W hdat hdlt hstJ hstX hown hY hJ0
  refine cv_intro Tryd.func131 rfl rfl Tryd.ntmps131 rfl (by kernel_rfl) ?_
  have hS := St.nil W
  refine k_seq ?_
  refine k_region ?_
  refine r_box1 hS (by conv => lhs; whnf) rfl rfl rfl ?_
  intro b4 w1 hS hE hB4
  refine wpl_nil ?_
  refine thn ?_
  refine k_seq ?_
  refine k_region ?_
  refine r_alloc hS z_166 rfl rfl rfl ?_
  intro b5 w2 hS hE hB5
  refine wpl_nil ?_
  refine thn ?_
  refine k_seq ?_
  refine k_region ?_
  refine r_makeFuncv (v1 := []) (v2 := [_, _, _, _, _]) trivial ⟨(by conv => lhs; whnf), (by conv => lhs; whnf), (by conv => lhs; whnf), (by conv => lhs; whnf), (by conv => lhs; whnf), trivial⟩ rfl rfl ?_
  refine r_store1 hS (i := 1) rfl (by conv => lhs; whnf) rfl rfl sz_166 rfl rfl rfl ?_
  intro w3 hS hE
  refine wpl_nil ?_
  refine thn ?_
  have hSb := hS
  apply k_draw (m := 2) (ss := [.val _, .val _]) mixed rfl (by kernel_rfl) (by kernel_rfl) rfl rfl rfl
  · refine ⟨?_, ?_, trivial⟩
    · -- op 0
      intro jnk vals lo hi w4 hE0 hd
      have hS := hS.step hE0
      refine r_load rfl (ld_bs hS (i := 1) rfl rfl sc_166) rfl rfl ?_
      refine wpl_end ?_
      exact ⟨rfl, Ext.refl _ _, rfl⟩
    · -- op 1
      intro jnk vals lo hi w5 hE0 hd
      have hS := hS.step hE0
      refine r_call rfl (c127 _) rfl rfl ?_
      rintro _ w6 ⟨rfl, hE⟩
      have hS := hS.step hE
      refine wpl_end ?_
      exact ⟨rfl, hE.of_no, rfl⟩
  · intro φ hφ v lo hi S w1 w2 hEa hEb hSb2
    simp at hφ
  intro jnk vals lo hi w7 hE0 hsat hdj hbd
  have hS := hS.step hE0
  have hb4s := (hS.get (i := 0) rfl)
  have hb5s := (hS.get (i := 1) rfl)
  have hws := hS.sz
  have hr0 := hS.rng (i := 0) rfl
  have hr1 := hS.rng (i := 1) rfl
  refine r_callv (l1 := []) (l2 := [_, _, _, _, _]) rfl (c132a b up A1 A2 n1 c1 n2 c2 m x3 x4 x5 l b4 b5 J Jx W (b.plans up) hstJ (fun pre O w z => hown pre O w z) hdlt hY (2 * b.horses.length) [] zero5 [] O0 _ none 0 (by simp) (fun x hx => by simp at hx) (UOk.zero (by simp)) (List.prefix_refl _) (hstJ _ _ _ _ hS.e hJ0) (dat_stays hdat hS.e (fun z hz => ⟨fun x => x, hdlt z hz⟩)) hb4s hb5s (fun h => by have := (hown _ _ _ _ hJ0 h).2; omega) (fun h => by have := (hown _ _ _ _ hJ0 h).2; omega) hws ⟨rfl, .inl ⟨rfl, rfl, rfl, rfl⟩⟩ (fun z hz => by cases hz)) rfl rfl ?_
  rintro _ w8 ⟨O2, bb, rfl, hE2, hO2, hJ2⟩
  refine wpl_nil ?_
  refine leave_n ?_
  cases bb with
  | true => exact ⟨O2, .inl hJ2⟩
  | false =>
    obtain ⟨p2, hp2, hx2⟩ := hJ2
    exact ⟨O2, .inr ⟨p2, hp2, hx2⟩⟩

theorem c83 (w : World) (b : HBook) (A1 A2 : Option Addr) (n1 c1 n2 c2 m : Nat) (hB : Bk w A1 A2 n1 n2 m b) (up : Bool) : Cv Tryd.prog 83 #[.agg #[.slice A1 n1 c1, .slice A2 n2 c2, .int .i64 b.dark, .int .i64 b.near, .int .i64 b.mat, .map (some m)], .agg #[.func (.func (bif up then 129 else 128)) #[] #[]], .func (.func 84) #[.agg #[.slice A1 n1 c1, .slice A2 n2 c2, .int .i64 b.dark, .int .i64 b.near, .int .i64 b.mat, .map (some m)]] #[]] w (fun v w' => ∃ x3 x4 x5, v = .func (.func 131) #[] #[ptr x3, ptr x4, ptr x5] ∧ Ext no w w' ∧ (datP b up A1 A2 n1 c1 n2 c2 m x3 x4 x5).ok w' ∧ (w.heap.size ≤ x3 ∧ x3 < w'.heap.size) ∧ (w.heap.size ≤ x4 ∧ x4 < w'.heap.size) ∧ (w.heap.size ≤ x5 ∧ x5 < w'.heap.size)) := by
  refine cv_intro Tryd.func83 rfl rfl Tryd.ntmps83 rfl (by kernel_rfl) ?_
  have hl1 := hB.h1.1
  have hl2 := hB.h2.1
  have hg := hB.good
  have hg1 := hg.l1
  have hg2 := hg.l2
  have hgd := hg.dark
  have hgn := hg.near
  have hgm := hg.mat
  have hS := St.nil w
  refine k_seq ?_
  refine k_region ?_
  refine r_boxa hS rfl rfl rfl ?_
  intro b3 w1 hS hE hB3
  refine r_boxa hS rfl rfl rfl ?_
  intro b4 w2 hS hE hB4
  refine r_box1 hS (by conv => lhs; whnf) rfl rfl rfl ?_
  intro b5 w3 hS hE hB5
  refine r_assign (by conv => lhs; whnf) rfl rfl ?_
  refine wpl_nil ?_
  refine thn ?_
  refine k_seq ?_
  refine k_region ?_
  refine r_makeFuncv (v1 := []) (v2 := [_, _, _]) trivial ⟨(by conv => lhs; whnf), (by conv => lhs; whnf), (by conv => lhs; whnf), trivial⟩ rfl rfl ?_
  refine r_assign (by conv => lhs; whnf) rfl rfl ?_
  refine wpl_nil ?_
  refine thn ?_
  refine ret1 (fun _ _ _ => rfl) (by conv => lhs; whnf) ?_
  refine ⟨b3, b4, b5, rfl, hS.ext, ⟨hB.ext hS.ext, hS.get (i := 0) rfl, hS.get (i := 1) rfl, hS.get (i := 2) rfl⟩, ?_, ?_, ?_⟩
  · exact hS.rng (i := 0) rfl
  · exact hS.rng (i := 1) rfl
  · exact hS.rng (i := 2) rfl
end Go.Proofs.YtofpabocpcfbfaaDoor

/- Walks: T8. -/
namespace Go.Proofs.YtofpabocpcfbfaaDoor
open Go Go.Proofs K

theorem c79 (w : World) (b : HBook) (A1 A2 : Option Addr) (n1 c1 n2 c2 m : Nat) (hB : Bk w A1 A2 n1 n2 m b) : Cv Tryd.prog 79 #[.agg #[.slice A1 n1 c1, .slice A2 n2 c2, .int .i64 b.dark, .int .i64 b.near, .int .i64 b.mat, .map (some m)]] w (fun v w' => v = .bool b.served ∧ Ext no w w') := by
  refine cv_intro Tryd.func79 rfl rfl Tryd.ntmps79 rfl (by kernel_rfl) ?_
  have hl1 := hB.h1.1
  have hl2 := hB.h2.1
  have hg := hB.good
  have hg1 := hg.l1
  have hg2 := hg.l2
  have hgd := hg.dark
  have hgn := hg.near
  have hgm := hg.mat
  have hS := St.nil w
  refine k_seq ?_
  refine k_region ?_
  refine r_boxa hS rfl rfl rfl ?_
  intro b1 w1 hS hE hB1
  refine r_alloc hS z_4 rfl rfl rfl ?_
  intro b2 w2 hS hE hB2
  refine wpl_nil ?_
  refine thn ?_
  refine k_seq ?_
  refine k_seq ?_
  have hSb := hS
  apply k_draw (m := 4) (ss := [.val _, .val _, .val _, .val _]) mixed rfl (by kernel_rfl) (by kernel_rfl) rfl rfl rfl
  · refine ⟨?_, ?_, ?_, ?_, trivial⟩
    · -- op 0
      intro jnk vals lo hi w3 hE0 hd
      have hS := hS.step hE0
      refine r_load rfl (ld_ba hS (i := 0) rfl rfl rfl ag_99) rfl rfl ?_
      refine wpl_end ?_
      exact ⟨rfl, Ext.refl _ _, rfl⟩
    · -- op 1
      intro jnk vals lo hi w4 hE0 hd
      have hS := hS.step hE0
      refine r_call rfl (c72 _) rfl rfl ?_
      rintro _ w5 ⟨rfl, hE⟩
      have hS := hS.step hE
      refine wpl_end ?_
      exact ⟨rfl, hE.of_no, rfl⟩
    · -- op 2
      intro jnk vals lo hi w6 hE0 hd
      have hS := hS.step hE0
      refine r_load rfl (ld_ba hS (i := 0) rfl rfl rfl ag_99) rfl rfl ?_
      refine wpl_end ?_
      exact ⟨rfl, Ext.refl _ _, rfl⟩
    · -- op 3
      intro jnk vals lo hi w7 hE0 hd
      have hS := hS.step hE0
      refine r_makeFuncv (v1 := [_]) (v2 := []) ⟨(by conv => lhs; whnf), trivial⟩ trivial rfl rfl ?_
      refine wpl_end ?_
      exact ⟨rfl, Ext.refl _ _, rfl⟩
  · intro φ hφ v lo hi S w1 w2 hEa hEb hSb2
    simp at hφ
  intro jnk vals lo hi w8 hE0 hsat hdj hbd
  have hS := hS.step hE0
  have hSl := hS
  refine r_call rfl (c83 _ b A1 A2 n1 c1 n2 c2 m (hB.ext hS.ext) false) rfl rfl ?_
  rintro _ w9 ⟨x3, x4, x5, rfl, hE, hdat, hx3, hx4, hx5⟩
  have hS := hS.step hE
  refine wpl_nil ?_
  refine thn ?_
  refine k_block ?_
  refine k_range (ι := Bool) (En := EnP) rfl (iterP b false A1 A2 n1 c1 n2 c2 m x3 x4 x5) (hdat) (fun k hk => dat_lt hdat hk) (fun i => [box b1 99 [.slice A1 n1 c1, .slice A2 n2 c2, .int .i64 b.dark, .int .i64 b.near, .int .i64 b.mat, .map (some m)], box b2 4 [.bool i]]) (fun pre i => i = false ∧ pre = []) (fun c pre i => c = .ret ∧ i = true ∧ pre ≠ []) (false) (hS) (⟨rfl, rfl⟩) (dat_dis hB hSl hx3.1 hx4.1 hx5.1) rfl (fun _ _ _ h => enp_len h) ?_ ?_ ?_
  · -- round
    rintro D l r r2 pre x args it i w1 hpre ⟨rfl, rfl⟩ ⟨ax, cx, rfl, rfl⟩ hwsz hS
    refine k_skip ?_
    refine thn ?_
    refine ⟨rfl, _, 3, hS, rfl, ?_⟩
    intro w10 hS
    refine k_block ?_
    refine k_seq ?_
    refine k_region ?_
    refine r_store1 hS (i := 1) rfl (by conv => lhs; whnf) rfl rfl sz_4 rfl rfl rfl ?_
    intro w11 hS hE
    refine wpl_nil ?_
    refine thn ?_
    refine k_ret ?_
    exact ⟨true, ⟨rfl, rfl, by simp⟩, hS.pick [0, 1, 2, 3] rfl⟩
  · -- done
    rintro D i w9 ⟨rfl, hG⟩ hS
    refine blk_n ?_
    refine thn ?_
    refine k_seq ?_
    refine k_region ?_
    refine r_store1 hS (i := 1) rfl (by conv => lhs; whnf) rfl rfl sz_4 rfl rfl rfl ?_
    intro w12 hS hE
    refine wpl_nil ?_
    refine thn ?_
    refine ret_d [_] (fun _ _ _ => rfl) hS (i := 2) rfl (fun w10 hS => ⟨⟨⟨_, rfl, ld_bs hS (i := 1) rfl rfl sc_4⟩, trivial⟩, ?_, hS.ext⟩)
    unfold HBook.served
    rw [hG]
    rfl
  · -- stop
    rintro D c pre i w9 hpre ⟨rfl, rfl, hne⟩ hS
    refine ret_d [_] (fun _ _ _ => rfl) hS (i := 2) rfl (fun w10 hS => ⟨⟨⟨_, rfl, ld_bs hS (i := 1) rfl rfl sc_4⟩, trivial⟩, ?_, hS.ext⟩)
    have hne2 : b.plans false ≠ [] := fun h => hne (by rw [h] at hpre; simpa using hpre)
    unfold HBook.served
    cases hp : b.plans false with
    | nil => exact absurd hp hne2
    | cons y l => rfl

theorem c77 (w : World) (b : HBook) (A1 A2 : Option Addr) (n1 c1 n2 c2 m : Nat) (hB : Bk w A1 A2 n1 n2 m b) : Cv Tryd.prog 77 #[.agg #[.slice A1 n1 c1, .slice A2 n2 c2, .int .i64 b.dark, .int .i64 b.near, .int .i64 b.mat, .map (some m)]] w (fun v w' => ∃ a c, v = .tuple #[.slice a b.bestP.1.length c, .bool b.bestP.2.2] ∧ Ext no w w' ∧ (row 3 1 a b.bestP.1.length c (b.bestP.1.map iv)).ok w' ∧ (∀ z, a = some ⟨z, 0, none⟩ → w.heap.size ≤ z ∧ z < w'.heap.size)) := by
  refine cv_intro Tryd.func77 rfl rfl Tryd.ntmps77 rfl (by kernel_rfl) ?_
  have hl1 := hB.h1.1
  have hl2 := hB.h2.1
  have hg := hB.good
  have hg1 := hg.l1
  have hg2 := hg.l2
  have hgd := hg.dark
  have hgn := hg.near
  have hgm := hg.mat
  have hS := St.nil w
  refine k_seq ?_
  refine k_region ?_
  refine r_boxa hS rfl rfl rfl ?_
  intro b1 w1 hS hE hB1
  refine r_assign (by conv => lhs; whnf) rfl rfl ?_
  refine r_assign (by conv => lhs; whnf) rfl rfl ?_
  refine wpl_nil ?_
  refine thn ?_
  refine k_seq ?_
  refine k_region ?_
  refine r_alloc hS z_26 rfl rfl rfl ?_
  intro b4 w2 hS hE hB4
  refine wpl_nil ?_
  refine thn ?_
  refine k_seq ?_
  refine k_region ?_
  refine r_alloc hS z_3 rfl rfl rfl ?_
  intro b5 w3 hS hE hB5
  refine r_alloc hS z_4 rfl rfl rfl ?_
  intro b6 w4 hS hE hB6
  refine r_store1 hS (i := 2) rfl (by conv => lhs; whnf) rfl rfl sz_3 rfl rfl rfl ?_
  intro w5 hS hE
  refine r_store1 hS (i := 3) rfl (by conv => lhs; whnf) rfl rfl sz_4 rfl rfl rfl ?_
  intro w6 hS hE
  refine wpl_nil ?_
  refine thn ?_
  refine k_seq ?_
  refine k_seq ?_
  have hS := row_nil (e := 3) (sz := 1) hS
  have hSb := hS
  apply k_draw (m := 4) (ss := [.val _, .val _, .val _, .val _]) mixed rfl (by kernel_rfl) (by kernel_rfl) rfl rfl rfl
  · refine ⟨?_, ?_, ?_, ?_, trivial⟩
    · -- op 0
      intro jnk vals lo hi w7 hE0 hd
      have hS := hS.step hE0
      refine r_load rfl (ld_ba hS (i := 0) rfl rfl rfl ag_99) rfl rfl ?_
      refine wpl_end ?_
      exact ⟨rfl, Ext.refl _ _, rfl⟩
    · -- op 1
      intro jnk vals lo hi w8 hE0 hd
      have hS := hS.step hE0
      refine r_call rfl (c72 _) rfl rfl ?_
      rintro _ w9 ⟨rfl, hE⟩
      have hS := hS.step hE
      refine wpl_end ?_
      exact ⟨rfl, hE.of_no, rfl⟩
    · -- op 2
      intro jnk vals lo hi w10 hE0 hd
      have hS := hS.step hE0
      refine r_load rfl (ld_ba hS (i := 0) rfl rfl rfl ag_99) rfl rfl ?_
      refine wpl_end ?_
      exact ⟨rfl, Ext.refl _ _, rfl⟩
    · -- op 3
      intro jnk vals lo hi w11 hE0 hd
      have hS := hS.step hE0
      refine r_makeFuncv (v1 := [_]) (v2 := []) ⟨(by conv => lhs; whnf), trivial⟩ trivial rfl rfl ?_
      refine wpl_end ?_
      exact ⟨rfl, Ext.refl _ _, rfl⟩
  · intro φ hφ v lo hi S w1 w2 hEa hEb hSb2
    simp at hφ
  intro jnk vals lo hi w12 hE0 hsat hdj hbd
  have hS := hS.step hE0
  have hSl := hS
  refine r_call rfl (c83 _ b A1 A2 n1 c1 n2 c2 m (hB.ext hS.ext) false) rfl rfl ?_
  rintro _ w13 ⟨x3, x4, x5, rfl, hE, hdat, hx3, hx4, hx5⟩
  have hS := hS.step hE
  refine wpl_nil ?_
  refine thn ?_
  refine k_block ?_
  refine k_range (ι := List Int × Option Addr × Nat × Int × Bool) (En := EnP) rfl (iterP b false A1 A2 n1 c1 n2 c2 m x3 x4 x5) (hdat) (fun k hk => dat_lt hdat hk) (fun i => [box b1 99 [.slice A1 n1 c1, .slice A2 n2 c2, .int .i64 b.dark, .int .i64 b.near, .int .i64 b.mat, .map (some m)], box b4 26 [.slice i.2.1 i.1.length i.2.2.1], box b5 3 [.int .i64 i.2.2.2.1], box b6 4 [.bool i.2.2.2.2], row 3 1 i.2.1 i.1.length i.2.2.1 (i.1.map iv)]) (fun pre i => (i.1, i.2.2.2.1, i.2.2.2.2) = pre.foldl b.bestStep ([], 0, false)) (fun c pre i => False) (([], none, 0, 0, false)) (hS) (rfl) (dat_dis hB hSl hx3.1 hx4.1 hx5.1) rfl (fun _ _ _ h => enp_len h) ?_ ?_ ?_
  · -- round
    rintro D l r r2 pre x args it ⟨out, ao, co, least, found⟩ w1 hpre hG ⟨ax, cx, rfl, rfl⟩ hwsz hS
    dsimp only at hS hG
    have hxo := b.plans_ok hg (pre_mem hpre)
    have hu := hxo.2.2
    refine k_seq ?_
    refine k_region ?_
    refine r_assign (by conv => lhs; whnf) rfl rfl ?_
    refine wpl_nil ?_
    refine thn ?_
    refine k_region ?_
    refine r_alloc hS z_104 rfl rfl rfl ?_
    intro b8 w14 hS hE hB8
    refine r_storeu hS (i := 8) rfl rfl rfl sz_104 hu.len rfl rfl ?_
    intro w16 hS hE
    refine wpl_nil ?_
    refine thn ?_
    refine ⟨rfl, _, 6, hS, rfl, ?_⟩
    intro w17 hS
    refine k_block ?_
    refine k_seq ?_
    have hSb := hS
    apply k_draw (m := 3) (ss := [.val _, .val _, .val _]) mixed rfl (by kernel_rfl) (by kernel_rfl) rfl rfl rfl
    · refine ⟨?_, ?_, ?_, trivial⟩
      · -- op 0
        intro jnk vals lo hi w18 hE0 hd
        have hS := hS.step hE0
        refine r_load rfl (ld_ba hS (i := 0) rfl rfl rfl ag_99) rfl rfl ?_
        refine wpl_end ?_
        exact ⟨rfl, Ext.refl _ _, rfl⟩
      · -- op 1
        intro jnk vals lo hi w19 hE0 hd
        have hS := hS.step hE0
        refine r_load rfl (ld_ba hS (i := 8) rfl (take5 hu.len) (len5 hu.len) ag_104) rfl rfl ?_
        refine wpl_end ?_
        exact ⟨rfl, Ext.refl _ _, rfl⟩
      · -- op 2
        intro jnk vals lo hi w21 hE0 hd
        have hS := hS.step hE0
        refine r_call rfl (c73 _) rfl rfl ?_
        rintro _ w22 ⟨rfl, hE⟩
        have hS := hS.step hE
        refine wpl_end ?_
        exact ⟨rfl, hE.of_no, rfl⟩
    · intro φ hφ v lo hi S w1 w2 hEa hEb hSb2
      simp at hφ
    intro jnk vals lo hi w23 hE0 hsat hdj hbd
    have hS := hS.step hE0
    refine r_call rfl (c71 _ b A1 A2 n1 c1 n2 c2 m (hB.ext hS.ext) _ true hu) rfl rfl ?_
    rintro _ w24 ⟨rfl, hE⟩
    have hS := hS.step hE
    refine r_assign (by conv => lhs; whnf) rfl rfl ?_
    refine wpl_nil ?_
    refine thn ?_
    refine k_seq ?_
    refine k_region ?_
    refine r_load rfl (ld_bs hS (i := 3) rfl rfl sc_4) rfl rfl ?_
    refine r_not rfl rfl rfl ?_
    refine r_moveb rfl rfl rfl (fun hb25 => ?_) (fun hb25 => ?_)
    · -- True
      have hcf := hb25
      refine r_skip rfl rfl ?_
      refine r_skip rfl rfl ?_
      refine r_skip rfl rfl ?_
      refine r_pick_t rfl (by conv => lhs; whnf) rfl rfl ?_
      refine wpl_nil ?_
      refine thn ?_
      refine k_cond_t rfl ?_
      refine k_region ?_
      refine r_move (by conv => lhs; whnf) rfl rfl ?_
      refine r_move (by conv => lhs; whnf) rfl rfl ?_
      refine r_store1 hS (i := 1) rfl (by conv => lhs; whnf) rfl rfl sz_26 rfl rfl rfl ?_
      intro w26 hS hE
      refine r_store1 hS (i := 2) rfl (by conv => lhs; whnf) rfl rfl sz_3 rfl rfl rfl ?_
      intro w27 hS hE
      refine r_store1 hS (i := 3) rfl (by conv => lhs; whnf) rfl rfl sz_4 rfl rfl rfl ?_
      intro w28 hS hE
      refine wpl_nil ?_
      refine blk_n ?_
      refine ⟨(x.1, ax, cx, b.offOf x.2 true, true), ?_, hS.pick [0, 1, 2, 3, 7, 5, 6] rfl⟩
      dsimp only
      rw [List.foldl_append, ← hG]
      clear hG
      simp [HBook.bestStep, *]
    · -- False
      have hcf := hb25
      refine r_move (by conv => lhs; whnf) rfl rfl ?_
      refine r_load rfl (ld_bs hS (i := 2) rfl rfl sc_3) rfl rfl ?_
      refine r_lss rfl rfl rfl rfl ?_
      refine r_pick_f rfl (by conv => lhs; whnf) rfl rfl ?_
      refine wpl_nil ?_
      refine thn ?_
      refine k_cond rfl (fun hc29 => ?_) (fun hc29 => ?_)
      · -- t
        have hcn := hc29
        refine k_region ?_
        refine r_move (by conv => lhs; whnf) rfl rfl ?_
        refine r_move (by conv => lhs; whnf) rfl rfl ?_
        refine r_store1 hS (i := 1) rfl (by conv => lhs; whnf) rfl rfl sz_26 rfl rfl rfl ?_
        intro w30 hS hE
        refine r_store1 hS (i := 2) rfl (by conv => lhs; whnf) rfl rfl sz_3 rfl rfl rfl ?_
        intro w31 hS hE
        refine r_store1 hS (i := 3) rfl (by conv => lhs; whnf) rfl rfl sz_4 rfl rfl rfl ?_
        intro w32 hS hE
        refine wpl_nil ?_
        refine blk_n ?_
        refine ⟨(x.1, ax, cx, b.offOf x.2 true, true), ?_, hS.pick [0, 1, 2, 3, 7, 5, 6] rfl⟩
        dsimp only
        rw [List.foldl_append, ← hG]
        clear hG
        simp [HBook.bestStep, *]
      · -- f
        have hcn := hc29
        refine k_skip ?_
        refine blk_n ?_
        refine ⟨(out, ao, co, least, found), ?_, hS.pick [0, 1, 2, 3, 4, 5, 6] rfl⟩
        dsimp only
        rw [List.foldl_append, ← hG]
        clear hG
        simp [HBook.bestStep, *]
  · -- done
    rintro D ⟨out, ao, co, least, found⟩ w9 hG hS
    dsimp only at hS hG
    refine blk_n ?_
    refine thn ?_
    refine k_seq ?_
    have hSb := hS
    apply k_draw (m := 3) (ss := [.val _, .val _, .val _]) mixed rfl (by kernel_rfl) (by kernel_rfl) rfl rfl rfl
    · refine ⟨?_, ?_, ?_, trivial⟩
      · -- op 0
        intro jnk vals lo hi w33 hE0 hd
        have hS := hS.step hE0
        refine r_load rfl (ld_bs hS (i := 1) rfl rfl sc_26) rfl rfl ?_
        refine wpl_end ?_
        exact ⟨rfl, Ext.refl _ _, rfl⟩
      · -- op 1
        intro jnk vals lo hi w34 hE0 hd
        have hS := hS.step hE0
        refine r_load rfl (ld_bs hS (i := 3) rfl rfl sc_4) rfl rfl ?_
        refine wpl_end ?_
        exact ⟨rfl, Ext.refl _ _, rfl⟩
      · -- op 2
        intro jnk vals lo hi w35 hE0 hd
        have hS := hS.step hE0
        refine r_assign (by conv => lhs; whnf) rfl rfl ?_
        refine wpl_end ?_
        exact ⟨rfl, Ext.refl _ _, rfl⟩
    · intro φ hφ v lo hi S w1 w2 hEa hEb hSb2
      simp at hφ
    intro jnk vals lo hi w36 hE0 hsat hdj hbd
    have hS := hS.step hE0
    refine r_assign (by conv => lhs; whnf) rfl rfl ?_
    refine wpl_nil ?_
    refine thn ?_
    refine ret_d [_, _] (fun _ _ _ => rfl) hS (i := 5) rfl (fun w10 hS => ⟨⟨(by conv => lhs; whnf), (by conv => lhs; whnf), trivial⟩, ?_⟩)
    refine ⟨ao, co, ?_, hS.ext, ?_, ?_⟩
    · show Value.tuple #[.slice ao out.length co, .bool found] = _
      unfold HBook.bestP
      rw [← hG]
    · have h5 := hS.get (i := 4) rfl
      have he : b.bestP.1 = out := by unfold HBook.bestP; rw [← hG]
      rw [he]; exact h5
    · intro z hz
      have := hS.lo _ (mem_of_get (i := 4) rfl) z hz
      exact ⟨this.1, this.2.2⟩
  · -- stop
    exact fun D c pre i w9 hpre hG hS => hG.elim
end Go.Proofs.YtofpabocpcfbfaaDoor

/- Walks: T9. -/
namespace Go.Proofs.YtofpabocpcfbfaaDoor
open Go Go.Proofs K

theorem c65 (w : World) (b : HBook) (A1 A2 : Option Addr) (n1 c1 n2 c2 : Nat) (h1 : RdRow Hank.enc 4 w A1 n1 b.hanks) (h2 : RdRow Horse.enc 3 w A2 n2 b.horses) (hP : Parts w) (q : Nat) (l1 l2 : List Value) (p : Bool) (hf : ∀ w' m, Ext no w w' → Bk w' A1 A2 n1 n2 m b → Cv Tryd.prog q (l1 ++ [Value.agg #[.slice A1 n1 c1, .slice A2 n2 c2, .int .i64 b.dark, .int .i64 b.near, .int .i64 b.mat, .map (some m)]] ++ l2).toArray w' (fun v w'' => v = .bool p ∧ Ext no w' w'')) : Cv Tryd.prog 65 #[.agg #[.slice A1 n1 c1, .slice A2 n2 c2, .int .i64 b.dark, .int .i64 b.near, .int .i64 b.mat], .func (.func q) l1.toArray l2.toArray] w (fun v w' => ∃ L e m, v = .tuple #[.agg (List.toArray L), .int .i64 e] ∧ e = b.ask p ∧ Ext no w w' ∧ L.length = 6 ∧ L.all oneC = true ∧ (mpi e m (sh b)).ok w' ∧ (∀ k, (mpi e m (sh b)).fp k → w.heap.size ≤ k ∧ k < w'.heap.size) ∧ (e = 0 → L = bkl b A1 A2 n1 c1 n2 c2 m)) := by
  refine cv_intro Tryd.func65 rfl rfl Tryd.ntmps65 rfl (by kernel_rfl) ?_
  have hS := St.nil w
  refine k_seq ?_
  refine k_region ?_
  refine r_boxa hS rfl rfl rfl ?_
  intro b2 w1 hS hE hB2
  refine r_alloc hS z_99 rfl rfl rfl ?_
  intro b4 w2 hS hE hB4
  refine r_assign (by conv => lhs; whnf) rfl rfl ?_
  refine wpl_nil ?_
  refine thn ?_
  refine k_seq ?_
  refine k_seq ?_
  refine k_region ?_
  refine r_load rfl (ld_ba hS (i := 0) rfl rfl rfl ag_25) rfl rfl ?_
  refine r_call rfl (c46 _ b A1 A2 n1 c1 n2 c2 (h1.ext hS.ext) (h2.ext hS.ext)) rfl rfl ?_
  rintro _ w3 ⟨rfl, hE⟩
  have hS := hS.step hE
  refine r_assign (by conv => lhs; whnf) rfl rfl ?_
  refine wpl_nil ?_
  refine thn ?_
  refine k_seq ?_
  refine k_region ?_
  refine r_move (by conv => lhs; whnf) rfl rfl ?_
  refine r_neq rfl rfl rfl rfl ?_
  refine wpl_nil ?_
  refine thn ?_
  refine k_cond rfl (fun hc4 => ?_) (fun hc4 => ?_)
  · -- t
    have hc40 := hc4
    (try simp only [decide_eq_true_eq, decide_eq_false_iff_not, Bool.and_eq_true, Bool.and_eq_false_iff, Bool.not_eq_true', Bool.not_eq_false', Int.not_lt, Int.not_le] at hc4)
    have hv : b.valid = false := by cases h : b.valid with | false => rfl | true => exact absurd (show b.chk = 0 by unfold HBook.chk; rw [h]; rfl) hc4
    refine k_seq ?_
    refine k_region ?_
    refine r_build z_99 pl_99 rfl rfl rfl ?_
    refine r_move (by conv => lhs; whnf) rfl rfl ?_
    refine r_storea hS (i := 1) rfl rfl rfl sz_99 rfl rfl rfl ?_
    intro w5 hS hE
    refine r_assign (by conv => lhs; whnf) rfl rfl ?_
    refine wpl_nil ?_
    refine thn ?_
    refine retct (fun _ _ _ => rfl) rfl (ld_ba hS (i := 1) rfl rfl rfl ag_99) (by conv => lhs; whnf) ?_
    refine ⟨_, _, 0, rfl, ?_, hS.ext, rfl, rfl, fun h => absurd h ?_, fun k hk => absurd hk.1 ?_, fun h => absurd h ?_⟩
    · unfold HBook.ask HBook.chk; rw [hv]; rfl
    all_goals (unfold HBook.chk; rw [hv]; decide)
  · -- f
    have hc40 := hc4
    (try simp only [decide_eq_true_eq, decide_eq_false_iff_not, Bool.and_eq_true, Bool.and_eq_false_iff, Bool.not_eq_true', Bool.not_eq_false', Int.not_lt, Int.not_le] at hc4)
    have hv : b.valid = true := by cases h : b.valid with | true => rfl | false => rw [show b.chk = 60 by unfold HBook.chk; rw [h]; rfl] at hc4; exact absurd hc4 (by decide)
    have hg := (GoodB.of_valid hv).1
    refine k_skip ?_
    refine thn ?_
    refine k_seq ?_
    refine k_region ?_
    refine r_load rfl (ld_ba hS (i := 0) rfl rfl rfl ag_25) rfl rfl ?_
    refine r_call rfl (c76 _ b A1 A2 n1 c1 n2 c2 (h1.ext hS.ext) (h2.ext hS.ext) hg (hP.ext hS.ext)) rfl rfl ?_
    rintro _ w6 ⟨m, rfl, hE, hB0, hm0⟩
    have hS := hS.add hE (x := mp m (sh b)) hB0.hm (fun k hk => by cases hk; exact ⟨hm0, blk_lt hB0.hm⟩)
    refine r_alloc hS z_99 rfl rfl rfl ?_
    intro b7 w7 hS hE hB7
    refine r_storea hS (i := 3) rfl rfl rfl sz_99 rfl rfl rfl ?_
    intro w8 hS hE
    refine wpl_nil ?_
    refine thn ?_
    refine k_seq ?_
    refine k_seq ?_
    refine k_region ?_
    refine r_move (by conv => lhs; whnf) rfl rfl ?_
    refine r_load rfl (ld_ba hS (i := 3) rfl rfl rfl ag_99) rfl rfl ?_
    refine r_callv (l1 := l1) (l2 := l2) rfl (hf _ m hS.ext (mkBk h1 h2 hP hg hS (i := 2) rfl)) rfl rfl ?_
    rintro _ w9 ⟨rfl, hE⟩
    have hS := hS.step hE
    refine r_not rfl rfl rfl ?_
    refine wpl_nil ?_
    refine thn ?_
    refine k_cond rfl (fun hc10 => ?_) (fun hc10 => ?_)
    · -- t
      have hcp := hc10
      refine k_seq ?_
      refine k_region ?_
      refine r_load rfl (ld_ba hS (i := 3) rfl rfl rfl ag_99) rfl rfl ?_
      refine r_storea hS (i := 1) rfl rfl rfl sz_99 rfl rfl rfl ?_
      intro w11 hS hE
      refine r_assign (by conv => lhs; whnf) rfl rfl ?_
      refine wpl_nil ?_
      refine thn ?_
      refine retct (fun _ _ _ => rfl) rfl (ld_ba hS (i := 1) rfl rfl rfl ag_99) (by conv => lhs; whnf) ?_
      refine ⟨_, _, 0, rfl, ?_, hS.ext, rfl, rfl, fun h => absurd h (by decide), fun k hk => absurd hk.1 (by decide), fun h => absurd h (by decide)⟩
      have hp0 : p = false := by simpa using hcp
      unfold HBook.ask; rw [hv, hp0]; rfl
    · -- f
      have hcp := hc10
      refine k_skip ?_
      refine thn ?_
      refine k_seq ?_
      refine k_region ?_
      refine r_load rfl (ld_ba hS (i := 3) rfl rfl rfl ag_99) rfl rfl ?_
      refine r_storea hS (i := 1) rfl rfl rfl sz_99 rfl rfl rfl ?_
      intro w12 hS hE
      refine r_assign (by conv => lhs; whnf) rfl rfl ?_
      refine wpl_nil ?_
      refine thn ?_
      refine retct (fun _ _ _ => rfl) rfl (ld_ba hS (i := 1) rfl rfl rfl ag_99) (by conv => lhs; whnf) ?_
      refine ⟨_, _, m, rfl, ?_, hS.ext, rfl, rfl, fun _ => hS.get (i := 2) rfl, fun k hk => ?_, fun _ => rfl⟩
      · have hp0 : p = true := by simpa using hcp
        unfold HBook.ask; rw [hv, hp0]; rfl
      · obtain ⟨_, rfl⟩ := hk
        exact hS.rng (i := 2) rfl
end Go.Proofs.YtofpabocpcfbfaaDoor

/- Walks: T10. -/
namespace Go.Proofs.YtofpabocpcfbfaaDoor
open Go Go.Proofs K

theorem c87 (w : World) (b : HBook) (A1 A2 : Option Addr) (n1 c1 n2 c2 m : Nat) (hB : Bk w A1 A2 n1 n2 m b) (q1 q2 q3 q4 : Nat) (i mh th : Int) (hq1 : w.heap[q1]? = some (.cells (List.toArray [.int .i64 i]) 3 (0, 0))) (hq2 : w.heap[q2]? = some (.cells (List.toArray [.slice A1 n1 c1, .slice A2 n2 c2, .int .i64 b.dark, .int .i64 b.near, .int .i64 b.mat]) 25 (0, 0))) (hq3 : w.heap[q3]? = some (.cells (List.toArray [.int .i64 mh]) 3 (0, 0))) (hq4 : w.heap[q4]? = some (.cells (List.toArray [.int .i64 th]) 3 (0, 0))) : Cv Tryd.prog 87 #[.agg #[.slice A1 n1 c1, .slice A2 n2 c2, .int .i64 b.dark, .int .i64 b.near, .int .i64 b.mat, .map (some m)], ptr q1, ptr q2, ptr q3, ptr q4] w (fun v w' => v = .bool (b.dyesP i mh th) ∧ Ext no w w') := by
  refine cv_intro Tryd.func87 rfl rfl Tryd.ntmps87 rfl (by kernel_rfl) ?_
  have hl1 := hB.h1.1
  have hl2 := hB.h2.1
  have hg := hB.good
  have hg1 := hg.l1
  have hg2 := hg.l2
  have hgd := hg.dark
  have hgn := hg.near
  have hgm := hg.mat
  have hS := St.nil w
  refine k_seq ?_
  refine k_region ?_
  refine r_boxa hS rfl rfl rfl ?_
  intro b5 w1 hS hE hB5
  refine r_assign (by conv => lhs; whnf) rfl rfl ?_
  refine wpl_nil ?_
  refine thn ?_
  refine k_seq ?_
  refine k_region ?_
  refine r_load rfl (ld_hs (hS.ext.heap hq1 (fun x => x)) rfl sc_3) rfl rfl ?_
  refine r_field rfl fl_25_1 rfl rfl ?_
  refine r_load rfl (ld_hs (hS.ext.heap hq2 (fun x => x)) rfl sc_23) rfl rfl ?_
  refine r_len rfl sl_23 rfl rfl ?_
  refine r_sub rfl rfl rfl rfl (by omega) ?_
  refine r_call rfl (c82 _ _ _ _) rfl rfl ?_
  rintro _ w2 ⟨rfl, hE⟩
  have hS := hS.step hE
  refine r_moveb rfl rfl rfl (fun hb3 => ?_) (fun hb3 => ?_)
  · -- True
    have hb1 := hb3
    refine r_load rfl (ld_ba hS (i := 0) rfl rfl rfl ag_99) rfl rfl ?_
    refine r_load rfl (ld_hs (hS.ext.heap hq3 (fun x => x)) rfl sc_3) rfl rfl ?_
    refine r_call rfl (c75 _ b A1 A2 n1 c1 n2 c2 m (hB.ext hS.ext) _) rfl rfl ?_
    rintro _ w4 ⟨rfl, hE⟩
    have hS := hS.step hE
    refine r_pick_t rfl (by conv => lhs; whnf) rfl rfl ?_
    refine r_moveb rfl rfl rfl (fun hb5 => ?_) (fun hb5 => ?_)
    · -- True
      have hb2 := hb5
      refine r_load rfl (ld_ba hS (i := 0) rfl rfl rfl ag_99) rfl rfl ?_
      refine r_load rfl (ld_hs (hS.ext.heap hq4 (fun x => x)) rfl sc_3) rfl rfl ?_
      refine r_call rfl (c75 _ b A1 A2 n1 c1 n2 c2 m (hB.ext hS.ext) _) rfl rfl ?_
      rintro _ w6 ⟨rfl, hE⟩
      have hS := hS.step hE
      refine r_pick_t rfl (by conv => lhs; whnf) rfl rfl ?_
      refine r_assign (by conv => lhs; whnf) rfl rfl ?_
      refine wpl_nil ?_
      refine thn ?_
      refine ret1 (fun _ _ _ => rfl) (by conv => lhs; whnf) ?_
      refine ⟨congrArg Value.bool ?_, hS.ext⟩
      unfold HBook.dyesP inB
      rw [hl1, hl2]
      first | simp only [hb1, hb2, Bool.true_and, Bool.false_and, Bool.and_false, Bool.and_true] | simp only [hb1, Bool.false_and]
    · -- False
      have hb2 := hb5
      refine r_skip rfl rfl ?_
      refine r_skip rfl rfl ?_
      refine r_skip rfl rfl ?_
      refine r_pick_f rfl (by conv => lhs; whnf) rfl rfl ?_
      refine r_assign (by conv => lhs; whnf) rfl rfl ?_
      refine wpl_nil ?_
      refine thn ?_
      refine ret1 (fun _ _ _ => rfl) (by conv => lhs; whnf) ?_
      refine ⟨congrArg Value.bool ?_, hS.ext⟩
      unfold HBook.dyesP inB
      rw [hl1, hl2]
      first | simp only [hb1, hb2, Bool.true_and, Bool.false_and, Bool.and_false, Bool.and_true] | simp only [hb1, Bool.false_and]
  · -- False
    have hb1 := hb3
    refine r_skip rfl rfl ?_
    refine r_skip rfl rfl ?_
    refine r_skip rfl rfl ?_
    refine r_pick_f rfl (by conv => lhs; whnf) rfl rfl ?_
    refine r_move (by conv => lhs; whnf) rfl rfl ?_
    refine r_skip rfl rfl ?_
    refine r_skip rfl rfl ?_
    refine r_skip rfl rfl ?_
    refine r_pick_f rfl (by conv => lhs; whnf) rfl rfl ?_
    refine r_assign (by conv => lhs; whnf) rfl rfl ?_
    refine wpl_nil ?_
    refine thn ?_
    refine ret1 (fun _ _ _ => rfl) (by conv => lhs; whnf) ?_
    refine ⟨congrArg Value.bool ?_, hS.ext⟩
    unfold HBook.dyesP inB
    rw [hl1, hl2]
    first | simp only [hb1, hb2, Bool.true_and, Bool.false_and, Bool.and_false, Bool.and_true] | simp only [hb1, Bool.false_and]

theorem c66 (w : World) (b : HBook) (A1 A2 : Option Addr) (n1 c1 n2 c2 m : Nat) (hB : Bk w A1 A2 n1 n2 m b) (q1 : Nat) (plan : List Int) (Ap : Option Addr) (np cp : Nat) (hp : RdInts w Ap np plan) (hq1 : w.heap[q1]? = some (.cells (List.toArray [.slice Ap np cp]) 26 (0, 0))) : Cv Tryd.prog 66 #[.agg #[.slice A1 n1 c1, .slice A2 n2 c2, .int .i64 b.dark, .int .i64 b.near, .int .i64 b.mat, .map (some m)], ptr q1] w (fun v w' => v = .bool (b.isPlan plan) ∧ Ext no w w') := by
  refine cv_intro Tryd.func66 rfl rfl Tryd.ntmps66 rfl (by kernel_rfl) ?_
  have hl1 := hB.h1.1
  have hl2 := hB.h2.1
  have hg := hB.good
  have hg1 := hg.l1
  have hg2 := hg.l2
  have hgd := hg.dark
  have hgn := hg.near
  have hgm := hg.mat
  have hS := St.nil w
  refine k_seq ?_
  refine k_region ?_
  refine r_boxa hS rfl rfl rfl ?_
  intro b2 w1 hS hE hB2
  refine r_assign (by conv => lhs; whnf) rfl rfl ?_
  refine wpl_nil ?_
  refine thn ?_
  refine k_seq ?_
  refine k_region ?_
  refine r_load rfl (ld_ba hS (i := 0) rfl rfl rfl ag_99) rfl rfl ?_
  refine r_load rfl (ld_hs (hS.ext.heap hq1 (fun x => x)) rfl sc_26) rfl rfl ?_
  refine r_call rfl (c67 _ b A1 A2 n1 c1 n2 c2 m (hB.ext hS.ext) plan Ap np cp (hp.ext hS.ext)) rfl rfl ?_
  rintro _ w2 ⟨rfl, hE⟩
  have hS := hS.step hE
  refine r_assign (by conv => lhs; whnf) rfl rfl ?_
  refine wpl_nil ?_
  refine thn ?_
  refine ret1 (fun _ _ _ => rfl) (by conv => lhs; whnf) ?_
  refine ⟨congrArg Value.bool ?_, hS.ext⟩
  rfl

theorem c69 (w : World) (b : HBook) (A1 A2 : Option Addr) (n1 c1 n2 c2 m : Nat) (hB : Bk w A1 A2 n1 n2 m b) (q1 : Nat) (plan : List Int) (Ap : Option Addr) (np cp : Nat) (hp : RdInts w Ap np plan) (hq1 : w.heap[q1]? = some (.cells (List.toArray [.slice Ap np cp]) 26 (0, 0))) : Cv Tryd.prog 69 #[.agg #[.slice A1 n1 c1, .slice A2 n2 c2, .int .i64 b.dark, .int .i64 b.near, .int .i64 b.mat, .map (some m)], ptr q1] w (fun v w' => v = .bool (b.isPlan plan && b.works plan) ∧ Ext no w w') := by
  refine cv_intro Tryd.func69 rfl rfl Tryd.ntmps69 rfl (by kernel_rfl) ?_
  have hl1 := hB.h1.1
  have hl2 := hB.h2.1
  have hg := hB.good
  have hg1 := hg.l1
  have hg2 := hg.l2
  have hgd := hg.dark
  have hgn := hg.near
  have hgm := hg.mat
  have hS := St.nil w
  refine k_seq ?_
  refine k_region ?_
  refine r_boxa hS rfl rfl rfl ?_
  intro b2 w1 hS hE hB2
  refine r_assign (by conv => lhs; whnf) rfl rfl ?_
  refine wpl_nil ?_
  refine thn ?_
  refine k_seq ?_
  refine k_region ?_
  refine r_load rfl (ld_ba hS (i := 0) rfl rfl rfl ag_99) rfl rfl ?_
  refine r_load rfl (ld_hs (hS.ext.heap hq1 (fun x => x)) rfl sc_26) rfl rfl ?_
  refine r_call rfl (c67 _ b A1 A2 n1 c1 n2 c2 m (hB.ext hS.ext) plan Ap np cp (hp.ext hS.ext)) rfl rfl ?_
  rintro _ w2 ⟨rfl, hE⟩
  have hS := hS.step hE
  refine r_moveb rfl rfl rfl (fun hb3 => ?_) (fun hb3 => ?_)
  · -- True
    have hip := hb3
    refine r_load rfl (ld_ba hS (i := 0) rfl rfl rfl ag_99) rfl rfl ?_
    refine r_load rfl (ld_hs (hS.ext.heap hq1 (fun x => x)) rfl sc_26) rfl rfl ?_
    refine r_call rfl (c68 _ b A1 A2 n1 c1 n2 c2 m (hB.ext hS.ext) plan Ap np cp (hp.ext hS.ext) hip) rfl rfl ?_
    rintro _ w4 ⟨rfl, hE⟩
    have hS := hS.step hE
    refine r_pick_t rfl (by conv => lhs; whnf) rfl rfl ?_
    refine r_assign (by conv => lhs; whnf) rfl rfl ?_
    refine wpl_nil ?_
    refine thn ?_
    refine ret1 (fun _ _ _ => rfl) (by conv => lhs; whnf) ?_
    refine ⟨congrArg Value.bool ?_, hS.ext⟩
    rw [hip]
    first | rfl | simp
  · -- False
    have hip := hb3
    refine r_skip rfl rfl ?_
    refine r_skip rfl rfl ?_
    refine r_skip rfl rfl ?_
    refine r_pick_f rfl (by conv => lhs; whnf) rfl rfl ?_
    refine r_assign (by conv => lhs; whnf) rfl rfl ?_
    refine wpl_nil ?_
    refine thn ?_
    refine ret1 (fun _ _ _ => rfl) (by conv => lhs; whnf) ?_
    refine ⟨congrArg Value.bool ?_, hS.ext⟩
    rw [hip]
    first | rfl | simp

theorem c74 (w : World) (b : HBook) (A1 A2 : Option Addr) (n1 c1 n2 c2 m : Nat) (hB : Bk w A1 A2 n1 n2 m b) (q1 : Nat) (plan : List Int) (Ap : Option Addr) (np cp : Nat) (q2 : Nat) (h : Int) (hp : RdInts w Ap np plan) (hq1 : w.heap[q1]? = some (.cells (List.toArray [.slice Ap np cp]) 26 (0, 0))) (hq2 : w.heap[q2]? = some (.cells (List.toArray [.int .i64 h]) 3 (0, 0))) : Cv Tryd.prog 74 #[.agg #[.slice A1 n1 c1, .slice A2 n2 c2, .int .i64 b.dark, .int .i64 b.near, .int .i64 b.mat, .map (some m)], ptr q1, ptr q2] w (fun v w' => v = .bool (b.isPlan plan && b.works plan && inB h b.hanks.length) ∧ Ext no w w') := by
  refine cv_intro Tryd.func74 rfl rfl Tryd.ntmps74 rfl (by kernel_rfl) ?_
  have hl1 := hB.h1.1
  have hl2 := hB.h2.1
  have hg := hB.good
  have hg1 := hg.l1
  have hg2 := hg.l2
  have hgd := hg.dark
  have hgn := hg.near
  have hgm := hg.mat
  have hS := St.nil w
  refine k_seq ?_
  refine k_region ?_
  refine r_boxa hS rfl rfl rfl ?_
  intro b3 w1 hS hE hB3
  refine r_assign (by conv => lhs; whnf) rfl rfl ?_
  refine wpl_nil ?_
  refine thn ?_
  refine k_seq ?_
  refine k_region ?_
  refine r_load rfl (ld_ba hS (i := 0) rfl rfl rfl ag_99) rfl rfl ?_
  refine r_load rfl (ld_hs (hS.ext.heap hq1 (fun x => x)) rfl sc_26) rfl rfl ?_
  refine r_call rfl (c67 _ b A1 A2 n1 c1 n2 c2 m (hB.ext hS.ext) plan Ap np cp (hp.ext hS.ext)) rfl rfl ?_
  rintro _ w2 ⟨rfl, hE⟩
  have hS := hS.step hE
  refine r_moveb rfl rfl rfl (fun hb3 => ?_) (fun hb3 => ?_)
  · -- True
    have hip := hb3
    refine r_load rfl (ld_ba hS (i := 0) rfl rfl rfl ag_99) rfl rfl ?_
    refine r_load rfl (ld_hs (hS.ext.heap hq1 (fun x => x)) rfl sc_26) rfl rfl ?_
    refine r_call rfl (c68 _ b A1 A2 n1 c1 n2 c2 m (hB.ext hS.ext) plan Ap np cp (hp.ext hS.ext) hip) rfl rfl ?_
    rintro _ w4 ⟨rfl, hE⟩
    have hS := hS.step hE
    refine r_pick_t rfl (by conv => lhs; whnf) rfl rfl ?_
    refine r_moveb rfl rfl rfl (fun hb5 => ?_) (fun hb5 => ?_)
    · -- True
      have hwk := hb5
      refine r_load rfl (ld_ba hS (i := 0) rfl rfl rfl ag_99) rfl rfl ?_
      refine r_load rfl (ld_hs (hS.ext.heap hq2 (fun x => x)) rfl sc_3) rfl rfl ?_
      refine r_call rfl (c75 _ b A1 A2 n1 c1 n2 c2 m (hB.ext hS.ext) _) rfl rfl ?_
      rintro _ w6 ⟨rfl, hE⟩
      have hS := hS.step hE
      refine r_pick_t rfl (by conv => lhs; whnf) rfl rfl ?_
      refine r_assign (by conv => lhs; whnf) rfl rfl ?_
      refine wpl_nil ?_
      refine thn ?_
      refine ret1 (fun _ _ _ => rfl) (by conv => lhs; whnf) ?_
      refine ⟨congrArg Value.bool ?_, hS.ext⟩
      unfold inB
      rw [hl1]
      simp_all
    · -- False
      have hwk := hb5
      refine r_skip rfl rfl ?_
      refine r_skip rfl rfl ?_
      refine r_skip rfl rfl ?_
      refine r_pick_f rfl (by conv => lhs; whnf) rfl rfl ?_
      refine r_assign (by conv => lhs; whnf) rfl rfl ?_
      refine wpl_nil ?_
      refine thn ?_
      refine ret1 (fun _ _ _ => rfl) (by conv => lhs; whnf) ?_
      refine ⟨congrArg Value.bool ?_, hS.ext⟩
      unfold inB
      rw [hl1]
      simp_all
  · -- False
    have hip := hb3
    refine r_skip rfl rfl ?_
    refine r_skip rfl rfl ?_
    refine r_skip rfl rfl ?_
    refine r_pick_f rfl (by conv => lhs; whnf) rfl rfl ?_
    refine r_move (by conv => lhs; whnf) rfl rfl ?_
    refine r_skip rfl rfl ?_
    refine r_skip rfl rfl ?_
    refine r_skip rfl rfl ?_
    refine r_pick_f rfl (by conv => lhs; whnf) rfl rfl ?_
    refine r_assign (by conv => lhs; whnf) rfl rfl ?_
    refine wpl_nil ?_
    refine thn ?_
    refine ret1 (fun _ _ _ => rfl) (by conv => lhs; whnf) ?_
    refine ⟨congrArg Value.bool ?_, hS.ext⟩
    unfold inB
    rw [hl1]
    simp_all

theorem c37 (w : World) (b : HBook) (A1 A2 : Option Addr) (n1 c1 n2 c2 : Nat) (h1 : RdRow Hank.enc 4 w A1 n1 b.hanks) (h2 : RdRow Horse.enc 3 w A2 n2 b.horses) (hP : Parts w) (i mh th : Int) : Cv Tryd.prog 37 #[.agg #[.slice A1 n1 c1, .slice A2 n2 c2, .int .i64 b.dark, .int .i64 b.near, .int .i64 b.mat], .int .i64 i, .int .i64 mh, .int .i64 th] w (fun v w' => v = .tuple #[.int .i64 (b.dyesV i mh th).1, .int .i64 (b.dyesV i mh th).2, .int .i64 (b.dyesE i mh th)] ∧ Ext no w w') := by
  refine cv_intro Tryd.func37 rfl rfl Tryd.ntmps37 rfl (by kernel_rfl) ?_
  have hS := St.nil w
  have hl1 := h1.1
  have hl2 := h2.1
  refine k_seq ?_
  refine k_region ?_
  refine r_boxa hS rfl rfl rfl ?_
  intro b4 w1 hS hE hB4
  refine r_box1 hS (by conv => lhs; whnf) rfl rfl rfl ?_
  intro b5 w2 hS hE hB5
  refine r_box1 hS (by conv => lhs; whnf) rfl rfl rfl ?_
  intro b6 w3 hS hE hB6
  refine r_box1 hS (by conv => lhs; whnf) rfl rfl rfl ?_
  intro b7 w4 hS hE hB7
  refine r_assign (by conv => lhs; whnf) rfl rfl ?_
  refine r_assign (by conv => lhs; whnf) rfl rfl ?_
  refine r_assign (by conv => lhs; whnf) rfl rfl ?_
  refine wpl_nil ?_
  refine thn ?_
  refine k_seq ?_
  refine k_region ?_
  refine r_load rfl (ld_ba hS (i := 0) rfl rfl rfl ag_25) rfl rfl ?_
  refine r_makeFuncv (v1 := []) (v2 := [_, _, _, _]) trivial ⟨(by conv => lhs; whnf), (by conv => lhs; whnf), (by conv => lhs; whnf), (by conv => lhs; whnf), trivial⟩ rfl rfl ?_
  refine r_call rfl (c65 _ b A1 A2 n1 c1 n2 c2 (h1.ext hS.ext) (h2.ext hS.ext) (hP.ext hS.ext) _ _ _ (b.dyesP i mh th) (fun w2 m2 hE2 hB2 => c87 w2 b A1 A2 n1 c1 n2 c2 m2 hB2 b5 b4 b6 b7 i mh th (hE2.heap (hS.get (i := 1) rfl) (fun x => x)) (hE2.heap (hS.get (i := 0) rfl) (fun x => x)) (hE2.heap (hS.get (i := 2) rfl) (fun x => x)) (hE2.heap (hS.get (i := 3) rfl) (fun x => x)))) rfl rfl ?_
  rintro _ w5 ⟨L, e, m, rfl, he, hE, hL6, hLo, hmok, hmfp, hLB⟩
  have hS := hS.add hE (x := mpi e m (sh b)) hmok hmfp
  refine r_move (by conv => lhs; whnf) rfl rfl ?_
  refine r_extract rfl rfl rfl rfl ?_
  refine r_extract rfl rfl rfl rfl ?_
  refine r_alloc hS z_99 rfl rfl rfl ?_
  intro b11 w6 hS hE hB11
  refine r_storel hS (i := 5) rfl rfl rfl sz_99 hL6 hLo rfl rfl ?_
  intro w8 hS hE
  refine r_assign (by conv => lhs; whnf) rfl rfl ?_
  refine wpl_nil ?_
  refine thn ?_
  refine k_seq ?_
  refine k_seq ?_
  refine k_region ?_
  refine r_move (by conv => lhs; whnf) rfl rfl ?_
  refine r_neq rfl rfl rfl rfl ?_
  refine wpl_nil ?_
  refine thn ?_
  refine k_cond rfl (fun hc9 => ?_) (fun hc9 => ?_)
  · -- t
    skip
    have hcz : ¬ e = 0 := by simpa using hc9
    refine k_seq ?_
    refine k_region ?_
    refine r_move (by conv => lhs; whnf) rfl rfl ?_
    refine r_assign (by conv => lhs; whnf) rfl rfl ?_
    refine r_assign (by conv => lhs; whnf) rfl rfl ?_
    refine r_assign (by conv => lhs; whnf) rfl rfl ?_
    refine wpl_nil ?_
    refine thn ?_
    refine ret3 (fun _ _ _ => rfl) (by conv => lhs; whnf) (by conv => lhs; whnf) (by conv => lhs; whnf) ?_
    have h0 : b.dyesE i mh th = e := by unfold HBook.dyesE; rw [← he]; simp [hcz]
    have h1 : b.dyesV i mh th = (0, 0) := by unfold HBook.dyesV; rw [h0]; simp [hcz]
    exact ⟨by (rw [h0, h1]) <;> rfl, hS.ext⟩
  · -- f
    skip
    have hcz : e = 0 := by simpa using hc9
    have hLe := hLB hcz
    subst hLe
    have hask := b.ask_zero (he.symm.trans hcz)
    have hg := (GoodB.of_valid hask.1).1
    have hg1 := hg.l1
    have hg2 := hg.l2
    have hri : 0 ≤ i ∧ i < n2 := by have := hask.2; unfold HBook.dyesP at this; simp only [Bool.and_eq_true, inB_iff] at this; omega
    have hrm : 0 ≤ mh ∧ mh < n1 := by have := hask.2; unfold HBook.dyesP at this; simp only [Bool.and_eq_true, inB_iff] at this; omega
    have hrt : 0 ≤ th ∧ th < n1 := by have := hask.2; unfold HBook.dyesP at this; simp only [Bool.and_eq_true, inB_iff] at this; omega
    refine k_skip ?_
    refine thn ?_
    refine k_seq ?_
    refine k_region ?_
    refine r_load rfl (ld_ba hS (i := 5) rfl rfl rfl ag_99) rfl rfl ?_
    refine r_load rfl (ld_bs hS (i := 1) rfl rfl sc_3) rfl rfl ?_
    refine r_load rfl (ld_bs hS (i := 2) rfl rfl sc_3) rfl rfl ?_
    refine r_load rfl (ld_bs hS (i := 3) rfl rfl sc_3) rfl rfl ?_
    refine r_call rfl (c88 _ b A1 A2 n1 c1 n2 c2 m (mkBi h1 h2 hP hg hS (i := 4) rfl hcz) _ _ _ hri hrm hrt) rfl rfl ?_
    rintro _ w10 ⟨rfl, hE⟩
    have hS := hS.step hE
    refine r_move (by conv => lhs; whnf) rfl rfl ?_
    refine r_extract rfl rfl rfl rfl ?_
    refine r_extract rfl rfl rfl rfl ?_
    refine r_extract rfl rfl rfl rfl ?_
    refine r_alloc hS z_122 rfl rfl rfl ?_
    intro b13 w11 hS hE hB13
    refine r_alloc hS z_122 rfl rfl rfl ?_
    intro b14 w12 hS hE hB14
    refine r_storea hS (i := 6) rfl rfl rfl sz_122 rfl rfl rfl ?_
    intro w13 hS hE
    refine r_storea hS (i := 7) rfl rfl rfl sz_122 rfl rfl rfl ?_
    intro w14 hS hE
    refine r_assign (by conv => lhs; whnf) rfl rfl ?_
    refine wpl_nil ?_
    refine thn ?_
    refine k_seq ?_
    refine k_seq ?_
    refine k_region ?_
    refine r_move (by conv => lhs; whnf) rfl rfl ?_
    refine r_not rfl rfl rfl ?_
    refine wpl_nil ?_
    refine thn ?_
    refine k_cond rfl (fun hc15 => ?_) (fun hc15 => ?_)
    · -- t
      have hcs := hc15
      refine k_seq ?_
      refine k_region ?_
      refine r_assign (by conv => lhs; whnf) rfl rfl ?_
      refine r_assign (by conv => lhs; whnf) rfl rfl ?_
      refine r_assign (by conv => lhs; whnf) rfl rfl ?_
      refine wpl_nil ?_
      refine thn ?_
      refine ret3 (fun _ _ _ => rfl) (by conv => lhs; whnf) (by conv => lhs; whnf) (by conv => lhs; whnf) ?_
      have hsu : b.sure i mh th = false := by simpa using hcs
      have h0 : b.dyesE i mh th = 4 := by unfold HBook.dyesE; rw [← he, hsu]; simp [hcz]
      have h1 : b.dyesV i mh th = (0, 0) := by unfold HBook.dyesV; rw [h0]; rfl
      exact ⟨by (rw [h0, h1]) <;> rfl, hS.ext⟩
    · -- f
      have hcs := hc15
      refine k_skip ?_
      refine thn ?_
      refine k_seq ?_
      have hSb := hS
      apply k_draw (m := 5) (ss := [.val _, .val _, .val _, .val _, .val _]) mixed rfl (by kernel_rfl) (by kernel_rfl) rfl rfl rfl
      · refine ⟨?_, ?_, ?_, ?_, ?_, trivial⟩
        · -- op 0
          intro jnk vals lo hi w16 hE0 hd
          have hS := hS.step hE0
          refine r_field rfl fl_122_1 rfl rfl ?_
          refine wpl_end ?_
          exact ⟨rfl, Ext.refl _ _, rfl⟩
        · -- op 1
          intro jnk vals lo hi w17 hE0 hd
          have hS := hS.step hE0
          refine r_load rfl (ld_bs hS (i := 6) rfl rfl sc_3) rfl rfl ?_
          refine wpl_end ?_
          exact ⟨rfl, Ext.refl _ _, rfl⟩
        · -- op 2
          intro jnk vals lo hi w18 hE0 hd
          have hS := hS.step hE0
          refine r_field rfl fl_122_1 rfl rfl ?_
          refine wpl_end ?_
          exact ⟨rfl, Ext.refl _ _, rfl⟩
        · -- op 3
          intro jnk vals lo hi w19 hE0 hd
          have hS := hS.step hE0
          refine r_load rfl (ld_bs hS (i := 7) rfl rfl sc_3) rfl rfl ?_
          refine wpl_end ?_
          exact ⟨rfl, Ext.refl _ _, rfl⟩
        · -- op 4
          intro jnk vals lo hi w20 hE0 hd
          have hS := hS.step hE0
          refine r_assign (by conv => lhs; whnf) rfl rfl ?_
          refine wpl_end ?_
          exact ⟨rfl, Ext.refl _ _, rfl⟩
      · intro φ hφ v lo hi S w1 w2 hEa hEb hSb2
        simp at hφ
      intro jnk vals lo hi w21 hE0 hsat hdj hbd
      have hS := hS.step hE0
      refine r_assign (by conv => lhs; whnf) rfl rfl ?_
      refine r_assign (by conv => lhs; whnf) rfl rfl ?_
      refine wpl_nil ?_
      refine thn ?_
      refine ret3 (fun _ _ _ => rfl) (by conv => lhs; whnf) (by conv => lhs; whnf) (by conv => lhs; whnf) ?_
      have hsu : b.sure i mh th = true := by simpa using hcs
      have h0 : b.dyesE i mh th = 0 := by unfold HBook.dyesE; rw [← he, hsu]; simp [hcz]
      have h1 : b.dyesV i mh th = b.dyo i mh th := by unfold HBook.dyesV; rw [h0]; rfl
      exact ⟨by (rw [h0, h1]) <;> rfl, hS.ext⟩

theorem c18 (w : World) (b : HBook) (A1 A2 : Option Addr) (n1 c1 n2 c2 : Nat) (h1 : RdRow Hank.enc 4 w A1 n1 b.hanks) (h2 : RdRow Horse.enc 3 w A2 n2 b.horses) (hP : Parts w) (plan : List Int) (Ap : Option Addr) (np cp : Nat) (hp : RdInts w Ap np plan) : Cv Tryd.prog 18 #[.agg #[.slice A1 n1 c1, .slice A2 n2 c2, .int .i64 b.dark, .int .i64 b.near, .int .i64 b.mat], .slice Ap np cp] w (fun v w' => v = .tuple #[.bool (b.worksV plan), .int .i64 (b.worksE plan)] ∧ Ext no w w') := by
  refine cv_intro Tryd.func18 rfl rfl Tryd.ntmps18 rfl (by kernel_rfl) ?_
  have hS := St.nil w
  have hl1 := h1.1
  have hl2 := h2.1
  refine k_seq ?_
  refine k_region ?_
  refine r_boxa hS rfl rfl rfl ?_
  intro b2 w1 hS hE hB2
  refine r_box1 hS (by conv => lhs; whnf) rfl rfl rfl ?_
  intro b3 w2 hS hE hB3
  refine r_assign (by conv => lhs; whnf) rfl rfl ?_
  refine r_assign (by conv => lhs; whnf) rfl rfl ?_
  refine wpl_nil ?_
  refine thn ?_
  refine k_seq ?_
  refine k_region ?_
  refine r_load rfl (ld_ba hS (i := 0) rfl rfl rfl ag_25) rfl rfl ?_
  refine r_makeFuncv (v1 := []) (v2 := [_]) trivial ⟨(by conv => lhs; whnf), trivial⟩ rfl rfl ?_
  refine r_call rfl (c65 _ b A1 A2 n1 c1 n2 c2 (h1.ext hS.ext) (h2.ext hS.ext) (hP.ext hS.ext) _ _ _ (b.isPlan plan) (fun w2 m2 hE2 hB2 => c66 w2 b A1 A2 n1 c1 n2 c2 m2 hB2 b3 plan Ap np cp (hp.ext (hS.ext.trans hE2)) (hE2.heap (hS.get (i := 1) rfl) (fun x => x)))) rfl rfl ?_
  rintro _ w3 ⟨L, e, m, rfl, he, hE, hL6, hLo, hmok, hmfp, hLB⟩
  have hS := hS.add hE (x := mpi e m (sh b)) hmok hmfp
  refine r_move (by conv => lhs; whnf) rfl rfl ?_
  refine r_extract rfl rfl rfl rfl ?_
  refine r_extract rfl rfl rfl rfl ?_
  refine r_alloc hS z_99 rfl rfl rfl ?_
  intro b6 w4 hS hE hB6
  refine r_storel hS (i := 3) rfl rfl rfl sz_99 hL6 hLo rfl rfl ?_
  intro w6 hS hE
  refine r_assign (by conv => lhs; whnf) rfl rfl ?_
  refine wpl_nil ?_
  refine thn ?_
  refine k_seq ?_
  refine k_seq ?_
  refine k_region ?_
  refine r_move (by conv => lhs; whnf) rfl rfl ?_
  refine r_neq rfl rfl rfl rfl ?_
  refine wpl_nil ?_
  refine thn ?_
  refine k_cond rfl (fun hc7 => ?_) (fun hc7 => ?_)
  · -- t
    skip
    have hcz : ¬ e = 0 := by simpa using hc7
    refine k_seq ?_
    refine k_region ?_
    refine r_move (by conv => lhs; whnf) rfl rfl ?_
    refine r_assign (by conv => lhs; whnf) rfl rfl ?_
    refine r_assign (by conv => lhs; whnf) rfl rfl ?_
    refine wpl_nil ?_
    refine thn ?_
    refine ret2 (fun _ _ _ => rfl) (by conv => lhs; whnf) (by conv => lhs; whnf) ?_
    have h0 : b.worksE plan = e := he.symm
    have h1 : b.worksV plan = false := by unfold HBook.worksV; rw [h0]; simp [hcz]
    exact ⟨by (rw [h0, h1]) <;> rfl, hS.ext⟩
  · -- f
    skip
    have hcz : e = 0 := by simpa using hc7
    have hLe := hLB hcz
    subst hLe
    have hask := b.ask_zero (he.symm.trans hcz)
    have hg := (GoodB.of_valid hask.1).1
    have hg1 := hg.l1
    have hg2 := hg.l2
    refine k_skip ?_
    refine thn ?_
    refine k_seq ?_
    refine k_region ?_
    refine r_load rfl (ld_ba hS (i := 3) rfl rfl rfl ag_99) rfl rfl ?_
    refine r_load rfl (ld_bs hS (i := 1) rfl rfl sc_26) rfl rfl ?_
    refine r_call rfl (c68 _ b A1 A2 n1 c1 n2 c2 m (mkBi h1 h2 hP hg hS (i := 2) rfl hcz) plan Ap np cp (hp.ext hS.ext) hask.2) rfl rfl ?_
    rintro _ w8 ⟨rfl, hE⟩
    have hS := hS.step hE
    refine r_assign (by conv => lhs; whnf) rfl rfl ?_
    refine r_assign (by conv => lhs; whnf) rfl rfl ?_
    refine wpl_nil ?_
    refine thn ?_
    refine ret2 (fun _ _ _ => rfl) (by conv => lhs; whnf) (by conv => lhs; whnf) ?_
    have h0 : b.worksE plan = 0 := he.symm.trans hcz
    have h1 : b.worksV plan = b.works plan := by unfold HBook.worksV; rw [h0]; rfl
    exact ⟨by (rw [h0, h1]) <;> rfl, hS.ext⟩

theorem c19 (w : World) (b : HBook) (A1 A2 : Option Addr) (n1 c1 n2 c2 : Nat) (h1 : RdRow Hank.enc 4 w A1 n1 b.hanks) (h2 : RdRow Horse.enc 3 w A2 n2 b.horses) (hP : Parts w) (plan : List Int) (Ap : Option Addr) (np cp : Nat) (hp : RdInts w Ap np plan) : Cv Tryd.prog 19 #[.agg #[.slice A1 n1 c1, .slice A2 n2 c2, .int .i64 b.dark, .int .i64 b.near, .int .i64 b.mat], .slice Ap np cp] w (fun v w' => v = .tuple #[.agg #[.int .i64 (b.offV plan).lo, .int .i64 (b.offV plan).hi], .int .i64 (b.offE plan)] ∧ Ext no w w') := by
  refine cv_intro Tryd.func19 rfl rfl Tryd.ntmps19 rfl (by kernel_rfl) ?_
  have hS := St.nil w
  have hl1 := h1.1
  have hl2 := h2.1
  refine k_seq ?_
  refine k_region ?_
  refine r_boxa hS rfl rfl rfl ?_
  intro b2 w1 hS hE hB2
  refine r_box1 hS (by conv => lhs; whnf) rfl rfl rfl ?_
  intro b3 w2 hS hE hB3
  refine r_alloc hS z_35 rfl rfl rfl ?_
  intro b4 w3 hS hE hB4
  refine r_assign (by conv => lhs; whnf) rfl rfl ?_
  refine wpl_nil ?_
  refine thn ?_
  refine k_seq ?_
  refine k_region ?_
  refine r_load rfl (ld_ba hS (i := 0) rfl rfl rfl ag_25) rfl rfl ?_
  refine r_makeFuncv (v1 := []) (v2 := [_]) trivial ⟨(by conv => lhs; whnf), trivial⟩ rfl rfl ?_
  refine r_call rfl (c65 _ b A1 A2 n1 c1 n2 c2 (h1.ext hS.ext) (h2.ext hS.ext) (hP.ext hS.ext) _ _ _ (b.isPlan plan && b.works plan) (fun w2 m2 hE2 hB2 => c69 w2 b A1 A2 n1 c1 n2 c2 m2 hB2 b3 plan Ap np cp (hp.ext (hS.ext.trans hE2)) (hE2.heap (hS.get (i := 1) rfl) (fun x => x)))) rfl rfl ?_
  rintro _ w4 ⟨L, e, m, rfl, he, hE, hL6, hLo, hmok, hmfp, hLB⟩
  have hS := hS.add hE (x := mpi e m (sh b)) hmok hmfp
  refine r_move (by conv => lhs; whnf) rfl rfl ?_
  refine r_extract rfl rfl rfl rfl ?_
  refine r_extract rfl rfl rfl rfl ?_
  refine r_alloc hS z_99 rfl rfl rfl ?_
  intro b6 w5 hS hE hB6
  refine r_storel hS (i := 4) rfl rfl rfl sz_99 hL6 hLo rfl rfl ?_
  intro w7 hS hE
  refine r_assign (by conv => lhs; whnf) rfl rfl ?_
  refine wpl_nil ?_
  refine thn ?_
  refine k_seq ?_
  refine k_seq ?_
  refine k_region ?_
  refine r_move (by conv => lhs; whnf) rfl rfl ?_
  refine r_neq rfl rfl rfl rfl ?_
  refine wpl_nil ?_
  refine thn ?_
  refine k_cond rfl (fun hc8 => ?_) (fun hc8 => ?_)
  · -- t
    skip
    have hcz : ¬ e = 0 := by simpa using hc8
    refine k_seq ?_
    refine k_region ?_
    refine r_build z_35 pl_35 rfl rfl rfl ?_
    refine r_move (by conv => lhs; whnf) rfl rfl ?_
    refine r_storea hS (i := 2) rfl rfl rfl sz_35 rfl rfl rfl ?_
    intro w9 hS hE
    refine r_assign (by conv => lhs; whnf) rfl rfl ?_
    refine wpl_nil ?_
    refine thn ?_
    refine retct (fun _ _ _ => rfl) rfl (ld_ba hS (i := 2) rfl rfl rfl ag_35) (by conv => lhs; whnf) ?_
    have h0 : b.offE plan = e := he.symm
    have h1 : b.offV plan = Sp0 := by unfold HBook.offV; rw [h0]; simp [hcz]
    exact ⟨by (rw [h0, h1]) <;> rfl, hS.ext⟩
  · -- f
    skip
    have hcz : e = 0 := by simpa using hc8
    have hLe := hLB hcz
    subst hLe
    have hask := b.ask_zero (he.symm.trans hcz)
    have hg := (GoodB.of_valid hask.1).1
    have hg1 := hg.l1
    have hg2 := hg.l2
    have hip : b.isPlan plan = true := by have := hask.2; simp only [Bool.and_eq_true] at this; exact this.1
    have hil := b.isPlan_len hip
    have hu : UOk (b.cutOf plan) 180 := (b.cutTo_ok hg (plan := plan) (n := plan.length) (by omega)).mono (by omega)
    refine k_skip ?_
    refine thn ?_
    refine k_seq ?_
    refine k_region ?_
    refine r_load rfl (ld_ba hS (i := 4) rfl rfl rfl ag_99) rfl rfl ?_
    refine r_load rfl (ld_bs hS (i := 1) rfl rfl sc_26) rfl rfl ?_
    refine r_call rfl (c70 _ b A1 A2 n1 c1 n2 c2 m (mkBi h1 h2 hP hg hS (i := 3) rfl hcz) plan Ap np cp (hp.ext hS.ext) hip) rfl rfl ?_
    rintro _ w10 ⟨rfl, hE⟩
    have hS := hS.step hE
    refine r_alloc hS z_104 rfl rfl rfl ?_
    intro b8 w11 hS hE hB8
    refine r_storeu hS (i := 5) rfl rfl rfl sz_104 hu.len rfl rfl ?_
    intro w13 hS hE
    refine wpl_nil ?_
    refine thn ?_
    refine k_seq ?_
    have hSb := hS
    apply k_draw (m := 7) (ss := [.val _, .val _, .val _, .val _, .val _, .val _, .val _]) mixed rfl (by kernel_rfl) (by kernel_rfl) rfl rfl rfl
    · refine ⟨?_, ?_, ?_, ?_, ?_, ?_, ?_, trivial⟩
      · -- op 0
        intro jnk vals lo hi w14 hE0 hd
        have hS := hS.step hE0
        refine r_load rfl (ld_ba hS (i := 4) rfl rfl rfl ag_99) rfl rfl ?_
        refine wpl_end ?_
        exact ⟨rfl, Ext.refl _ _, rfl⟩
      · -- op 1
        intro jnk vals lo hi w15 hE0 hd
        have hS := hS.step hE0
        refine r_load rfl (ld_ba hS (i := 5) rfl (take5 hu.len) (len5 hu.len) ag_104) rfl rfl ?_
        refine wpl_end ?_
        exact ⟨rfl, Ext.refl _ _, rfl⟩
      · -- op 2
        intro jnk vals lo hi w17 hE0 hd
        have hS := hS.step hE0
        refine r_call rfl (c72 _) rfl rfl ?_
        rintro _ w18 ⟨rfl, hE⟩
        have hS := hS.step hE
        refine wpl_end ?_
        exact ⟨rfl, hE.of_no, rfl⟩
      · -- op 3
        intro jnk vals lo hi w19 hE0 hd
        have hS := hS.step hE0
        refine r_call rfl (c71 _ b A1 A2 n1 c1 n2 c2 m (mkBi h1 h2 hP hg hS (i := 3) rfl hcz) (b.cutOf plan) false hu) rfl rfl ?_
        rintro _ w20 ⟨rfl, hE⟩
        have hS := hS.step hE
        refine wpl_end ?_
        exact ⟨rfl, hE.of_no, rfl⟩
      · -- op 4
        intro jnk vals lo hi w21 hE0 hd
        have hS := hS.step hE0
        refine r_load rfl (ld_ba hS (i := 4) rfl rfl rfl ag_99) rfl rfl ?_
        refine wpl_end ?_
        exact ⟨rfl, Ext.refl _ _, rfl⟩
      · -- op 5
        intro jnk vals lo hi w22 hE0 hd
        have hS := hS.step hE0
        refine r_load rfl (ld_ba hS (i := 5) rfl (take5 hu.len) (len5 hu.len) ag_104) rfl rfl ?_
        refine wpl_end ?_
        exact ⟨rfl, Ext.refl _ _, rfl⟩
      · -- op 6
        intro jnk vals lo hi w24 hE0 hd
        have hS := hS.step hE0
        refine r_call rfl (c73 _) rfl rfl ?_
        rintro _ w25 ⟨rfl, hE⟩
        have hS := hS.step hE
        refine wpl_end ?_
        exact ⟨rfl, hE.of_no, rfl⟩
    · intro φ hφ v lo hi S w1 w2 hEa hEb hSb2
      simp at hφ
    intro jnk vals lo hi w26 hE0 hsat hdj hbd
    have hS := hS.step hE0
    refine r_call rfl (c71 _ b A1 A2 n1 c1 n2 c2 m (mkBi h1 h2 hP hg hS (i := 3) rfl hcz) (b.cutOf plan) true hu) rfl rfl ?_
    rintro _ w27 ⟨rfl, hE⟩
    have hS := hS.step hE
    refine r_build z_35 pl_35 rfl rfl rfl ?_
    refine r_storea hS (i := 2) rfl rfl rfl sz_35 rfl rfl rfl ?_
    intro w28 hS hE
    refine r_assign (by conv => lhs; whnf) rfl rfl ?_
    refine wpl_nil ?_
    refine thn ?_
    refine retct (fun _ _ _ => rfl) rfl (ld_ba hS (i := 2) rfl rfl rfl ag_35) (by conv => lhs; whnf) ?_
    have h0 : b.offE plan = 0 := he.symm.trans hcz
    have h1 : b.offV plan = ⟨b.offOf (b.cutOf plan) false, b.offOf (b.cutOf plan) true⟩ := by unfold HBook.offV; rw [h0]; rfl
    exact ⟨by rw [h0, h1]; rfl, hS.ext⟩

theorem c20 (w : World) (b : HBook) (A1 A2 : Option Addr) (n1 c1 n2 c2 : Nat) (h1 : RdRow Hank.enc 4 w A1 n1 b.hanks) (h2 : RdRow Horse.enc 3 w A2 n2 b.horses) (hP : Parts w) (plan : List Int) (Ap : Option Addr) (np cp : Nat) (hp : RdInts w Ap np plan) (h : Int) : Cv Tryd.prog 20 #[.agg #[.slice A1 n1 c1, .slice A2 n2 c2, .int .i64 b.dark, .int .i64 b.near, .int .i64 b.mat], .slice Ap np cp, .int .i64 h] w (fun v w' => v = .tuple #[.agg #[.int .i64 (b.leftV plan h).lo, .int .i64 (b.leftV plan h).hi], .int .i64 (b.leftE plan h)] ∧ Ext no w w') := by
  refine cv_intro Tryd.func20 rfl rfl Tryd.ntmps20 rfl (by kernel_rfl) ?_
  have hS := St.nil w
  have hl1 := h1.1
  have hl2 := h2.1
  refine k_seq ?_
  refine k_region ?_
  refine r_boxa hS rfl rfl rfl ?_
  intro b3 w1 hS hE hB3
  refine r_box1 hS (by conv => lhs; whnf) rfl rfl rfl ?_
  intro b4 w2 hS hE hB4
  refine r_box1 hS (by conv => lhs; whnf) rfl rfl rfl ?_
  intro b5 w3 hS hE hB5
  refine r_alloc hS z_35 rfl rfl rfl ?_
  intro b6 w4 hS hE hB6
  refine r_assign (by conv => lhs; whnf) rfl rfl ?_
  refine wpl_nil ?_
  refine thn ?_
  refine k_seq ?_
  refine k_region ?_
  refine r_load rfl (ld_ba hS (i := 0) rfl rfl rfl ag_25) rfl rfl ?_
  refine r_makeFuncv (v1 := []) (v2 := [_, _]) trivial ⟨(by conv => lhs; whnf), (by conv => lhs; whnf), trivial⟩ rfl rfl ?_
  refine r_call rfl (c65 _ b A1 A2 n1 c1 n2 c2 (h1.ext hS.ext) (h2.ext hS.ext) (hP.ext hS.ext) _ _ _ (b.isPlan plan && b.works plan && inB h b.hanks.length) (fun w2 m2 hE2 hB2 => c74 w2 b A1 A2 n1 c1 n2 c2 m2 hB2 b4 plan Ap np cp b5 h (hp.ext (hS.ext.trans hE2)) (hE2.heap (hS.get (i := 1) rfl) (fun x => x)) (hE2.heap (hS.get (i := 2) rfl) (fun x => x)))) rfl rfl ?_
  rintro _ w5 ⟨L, e, m, rfl, he, hE, hL6, hLo, hmok, hmfp, hLB⟩
  have hS := hS.add hE (x := mpi e m (sh b)) hmok hmfp
  refine r_move (by conv => lhs; whnf) rfl rfl ?_
  refine r_extract rfl rfl rfl rfl ?_
  refine r_extract rfl rfl rfl rfl ?_
  refine r_alloc hS z_99 rfl rfl rfl ?_
  intro b8 w6 hS hE hB8
  refine r_storel hS (i := 5) rfl rfl rfl sz_99 hL6 hLo rfl rfl ?_
  intro w8 hS hE
  refine r_assign (by conv => lhs; whnf) rfl rfl ?_
  refine wpl_nil ?_
  refine thn ?_
  refine k_seq ?_
  refine k_seq ?_
  refine k_region ?_
  refine r_move (by conv => lhs; whnf) rfl rfl ?_
  refine r_neq rfl rfl rfl rfl ?_
  refine wpl_nil ?_
  refine thn ?_
  refine k_cond rfl (fun hc9 => ?_) (fun hc9 => ?_)
  · -- t
    skip
    have hcz : ¬ e = 0 := by simpa using hc9
    refine k_seq ?_
    refine k_region ?_
    refine r_build z_35 pl_35 rfl rfl rfl ?_
    refine r_move (by conv => lhs; whnf) rfl rfl ?_
    refine r_storea hS (i := 3) rfl rfl rfl sz_35 rfl rfl rfl ?_
    intro w10 hS hE
    refine r_assign (by conv => lhs; whnf) rfl rfl ?_
    refine wpl_nil ?_
    refine thn ?_
    refine retct (fun _ _ _ => rfl) rfl (ld_ba hS (i := 3) rfl rfl rfl ag_35) (by conv => lhs; whnf) ?_
    have h0 : b.leftE plan h = e := he.symm
    have h1 : b.leftV plan h = Sp0 := by unfold HBook.leftV; rw [h0]; simp [hcz]
    exact ⟨by (rw [h0, h1]) <;> rfl, hS.ext⟩
  · -- f
    skip
    have hcz : e = 0 := by simpa using hc9
    have hLe := hLB hcz
    subst hLe
    have hask := b.ask_zero (he.symm.trans hcz)
    have hg := (GoodB.of_valid hask.1).1
    have hg1 := hg.l1
    have hg2 := hg.l2
    have hrh : 0 ≤ h ∧ h < n1 := by have := hask.2; simp only [Bool.and_eq_true, inB_iff] at this; omega
    obtain ⟨a1, hA1, hc1⟩ : ∃ a, A1 = some a ∧ Cells w (a.add (h.toNat * 4)) (b.hank h).enc := h1.at hrh
    have hip : b.isPlan plan = true := by have := hask.2; simp only [Bool.and_eq_true] at this; exact this.1.1
    have hil := b.isPlan_len hip
    have hu : UOk (b.cutOf plan) 180 := (b.cutTo_ok hg (plan := plan) (n := plan.length) (by omega)).mono (by omega)
    have hub := hu.bd h.toNat
    have hq := hg.hankAt (k := h) (by omega)
    refine k_skip ?_
    refine thn ?_
    refine k_seq ?_
    have hSb := hS
    apply k_draw (m := 13) (ss := [.val _, .val _, .val _, .val _, .val _, .val _, .val _, .val _, .val _, .val _, .val _, .ex (Mk 35 _), .st 11 (Mk 35 _)]) mixed rfl (by kernel_rfl) (by kernel_rfl) rfl rfl rfl
    · refine ⟨?_, ?_, ?_, ?_, ?_, ?_, ?_, ?_, ?_, ?_, ?_, ?_, ?_, trivial⟩
      · -- op 0
        intro jnk vals lo hi w11 hE0 hd
        have hS := hS.step hE0
        refine r_field rfl fl_25_0 rfl rfl ?_
        refine wpl_end ?_
        exact ⟨rfl, Ext.refl _ _, rfl⟩
      · -- op 1
        intro jnk vals lo hi w12 hE0 hd
        have hS := hS.step hE0
        refine r_load rfl (ld_bs hS (i := 0) rfl rfl sc_22) rfl rfl ?_
        refine wpl_end ?_
        exact ⟨rfl, Ext.refl _ _, rfl⟩
      · -- op 2
        intro jnk vals lo hi w13 hE0 hd
        have hS := hS.step hE0
        refine r_load rfl (ld_bs hS (i := 2) rfl rfl sc_3) rfl rfl ?_
        refine wpl_end ?_
        exact ⟨rfl, Ext.refl _ _, rfl⟩
      · -- op 3
        intro jnk vals lo hi w14 hE0 hd
        have hS := hS.step hE0
        refine r_index (congrArg (fun A => Value.slice A n1 c1) hA1) rfl sl_22 (by omega) rfl rfl ?_
        refine wpl_end ?_
        exact ⟨rfl, Ext.refl _ _, rfl⟩
      · -- op 4
        intro jnk vals lo hi w16 hE0 hd
        have hS := hS.step hE0
        refine r_field rfl fl_42_0 rfl rfl ?_
        refine wpl_end ?_
        exact ⟨rfl, Ext.refl _ _, rfl⟩
      · -- op 5
        intro jnk vals lo hi w17 hE0 hd
        have hS := hS.step hE0
        refine r_load rfl (ld_ag ((hc1.ext hS.ext).at 0 2) ag_35 rfl) rfl rfl ?_
        refine wpl_end ?_
        exact ⟨rfl, Ext.refl _ _, rfl⟩
      · -- op 6
        intro jnk vals lo hi w19 hE0 hd
        have hS := hS.step hE0
        refine r_load rfl (ld_ba hS (i := 5) rfl rfl rfl ag_99) rfl rfl ?_
        refine wpl_end ?_
        exact ⟨rfl, Ext.refl _ _, rfl⟩
      · -- op 7
        intro jnk vals lo hi w20 hE0 hd
        have hS := hS.step hE0
        refine r_load rfl (ld_bs hS (i := 1) rfl rfl sc_26) rfl rfl ?_
        refine wpl_end ?_
        exact ⟨rfl, Ext.refl _ _, rfl⟩
      · -- op 8
        intro jnk vals lo hi w21 hE0 hd
        have hS := hS.step hE0
        refine r_call rfl (c70 _ b A1 A2 n1 c1 n2 c2 m (mkBi h1 h2 hP hg hS (i := 4) rfl hcz) plan Ap np cp (hp.ext hS.ext) hip) rfl rfl ?_
        rintro _ w22 ⟨rfl, hE⟩
        have hS := hS.step hE
        refine wpl_end ?_
        exact ⟨rfl, hE.of_no, rfl⟩
      · -- op 9
        intro jnk vals lo hi w23 hE0 hd
        have hS := hS.step hE0
        refine r_load rfl (ld_bs hS (i := 2) rfl rfl sc_3) rfl rfl ?_
        refine wpl_end ?_
        exact ⟨rfl, Ext.refl _ _, rfl⟩
      · -- op 10
        intro jnk vals lo hi w24 hE0 hd
        have hS := hS.step hE0
        refine r_idxu (u := b.cutOf plan) rfl rfl ia_104 hu.len (by omega) rfl rfl ?_
        refine wpl_end ?_
        exact ⟨rfl, Ext.refl _ _, rfl⟩
      · -- op 11
        intro jnk vals lo hi w26 hE0 hd
        have hS := hS.step hE0
        refine r_alloc hS z_35 rfl rfl rfl ?_
        intro b10 w27 hS hE hB10
        refine wpl_end ?_
        exact ⟨rfl, hE.of_no, mk_alloc (hS.get (i := 6) rfl) hB10⟩
      · -- op 12
        intro jnk vals lo hi w28 hE0 hd
        have hS := hS.step hE0
        obtain ⟨b11, hv11, hl11, hh11, hb11⟩ := hd 11 (by decide) rfl
        rw [vset_eq hv11]
        refine r_store0 rfl rfl rfl hb11 sz_35 rfl rfl rfl ?_
        intro w29 hE hb
        refine wpl_end ?_
        exact ⟨rfl, ext_wr hE ⟨11, rfl, hl11, hh11⟩, ⟨b11, rfl, hl11, hh11, hb⟩⟩
    · intro φ hφ v lo hi S w1 w2 hEa hEb hSb2
      rcases hφ with hφ | ⟨j, hφ⟩
      · simp at hφ
        subst hφ
        all_goals first | exact mk_stays hEa hEb hSb2 | exact row_stays hEa hEb hSb2 | exact rown_stays hEa hEb hSb2
      · simp at hφ
        obtain ⟨_, rfl⟩ := hφ
        all_goals first | exact mk_stays hEa hEb hSb2 | exact row_stays hEa hEb hSb2 | exact rown_stays hEa hEb hSb2
    intro jnk vals lo hi w30 hE0 hsat hdj hbd
    obtain ⟨c30_11, hv11, hl11, hh11, hb11⟩ := hsat 12 (by decide) rfl
    rw [vset_eq hv11]
    have hS := mk_add1 (v := .nilFunc) hS hE0 (hbd 11 (by decide)) hl11 hh11 hb11
    refine r_assign (by conv => lhs; whnf) rfl rfl ?_
    refine wpl_nil ?_
    refine thn ?_
    refine k_seq ?_
    refine k_region ?_
    refine r_field rfl fl_35_0 rfl rfl ?_
    refine r_load rfl (ld_bs hS (i := 6) rfl rfl sc_3) rfl rfl ?_
    refine r_move (by conv => lhs; whnf) rfl rfl ?_
    refine r_sub rfl rfl rfl rfl (by omega) ?_
    refine r_field rfl fl_35_1 rfl rfl ?_
    refine r_load rfl (ld_bs hS (i := 6) rfl rfl sc_3) rfl rfl ?_
    refine r_move (by conv => lhs; whnf) rfl rfl ?_
    refine r_sub rfl rfl rfl rfl (by omega) ?_
    refine r_build z_35 pl_35 rfl rfl rfl ?_
    refine r_storea hS (i := 3) rfl rfl rfl sz_35 rfl rfl rfl ?_
    intro w31 hS hE
    refine r_assign (by conv => lhs; whnf) rfl rfl ?_
    refine wpl_nil ?_
    refine thn ?_
    refine retct (fun _ _ _ => rfl) rfl (ld_ba hS (i := 3) rfl rfl rfl ag_35) (by conv => lhs; whnf) ?_
    have h0 : b.leftE plan h = 0 := he.symm.trans hcz
    have h1 : b.leftV plan h = ⟨(b.hank h).w.lo - (b.cutOf plan).getD h.toNat 0, (b.hank h).w.hi - (b.cutOf plan).getD h.toNat 0⟩ := by unfold HBook.leftV; rw [h0]; rfl
    exact ⟨by rw [h0, h1]; rfl, hS.ext⟩
end Go.Proofs.YtofpabocpcfbfaaDoor

/- Walks: T11. -/
namespace Go.Proofs.YtofpabocpcfbfaaDoor
open Go Go.Proofs K

theorem c26 (w : World) (b : HBook) (A1 A2 : Option Addr) (n1 c1 n2 c2 : Nat) (h1 : RdRow Hank.enc 4 w A1 n1 b.hanks) (h2 : RdRow Horse.enc 3 w A2 n2 b.horses) (hP : Parts w) : Cv Tryd.prog 26 #[.agg #[.slice A1 n1 c1, .slice A2 n2 c2, .int .i64 b.dark, .int .i64 b.near, .int .i64 b.mat]] w (fun v w' => ∃ a c, v = .tuple #[.slice a b.bestV.length c, .int .i64 b.bestE] ∧ Ext no w w' ∧ RdInts w' a b.bestV.length b.bestV ∧ (∀ k, (lst a b.bestV.length b.bestV).fp k → w.heap.size ≤ k ∧ k < w'.heap.size)) := by
  refine cv_intro Tryd.func26 rfl rfl Tryd.ntmps26 rfl (by kernel_rfl) ?_
  have hS := St.nil w
  have hl1 := h1.1
  have hl2 := h2.1
  refine k_seq ?_
  refine k_region ?_
  refine r_boxa hS rfl rfl rfl ?_
  intro b1 w1 hS hE hB1
  refine r_assign (by conv => lhs; whnf) rfl rfl ?_
  refine r_assign (by conv => lhs; whnf) rfl rfl ?_
  refine wpl_nil ?_
  refine thn ?_
  refine k_seq ?_
  refine k_seq ?_
  refine k_region ?_
  refine r_load rfl (ld_ba hS (i := 0) rfl rfl rfl ag_25) rfl rfl ?_
  refine r_call rfl (c46 _ b A1 A2 n1 c1 n2 c2 (h1.ext hS.ext) (h2.ext hS.ext)) rfl rfl ?_
  rintro _ w2 ⟨rfl, hE⟩
  have hS := hS.step hE
  refine r_assign (by conv => lhs; whnf) rfl rfl ?_
  refine wpl_nil ?_
  refine thn ?_
  refine k_seq ?_
  refine k_region ?_
  refine r_move (by conv => lhs; whnf) rfl rfl ?_
  refine r_neq rfl rfl rfl rfl ?_
  refine wpl_nil ?_
  refine thn ?_
  refine k_cond rfl (fun hc3 => ?_) (fun hc3 => ?_)
  · -- t
    have hc30 := hc3
    (try simp only [decide_eq_true_eq, decide_eq_false_iff_not, Bool.and_eq_true, Bool.and_eq_false_iff, Bool.not_eq_true', Bool.not_eq_false', Int.not_lt, Int.not_le] at hc3)
    have hv : b.valid = false := by cases h : b.valid with | false => rfl | true => exact absurd (show b.chk = 0 by unfold HBook.chk; rw [h]; rfl) hc3
    refine k_seq ?_
    refine k_region ?_
    refine r_move (by conv => lhs; whnf) rfl rfl ?_
    refine r_assign (by conv => lhs; whnf) rfl rfl ?_
    refine r_assign (by conv => lhs; whnf) rfl rfl ?_
    refine wpl_nil ?_
    refine thn ?_
    refine ret2 (fun _ _ _ => rfl) (by conv => lhs; whnf) (by conv => lhs; whnf) ?_
    have h0 : b.bestE = 60 := by unfold HBook.bestE; rw [hv]; rfl
    have h1 : b.bestV = [] := by unfold HBook.bestV; rw [h0]; rfl
    refine ⟨none, 0, ?_, hS.ext, ?_, lst_nil⟩
    · rw [h0, h1]; unfold HBook.chk; rw [hv]; rfl
    · rw [h1]; exact rd_nil
  · -- f
    have hc30 := hc3
    (try simp only [decide_eq_true_eq, decide_eq_false_iff_not, Bool.and_eq_true, Bool.and_eq_false_iff, Bool.not_eq_true', Bool.not_eq_false', Int.not_lt, Int.not_le] at hc3)
    have hv : b.valid = true := by cases h : b.valid with | true => rfl | false => rw [show b.chk = 60 by unfold HBook.chk; rw [h]; rfl] at hc3; exact absurd hc3 (by decide)
    have hg := (GoodB.of_valid hv).1
    refine k_skip ?_
    refine thn ?_
    refine k_seq ?_
    refine k_region ?_
    refine r_load rfl (ld_ba hS (i := 0) rfl rfl rfl ag_25) rfl rfl ?_
    refine r_call rfl (c76 _ b A1 A2 n1 c1 n2 c2 (h1.ext hS.ext) (h2.ext hS.ext) hg (hP.ext hS.ext)) rfl rfl ?_
    rintro _ w4 ⟨m, rfl, hE, hB0, hm0⟩
    have hS := hS.add hE (x := mp m (sh b)) hB0.hm (fun k hk => by cases hk; exact ⟨hm0, blk_lt hB0.hm⟩)
    refine r_call rfl (c77 _ b A1 A2 n1 c1 n2 c2 m (mkBk h1 h2 hP hg hS (i := 1) rfl)) rfl rfl ?_
    rintro _ w5 ⟨ao, co, rfl, hE, hrow, hrf⟩
    have hS := hS.add hE (x := row 3 1 ao b.bestP.1.length co (b.bestP.1.map iv)) hrow hrf
    refine r_move (by conv => lhs; whnf) rfl rfl ?_
    refine r_extract rfl rfl rfl rfl ?_
    refine r_extract rfl rfl rfl rfl ?_
    refine r_assign (by conv => lhs; whnf) rfl rfl ?_
    refine r_assign (by conv => lhs; whnf) rfl rfl ?_
    refine wpl_nil ?_
    refine thn ?_
    refine k_seq ?_
    refine k_seq ?_
    refine k_region ?_
    refine r_move (by conv => lhs; whnf) rfl rfl ?_
    refine r_not rfl rfl rfl ?_
    refine wpl_nil ?_
    refine thn ?_
    refine k_cond rfl (fun hc6 => ?_) (fun hc6 => ?_)
    · -- t
      have hcf := hc6
      refine k_seq ?_
      refine k_region ?_
      refine r_assign (by conv => lhs; whnf) rfl rfl ?_
      refine r_assign (by conv => lhs; whnf) rfl rfl ?_
      refine wpl_nil ?_
      refine thn ?_
      refine ret2 (fun _ _ _ => rfl) (by conv => lhs; whnf) (by conv => lhs; whnf) ?_
      have hf : b.bestP.2.2 = false := by simpa using hcf
      have h0 : b.bestE = 4 := by unfold HBook.bestE; rw [hv, hf]; rfl
      have h1 : b.bestV = [] := by unfold HBook.bestV; rw [h0]; rfl
      refine ⟨none, 0, ?_, hS.ext, ?_, lst_nil⟩
      · (rw [h0, h1]) <;> rfl
      · rw [h1]; exact rd_nil
    · -- f
      have hcf := hc6
      refine k_skip ?_
      refine thn ?_
      refine k_seq ?_
      refine k_region ?_
      refine r_move (by conv => lhs; whnf) rfl rfl ?_
      refine r_move (by conv => lhs; whnf) rfl rfl ?_
      refine r_len rfl sl_26 rfl rfl ?_
      refine r_move (by conv => lhs; whnf) rfl rfl ?_
      refine r_len rfl sl_26 rfl rfl ?_
      refine r_slice3 (e := 0) rfl rfl rfl sl_26 (by have := row_cap hrow; omega) rfl rfl ?_
      refine r_assign (by conv => lhs; whnf) rfl rfl ?_
      refine r_assign (by conv => lhs; whnf) rfl rfl ?_
      refine wpl_nil ?_
      refine thn ?_
      refine ret2 (fun _ _ _ => rfl) (by conv => lhs; whnf) (by conv => lhs; whnf) ?_
      have hf : b.bestP.2.2 = true := by simpa using hcf
      have h0 : b.bestE = 0 := by unfold HBook.bestE; rw [hv, hf]; rfl
      have h1 : b.bestV = b.bestP.1 := by unfold HBook.bestV; rw [h0]; rfl
      refine ⟨ao, b.bestP.1.length, ?_, hS.ext, ?_, lst_row hS (i := 2) rfl⟩
      · rw [h0, h1]; rfl
      · rw [h1]; exact row_rd (hS.get (i := 2) rfl) (by have := b.bestP_len hg; omega)
end Go.Proofs.YtofpabocpcfbfaaDoor
