/- Walks: T23. -/
import Derived.Test.YtofpabocpcfbfaaDoorMF
import Derived.Test.YtofpabocpcfbfaaDoorMT2
import Derived.Test.YtofpabocpcfbfaaDoorMD
set_option linter.unusedSimpArgs false
set_option linter.unusedVariables false
namespace Go.Proofs.YtofpabocpcfbfaaDoor
open Go Go.Proofs K

theorem c28 (w : World) (xs ys : List Int) (A A2 : Option Addr) (n c n2 c2 : Nat) (h : RdInts w A n xs) (h2 : RdInts w A2 n2 ys) : Cv Tryd.prog 28 #[.slice A n c, .slice A2 n2 c2] w (fun v w' => v = .bool (lessL xs ys) ∧ Ext no w w') := by
  refine cv_intro Tryd.func28 rfl rfl Tryd.ntmps28 rfl (by kernel_rfl) ?_
  have hS := St.nil w
  have hl := h.1
  have hlb := h.2.1
  have hl2 := h2.1
  have hlb2 := h2.2.1
  refine k_seq ?_
  refine k_region ?_
  refine r_assign (by conv => lhs; whnf) rfl rfl ?_
  refine wpl_nil ?_
  refine thn ?_
  refine k_seq ?_
  refine k_seq ?_
  refine k_region ?_
  refine r_assign (by conv => lhs; whnf) rfl rfl ?_
  refine wpl_nil ?_
  refine thn ?_
  refine k_block ?_
  refine k_loop (ι := Nat) [4, 5, 6, 7, 8, 9, 10, 11, 12, 13, 14, 15, 16, 17, 18, 19, 20, 21, 22, 23, 24, 25, 26, 27, 28, 29, 30, 31, 32, 33, 34, 35] (fun k => [(5, .int .i64 (k : Int))]) (fun k w' => (k ≤ n ∧ k ≤ n2 ∧ lessL xs ys = lessL (xs.drop k) (ys.drop k)) ∧ St (bs w) w' []) (fun k => n - k) 0 ⟨rfl, trivial⟩ ⟨⟨Nat.zero_le _, Nat.zero_le _, rfl⟩, hS⟩ ?_
  rintro k j w2 ⟨⟨hk0, hk1, hi⟩, hS⟩
  refine k_seq ?_
  refine k_seq ?_
  refine k_region ?_
  refine r_move (by conv => lhs; whnf) rfl rfl ?_
  refine r_move (by conv => lhs; whnf) rfl rfl ?_
  refine r_len rfl sl_26 rfl rfl ?_
  refine r_lss rfl rfl rfl rfl ?_
  refine r_moveb rfl rfl rfl (fun hb2 => ?_) (fun hb2 => ?_)
  · -- True
    have hb20 := hb2
    (try simp only [decide_eq_true_eq, decide_eq_false_iff_not, Bool.and_eq_true, Bool.and_eq_false_iff, Bool.not_eq_true', Bool.not_eq_false', Int.not_lt, Int.not_le] at hb2)
    refine r_move (by conv => lhs; whnf) rfl rfl ?_
    refine r_move (by conv => lhs; whnf) rfl rfl ?_
    refine r_len rfl sl_26 rfl rfl ?_
    refine r_lss rfl rfl rfl rfl ?_
    refine r_pick_t rfl (by conv => lhs; whnf) rfl rfl ?_
    refine wpl_nil ?_
    refine thn ?_
    refine k_cond rfl (fun hc3 => ?_) (fun hc3 => ?_)
    · -- t
      have hc30 := hc3
      (try simp only [decide_eq_true_eq, decide_eq_false_iff_not, Bool.and_eq_true, Bool.and_eq_false_iff, Bool.not_eq_true', Bool.not_eq_false', Int.not_lt, Int.not_le] at hc3)
      have hk : k < n := by omega
      have hk2 : k < n2 := by omega
      obtain ⟨a, hA, hcl⟩ := h.nat (d := 0) hk
      obtain ⟨a2, hA2, hcl2⟩ := h2.nat (d := 0) hk2
      have hat := lessL_at hi (by omega) (by omega)
      refine k_skip ?_
      refine thn ?_
      refine k_seq ?_
      refine k_block ?_
      refine k_seq ?_
      have hSb := hS
      apply k_draw (m := 8) (ss := [.val _, .val _, .val _, .val _, .val _, .val _, .val _, .val _]) mixed rfl (by kernel_rfl) (by kernel_rfl) rfl rfl rfl
      · refine ⟨?_, ?_, ?_, ?_, ?_, ?_, ?_, ?_, trivial⟩
        · -- op 0
          intro jnk vals lo hi w4 hE0 hd
          have hS := hS.step hE0
          refine r_move (by conv => lhs; whnf) rfl rfl ?_
          refine wpl_end ?_
          exact ⟨rfl, Ext.refl _ _, rfl⟩
        · -- op 1
          intro jnk vals lo hi w5 hE0 hd
          have hS := hS.step hE0
          refine r_move (by conv => lhs; whnf) rfl rfl ?_
          refine wpl_end ?_
          exact ⟨rfl, Ext.refl _ _, rfl⟩
        · -- op 2
          intro jnk vals lo hi w6 hE0 hd
          have hS := hS.step hE0
          refine r_index (congrArg (fun A => Value.slice A n c) hA) rfl sl_26 (by omega) rfl rfl ?_
          refine wpl_end ?_
          exact ⟨rfl, Ext.refl _ _, rfl⟩
        · -- op 3
          intro jnk vals lo hi w8 hE0 hd
          have hS := hS.step hE0
          refine r_load rfl (ld_sc ((hcl.ext hS.ext) 0 _ rfl) sc_3) rfl rfl ?_
          refine wpl_end ?_
          exact ⟨rfl, Ext.refl _ _, rfl⟩
        · -- op 4
          intro jnk vals lo hi w10 hE0 hd
          have hS := hS.step hE0
          refine r_move (by conv => lhs; whnf) rfl rfl ?_
          refine wpl_end ?_
          exact ⟨rfl, Ext.refl _ _, rfl⟩
        · -- op 5
          intro jnk vals lo hi w11 hE0 hd
          have hS := hS.step hE0
          refine r_move (by conv => lhs; whnf) rfl rfl ?_
          refine wpl_end ?_
          exact ⟨rfl, Ext.refl _ _, rfl⟩
        · -- op 6
          intro jnk vals lo hi w12 hE0 hd
          have hS := hS.step hE0
          refine r_index (congrArg (fun A => Value.slice A n2 c2) hA2) rfl sl_26 (by omega) rfl rfl ?_
          refine wpl_end ?_
          exact ⟨rfl, Ext.refl _ _, rfl⟩
        · -- op 7
          intro jnk vals lo hi w14 hE0 hd
          have hS := hS.step hE0
          refine r_load rfl (ld_sc ((hcl2.ext hS.ext) 0 _ rfl) sc_3) rfl rfl ?_
          refine wpl_end ?_
          exact ⟨rfl, Ext.refl _ _, rfl⟩
      · intro φ hφ v lo hi S w1 w2 hEa hEb hSb2
        simp at hφ
      intro jnk vals lo hi w16 hE0 hsat hdj hbd
      have hS := hS.step hE0
      refine r_neq rfl rfl rfl rfl ?_
      refine wpl_nil ?_
      refine thn ?_
      refine k_cond rfl (fun hc17 => ?_) (fun hc17 => ?_)
      · -- t
        skip
        have hne : xs.getD k 0 ≠ ys.getD k 0 := fun e => by
          have hc171 : (!decide (xs.getD k 0 = ys.getD k 0)) = true := hc17
          rw [decide_eq_true e] at hc171
          cases hc171
        refine k_seq ?_
        have hSb := hS
        apply k_draw (m := 8) (ss := [.val _, .val _, .val _, .val _, .val _, .val _, .val _, .val _]) mixed rfl (by kernel_rfl) (by kernel_rfl) rfl rfl rfl
        · refine ⟨?_, ?_, ?_, ?_, ?_, ?_, ?_, ?_, trivial⟩
          · -- op 0
            intro jnk vals lo hi w18 hE0 hd
            have hS := hS.step hE0
            refine r_move (by conv => lhs; whnf) rfl rfl ?_
            refine wpl_end ?_
            exact ⟨rfl, Ext.refl _ _, rfl⟩
          · -- op 1
            intro jnk vals lo hi w19 hE0 hd
            have hS := hS.step hE0
            refine r_move (by conv => lhs; whnf) rfl rfl ?_
            refine wpl_end ?_
            exact ⟨rfl, Ext.refl _ _, rfl⟩
          · -- op 2
            intro jnk vals lo hi w20 hE0 hd
            have hS := hS.step hE0
            refine r_index (congrArg (fun A => Value.slice A n c) hA) rfl sl_26 (by omega) rfl rfl ?_
            refine wpl_end ?_
            exact ⟨rfl, Ext.refl _ _, rfl⟩
          · -- op 3
            intro jnk vals lo hi w22 hE0 hd
            have hS := hS.step hE0
            refine r_load rfl (ld_sc ((hcl.ext hS.ext) 0 _ rfl) sc_3) rfl rfl ?_
            refine wpl_end ?_
            exact ⟨rfl, Ext.refl _ _, rfl⟩
          · -- op 4
            intro jnk vals lo hi w24 hE0 hd
            have hS := hS.step hE0
            refine r_move (by conv => lhs; whnf) rfl rfl ?_
            refine wpl_end ?_
            exact ⟨rfl, Ext.refl _ _, rfl⟩
          · -- op 5
            intro jnk vals lo hi w25 hE0 hd
            have hS := hS.step hE0
            refine r_move (by conv => lhs; whnf) rfl rfl ?_
            refine wpl_end ?_
            exact ⟨rfl, Ext.refl _ _, rfl⟩
          · -- op 6
            intro jnk vals lo hi w26 hE0 hd
            have hS := hS.step hE0
            refine r_index (congrArg (fun A => Value.slice A n2 c2) hA2) rfl sl_26 (by omega) rfl rfl ?_
            refine wpl_end ?_
            exact ⟨rfl, Ext.refl _ _, rfl⟩
          · -- op 7
            intro jnk vals lo hi w28 hE0 hd
            have hS := hS.step hE0
            refine r_load rfl (ld_sc ((hcl2.ext hS.ext) 0 _ rfl) sc_3) rfl rfl ?_
            refine wpl_end ?_
            exact ⟨rfl, Ext.refl _ _, rfl⟩
        · intro φ hφ v lo hi S w1 w2 hEa hEb hSb2
          simp at hφ
        intro jnk vals lo hi w30 hE0 hsat hdj hbd
        have hS := hS.step hE0
        refine r_lss rfl rfl rfl rfl ?_
        refine r_assign (by conv => lhs; whnf) rfl rfl ?_
        refine wpl_nil ?_
        refine thn ?_
        refine ret1 (fun _ _ _ => rfl) (by conv => lhs; whnf) ?_
        refine ⟨congrArg Value.bool ?_, hS.ext⟩
        exact (hat.2 hne).symm
      · -- f
        skip
        have heq : xs.getD k 0 = ys.getD k 0 := by
          have hc171 : (!decide (xs.getD k 0 = ys.getD k 0)) = false := hc17
          exact of_decide_eq_true (by simpa using hc171)
        have hnx := hat.1 heq
        refine k_skip ?_
        refine blk_n ?_
        refine thn ?_
        refine k_region ?_
        refine r_move (by conv => lhs; whnf) rfl rfl ?_
        refine r_add rfl rfl rfl rfl (by omega) ?_
        refine r_assign (by conv => lhs; whnf) rfl rfl ?_
        refine wpl_nil ?_
        refine thn ?_
        refine ⟨k + 1, ⟨rfl, trivial⟩, ?_, ?_, ?_, rfl⟩
        · exact ⟨⟨by omega, by omega, hnx⟩, hS⟩
        · omega
        · (repeat (first | exact Agree.refl _ _ | exact agree_hv rfl (Agree.refl _ _) | refine agree_upd rfl ?_ | refine agree_mkF rfl ?_ | refine agree_hv rfl ?_))
    · -- f
      have hc30 := hc3
      (try simp only [decide_eq_true_eq, decide_eq_false_iff_not, Bool.and_eq_true, Bool.and_eq_false_iff, Bool.not_eq_true', Bool.not_eq_false', Int.not_lt, Int.not_le] at hc3)
      refine k_exit ?_
      refine thn_e ?_
      refine thn_e ?_
      refine blk_e ?_
      refine thn ?_
      refine k_seq ?_
      refine k_region ?_
      refine r_move (by conv => lhs; whnf) rfl rfl ?_
      refine r_len rfl sl_26 rfl rfl ?_
      refine r_move (by conv => lhs; whnf) rfl rfl ?_
      refine r_len rfl sl_26 rfl rfl ?_
      refine r_lss rfl rfl rfl rfl ?_
      refine r_assign (by conv => lhs; whnf) rfl rfl ?_
      refine wpl_nil ?_
      refine thn ?_
      refine ret1 (fun _ _ _ => rfl) (by conv => lhs; whnf) ?_
      refine ⟨congrArg Value.bool ?_, hS.ext⟩
      refine Eq.trans ?_ (lessL_end hi (by omega) (by omega) (by omega)).symm
      rw [hl, hl2, Bool.eq_iff_iff]
      simp only [decide_eq_true_eq]
      omega
  · -- False
    have hb20 := hb2
    (try simp only [decide_eq_true_eq, decide_eq_false_iff_not, Bool.and_eq_true, Bool.and_eq_false_iff, Bool.not_eq_true', Bool.not_eq_false', Int.not_lt, Int.not_le] at hb2)
    refine r_skip rfl rfl ?_
    refine r_skip rfl rfl ?_
    refine r_skip rfl rfl ?_
    refine r_skip rfl rfl ?_
    refine r_pick_f rfl (by conv => lhs; whnf) rfl rfl ?_
    refine wpl_nil ?_
    refine thn ?_
    refine k_cond_f rfl ?_
    refine k_exit ?_
    refine thn_e ?_
    refine thn_e ?_
    refine blk_e ?_
    refine thn ?_
    refine k_seq ?_
    refine k_region ?_
    refine r_move (by conv => lhs; whnf) rfl rfl ?_
    refine r_len rfl sl_26 rfl rfl ?_
    refine r_move (by conv => lhs; whnf) rfl rfl ?_
    refine r_len rfl sl_26 rfl rfl ?_
    refine r_lss rfl rfl rfl rfl ?_
    refine r_assign (by conv => lhs; whnf) rfl rfl ?_
    refine wpl_nil ?_
    refine thn ?_
    refine ret1 (fun _ _ _ => rfl) (by conv => lhs; whnf) ?_
    refine ⟨congrArg Value.bool ?_, hS.ext⟩
    refine Eq.trans ?_ (lessL_end hi (by omega) (by omega) (by omega)).symm
    rw [hl, hl2, Bool.eq_iff_iff]
    simp only [decide_eq_true_eq]
    omega

theorem c32 (w : World) (xs ys : List Int) (A A2 : Option Addr) (n c n2 c2 : Nat) (h : RdInts w A n xs) (h2 : RdInts w A2 n2 ys) : Cv Tryd.prog 32 #[.slice A n c, .slice A2 n2 c2] w (fun v w' => v = .bool (shorterL xs ys) ∧ Ext no w w') := by
  refine cv_intro Tryd.func32 rfl rfl Tryd.ntmps32 rfl (by kernel_rfl) ?_
  have hS := St.nil w
  have hl := h.1
  have hlb := h.2.1
  have hl2 := h2.1
  have hlb2 := h2.2.1
  refine k_seq ?_
  refine k_region ?_
  refine r_assign (by conv => lhs; whnf) rfl rfl ?_
  refine wpl_nil ?_
  refine thn ?_
  refine k_seq ?_
  refine k_seq ?_
  refine k_region ?_
  refine r_move (by conv => lhs; whnf) rfl rfl ?_
  refine r_len rfl sl_26 rfl rfl ?_
  refine r_move (by conv => lhs; whnf) rfl rfl ?_
  refine r_len rfl sl_26 rfl rfl ?_
  refine r_neq rfl rfl rfl rfl ?_
  refine wpl_nil ?_
  refine thn ?_
  refine k_cond rfl (fun hc1 => ?_) (fun hc1 => ?_)
  · -- t
    have hc10 := hc1
    (try simp only [decide_eq_true_eq, decide_eq_false_iff_not, Bool.and_eq_true, Bool.and_eq_false_iff, Bool.not_eq_true', Bool.not_eq_false', Int.not_lt, Int.not_le] at hc1)
    have hne : ¬ xs.length = ys.length := by omega
    refine k_seq ?_
    refine k_region ?_
    refine r_move (by conv => lhs; whnf) rfl rfl ?_
    refine r_len rfl sl_26 rfl rfl ?_
    refine r_move (by conv => lhs; whnf) rfl rfl ?_
    refine r_len rfl sl_26 rfl rfl ?_
    refine r_lss rfl rfl rfl rfl ?_
    refine r_assign (by conv => lhs; whnf) rfl rfl ?_
    refine wpl_nil ?_
    refine thn ?_
    refine ret1 (fun _ _ _ => rfl) (by conv => lhs; whnf) ?_
    refine ⟨congrArg Value.bool ?_, hS.ext⟩
    unfold shorterL
    rw [if_neg hne, hl, hl2, Bool.eq_iff_iff]
    simp only [decide_eq_true_eq]
    omega
  · -- f
    have hc10 := hc1
    (try simp only [decide_eq_true_eq, decide_eq_false_iff_not, Bool.and_eq_true, Bool.and_eq_false_iff, Bool.not_eq_true', Bool.not_eq_false', Int.not_lt, Int.not_le] at hc1)
    have heq : xs.length = ys.length := by omega
    refine k_skip ?_
    refine thn ?_
    refine k_seq ?_
    refine k_region ?_
    refine r_move (by conv => lhs; whnf) rfl rfl ?_
    refine r_move (by conv => lhs; whnf) rfl rfl ?_
    refine r_call rfl (c28 _ xs ys _ _ _ _ _ _ (h.ext hS.ext) (h2.ext hS.ext)) rfl rfl ?_
    rintro _ w2 ⟨rfl, hE⟩
    have hS := hS.step hE
    refine r_assign (by conv => lhs; whnf) rfl rfl ?_
    refine wpl_nil ?_
    refine thn ?_
    refine ret1 (fun _ _ _ => rfl) (by conv => lhs; whnf) ?_
    refine ⟨congrArg Value.bool ?_, hS.ext⟩
    unfold shorterL
    rw [if_pos heq]

theorem c29 (w : World) (xs : List Int) (A : Option Addr) (n c : Nat) (h : RdInts w A n xs) (m : Int) (hg : Grows xs m) : Cv Tryd.prog 29 #[.slice A n c, .int .i64 m] w (fun v w' => v = .bool true ∧ Ext no w w') := by
  refine cv_intro Tryd.func29 rfl rfl Tryd.ntmps29 rfl (by kernel_rfl) ?_
  have hS := St.nil w
  have hl := h.1
  have hlb := h.2.1
  refine k_seq ?_
  refine k_region ?_
  refine r_assign (by conv => lhs; whnf) rfl rfl ?_
  refine wpl_nil ?_
  refine thn ?_
  refine k_seq ?_
  refine k_region ?_
  refine r_assign (by conv => lhs; whnf) rfl rfl ?_
  refine wpl_nil ?_
  refine thn ?_
  refine k_seq ?_
  refine k_seq ?_
  refine k_region ?_
  refine r_assign (by conv => lhs; whnf) rfl rfl ?_
  refine wpl_nil ?_
  refine thn ?_
  refine k_block ?_
  refine k_loop (ι := Nat) [4, 5, 6, 7, 8, 9, 10, 11, 12, 13, 14, 15, 16, 17, 18, 19, 20, 21, 22, 23, 24, 25, 26, 27, 28, 29, 30] (fun k => [(5, .int .i64 (lastOf xs k)), (6, .int .i64 (k : Int))]) (fun k w' => k ≤ n ∧ St (bs w) w' []) (fun k => n - k) 0 ⟨rfl, rfl, trivial⟩ ⟨Nat.zero_le _, hS⟩ ?_
  rintro k j w2 ⟨hk0, hS⟩
  refine k_seq ?_
  refine k_seq ?_
  refine k_region ?_
  refine r_move (by conv => lhs; whnf) rfl rfl ?_
  refine r_move (by conv => lhs; whnf) rfl rfl ?_
  refine r_len rfl sl_26 rfl rfl ?_
  refine r_lss rfl rfl rfl rfl ?_
  refine wpl_nil ?_
  refine thn ?_
  refine k_cond rfl (fun hc2 => ?_) (fun hc2 => ?_)
  · -- t
    have hc20 := hc2
    (try simp only [decide_eq_true_eq, decide_eq_false_iff_not, Bool.and_eq_true, Bool.and_eq_false_iff, Bool.not_eq_true', Bool.not_eq_false', Int.not_lt, Int.not_le] at hc2)
    have hk : k < n := by omega
    obtain ⟨a, hA, hcl⟩ := h.nat (d := 0) hk
    have hgk := hg k (by omega)
    have hgk1 := hgk.1
    have hgk2 := hgk.2
    refine k_skip ?_
    refine thn ?_
    refine k_seq ?_
    refine k_block ?_
    refine k_seq ?_
    refine k_seq ?_
    refine k_region ?_
    refine r_move (by conv => lhs; whnf) rfl rfl ?_
    refine r_move (by conv => lhs; whnf) rfl rfl ?_
    refine r_index (congrArg (fun A => Value.slice A n c) hA) rfl sl_26 (by omega) rfl rfl ?_
    refine r_load rfl (ld_sc ((hcl.ext hS.ext) 0 _ rfl) sc_3) rfl rfl ?_
    refine r_move (by conv => lhs; whnf) rfl rfl ?_
    refine r_leqv rfl rfl (decide_eq_false (by omega)) rfl rfl ?_
    refine r_move (by conv => lhs; whnf) rfl rfl ?_
    refine r_move (by conv => lhs; whnf) rfl rfl ?_
    refine r_move (by conv => lhs; whnf) rfl rfl ?_
    refine r_index (congrArg (fun A => Value.slice A n c) hA) rfl sl_26 (by omega) rfl rfl ?_
    refine r_load rfl (ld_sc ((hcl.ext hS.ext) 0 _ rfl) sc_3) rfl rfl ?_
    refine r_move (by conv => lhs; whnf) rfl rfl ?_
    refine r_geqv rfl rfl (decide_eq_false (by omega)) rfl rfl ?_
    refine r_pick_f rfl (by conv => lhs; whnf) rfl rfl ?_
    refine wpl_nil ?_
    refine thn ?_
    refine k_cond_f rfl ?_
    refine k_skip ?_
    refine thn ?_
    refine k_region ?_
    refine r_move (by conv => lhs; whnf) rfl rfl ?_
    refine r_move (by conv => lhs; whnf) rfl rfl ?_
    refine r_index (congrArg (fun A => Value.slice A n c) hA) rfl sl_26 (by omega) rfl rfl ?_
    refine r_load rfl (ld_sc ((hcl.ext hS.ext) 0 _ rfl) sc_3) rfl rfl ?_
    refine r_assign (by conv => lhs; whnf) rfl rfl ?_
    refine wpl_nil ?_
    refine blk_n ?_
    refine thn ?_
    refine k_region ?_
    refine r_move (by conv => lhs; whnf) rfl rfl ?_
    refine r_add rfl rfl rfl rfl (by omega) ?_
    refine r_assign (by conv => lhs; whnf) rfl rfl ?_
    refine wpl_nil ?_
    refine thn ?_
    refine ⟨k + 1, ⟨rfl, rfl, trivial⟩, ?_, ?_, ?_, rfl⟩
    · exact ⟨by omega, hS⟩
    · omega
    · (repeat (first | exact Agree.refl _ _ | exact agree_hv rfl (Agree.refl _ _) | refine agree_upd rfl ?_ | refine agree_mkF rfl ?_ | refine agree_hv rfl ?_))
  · -- f
    have hc20 := hc2
    (try simp only [decide_eq_true_eq, decide_eq_false_iff_not, Bool.and_eq_true, Bool.and_eq_false_iff, Bool.not_eq_true', Bool.not_eq_false', Int.not_lt, Int.not_le] at hc2)
    refine k_exit ?_
    refine thn_e ?_
    refine thn_e ?_
    refine blk_e ?_
    refine thn ?_
    refine k_seq ?_
    refine k_region ?_
    refine r_assign (by conv => lhs; whnf) rfl rfl ?_
    refine wpl_nil ?_
    refine thn ?_
    refine ret1 (fun _ _ _ => rfl) (by conv => lhs; whnf) ?_
    exact ⟨rfl, hS.ext⟩

theorem c53 (w : World) (xs : List Int) (A : Option Addr) (n c : Nat) (h : RdInts w A n xs) (x : Int) : Cv Tryd.prog 53 #[.slice A n c, .int .i64 x] w (fun v w' => ∃ r : Int, v = .int .i64 r ∧ decide (r < 0) = !decide (x ∈ xs) ∧ Ext no w w') := by
  refine cv_intro Tryd.func53 rfl rfl Tryd.ntmps53 rfl (by kernel_rfl) ?_
  have hS := St.nil w
  have hl := h.1
  have hlb := h.2.1
  refine k_seq ?_
  refine k_region ?_
  refine r_assign (by conv => lhs; whnf) rfl rfl ?_
  refine wpl_nil ?_
  refine thn ?_
  refine k_seq ?_
  refine k_seq ?_
  refine k_region ?_
  refine r_assign (by conv => lhs; whnf) rfl rfl ?_
  refine wpl_nil ?_
  refine thn ?_
  refine k_block ?_
  refine k_loop (ι := Nat) [4, 5, 6, 7, 8, 9, 10, 11, 12, 13, 14, 15, 16, 17, 18] (fun k => [(5, .int .i64 (k : Int))]) (fun k w' => (k ≤ n ∧ ∀ j, j < k → xs.getD j 0 ≠ x) ∧ St (bs w) w' []) (fun k => n - k) 0 ⟨rfl, trivial⟩ ⟨⟨Nat.zero_le _, fun j hj => by omega⟩, hS⟩ ?_
  rintro k j w2 ⟨⟨hk0, hni⟩, hS⟩
  refine k_seq ?_
  refine k_seq ?_
  refine k_region ?_
  refine r_move (by conv => lhs; whnf) rfl rfl ?_
  refine r_move (by conv => lhs; whnf) rfl rfl ?_
  refine r_len rfl sl_26 rfl rfl ?_
  refine r_lss rfl rfl rfl rfl ?_
  refine wpl_nil ?_
  refine thn ?_
  refine k_cond rfl (fun hc2 => ?_) (fun hc2 => ?_)
  · -- t
    have hc20 := hc2
    (try simp only [decide_eq_true_eq, decide_eq_false_iff_not, Bool.and_eq_true, Bool.and_eq_false_iff, Bool.not_eq_true', Bool.not_eq_false', Int.not_lt, Int.not_le] at hc2)
    have hk : k < n := by omega
    obtain ⟨a, hA, hcl⟩ := h.nat (d := 0) hk
    refine k_skip ?_
    refine thn ?_
    refine k_seq ?_
    refine k_block ?_
    refine k_seq ?_
    refine k_region ?_
    refine r_move (by conv => lhs; whnf) rfl rfl ?_
    refine r_move (by conv => lhs; whnf) rfl rfl ?_
    refine r_index (congrArg (fun A => Value.slice A n c) hA) rfl sl_26 (by omega) rfl rfl ?_
    refine r_load rfl (ld_sc ((hcl.ext hS.ext) 0 _ rfl) sc_3) rfl rfl ?_
    refine r_move (by conv => lhs; whnf) rfl rfl ?_
    refine r_eql rfl rfl rfl rfl ?_
    refine wpl_nil ?_
    refine thn ?_
    refine k_cond rfl (fun hc5 => ?_) (fun hc5 => ?_)
    · -- t
      skip
      have heq : xs.getD k 0 = x := of_decide_eq_true hc5
      refine k_seq ?_
      refine k_region ?_
      refine r_move (by conv => lhs; whnf) rfl rfl ?_
      refine r_assign (by conv => lhs; whnf) rfl rfl ?_
      refine wpl_nil ?_
      refine thn ?_
      refine ret1 (fun _ _ _ => rfl) (by conv => lhs; whnf) ?_
      exact ⟨_, rfl, by rw [in_at (by omega) heq]; exact decide_eq_false (by omega), hS.ext⟩
    · -- f
      skip
      have hne : xs.getD k 0 ≠ x := of_decide_eq_false hc5
      refine k_skip ?_
      refine blk_n ?_
      refine thn ?_
      refine k_region ?_
      refine r_move (by conv => lhs; whnf) rfl rfl ?_
      refine r_add rfl rfl rfl rfl (by omega) ?_
      refine r_assign (by conv => lhs; whnf) rfl rfl ?_
      refine wpl_nil ?_
      refine thn ?_
      refine ⟨k + 1, ⟨rfl, trivial⟩, ?_, ?_, ?_, rfl⟩
      · exact ⟨⟨by omega, notin_succ (by omega) hni hne⟩, hS⟩
      · omega
      · (repeat (first | exact Agree.refl _ _ | exact agree_hv rfl (Agree.refl _ _) | refine agree_upd rfl ?_ | refine agree_mkF rfl ?_ | refine agree_hv rfl ?_))
  · -- f
    have hc20 := hc2
    (try simp only [decide_eq_true_eq, decide_eq_false_iff_not, Bool.and_eq_true, Bool.and_eq_false_iff, Bool.not_eq_true', Bool.not_eq_false', Int.not_lt, Int.not_le] at hc2)
    have hk : xs.length ≤ k := by omega
    refine k_exit ?_
    refine thn_e ?_
    refine thn_e ?_
    refine blk_e ?_
    refine thn ?_
    refine k_seq ?_
    refine k_region ?_
    refine r_assign (by conv => lhs; whnf) rfl rfl ?_
    refine wpl_nil ?_
    refine thn ?_
    refine ret1 (fun _ _ _ => rfl) (by conv => lhs; whnf) ?_
    exact ⟨_, rfl, by rw [notin_end hk hni]; rfl, hS.ext⟩

theorem c38 (w : World) (n m k : Int) (h1 : -1000000 ≤ n - m ∧ n - m ≤ 1000000) (h2 : -1000000 ≤ k ∧ k ≤ 1000000) : Cv Tryd.prog 38 #[.int .i64 n, .int .i64 m, .int .i64 k] w (fun v w' => v = .bool (decide (-k ≤ n - m) && decide (n - m ≤ k)) ∧ Ext no w w') := by
  refine cv_intro Tryd.func38 rfl rfl Tryd.ntmps38 rfl (by kernel_rfl) ?_
  have hS := St.nil w
  refine k_seq ?_
  refine k_region ?_
  refine r_assign (by conv => lhs; whnf) rfl rfl ?_
  refine wpl_nil ?_
  refine thn ?_
  refine k_seq ?_
  refine k_region ?_
  refine r_move (by conv => lhs; whnf) rfl rfl ?_
  refine r_move (by conv => lhs; whnf) rfl rfl ?_
  refine r_sub rfl rfl rfl rfl (by omega) ?_
  refine r_move (by conv => lhs; whnf) rfl rfl ?_
  refine r_neg rfl rfl rfl (by omega) ?_
  refine r_move (by conv => lhs; whnf) rfl rfl ?_
  refine r_call rfl (c34 _ _ _ _) rfl rfl ?_
  rintro _ w1 ⟨rfl, hE⟩
  have hS := hS.step hE
  refine r_assign (by conv => lhs; whnf) rfl rfl ?_
  refine wpl_nil ?_
  refine thn ?_
  refine ret1 (fun _ _ _ => rfl) (by conv => lhs; whnf) ?_
  exact ⟨by (refine congrArg Value.bool ?_; (first | (simp [*]; done) | (rw [Bool.eq_iff_iff]; simp [*]; done) | (rw [Bool.eq_iff_iff]; simp [*]; (intros; omega)) | (rw [Bool.eq_iff_iff]; simp []; omega) | (simp []; grind) | (rw [Bool.eq_iff_iff]; simp []; grind))), hS.ext⟩

theorem c31 (w : World) (set m : Nat) (hs : set < 1000000) (hm : m ≤ 60) : Cv Tryd.prog 31 #[.int .i64 (set : Int), .int .i64 (m : Int)] w (fun v w' => ∃ a c, v = .slice a (outTo set m).length c ∧ Ext no w w' ∧ (row 3 1 a (outTo set m).length c ((outTo set m).map iv)).ok w' ∧ (∀ z, a = some ⟨z, 0, none⟩ → w.heap.size ≤ z ∧ z < w'.heap.size)) := by
  refine cv_intro Tryd.func31 rfl rfl Tryd.ntmps31 rfl (by kernel_rfl) ?_
  have hS := St.nil w
  refine k_seq ?_
  refine k_region ?_
  refine r_assign (by conv => lhs; whnf) rfl rfl ?_
  refine wpl_nil ?_
  refine thn ?_
  refine k_seq ?_
  refine k_region ?_
  refine r_buildSlice hS us_26 sz_3 z_3 rfl rfl rfl rfl rfl ?_
  intro b7 w1 hS hE hB7
  refine r_assign (by conv => lhs; whnf) rfl rfl ?_
  refine wpl_nil ?_
  refine thn ?_
  refine k_seq ?_
  refine k_seq ?_
  refine k_region ?_
  refine r_assign (by conv => lhs; whnf) rfl rfl ?_
  refine wpl_nil ?_
  refine thn ?_
  refine k_block ?_
  refine k_loop (ι := Nat × Option Addr × Nat) [5, 6, 8, 9, 10, 11, 12, 13, 14, 15, 16, 17, 18, 19] (fun i => [(5, .slice i.2.1 (outTo set i.1).length i.2.2), (6, .int .i64 (i.1 : Int))]) (fun i w' => i.1 ≤ m ∧ St (bs w) w' [row 3 1 i.2.1 (outTo set i.1).length i.2.2 ((outTo set i.1).map iv)]) (fun i => m - i.1) (0, some ⟨b7, 0, none⟩, 0) ⟨rfl, rfl, trivial⟩ ⟨Nat.zero_le _, box_row (n := 0) hS (i := 0) rfl rfl⟩ ?_
  rintro ⟨k, aO, cO⟩ j w2 ⟨hk0, hS⟩
  dsimp only at hk0 hS
  show WP _ _ _ _ _ (mkF _ [(5, .slice aO (outTo set k).length cO), (6, .int .i64 (k : Int))]) _ _
  refine k_seq ?_
  refine k_seq ?_
  refine k_region ?_
  refine r_move (by conv => lhs; whnf) rfl rfl ?_
  refine r_move (by conv => lhs; whnf) rfl rfl ?_
  refine r_lss rfl rfl rfl rfl ?_
  refine wpl_nil ?_
  refine thn ?_
  refine k_cond rfl (fun hc3 => ?_) (fun hc3 => ?_)
  · -- t
    have hc30 := hc3
    (try simp only [decide_eq_true_eq, decide_eq_false_iff_not, Bool.and_eq_true, Bool.and_eq_false_iff, Bool.not_eq_true', Bool.not_eq_false', Int.not_lt, Int.not_le] at hc3)
    have hk : k < m := by omega
    refine k_skip ?_
    refine thn ?_
    refine k_seq ?_
    refine k_block ?_
    refine k_seq ?_
    refine k_region ?_
    refine r_move (by conv => lhs; whnf) rfl rfl ?_
    refine r_move (by conv => lhs; whnf) rfl rfl ?_
    refine r_call rfl (c80 _ set k (by omega) (by omega)) rfl rfl ?_
    rintro _ w4 ⟨rfl, hE⟩
    have hS := hS.step hE
    refine wpl_nil ?_
    refine thn ?_
    refine k_cond rfl (fun hc5 => ?_) (fun hc5 => ?_)
    · -- t
      skip
      have hbit : bitB set k = true := hc5
      refine k_region ?_
      refine r_move (by conv => lhs; whnf) rfl rfl ?_
      refine r_move (by conv => lhs; whnf) rfl rfl ?_
      refine r_buildSlice hS us_26 sz_3 z_3 rfl rfl rfl rfl rfl ?_
      intro b18 w6 hS hE hB18
      refine r_append (vs := [.int .i64 (k : Int)]) hS rfl rfl (i := 0) rfl us_26 us_26 sz_3 by_3 z_3 rfl (show Src _ (some _) _ from box_cells (hS.get (i := 1) rfl) 0) rfl rfl (by have := outTo_len (set := set) (k := k); omega) rfl rfl rfl ?_
      intro aO2 cO2 w8 hS hE
      refine r_assign (by conv => lhs; whnf) rfl rfl ?_
      refine wpl_nil ?_
      refine blk_n ?_
      refine thn ?_
      refine k_region ?_
      refine r_move (by conv => lhs; whnf) rfl rfl ?_
      refine r_add rfl rfl rfl rfl (by omega) ?_
      refine r_assign (by conv => lhs; whnf) rfl rfl ?_
      refine wpl_nil ?_
      refine thn ?_
      have hom : outTo set (k + 1) = outTo set k ++ [(k : Int)] := by rw [outTo_succ, hbit]; rfl
      have hol : (outTo set (k + 1)).length = (outTo set k).length + 1 := by rw [hom]; simp
      refine ⟨(k + 1, aO2, cO2), ⟨(by show _ = Value.slice aO2 (outTo set (k + 1)).length cO2; rw [hol]; rfl), rfl, trivial⟩, ?_, ?_, ?_, rfl⟩
      · refine ⟨by dsimp only; omega, ?_⟩
        dsimp only
        rw [hol, hom, List.map_append]
        exact hS.take 1
      · dsimp only; omega
      · (repeat (first | exact Agree.refl _ _ | exact agree_hv rfl (Agree.refl _ _) | refine agree_upd rfl ?_ | refine agree_mkF rfl ?_ | refine agree_hv rfl ?_))
    · -- f
      skip
      have hbit : bitB set k = false := hc5
      refine k_skip ?_
      refine blk_n ?_
      refine thn ?_
      refine k_region ?_
      refine r_move (by conv => lhs; whnf) rfl rfl ?_
      refine r_add rfl rfl rfl rfl (by omega) ?_
      refine r_assign (by conv => lhs; whnf) rfl rfl ?_
      refine wpl_nil ?_
      refine thn ?_
      have hom : outTo set (k + 1) = outTo set k := by rw [outTo_succ, hbit]; rfl
      refine ⟨(k + 1, aO, cO), ⟨(by show _ = Value.slice aO (outTo set (k + 1)).length cO; rw [hom]; rfl), rfl, trivial⟩, ?_, ?_, ?_, rfl⟩
      · refine ⟨by dsimp only; omega, ?_⟩
        dsimp only
        rw [hom]
        exact hS
      · dsimp only; omega
      · (repeat (first | exact Agree.refl _ _ | exact agree_hv rfl (Agree.refl _ _) | refine agree_upd rfl ?_ | refine agree_mkF rfl ?_ | refine agree_hv rfl ?_))
  · -- f
    have hc30 := hc3
    (try simp only [decide_eq_true_eq, decide_eq_false_iff_not, Bool.and_eq_true, Bool.and_eq_false_iff, Bool.not_eq_true', Bool.not_eq_false', Int.not_lt, Int.not_le] at hc3)
    have hk : k = m := by omega
    rw [hk] at hS
    refine k_exit ?_
    refine thn_e ?_
    refine thn_e ?_
    refine blk_e ?_
    refine thn ?_
    refine k_seq ?_
    refine k_region ?_
    refine r_move (by conv => lhs; whnf) rfl rfl ?_
    refine r_assign (by conv => lhs; whnf) rfl rfl ?_
    refine wpl_nil ?_
    refine thn ?_
    refine ret1 (fun _ _ _ => rfl) (by conv => lhs; whnf) ?_
    rw [hk]
    exact ⟨aO, cO, rfl, hS.ext, hS.get (i := 0) rfl, fun z hz => ⟨(hS.lo _ (mem_of_get (i := 0) rfl) z hz).1, (hS.lo _ (mem_of_get (i := 0) rfl) z hz).2.2⟩⟩

theorem c30 (w : World) (b : HBook) (A1 A2 : Option Addr) (n1 c1 n2 c2 : Nat) (h1 : RdRow Hank.enc 4 w A1 n1 b.hanks) (h2 : RdRow Horse.enc 3 w A2 n2 b.horses) (set : Nat) (Al : Option Addr) (nl cl : Nat) (h : RdInts w Al nl (outTo set n2)) (hn2 : n2 ≤ 1000) : Cv Tryd.prog 30 #[.agg #[.slice A1 n1 c1, .slice A2 n2 c2, .int .i64 b.dark, .int .i64 b.near, .int .i64 b.mat], .slice Al nl cl] w (fun v w' => ∃ a c, v = .agg #[.slice A1 n1 c1, .slice a (restTo b.horses set n2).length c, .int .i64 b.dark, .int .i64 b.near, .int .i64 b.mat] ∧ Ext no w w' ∧ (row 65 3 a (restTo b.horses set n2).length c ((restTo b.horses set n2).flatMap Horse.enc)).ok w' ∧ (∀ z, a = some ⟨z, 0, none⟩ → w.heap.size ≤ z ∧ z < w'.heap.size)) := by
  refine cv_intro Tryd.func30 rfl rfl Tryd.ntmps30 rfl (by kernel_rfl) ?_
  have hS := St.nil w
  have hl2 := h2.1
  have hl2b := h2.2.1
  refine k_seq ?_
  refine k_region ?_
  refine r_boxa hS rfl rfl rfl ?_
  intro b2 w1 hS hE hB2
  refine r_alloc hS z_25 rfl rfl rfl ?_
  intro b4 w2 hS hE hB4
  refine wpl_nil ?_
  refine thn ?_
  refine k_seq ?_
  (try simp only [List.nil_append, List.cons_append, List.set_cons_zero, List.set_cons_succ] at hS)
  refine k_region ?_
  refine r_load rfl (ld_ba hS (i := 0) rfl rfl rfl ag_25) rfl rfl ?_
  refine r_alloc hS z_25 rfl rfl rfl ?_
  intro b5 w3 hS hE hB5
  refine r_storea hS (i := 2) rfl rfl rfl sz_25 rfl rfl rfl ?_
  intro w4 hS hE
  refine wpl_nil ?_
  refine thn ?_
  refine k_seq ?_
  (try simp only [List.nil_append, List.cons_append, List.set_cons_zero, List.set_cons_succ] at hS)
  refine k_region ?_
  refine r_field rfl fl_25_1 rfl rfl ?_
  refine r_store1 hS (i := 2) rfl (by conv => lhs; whnf) rfl rfl sz_23 rfl rfl rfl ?_
  intro w5 hS hE
  refine wpl_nil ?_
  refine thn ?_
  refine k_seq ?_
  refine k_seq ?_
  (try simp only [List.nil_append, List.cons_append, List.set_cons_zero, List.set_cons_succ] at hS)
  refine k_region ?_
  refine r_assign (by conv => lhs; whnf) rfl rfl ?_
  refine wpl_nil ?_
  refine thn ?_
  refine k_block ?_
  refine k_loop (ι := Nat × Option Addr × Nat) [6, 9, 10, 11, 12, 13, 14, 15, 16, 17, 18, 19, 20, 21, 22, 23, 24, 25, 26, 27, 28, 29] (fun i => [(6, .int .i64 (i.1 : Int))]) (fun i w' => i.1 ≤ n2 ∧ St (bs w) w' [box b2 25 [.slice A1 n1 c1, .slice A2 n2 c2, .int .i64 b.dark, .int .i64 b.near, .int .i64 b.mat], box b4 25 [.slice none 0 0, .slice none 0 0, .int .i64 0, .int .i64 0, .int .i64 0], box b5 25 [.slice A1 n1 c1, .slice i.2.1 (restTo b.horses set i.1).length i.2.2, .int .i64 b.dark, .int .i64 b.near, .int .i64 b.mat], row 65 3 i.2.1 (restTo b.horses set i.1).length i.2.2 ((restTo b.horses set i.1).flatMap Horse.enc)]) (fun i => n2 - i.1) (0, none, 0) ⟨rfl, trivial⟩ ⟨Nat.zero_le _, row_nil hS⟩ ?_
  rintro ⟨k, aH, cH⟩ j w2 ⟨hk0, hS⟩
  dsimp only at hk0 hS
  show WP _ _ _ _ _ (mkF _ [(6, .int .i64 (k : Int))]) _ _
  refine k_seq ?_
  refine k_seq ?_
  (try simp only [List.nil_append, List.cons_append, List.set_cons_zero, List.set_cons_succ] at hS)
  refine k_region ?_
  refine r_move (by conv => lhs; whnf) rfl rfl ?_
  refine r_field rfl fl_25_1 rfl rfl ?_
  refine r_load rfl (ld_bs hS (i := 0) rfl rfl sc_23) rfl rfl ?_
  refine r_len rfl sl_23 rfl rfl ?_
  refine r_lss rfl rfl rfl rfl ?_
  refine wpl_nil ?_
  refine thn ?_
  refine k_cond rfl (fun hc7 => ?_) (fun hc7 => ?_)
  · -- t
    have hc70 := hc7
    (try simp only [decide_eq_true_eq, decide_eq_false_iff_not, Bool.and_eq_true, Bool.and_eq_false_iff, Bool.not_eq_true', Bool.not_eq_false', Int.not_lt, Int.not_le] at hc7)
    have hk : k < n2 := by omega
    obtain ⟨a2, hA2, hc2⟩ := h2.nat (d := Horse0) hk
    refine k_skip ?_
    refine thn ?_
    refine k_seq ?_
    refine k_block ?_
    refine k_seq ?_
    (try simp only [List.nil_append, List.cons_append, List.set_cons_zero, List.set_cons_succ] at hS)
    refine k_region ?_
    refine r_move (by conv => lhs; whnf) rfl rfl ?_
    refine r_move (by conv => lhs; whnf) rfl rfl ?_
    refine r_call rfl (c53 _ (outTo set n2) Al nl cl (h.ext hS.ext) (k : Int)) rfl rfl ?_
    rintro _ w8 ⟨r, rfl, hr, hE⟩
    have hS := hS.step hE
    rw [bit_in (by omega)] at hr
    refine r_lss rfl rfl rfl rfl ?_
    refine wpl_nil ?_
    refine thn ?_
    refine k_cond rfl (fun hc9 => ?_) (fun hc9 => ?_)
    · -- t
      skip
      have hbit : bitB set k = false := by have hc91 : decide (r < 0) = true := hc9; rw [hr] at hc91; simpa using hc91
      (try simp only [List.nil_append, List.cons_append, List.set_cons_zero, List.set_cons_succ] at hS)
      have hSb := hS
      apply k_draw (m := 8) (ss := [.val _, .val _, .val _, .val _, .val _, .val _, .val _, .ex (Row (b.horses.getD k Horse0).enc 1 1)]) mixed rfl (by kernel_rfl) (by kernel_rfl) rfl rfl rfl
      · refine ⟨?_, ?_, ?_, ?_, ?_, ?_, ?_, ?_, trivial⟩
        · -- op 0
          intro jnk vals lo hi w10 hE0 hd
          have hS := hS.step hE0
          refine r_field rfl fl_25_1 rfl rfl ?_
          refine wpl_end ?_
          exact ⟨rfl, Ext.refl _ _, rfl⟩
        · -- op 1
          intro jnk vals lo hi w11 hE0 hd
          have hS := hS.step hE0
          refine r_load rfl (ld_bs hS (i := 2) rfl rfl sc_23) rfl rfl ?_
          refine wpl_end ?_
          exact ⟨rfl, Ext.refl _ _, rfl⟩
        · -- op 2
          intro jnk vals lo hi w12 hE0 hd
          have hS := hS.step hE0
          refine r_field rfl fl_25_1 rfl rfl ?_
          refine wpl_end ?_
          exact ⟨rfl, Ext.refl _ _, rfl⟩
        · -- op 3
          intro jnk vals lo hi w13 hE0 hd
          have hS := hS.step hE0
          refine r_load rfl (ld_bs hS (i := 0) rfl rfl sc_23) rfl rfl ?_
          refine wpl_end ?_
          exact ⟨rfl, Ext.refl _ _, rfl⟩
        · -- op 4
          intro jnk vals lo hi w14 hE0 hd
          have hS := hS.step hE0
          refine r_move (by conv => lhs; whnf) rfl rfl ?_
          refine wpl_end ?_
          exact ⟨rfl, Ext.refl _ _, rfl⟩
        · -- op 5
          intro jnk vals lo hi w15 hE0 hd
          have hS := hS.step hE0
          refine r_index (congrArg (fun A => Value.slice A n2 c2) hA2) rfl sl_23 (by omega) rfl rfl ?_
          refine wpl_end ?_
          exact ⟨rfl, Ext.refl _ _, rfl⟩
        · -- op 6
          intro jnk vals lo hi w17 hE0 hd
          have hS := hS.step hE0
          refine r_load rfl (ld_ag (hc2.ext hS.ext) ag_65 rfl) rfl rfl ?_
          refine wpl_end ?_
          exact ⟨rfl, Ext.refl _ _, rfl⟩
        · -- op 7
          intro jnk vals lo hi w19 hE0 hd
          have hS := hS.step hE0
          refine r_buildSlice hS us_23 sz_65 z_65 rfl rfl rfl rfl rfl ?_
          intro b27 w20 hS hE hB27
          refine wpl_end ?_
          exact ⟨rfl, hE.of_no, row_build (hS.get (i := 4) rfl) hB27⟩
      · intro φ hφ v lo hi S w1 w2 hEa hEb hSb2
        rcases hφ with hφ | ⟨j, hφ⟩
        · simp at hφ
          subst hφ
          all_goals first | exact mk_stays hEa hEb hSb2 | exact row_stays hEa hEb hSb2 | exact rown_stays hEa hEb hSb2
        · simp at hφ
      intro jnk vals lo hi w21 hE0 hsat hdj hbd
      have hS := hS.step hE0
      obtain ⟨r7, hv7, hl7, hh7, hr7⟩ := hsat 7 (by decide) rfl
      rw [vset_eq hv7]
      refine r_append (vs := (b.horses.getD k Horse0).enc) hS rfl rfl (i := 3) rfl us_23 us_23 sz_65 by_65 z_65 rfl (show Src _ (some _) _ from hr7) rfl rfl (by have := restTo_len (hs := b.horses) (set := set) (k := k); omega) rfl rfl rfl ?_
      intro aH2 cH2 w23 hS hE
      refine r_field rfl fl_25_1 rfl rfl ?_
      refine r_store1 hS (i := 2) rfl (by conv => lhs; whnf) rfl rfl sz_23 rfl rfl rfl ?_
      intro w24 hS hE
      refine wpl_nil ?_
      refine blk_n ?_
      refine thn ?_
      (try simp only [List.nil_append, List.cons_append, List.set_cons_zero, List.set_cons_succ] at hS)
      refine k_region ?_
      refine r_move (by conv => lhs; whnf) rfl rfl ?_
      refine r_add rfl rfl rfl rfl (by omega) ?_
      refine r_assign (by conv => lhs; whnf) rfl rfl ?_
      refine wpl_nil ?_
      refine thn ?_
      have hom : restTo b.horses set (k + 1) = restTo b.horses set k ++ [b.horses.getD k Horse0] := by rw [restTo_succ, hbit]; rfl
      have hol : (restTo b.horses set (k + 1)).length = (restTo b.horses set k).length + 1 := by rw [hom]; simp
      have hof : (restTo b.horses set (k + 1)).flatMap Horse.enc = (restTo b.horses set k).flatMap Horse.enc ++ (b.horses.getD k Horse0).enc := by rw [hom, List.flatMap_append]; simp
      refine ⟨(k + 1, aH2, cH2), ⟨rfl, trivial⟩, ?_, ?_, ?_, rfl⟩
      · refine ⟨by dsimp only; omega, ?_⟩
        dsimp only
        rw [hol, hof]
        exact hS
      · dsimp only; omega
      · (repeat (first | exact Agree.refl _ _ | exact agree_hv rfl (Agree.refl _ _) | refine agree_upd rfl ?_ | refine agree_mkF rfl ?_ | refine agree_hv rfl ?_))
    · -- f
      skip
      have hbit : bitB set k = true := by have hc91 : decide (r < 0) = false := hc9; rw [hr] at hc91; simpa using hc91
      refine k_skip ?_
      refine blk_n ?_
      refine thn ?_
      (try simp only [List.nil_append, List.cons_append, List.set_cons_zero, List.set_cons_succ] at hS)
      refine k_region ?_
      refine r_move (by conv => lhs; whnf) rfl rfl ?_
      refine r_add rfl rfl rfl rfl (by omega) ?_
      refine r_assign (by conv => lhs; whnf) rfl rfl ?_
      refine wpl_nil ?_
      refine thn ?_
      have hom : restTo b.horses set (k + 1) = restTo b.horses set k := by rw [restTo_succ, hbit]; rfl
      refine ⟨(k + 1, aH, cH), ⟨rfl, trivial⟩, ?_, ?_, ?_, rfl⟩
      · refine ⟨by dsimp only; omega, ?_⟩
        dsimp only
        rw [hom]
        exact hS
      · dsimp only; omega
      · (repeat (first | exact Agree.refl _ _ | exact agree_hv rfl (Agree.refl _ _) | refine agree_upd rfl ?_ | refine agree_mkF rfl ?_ | refine agree_hv rfl ?_))
  · -- f
    have hc70 := hc7
    (try simp only [decide_eq_true_eq, decide_eq_false_iff_not, Bool.and_eq_true, Bool.and_eq_false_iff, Bool.not_eq_true', Bool.not_eq_false', Int.not_lt, Int.not_le] at hc7)
    have hk : k = n2 := by omega
    rw [hk] at hS
    refine k_exit ?_
    refine thn_e ?_
    refine thn_e ?_
    refine blk_e ?_
    refine thn ?_
    refine k_seq ?_
    (try simp only [List.nil_append, List.cons_append, List.set_cons_zero, List.set_cons_succ] at hS)
    refine k_region ?_
    refine r_load rfl (ld_ba hS (i := 2) rfl rfl rfl ag_25) rfl rfl ?_
    refine r_storea hS (i := 1) rfl rfl rfl sz_25 rfl rfl rfl ?_
    intro w25 hS hE
    refine wpl_nil ?_
    refine thn ?_
    refine retc (fun _ _ _ => rfl) rfl (ld_ba hS (i := 1) rfl rfl rfl ag_25) ?_
    exact ⟨aH, cH, rfl, hS.ext, hS.get (i := 3) rfl, fun z hz => ⟨(hS.lo _ (mem_of_get (i := 3) rfl) z hz).1, (hS.lo _ (mem_of_get (i := 3) rfl) z hz).2.2⟩⟩

theorem c35 (w : World) (b : HBook) (A1 A2 : Option Addr) (n1 c1 n2 c2 : Nat) (h1 : RdRow Hank.enc 4 w A1 n1 b.hanks) (h2 : RdRow Horse.enc 3 w A2 n2 b.horses) (oz s : Int) (hn1 : n1 ≤ 1000) : Cv Tryd.prog 35 #[.agg #[.slice A1 n1 c1, .slice A2 n2 c2, .int .i64 b.dark, .int .i64 b.near, .int .i64 b.mat], .int .i64 oz, .int .i64 s] w (fun v w' => ∃ a c, v = .agg #[.slice a (n1 + 1) c, .slice A2 n2 c2, .int .i64 b.dark, .int .i64 b.near, .int .i64 b.mat] ∧ Ext no w w' ∧ (row 42 4 a (n1 + 1) c ((b.hanks ++ [addHank oz s]).flatMap Hank.enc)).ok w' ∧ n1 + 1 ≤ c ∧ (∀ z, a = some ⟨z, 0, none⟩ → w.heap.size ≤ z ∧ z < w'.heap.size)) := by
  refine cv_intro Tryd.func35 rfl rfl Tryd.ntmps35 rfl (by kernel_rfl) ?_
  have hS := St.nil w
  have hl1 := h1.1
  have hl1b := h1.2.1
  refine k_seq ?_
  refine k_region ?_
  refine r_boxa hS rfl rfl rfl ?_
  intro b3 w1 hS hE hB3
  refine r_alloc hS z_25 rfl rfl rfl ?_
  intro b6 w2 hS hE hB6
  refine wpl_nil ?_
  refine thn ?_
  refine k_seq ?_
  (try simp only [List.nil_append, List.cons_append, List.set_cons_zero, List.set_cons_succ] at hS)
  refine k_region ?_
  refine r_load rfl (ld_ba hS (i := 0) rfl rfl rfl ag_25) rfl rfl ?_
  refine r_alloc hS z_25 rfl rfl rfl ?_
  intro b7 w3 hS hE hB7
  refine r_storea hS (i := 2) rfl rfl rfl sz_25 rfl rfl rfl ?_
  intro w4 hS hE
  refine wpl_nil ?_
  refine thn ?_
  refine k_seq ?_
  (try simp only [List.nil_append, List.cons_append, List.set_cons_zero, List.set_cons_succ] at hS)
  refine k_region ?_
  refine r_buildSlice hS us_22 sz_42 z_42 rfl rfl rfl rfl rfl ?_
  intro b9 w6 hS hE hB9
  have hS := box_row (n := 0) (sz := 4) hS (i := 3) rfl rfl
  refine r_field rfl fl_25_0 rfl rfl ?_
  refine r_load rfl (ld_bs hS (i := 0) rfl rfl sc_22) rfl rfl ?_
  refine r_append (vs := b.hanks.flatMap Hank.enc) hS rfl rfl (i := 3) rfl us_22 us_22 sz_42 by_42 z_42 rfl (rd_src henc_len (h1.ext hS.ext)) (by rw [flat_len henc_len, hl1]) (by rw [List.all_flatMap, List.all_eq_true]; intro x _; rfl) (by omega) rfl rfl rfl ?_
  intro aN cN w9 hS hE
  refine r_move (by conv => lhs; whnf) rfl rfl ?_
  refine r_call rfl (c21 _ _) rfl rfl ?_
  rintro _ w10 ⟨rfl, hE⟩
  have hS := hS.step hE
  refine r_move (by conv => lhs; whnf) rfl rfl ?_
  refine r_call rfl (c21 _ _) rfl rfl ?_
  rintro _ w11 ⟨rfl, hE⟩
  have hS := hS.step hE
  refine r_call rfl (c85 _ _ _ _ _) rfl rfl ?_
  rintro _ w12 ⟨rfl, hE⟩
  have hS := hS.step hE
  refine r_buildSlice hS us_22 sz_42 z_42 rfl rfl rfl rfl rfl ?_
  intro b18 w13 hS hE hB18
  refine r_append (vs := (addHank oz s).enc) hS rfl rfl (i := 3) rfl us_22 us_22 sz_42 by_42 z_42 rfl (show Src _ (some _) _ from box_cells (hS.get (i := 4) rfl) 0) rfl rfl (by omega) rfl rfl rfl ?_
  intro aM cM w15 hS hE
  refine r_field rfl fl_25_0 rfl rfl ?_
  refine r_store1 hS (i := 2) rfl (by conv => lhs; whnf) rfl rfl sz_22 rfl rfl rfl ?_
  intro w16 hS hE
  refine wpl_nil ?_
  refine thn ?_
  refine k_seq ?_
  (try simp only [List.nil_append, List.cons_append, List.set_cons_zero, List.set_cons_succ] at hS)
  refine k_region ?_
  refine r_load rfl (ld_ba hS (i := 2) rfl rfl rfl ag_25) rfl rfl ?_
  refine r_storea hS (i := 1) rfl rfl rfl sz_25 rfl rfl rfl ?_
  intro w17 hS hE
  refine wpl_nil ?_
  refine thn ?_
  refine retc (fun _ _ _ => rfl) rfl (ld_ba hS (i := 1) rfl rfl rfl ag_25) ?_
  have hrow : (row 42 4 aM (0 + n1 + 1) cM (b.hanks.flatMap Hank.enc ++ (addHank oz s).enc)).ok _ := hS.get (i := 3) rfl
  have hlo := hS.lo _ (mem_of_get (i := 3) rfl)
  have e0 : 0 + n1 + 1 = n1 + 1 := by omega
  have ef : (b.hanks ++ [addHank oz s]).flatMap Hank.enc = b.hanks.flatMap Hank.enc ++ (addHank oz s).enc := by rw [List.flatMap_append]; simp
  rw [e0] at hrow
  refine ⟨aM, cM, ?_, hS.ext, by rw [ef]; exact hrow, row_cap hrow, fun z hz => ⟨(hlo z hz).1, (hlo z hz).2.2⟩⟩
  show Value.agg #[.slice aM (0 + n1 + 1) cM, .slice A2 n2 c2, .int .i64 b.dark, .int .i64 b.near, .int .i64 b.mat] = _
  rw [e0]
end Go.Proofs.YtofpabocpcfbfaaDoor
