/- Walks: T29. -/
import Derived.Test.YtofpabocpcfbfaaDoorMF
import Derived.Test.YtofpabocpcfbfaaDoorCT23
import Derived.Test.YtofpabocpcfbfaaDoorMD2
set_option linter.unusedSimpArgs false
set_option linter.unusedVariables false
namespace Go.Proofs.YtofpabocpcfbfaaDoor
open Go Go.Proofs K

set_option maxHeartbeats 2000000 in
set_option maxRecDepth 100000 in
theorem c9 (w : World) (b : HBook) (A1 A2 : Option Addr) (n1 c1 n2 c2 : Nat) (h1 : RdRow Hank.enc 4 w A1 n1 b.hanks) (h2 : RdRow Horse.enc 3 w A2 n2 b.horses) (hP : Parts w) (m0 m1 m2 : Int) : Cv Tryd.prog 9 #[.agg #[.slice A1 n1 c1, .slice A2 n2 c2, .int .i64 b.dark, .int .i64 b.near, .int .i64 b.mat], .agg #[.int .i64 m0, .int .i64 m1, .int .i64 m2]] w (fun v w' => v = .bool true ∧ Ext no w w') := by
  refine cv_intro Tryd.func9 rfl rfl Tryd.ntmps9 rfl (by kernel_rfl) ?_
  have hS := St.nil w
  have hl1 := h1.1
  have hl2 := h2.1
  have hb1 := h1.2.1
  have hb2 := h2.2.1
  refine k_seq ?_
  refine k_region ?_
  refine r_boxa hS rfl rfl rfl ?_
  intro b2 w1 hS hE hB2
  refine r_boxa hS rfl rfl rfl ?_
  intro b3 w2 hS hE hB3
  refine r_assign (by conv => lhs; whnf) rfl rfl ?_
  refine wpl_nil ?_
  refine thn ?_
  refine k_seq ?_
  refine k_seq ?_
  refine k_region ?_
  refine r_load rfl (ld_ba hS (i := 0) rfl rfl rfl ag_25) rfl rfl ?_
  refine r_call rfl (c14 _ b A1 A2 n1 c1 n2 c2 (h1.ext hS.ext) (h2.ext hS.ext)) rfl rfl ?_
  rintro _ w3 ⟨rfl, hE⟩
  have hS := hS.step hE
  refine r_not rfl rfl rfl ?_
  refine r_moveb rfl rfl rfl (fun hb4 => ?_) (fun hb4 => ?_)
  · -- True
    have hb40 := hb4
    (try simp only [decide_eq_true_eq, decide_eq_false_iff_not, Bool.and_eq_true, Bool.and_eq_false_iff, Bool.not_eq_true', Bool.not_eq_false', Int.not_lt, Int.not_le] at hb4)
    refine r_skip rfl rfl ?_
    refine r_skip rfl rfl ?_
    refine r_skip rfl rfl ?_
    refine r_skip rfl rfl ?_
    refine r_pick_t rfl (by conv => lhs; whnf) rfl rfl ?_
    refine r_move (by conv => lhs; whnf) rfl rfl ?_
    refine r_skip rfl rfl ?_
    refine r_skip rfl rfl ?_
    refine r_skip rfl rfl ?_
    refine r_skip rfl rfl ?_
    refine r_pick_t rfl (by conv => lhs; whnf) rfl rfl ?_
    refine wpl_nil ?_
    refine thn ?_
    refine k_cond_t rfl ?_
    refine k_seq ?_
    refine k_region ?_
    refine r_call rfl (c15 _ (hP.ext hS.ext)) rfl rfl ?_
    rintro _ w5 ⟨rfl, hE⟩
    have hS := hS.step hE
    refine r_assign (by conv => lhs; whnf) rfl rfl ?_
    refine wpl_nil ?_
    refine thn ?_
    refine ret1 (fun _ _ _ => rfl) (by conv => lhs; whnf) ?_
    exact ⟨rfl, hS.ext⟩
  · -- False
    have hb40 := hb4
    (try simp only [decide_eq_true_eq, decide_eq_false_iff_not, Bool.and_eq_true, Bool.and_eq_false_iff, Bool.not_eq_true', Bool.not_eq_false', Int.not_lt, Int.not_le] at hb4)
    have hv : b.valid = true := by simpa using hb4
    refine r_field rfl fl_25_0 rfl rfl ?_
    refine r_load rfl (ld_bs hS (i := 0) rfl rfl sc_22) rfl rfl ?_
    refine r_len rfl sl_22 rfl rfl ?_
    refine r_lss rfl rfl rfl rfl ?_
    refine r_pick_f rfl (by conv => lhs; whnf) rfl rfl ?_
    refine r_moveb rfl rfl rfl (fun hb6 => ?_) (fun hb6 => ?_)
    · -- True
      have hb60 := hb6
      (try simp only [decide_eq_true_eq, decide_eq_false_iff_not, Bool.and_eq_true, Bool.and_eq_false_iff, Bool.not_eq_true', Bool.not_eq_false', Int.not_lt, Int.not_le] at hb6)
      refine r_skip rfl rfl ?_
      refine r_skip rfl rfl ?_
      refine r_skip rfl rfl ?_
      refine r_skip rfl rfl ?_
      refine r_pick_t rfl (by conv => lhs; whnf) rfl rfl ?_
      refine wpl_nil ?_
      refine thn ?_
      refine k_cond_t rfl ?_
      refine k_seq ?_
      refine k_region ?_
      refine r_call rfl (c15 _ (hP.ext hS.ext)) rfl rfl ?_
      rintro _ w7 ⟨rfl, hE⟩
      have hS := hS.step hE
      refine r_assign (by conv => lhs; whnf) rfl rfl ?_
      refine wpl_nil ?_
      refine thn ?_
      refine ret1 (fun _ _ _ => rfl) (by conv => lhs; whnf) ?_
      exact ⟨rfl, hS.ext⟩
    · -- False
      have hb60 := hb6
      (try simp only [decide_eq_true_eq, decide_eq_false_iff_not, Bool.and_eq_true, Bool.and_eq_false_iff, Bool.not_eq_true', Bool.not_eq_false', Int.not_lt, Int.not_le] at hb6)
      have hn0 : 2 ≤ n1 := by omega
      refine r_field rfl fl_25_1 rfl rfl ?_
      refine r_load rfl (ld_bs hS (i := 0) rfl rfl sc_23) rfl rfl ?_
      refine r_len rfl sl_23 rfl rfl ?_
      refine r_eql rfl rfl rfl rfl ?_
      refine r_pick_f rfl (by conv => lhs; whnf) rfl rfl ?_
      refine wpl_nil ?_
      refine thn ?_
      refine k_cond rfl (fun hc8 => ?_) (fun hc8 => ?_)
      · -- t
        have hc80 := hc8
        (try simp only [decide_eq_true_eq, decide_eq_false_iff_not, Bool.and_eq_true, Bool.and_eq_false_iff, Bool.not_eq_true', Bool.not_eq_false', Int.not_lt, Int.not_le] at hc8)
        refine k_seq ?_
        refine k_region ?_
        refine r_call rfl (c15 _ (hP.ext hS.ext)) rfl rfl ?_
        rintro _ w9 ⟨rfl, hE⟩
        have hS := hS.step hE
        refine r_assign (by conv => lhs; whnf) rfl rfl ?_
        refine wpl_nil ?_
        refine thn ?_
        refine ret1 (fun _ _ _ => rfl) (by conv => lhs; whnf) ?_
        exact ⟨rfl, hS.ext⟩
      · -- f
        have hc80 := hc8
        (try simp only [decide_eq_true_eq, decide_eq_false_iff_not, Bool.and_eq_true, Bool.and_eq_false_iff, Bool.not_eq_true', Bool.not_eq_false', Int.not_lt, Int.not_le] at hc8)
        have hm0 : n2 ≠ 0 := by omega
        refine k_skip ?_
        refine thn ?_
        refine k_seq ?_
        have hg := (GoodB.of_valid hv).1
        have hg1 := hg.l1
        have hg2 := hg.l2
        have hck : b.chk = 0 := by unfold HBook.chk; rw [hv]; rfl
        have hgd := hg.dark
        have hgn := hg.near
        have hgm := hg.mat
        obtain ⟨i, hid⟩ : ∃ i, i = roundI m0 n2 := ⟨_, rfl⟩
        have hi : 0 ≤ i ∧ i < n2 := by rw [hid]; exact roundI_bd (by omega)
        obtain ⟨h, hhd⟩ : ∃ h, h = roundI m1 n1 := ⟨_, rfl⟩
        have hh : 0 ≤ h ∧ h < n1 := by rw [hhd]; exact roundI_bd (by omega)
        obtain ⟨r, hrd⟩ : ∃ r, r = roundI m2 ((n1 : Int) - 1) := ⟨_, rfl⟩
        have hr : 0 ≤ r ∧ r < (n1 : Int) - 1 := by rw [hrd]; exact roundI_bd (by omega)
        obtain ⟨k, hkd⟩ : ∃ k, k = roundI (h + 1 + r) n1 := ⟨_, rfl⟩
        have hk : 0 ≤ k ∧ k < n1 := by rw [hkd]; exact roundI_bd (by omega)
        have hne : h ≠ k := by
          have h1 : k = (h + 1 + r) % (n1 : Int) := by rw [hkd]; unfold roundI; rw [if_neg (by omega)]
          by_cases hlt : h + 1 + r < n1
          · rw [Int.emod_eq_of_lt (by omega) hlt] at h1; omega
          · have h2 : (h + 1 + r) % (n1 : Int) = h + 1 + r - n1 := by rw [← Int.sub_emod_right, Int.emod_eq_of_lt (by omega) (by omega)]
            omega
        have hei := HBook.either_law hv (i := i) (h := h) (k := k) (by omega) (by omega) (by omega) hne
        obtain ⟨ah, hAh, hch⟩ := h1.at (d := Hank0) hh
        obtain ⟨ak, hAk, hck2⟩ := h1.at (d := Hank0) hk
        obtain ⟨ax, hAx, hcx⟩ := h2.at (d := Horse0) hi
        have hqh := hg.hankAt (k := h) (by omega)
        have hqk := hg.hankAt (k := k) (by omega)
        have hx := hg.horseAt (k := i) (by omega)
        unfold HBook.hank at hqh hqk hei
        unfold HBook.horse at hx hei
        have hSb := hS
        apply k_draw (m := 11) (ss := [.val _, .val _, .val _, .val _, .val _, .val _, .val _, .val _, .val _, .val _, .val _]) mixed rfl (by kernel_rfl) (by kernel_rfl) rfl rfl rfl
        · refine ⟨?_, ?_, ?_, ?_, ?_, ?_, ?_, ?_, ?_, ?_, ?_, trivial⟩
          · -- op 0
            intro jnk vals lo hi w10 hE0 hd
            have hS := hS.step hE0
            refine r_indexa rfl rfl ar_58 (by omega) rfl rfl ?_
            refine wpl_end ?_
            exact ⟨rfl, Ext.refl _ _, rfl⟩
          · -- op 1
            intro jnk vals lo hi w11 hE0 hd
            have hS := hS.step hE0
            refine r_load rfl (ld_bs hS (i := 1) rfl rfl sc_3) rfl rfl ?_
            refine wpl_end ?_
            exact ⟨rfl, Ext.refl _ _, rfl⟩
          · -- op 2
            intro jnk vals lo hi w12 hE0 hd
            have hS := hS.step hE0
            refine r_field rfl fl_25_1 rfl rfl ?_
            refine wpl_end ?_
            exact ⟨rfl, Ext.refl _ _, rfl⟩
          · -- op 3
            intro jnk vals lo hi w13 hE0 hd
            have hS := hS.step hE0
            refine r_load rfl (ld_bs hS (i := 0) rfl rfl sc_23) rfl rfl ?_
            refine wpl_end ?_
            exact ⟨rfl, Ext.refl _ _, rfl⟩
          · -- op 4
            intro jnk vals lo hi w14 hE0 hd
            have hS := hS.step hE0
            refine r_len rfl sl_23 rfl rfl ?_
            refine wpl_end ?_
            exact ⟨rfl, Ext.refl _ _, rfl⟩
          · -- op 5
            intro jnk vals lo hi w15 hE0 hd
            have hS := hS.step hE0
            refine r_call rfl (c17 _ m0 _ (by omega)) rfl rfl ?_
            rintro _ w16 ⟨rfl, hE⟩
            have hS := hS.step hE
            rw [← hid]
            refine wpl_end ?_
            exact ⟨rfl, hE.of_no, rfl⟩
          · -- op 6
            intro jnk vals lo hi w17 hE0 hd
            have hS := hS.step hE0
            refine r_indexa rfl rfl ar_58 (by omega) rfl rfl ?_
            refine wpl_end ?_
            exact ⟨rfl, Ext.refl _ _, rfl⟩
          · -- op 7
            intro jnk vals lo hi w18 hE0 hd
            have hS := hS.step hE0
            refine r_load rfl (ld_bs hS (i := 1) rfl rfl sc_3) rfl rfl ?_
            refine wpl_end ?_
            exact ⟨rfl, Ext.refl _ _, rfl⟩
          · -- op 8
            intro jnk vals lo hi w19 hE0 hd
            have hS := hS.step hE0
            refine r_field rfl fl_25_0 rfl rfl ?_
            refine wpl_end ?_
            exact ⟨rfl, Ext.refl _ _, rfl⟩
          · -- op 9
            intro jnk vals lo hi w20 hE0 hd
            have hS := hS.step hE0
            refine r_load rfl (ld_bs hS (i := 0) rfl rfl sc_22) rfl rfl ?_
            refine wpl_end ?_
            exact ⟨rfl, Ext.refl _ _, rfl⟩
          · -- op 10
            intro jnk vals lo hi w21 hE0 hd
            have hS := hS.step hE0
            refine r_len rfl sl_22 rfl rfl ?_
            refine wpl_end ?_
            exact ⟨rfl, Ext.refl _ _, rfl⟩
        · intro φ hφ v lo hi S w1 w2 hEa hEb hSb2
          simp at hφ
        intro jnk vals lo hi w22 hE0 hsat hdj hbd
        have hS := hS.step hE0
        refine r_call rfl (c17 _ m1 _ (by omega)) rfl rfl ?_
        rintro _ w23 ⟨rfl, hE⟩
        have hS := hS.step hE
        rw [← hhd]
        refine r_assign (by conv => lhs; whnf) rfl rfl ?_
        refine r_assign (by conv => lhs; whnf) rfl rfl ?_
        refine wpl_nil ?_
        refine thn ?_
        refine k_seq ?_
        have hSb := hS
        apply k_draw (m := 13) (ss := [.val _, .val _, .val _, .val _, .val _, .val _, .val _, .val _, .val _, .val _, .val _, .val _, .val _]) mixed rfl (by kernel_rfl) (by kernel_rfl) rfl rfl rfl
        · refine ⟨?_, ?_, ?_, ?_, ?_, ?_, ?_, ?_, ?_, ?_, ?_, ?_, ?_, trivial⟩
          · -- op 0
            intro jnk vals lo hi w24 hE0 hd
            have hS := hS.step hE0
            refine r_move (by conv => lhs; whnf) rfl rfl ?_
            refine wpl_end ?_
            exact ⟨rfl, Ext.refl _ _, rfl⟩
          · -- op 1
            intro jnk vals lo hi w25 hE0 hd
            have hS := hS.step hE0
            refine r_add rfl rfl rfl rfl (by omega) ?_
            refine wpl_end ?_
            exact ⟨rfl, Ext.refl _ _, rfl⟩
          · -- op 2
            intro jnk vals lo hi w26 hE0 hd
            have hS := hS.step hE0
            refine r_indexa rfl rfl ar_58 (by omega) rfl rfl ?_
            refine wpl_end ?_
            exact ⟨rfl, Ext.refl _ _, rfl⟩
          · -- op 3
            intro jnk vals lo hi w27 hE0 hd
            have hS := hS.step hE0
            refine r_load rfl (ld_bs hS (i := 1) rfl rfl sc_3) rfl rfl ?_
            refine wpl_end ?_
            exact ⟨rfl, Ext.refl _ _, rfl⟩
          · -- op 4
            intro jnk vals lo hi w28 hE0 hd
            have hS := hS.step hE0
            refine r_field rfl fl_25_0 rfl rfl ?_
            refine wpl_end ?_
            exact ⟨rfl, Ext.refl _ _, rfl⟩
          · -- op 5
            intro jnk vals lo hi w29 hE0 hd
            have hS := hS.step hE0
            refine r_load rfl (ld_bs hS (i := 0) rfl rfl sc_22) rfl rfl ?_
            refine wpl_end ?_
            exact ⟨rfl, Ext.refl _ _, rfl⟩
          · -- op 6
            intro jnk vals lo hi w30 hE0 hd
            have hS := hS.step hE0
            refine r_len rfl sl_22 rfl rfl ?_
            refine wpl_end ?_
            exact ⟨rfl, Ext.refl _ _, rfl⟩
          · -- op 7
            intro jnk vals lo hi w31 hE0 hd
            have hS := hS.step hE0
            refine r_sub rfl rfl rfl rfl (by omega) ?_
            refine wpl_end ?_
            exact ⟨rfl, Ext.refl _ _, rfl⟩
          · -- op 8
            intro jnk vals lo hi w32 hE0 hd
            have hS := hS.step hE0
            refine r_call rfl (c17 _ m2 _ (by omega)) rfl rfl ?_
            rintro _ w33 ⟨rfl, hE⟩
            have hS := hS.step hE
            rw [← hrd]
            refine wpl_end ?_
            exact ⟨rfl, hE.of_no, rfl⟩
          · -- op 9
            intro jnk vals lo hi w34 hE0 hd
            have hS := hS.step hE0
            refine r_add rfl rfl rfl rfl (by omega) ?_
            refine wpl_end ?_
            exact ⟨rfl, Ext.refl _ _, rfl⟩
          · -- op 10
            intro jnk vals lo hi w35 hE0 hd
            have hS := hS.step hE0
            refine r_field rfl fl_25_0 rfl rfl ?_
            refine wpl_end ?_
            exact ⟨rfl, Ext.refl _ _, rfl⟩
          · -- op 11
            intro jnk vals lo hi w36 hE0 hd
            have hS := hS.step hE0
            refine r_load rfl (ld_bs hS (i := 0) rfl rfl sc_22) rfl rfl ?_
            refine wpl_end ?_
            exact ⟨rfl, Ext.refl _ _, rfl⟩
          · -- op 12
            intro jnk vals lo hi w37 hE0 hd
            have hS := hS.step hE0
            refine r_len rfl sl_22 rfl rfl ?_
            refine wpl_end ?_
            exact ⟨rfl, Ext.refl _ _, rfl⟩
        · intro φ hφ v lo hi S w1 w2 hEa hEb hSb2
          simp at hφ
        intro jnk vals lo hi w38 hE0 hsat hdj hbd
        have hS := hS.step hE0
        refine r_call rfl (c17 _ (h + 1 + r) _ (by omega)) rfl rfl ?_
        rintro _ w39 ⟨rfl, hE⟩
        have hS := hS.step hE
        rw [← hkd]
        refine r_assign (by conv => lhs; whnf) rfl rfl ?_
        refine wpl_nil ?_
        refine thn ?_
        refine k_seq ?_
        refine k_region ?_
        rcases hei with ⟨⟨hE1, hV1⟩, hE2, hV2⟩ | ⟨x, y, p, q, ⟨hE1, hV1⟩, ⟨hE2, hV2⟩, hbx, hby, hxq, hpy, hnr, hmt1, hmt2⟩
        · -- none
          refine r_load rfl (ld_ba hS (i := 0) rfl rfl rfl ag_25) rfl rfl ?_
          refine r_move (by conv => lhs; whnf) rfl rfl ?_
          refine r_move (by conv => lhs; whnf) rfl rfl ?_
          refine r_move (by conv => lhs; whnf) rfl rfl ?_
          refine r_call rfl (c37 _ b A1 A2 n1 c1 n2 c2 (h1.ext hS.ext) (h2.ext hS.ext) (hP.ext hS.ext) i h k) rfl rfl ?_
          rintro _ w40 ⟨hv40, hE⟩
          simp only [hE1, hV1] at hv40
          subst hv40
          have hS := hS.step hE
          refine r_move (by conv => lhs; whnf) rfl rfl ?_
          refine r_extract rfl rfl rfl rfl ?_
          refine r_extract rfl rfl rfl rfl ?_
          refine r_extract rfl rfl rfl rfl ?_
          refine r_assign (by conv => lhs; whnf) rfl rfl ?_
          refine r_assign (by conv => lhs; whnf) rfl rfl ?_
          refine r_assign (by conv => lhs; whnf) rfl rfl ?_
          refine wpl_nil ?_
          refine thn ?_
          refine k_seq ?_
          refine k_region ?_
          refine r_load rfl (ld_ba hS (i := 0) rfl rfl rfl ag_25) rfl rfl ?_
          refine r_move (by conv => lhs; whnf) rfl rfl ?_
          refine r_move (by conv => lhs; whnf) rfl rfl ?_
          refine r_move (by conv => lhs; whnf) rfl rfl ?_
          refine r_call rfl (c37 _ b A1 A2 n1 c1 n2 c2 (h1.ext hS.ext) (h2.ext hS.ext) (hP.ext hS.ext) i k h) rfl rfl ?_
          rintro _ w41 ⟨hv41, hE⟩
          simp only [hE2, hV2] at hv41
          subst hv41
          have hS := hS.step hE
          refine r_move (by conv => lhs; whnf) rfl rfl ?_
          refine r_extract rfl rfl rfl rfl ?_
          refine r_extract rfl rfl rfl rfl ?_
          refine r_extract rfl rfl rfl rfl ?_
          refine r_assign (by conv => lhs; whnf) rfl rfl ?_
          refine r_assign (by conv => lhs; whnf) rfl rfl ?_
          refine r_assign (by conv => lhs; whnf) rfl rfl ?_
          refine wpl_nil ?_
          refine thn ?_
          refine k_seq ?_
          refine k_seq ?_
          refine k_region ?_
          refine r_move (by conv => lhs; whnf) rfl rfl ?_
          refine r_move (by conv => lhs; whnf) rfl rfl ?_
          refine r_neq rfl rfl rfl rfl ?_
          refine r_move (by conv => lhs; whnf) rfl rfl ?_
          refine r_move (by conv => lhs; whnf) rfl rfl ?_
          refine r_neq rfl rfl rfl rfl ?_
          refine r_pick_f rfl (by conv => lhs; whnf) rfl rfl ?_
          refine wpl_nil ?_
          refine thn ?_
          refine k_cond_t rfl ?_
          refine k_seq ?_
          refine k_region ?_
          refine r_move (by conv => lhs; whnf) rfl rfl ?_
          refine r_move (by conv => lhs; whnf) rfl rfl ?_
          refine r_eql rfl rfl rfl rfl ?_
          refine r_move (by conv => lhs; whnf) rfl rfl ?_
          refine r_move (by conv => lhs; whnf) rfl rfl ?_
          refine r_eql rfl rfl rfl rfl ?_
          refine r_pick_t rfl (by conv => lhs; whnf) rfl rfl ?_
          refine r_move (by conv => lhs; whnf) rfl rfl ?_
          refine r_move (by conv => lhs; whnf) rfl rfl ?_
          refine r_move (by conv => lhs; whnf) rfl rfl ?_
          refine r_add rfl rfl rfl rfl (by omega) ?_
          refine r_move (by conv => lhs; whnf) rfl rfl ?_
          refine r_add rfl rfl rfl rfl (by omega) ?_
          refine r_move (by conv => lhs; whnf) rfl rfl ?_
          refine r_add rfl rfl rfl rfl (by omega) ?_
          refine r_eql rfl rfl rfl rfl ?_
          refine r_pick_t rfl (by conv => lhs; whnf) rfl rfl ?_
          refine r_move (by conv => lhs; whnf) rfl rfl ?_
          refine r_call rfl (c15 _ (hP.ext hS.ext)) rfl rfl ?_
          rintro _ w42 ⟨rfl, hE⟩
          have hS := hS.step hE
          refine r_pick_t rfl (by conv => lhs; whnf) rfl rfl ?_
          refine r_assign (by conv => lhs; whnf) rfl rfl ?_
          refine wpl_nil ?_
          refine thn ?_
          refine ret1 (fun _ _ _ => rfl) (by conv => lhs; whnf) ?_
          exact ⟨rfl, hS.ext⟩
        · -- some
          refine r_load rfl (ld_ba hS (i := 0) rfl rfl rfl ag_25) rfl rfl ?_
          refine r_move (by conv => lhs; whnf) rfl rfl ?_
          refine r_move (by conv => lhs; whnf) rfl rfl ?_
          refine r_move (by conv => lhs; whnf) rfl rfl ?_
          refine r_call rfl (c37 _ b A1 A2 n1 c1 n2 c2 (h1.ext hS.ext) (h2.ext hS.ext) (hP.ext hS.ext) i h k) rfl rfl ?_
          rintro _ w43 ⟨hv43, hE⟩
          simp only [hE1, hV1] at hv43
          subst hv43
          have hS := hS.step hE
          refine r_move (by conv => lhs; whnf) rfl rfl ?_
          refine r_extract rfl rfl rfl rfl ?_
          refine r_extract rfl rfl rfl rfl ?_
          refine r_extract rfl rfl rfl rfl ?_
          refine r_assign (by conv => lhs; whnf) rfl rfl ?_
          refine r_assign (by conv => lhs; whnf) rfl rfl ?_
          refine r_assign (by conv => lhs; whnf) rfl rfl ?_
          refine wpl_nil ?_
          refine thn ?_
          refine k_seq ?_
          refine k_region ?_
          refine r_load rfl (ld_ba hS (i := 0) rfl rfl rfl ag_25) rfl rfl ?_
          refine r_move (by conv => lhs; whnf) rfl rfl ?_
          refine r_move (by conv => lhs; whnf) rfl rfl ?_
          refine r_move (by conv => lhs; whnf) rfl rfl ?_
          refine r_call rfl (c37 _ b A1 A2 n1 c1 n2 c2 (h1.ext hS.ext) (h2.ext hS.ext) (hP.ext hS.ext) i k h) rfl rfl ?_
          rintro _ w44 ⟨hv44, hE⟩
          simp only [hE2, hV2] at hv44
          subst hv44
          have hS := hS.step hE
          refine r_move (by conv => lhs; whnf) rfl rfl ?_
          refine r_extract rfl rfl rfl rfl ?_
          refine r_extract rfl rfl rfl rfl ?_
          refine r_extract rfl rfl rfl rfl ?_
          refine r_assign (by conv => lhs; whnf) rfl rfl ?_
          refine r_assign (by conv => lhs; whnf) rfl rfl ?_
          refine r_assign (by conv => lhs; whnf) rfl rfl ?_
          refine wpl_nil ?_
          refine thn ?_
          refine k_seq ?_
          refine k_seq ?_
          refine k_region ?_
          refine r_move (by conv => lhs; whnf) rfl rfl ?_
          refine r_move (by conv => lhs; whnf) rfl rfl ?_
          refine r_neq rfl rfl rfl rfl ?_
          refine r_move (by conv => lhs; whnf) rfl rfl ?_
          refine r_move (by conv => lhs; whnf) rfl rfl ?_
          refine r_neq rfl rfl rfl rfl ?_
          refine r_pick_f rfl (by conv => lhs; whnf) rfl rfl ?_
          refine wpl_nil ?_
          refine thn ?_
          refine k_cond_f rfl ?_
          refine k_skip ?_
          refine thn ?_
          refine k_seq ?_
          have hSb := hS
          apply k_draw (m := 22) (ss := [.val _, .val _, .val _, .val _, .val _, .val _, .val _, .val _, .val _, .val _, .val _, .val _, .val _, .val _, .val _, .val _, .val _, .val _, .ex (Mk 35 _), .ex (Mk 35 _), .st 18 (Mk 35 _), .st 19 (Mk 35 _)]) mixed rfl (by kernel_rfl) (by kernel_rfl) rfl rfl rfl
          · refine ⟨?_, ?_, ?_, ?_, ?_, ?_, ?_, ?_, ?_, ?_, ?_, ?_, ?_, ?_, ?_, ?_, ?_, ?_, ?_, ?_, ?_, ?_, trivial⟩
            · -- op 0
              intro jnk vals lo hi w45 hE0 hd
              have hS := hS.step hE0
              refine r_field rfl fl_25_0 rfl rfl ?_
              refine wpl_end ?_
              exact ⟨rfl, Ext.refl _ _, rfl⟩
            · -- op 1
              intro jnk vals lo hi w46 hE0 hd
              have hS := hS.step hE0
              refine r_load rfl (ld_bs hS (i := 0) rfl rfl sc_22) rfl rfl ?_
              refine wpl_end ?_
              exact ⟨rfl, Ext.refl _ _, rfl⟩
            · -- op 2
              intro jnk vals lo hi w47 hE0 hd
              have hS := hS.step hE0
              refine r_move (by conv => lhs; whnf) rfl rfl ?_
              refine wpl_end ?_
              exact ⟨rfl, Ext.refl _ _, rfl⟩
            · -- op 3
              intro jnk vals lo hi w48 hE0 hd
              have hS := hS.step hE0
              refine r_index (congrArg (fun A => Value.slice A n1 c1) hAh) rfl sl_22 (by omega) rfl rfl ?_
              refine wpl_end ?_
              exact ⟨rfl, Ext.refl _ _, rfl⟩
            · -- op 4
              intro jnk vals lo hi w50 hE0 hd
              have hS := hS.step hE0
              refine r_field rfl fl_42_1 rfl rfl ?_
              refine wpl_end ?_
              exact ⟨rfl, Ext.refl _ _, rfl⟩
            · -- op 5
              intro jnk vals lo hi w51 hE0 hd
              have hS := hS.step hE0
              refine r_load rfl (ld_ag ((hch.ext hS.ext).at 2 2) ag_35 rfl) rfl rfl ?_
              refine wpl_end ?_
              exact ⟨rfl, Ext.refl _ _, rfl⟩
            · -- op 6
              intro jnk vals lo hi w53 hE0 hd
              have hS := hS.step hE0
              refine r_field rfl fl_25_0 rfl rfl ?_
              refine wpl_end ?_
              exact ⟨rfl, Ext.refl _ _, rfl⟩
            · -- op 7
              intro jnk vals lo hi w54 hE0 hd
              have hS := hS.step hE0
              refine r_load rfl (ld_bs hS (i := 0) rfl rfl sc_22) rfl rfl ?_
              refine wpl_end ?_
              exact ⟨rfl, Ext.refl _ _, rfl⟩
            · -- op 8
              intro jnk vals lo hi w55 hE0 hd
              have hS := hS.step hE0
              refine r_move (by conv => lhs; whnf) rfl rfl ?_
              refine wpl_end ?_
              exact ⟨rfl, Ext.refl _ _, rfl⟩
            · -- op 9
              intro jnk vals lo hi w56 hE0 hd
              have hS := hS.step hE0
              refine r_index (congrArg (fun A => Value.slice A n1 c1) hAk) rfl sl_22 (by omega) rfl rfl ?_
              refine wpl_end ?_
              exact ⟨rfl, Ext.refl _ _, rfl⟩
            · -- op 10
              intro jnk vals lo hi w58 hE0 hd
              have hS := hS.step hE0
              refine r_field rfl fl_42_1 rfl rfl ?_
              refine wpl_end ?_
              exact ⟨rfl, Ext.refl _ _, rfl⟩
            · -- op 11
              intro jnk vals lo hi w59 hE0 hd
              have hS := hS.step hE0
              refine r_load rfl (ld_ag ((hck2.ext hS.ext).at 2 2) ag_35 rfl) rfl rfl ?_
              refine wpl_end ?_
              exact ⟨rfl, Ext.refl _ _, rfl⟩
            · -- op 12
              intro jnk vals lo hi w61 hE0 hd
              have hS := hS.step hE0
              refine r_field rfl fl_25_1 rfl rfl ?_
              refine wpl_end ?_
              exact ⟨rfl, Ext.refl _ _, rfl⟩
            · -- op 13
              intro jnk vals lo hi w62 hE0 hd
              have hS := hS.step hE0
              refine r_load rfl (ld_bs hS (i := 0) rfl rfl sc_23) rfl rfl ?_
              refine wpl_end ?_
              exact ⟨rfl, Ext.refl _ _, rfl⟩
            · -- op 14
              intro jnk vals lo hi w63 hE0 hd
              have hS := hS.step hE0
              refine r_move (by conv => lhs; whnf) rfl rfl ?_
              refine wpl_end ?_
              exact ⟨rfl, Ext.refl _ _, rfl⟩
            · -- op 15
              intro jnk vals lo hi w64 hE0 hd
              have hS := hS.step hE0
              refine r_index (congrArg (fun A => Value.slice A n2 c2) hAx) rfl sl_23 (by omega) rfl rfl ?_
              refine wpl_end ?_
              exact ⟨rfl, Ext.refl _ _, rfl⟩
            · -- op 16
              intro jnk vals lo hi w66 hE0 hd
              have hS := hS.step hE0
              refine r_field rfl fl_65_2 rfl rfl ?_
              refine wpl_end ?_
              exact ⟨rfl, Ext.refl _ _, rfl⟩
            · -- op 17
              intro jnk vals lo hi w67 hE0 hd
              have hS := hS.step hE0
              refine r_load rfl (ld_sc ((hcx.ext hS.ext) 2 _ rfl) sc_3) rfl rfl ?_
              refine wpl_end ?_
              exact ⟨rfl, Ext.refl _ _, rfl⟩
            · -- op 18
              intro jnk vals lo hi w69 hE0 hd
              have hS := hS.step hE0
              refine r_alloc hS z_35 rfl rfl rfl ?_
              intro b14 w70 hS hE hB14
              refine wpl_end ?_
              exact ⟨rfl, hE.of_no, mk_alloc (hS.get (i := 2) rfl) hB14⟩
            · -- op 19
              intro jnk vals lo hi w71 hE0 hd
              have hS := hS.step hE0
              refine r_alloc hS z_35 rfl rfl rfl ?_
              intro b15 w72 hS hE hB15
              refine wpl_end ?_
              exact ⟨rfl, hE.of_no, mk_alloc (hS.get (i := 2) rfl) hB15⟩
            · -- op 20
              intro jnk vals lo hi w73 hE0 hd
              have hS := hS.step hE0
              obtain ⟨b18, hv18, hl18, hh18, hb18⟩ := hd 18 (by decide) rfl
              rw [vset_eq hv18]
              refine r_store0 rfl rfl rfl hb18 sz_35 rfl rfl rfl ?_
              intro w74 hE hb
              refine wpl_end ?_
              exact ⟨rfl, ext_wr hE ⟨18, rfl, hl18, hh18⟩, ⟨b18, rfl, hl18, hh18, hb⟩⟩
            · -- op 21
              intro jnk vals lo hi w75 hE0 hd
              have hS := hS.step hE0
              obtain ⟨b19, hv19, hl19, hh19, hb19⟩ := hd 19 (by decide) rfl
              rw [vset_eq hv19]
              refine r_store0 rfl rfl rfl hb19 sz_35 rfl rfl rfl ?_
              intro w76 hE hb
              refine wpl_end ?_
              exact ⟨rfl, ext_wr hE ⟨19, rfl, hl19, hh19⟩, ⟨b19, rfl, hl19, hh19, hb⟩⟩
          · intro φ hφ v lo hi S w1 w2 hEa hEb hSb2
            rcases hφ with hφ | ⟨j, hφ⟩
            · simp at hφ
              rcases hφ with rfl | rfl
              all_goals first | exact mk_stays hEa hEb hSb2 | exact row_stays hEa hEb hSb2 | exact rown_stays hEa hEb hSb2
            · simp at hφ
              rcases hφ with ⟨_, rfl⟩ | ⟨_, rfl⟩
              all_goals first | exact mk_stays hEa hEb hSb2 | exact row_stays hEa hEb hSb2 | exact rown_stays hEa hEb hSb2
          intro jnk vals lo hi w77 hE0 hsat hdj hbd
          obtain ⟨c77_18, hv18, hl18, hh18, hb18⟩ := hsat 20 (by decide) rfl
          rw [vset_eq hv18]
          obtain ⟨c77_19, hv19, hl19, hh19, hb19⟩ := hsat 21 (by decide) rfl
          rw [vset_eq hv19]
          have hS := mk_add2 hS hE0 (hbd 18 (by decide)) (hbd 19 (by decide)) (hdj 18 19 (by decide) (by decide) (by decide)) hl18 hh18 hb18 hl19 hh19 hb19
          refine r_assign (by conv => lhs; whnf) rfl rfl ?_
          refine wpl_nil ?_
          refine thn ?_
          refine k_seq ?_
          (try simp only [List.nil_append, List.cons_append, List.set_cons_zero, List.set_cons_succ] at hS)
          refine k_region ?_
          refine r_move (by conv => lhs; whnf) rfl rfl ?_
          refine r_field rfl fl_25_2 rfl rfl ?_
          refine r_load rfl (ld_bs hS (i := 0) rfl rfl sc_3) rfl rfl ?_
          refine r_call rfl (c34 _ _ _ _) rfl rfl ?_
          rintro v9 w78 ⟨hv9, hE⟩
          obtain rfl : v9 = .bool true := hv9.trans (congrArg Value.bool (by simp only [Bool.and_eq_true, decide_eq_true_eq]; omega))
          have hS := hS.step hE
          refine r_move (by conv => lhs; whnf) rfl rfl ?_
          refine r_move (by conv => lhs; whnf) rfl rfl ?_
          refine r_field rfl fl_25_2 rfl rfl ?_
          refine r_load rfl (ld_bs hS (i := 0) rfl rfl sc_3) rfl rfl ?_
          refine r_call rfl (c34 _ _ _ _) rfl rfl ?_
          rintro v9 w79 ⟨hv9, hE⟩
          obtain rfl : v9 = .bool true := hv9.trans (congrArg Value.bool (by simp only [Bool.and_eq_true, decide_eq_true_eq]; omega))
          have hS := hS.step hE
          refine r_pick_t rfl (by conv => lhs; whnf) rfl rfl ?_
          refine r_move (by conv => lhs; whnf) rfl rfl ?_
          refine r_move (by conv => lhs; whnf) rfl rfl ?_
          refine r_move (by conv => lhs; whnf) rfl rfl ?_
          refine r_leqv rfl rfl (decide_eq_true (by omega)) rfl rfl ?_
          refine r_pick_t rfl (by conv => lhs; whnf) rfl rfl ?_
          refine r_move (by conv => lhs; whnf) rfl rfl ?_
          refine r_move (by conv => lhs; whnf) rfl rfl ?_
          refine r_move (by conv => lhs; whnf) rfl rfl ?_
          refine r_leqv rfl rfl (decide_eq_true (by omega)) rfl rfl ?_
          refine r_pick_t rfl (by conv => lhs; whnf) rfl rfl ?_
          refine r_assign (by conv => lhs; whnf) rfl rfl ?_
          refine wpl_nil ?_
          refine thn ?_
          refine k_seq ?_
          (try simp only [List.nil_append, List.cons_append, List.set_cons_zero, List.set_cons_succ] at hS)
          refine k_region ?_
          refine r_field rfl fl_35_0 rfl rfl ?_
          refine r_load rfl (ld_bs hS (i := 2) rfl rfl sc_3) rfl rfl ?_
          refine r_field rfl fl_35_0 rfl rfl ?_
          refine r_load rfl (ld_bs hS (i := 3) rfl rfl sc_3) rfl rfl ?_
          refine r_builda (n := 2) (sz := 1) z_61 ar_61 rfl rfl rfl ?_
          refine r_field rfl fl_35_0 rfl rfl ?_
          refine r_load rfl (ld_bs hS (i := 2) rfl rfl sc_3) rfl rfl ?_
          refine r_field rfl fl_35_1 rfl rfl ?_
          refine r_load rfl (ld_bs hS (i := 3) rfl rfl sc_3) rfl rfl ?_
          refine r_builda (n := 2) (sz := 1) z_61 ar_61 rfl rfl rfl ?_
          refine r_field rfl fl_35_1 rfl rfl ?_
          refine r_load rfl (ld_bs hS (i := 2) rfl rfl sc_3) rfl rfl ?_
          refine r_field rfl fl_35_0 rfl rfl ?_
          refine r_load rfl (ld_bs hS (i := 3) rfl rfl sc_3) rfl rfl ?_
          refine r_builda (n := 2) (sz := 1) z_61 ar_61 rfl rfl rfl ?_
          refine r_field rfl fl_35_1 rfl rfl ?_
          refine r_load rfl (ld_bs hS (i := 2) rfl rfl sc_3) rfl rfl ?_
          refine r_field rfl fl_35_1 rfl rfl ?_
          refine r_load rfl (ld_bs hS (i := 3) rfl rfl sc_3) rfl rfl ?_
          refine r_builda (n := 2) (sz := 1) z_61 ar_61 rfl rfl rfl ?_
          refine r_buildSlice hS us_67 sz_61 z_61 rfl rfl rfl rfl rfl ?_
          intro b167 w86 hS hE hB167
          refine r_assign (by conv => lhs; whnf) rfl rfl ?_
          refine wpl_nil ?_
          refine thn ?_
          refine k_seq ?_
          refine k_seq ?_
          (try simp only [List.nil_append, List.cons_append, List.set_cons_zero, List.set_cons_succ] at hS)
          refine k_region ?_
          refine r_assign (by conv => lhs; whnf) rfl rfl ?_
          refine wpl_nil ?_
          refine thn ?_
          refine k_block ?_
          refine k_loop (ι := Nat) [17, 19, 20, 21, 168, 169, 170, 171, 172, 173, 174, 175, 176, 177, 178, 179, 180, 181, 182, 183, 184, 185, 186, 187, 188, 189, 190, 191, 192, 193, 194, 195, 196, 197, 198, 199, 200, 201, 202, 203, 204, 205, 206, 207] (fun c => [(17, .bool true), (19, .int .i64 (c : Int))]) (fun c w' => c ≤ 4 ∧ St (bs w) w' [box b2 25 [.slice A1 n1 c1, .slice A2 n2 c2, .int .i64 b.dark, .int .i64 b.near, .int .i64 b.mat], box b3 58 [.int .i64 m0, .int .i64 m1, .int .i64 m2], box c77_18 35 [.int .i64 (b.hanks.getD h.toNat Hank0).s.lo, .int .i64 (b.hanks.getD h.toNat Hank0).s.hi], box c77_19 35 [.int .i64 (b.hanks.getD k.toNat Hank0).s.lo, .int .i64 (b.hanks.getD k.toNat Hank0).s.hi], box b167 61 ((endsL (b.hanks.getD h.toNat Hank0).s (b.hanks.getD k.toNat Hank0).s).map iv)]) (fun c => 4 - c) 0 ⟨rfl, rfl, trivial⟩ ⟨Nat.zero_le _, hS⟩ ?_
          rintro c j w2 ⟨hc0, hS⟩
          refine k_seq ?_
          refine k_seq ?_
          (try simp only [List.nil_append, List.cons_append, List.set_cons_zero, List.set_cons_succ] at hS)
          refine k_region ?_
          refine r_move (by conv => lhs; whnf) rfl rfl ?_
          refine r_lss rfl rfl rfl rfl ?_
          refine wpl_nil ?_
          refine thn ?_
          refine k_cond rfl (fun hc88 => ?_) (fun hc88 => ?_)
          · -- t
            have hc880 := hc88
            (try simp only [decide_eq_true_eq, decide_eq_false_iff_not, Bool.and_eq_true, Bool.and_eq_false_iff, Bool.not_eq_true', Bool.not_eq_false', Int.not_lt, Int.not_le] at hc88)
            have hc4 : c < 4 := by omega
            have hends := ends_bd (s := (b.hanks.getD h.toNat Hank0).s) (t := (b.hanks.getD k.toNat Hank0).s) (by omega) (by omega) hc4
            obtain ⟨he0, he1⟩ := hends
            generalize he0d : (endsL (b.hanks.getD h.toNat Hank0).s (b.hanks.getD k.toNat Hank0).s).getD ((c : Int) * 2 + 0).toNat 0 = e0 at he0
            generalize he1d : (endsL (b.hanks.getD h.toNat Hank0).s (b.hanks.getD k.toNat Hank0).s).getD ((c : Int) * 2 + 1).toNat 0 = e1 at he1
            refine k_skip ?_
            refine thn ?_
            refine k_seq ?_
            refine k_block ?_
            refine k_seq ?_
            (try simp only [List.nil_append, List.cons_append, List.set_cons_zero, List.set_cons_succ] at hS)
            have hSb := hS
            apply k_draw (m := 15) (ss := [.val _, .val _, .val _, .val _, .val _, .val _, .val _, .val _, .val _, .val _, .val _, .val _, .val _, .val _, .val _]) mixed rfl (by kernel_rfl) (by kernel_rfl) rfl rfl rfl
            · refine ⟨?_, ?_, ?_, ?_, ?_, ?_, ?_, ?_, ?_, ?_, ?_, ?_, ?_, ?_, ?_, trivial⟩
              · -- op 0
                intro jnk vals lo hi w89 hE0 hd
                have hS := hS.step hE0
                refine r_move (by conv => lhs; whnf) rfl rfl ?_
                refine wpl_end ?_
                exact ⟨rfl, Ext.refl _ _, rfl⟩
              · -- op 1
                intro jnk vals lo hi w90 hE0 hd
                have hS := hS.step hE0
                refine r_move (by conv => lhs; whnf) rfl rfl ?_
                refine wpl_end ?_
                exact ⟨rfl, Ext.refl _ _, rfl⟩
              · -- op 2
                intro jnk vals lo hi w91 hE0 hd
                have hS := hS.step hE0
                refine r_index rfl rfl sl_67 (by omega) rfl rfl ?_
                refine wpl_end ?_
                exact ⟨rfl, Ext.refl _ _, rfl⟩
              · -- op 3
                intro jnk vals lo hi w93 hE0 hd
                have hS := hS.step hE0
                refine r_indexa rfl rfl ar_61 (by omega) rfl rfl ?_
                refine wpl_end ?_
                exact ⟨rfl, Ext.refl _ _, rfl⟩
              · -- op 4
                intro jnk vals lo hi w94 hE0 hd
                have hS := hS.step hE0
                refine r_load rfl (ld_pair (u := endsL (b.hanks.getD h.toNat Hank0).s (b.hanks.getD k.toNat Hank0).s) (c := (c : Int)) (j := 0) (hS.get (i := 4) rfl) sc_3 (by simp only [List.length_cons, List.length_nil]; omega)) rfl rfl ?_
                refine wpl_end ?_
                exact ⟨rfl, Ext.refl _ _, rfl⟩
              · -- op 5
                intro jnk vals lo hi w96 hE0 hd
                have hS := hS.step hE0
                refine r_move (by conv => lhs; whnf) rfl rfl ?_
                refine wpl_end ?_
                exact ⟨rfl, Ext.refl _ _, rfl⟩
              · -- op 6
                intro jnk vals lo hi w97 hE0 hd
                have hS := hS.step hE0
                refine r_add rfl rfl rfl rfl (by omega) ?_
                refine wpl_end ?_
                exact ⟨rfl, Ext.refl _ _, rfl⟩
              · -- op 7
                intro jnk vals lo hi w98 hE0 hd
                have hS := hS.step hE0
                refine r_move (by conv => lhs; whnf) rfl rfl ?_
                refine wpl_end ?_
                exact ⟨rfl, Ext.refl _ _, rfl⟩
              · -- op 8
                intro jnk vals lo hi w99 hE0 hd
                have hS := hS.step hE0
                refine r_move (by conv => lhs; whnf) rfl rfl ?_
                refine wpl_end ?_
                exact ⟨rfl, Ext.refl _ _, rfl⟩
              · -- op 9
                intro jnk vals lo hi w100 hE0 hd
                have hS := hS.step hE0
                refine r_index rfl rfl sl_67 (by omega) rfl rfl ?_
                refine wpl_end ?_
                exact ⟨rfl, Ext.refl _ _, rfl⟩
              · -- op 10
                intro jnk vals lo hi w102 hE0 hd
                have hS := hS.step hE0
                refine r_indexa rfl rfl ar_61 (by omega) rfl rfl ?_
                refine wpl_end ?_
                exact ⟨rfl, Ext.refl _ _, rfl⟩
              · -- op 11
                intro jnk vals lo hi w103 hE0 hd
                have hS := hS.step hE0
                refine r_load rfl (ld_pair (u := endsL (b.hanks.getD h.toNat Hank0).s (b.hanks.getD k.toNat Hank0).s) (c := (c : Int)) (j := 1) (hS.get (i := 4) rfl) sc_3 (by simp only [List.length_cons, List.length_nil]; omega)) rfl rfl ?_
                refine wpl_end ?_
                exact ⟨rfl, Ext.refl _ _, rfl⟩
              · -- op 12
                intro jnk vals lo hi w105 hE0 hd
                have hS := hS.step hE0
                refine r_move (by conv => lhs; whnf) rfl rfl ?_
                refine wpl_end ?_
                exact ⟨rfl, Ext.refl _ _, rfl⟩
              · -- op 13
                intro jnk vals lo hi w106 hE0 hd
                have hS := hS.step hE0
                refine r_add rfl rfl rfl rfl (by omega) ?_
                refine wpl_end ?_
                exact ⟨rfl, Ext.refl _ _, rfl⟩
              · -- op 14
                intro jnk vals lo hi w107 hE0 hd
                have hS := hS.step hE0
                refine r_assign (by conv => lhs; whnf) rfl rfl ?_
                refine wpl_end ?_
                exact ⟨rfl, Ext.refl _ _, rfl⟩
            · intro φ hφ v lo hi S w1 w2 hEa hEb hSb2
              simp at hφ
            intro jnk vals lo hi w108 hE0 hsat hdj hbd
            have hS := hS.step hE0
            refine r_assign (by conv => lhs; whnf) rfl rfl ?_
            refine wpl_nil ?_
            refine thn ?_
            (try simp only [List.nil_append, List.cons_append, List.set_cons_zero, List.set_cons_succ] at hS)
            refine k_region ?_
            refine r_move (by conv => lhs; whnf) rfl rfl ?_
            refine r_move (by conv => lhs; whnf) rfl rfl ?_
            refine r_move (by conv => lhs; whnf) rfl rfl ?_
            refine r_move (by conv => lhs; whnf) rfl rfl ?_
            refine r_field rfl fl_25_3 rfl rfl ?_
            refine r_load rfl (ld_bs hS (i := 0) rfl rfl sc_3) rfl rfl ?_
            refine r_call rfl (c38 _ _ _ _ (by omega) (by omega)) rfl rfl ?_
            rintro v9 w109 ⟨hv9, hE⟩
            obtain rfl : v9 = .bool true := hv9.trans (congrArg Value.bool (by simp only [Bool.and_eq_true, decide_eq_true_eq]; omega))
            have hS := hS.step hE
            refine r_pick_t rfl (by conv => lhs; whnf) rfl rfl ?_
            refine r_move (by conv => lhs; whnf) rfl rfl ?_
            refine r_move (by conv => lhs; whnf) rfl rfl ?_
            refine r_move (by conv => lhs; whnf) rfl rfl ?_
            refine r_field rfl fl_25_3 rfl rfl ?_
            refine r_load rfl (ld_bs hS (i := 0) rfl rfl sc_3) rfl rfl ?_
            refine r_call rfl (c38 _ _ _ _ (by omega) (by omega)) rfl rfl ?_
            rintro v9 w110 ⟨hv9, hE⟩
            obtain rfl : v9 = .bool true := hv9.trans (congrArg Value.bool (by simp only [Bool.and_eq_true, decide_eq_true_eq]; omega))
            have hS := hS.step hE
            refine r_pick_t rfl (by conv => lhs; whnf) rfl rfl ?_
            refine r_move (by conv => lhs; whnf) rfl rfl ?_
            refine r_move (by conv => lhs; whnf) rfl rfl ?_
            refine r_move (by conv => lhs; whnf) rfl rfl ?_
            refine r_field rfl fl_25_4 rfl rfl ?_
            refine r_load rfl (ld_bs hS (i := 0) rfl rfl sc_3) rfl rfl ?_
            refine r_call rfl (c38 _ _ _ _ (by omega) (by omega)) rfl rfl ?_
            rintro v9 w111 ⟨hv9, hE⟩
            obtain rfl : v9 = .bool true := hv9.trans (congrArg Value.bool (by simp only [Bool.and_eq_true, decide_eq_true_eq]; omega))
            have hS := hS.step hE
            refine r_pick_t rfl (by conv => lhs; whnf) rfl rfl ?_
            refine r_assign (by conv => lhs; whnf) rfl rfl ?_
            refine wpl_nil ?_
            refine blk_n ?_
            refine thn ?_
            (try simp only [List.nil_append, List.cons_append, List.set_cons_zero, List.set_cons_succ] at hS)
            refine k_region ?_
            refine r_move (by conv => lhs; whnf) rfl rfl ?_
            refine r_add rfl rfl rfl rfl (by omega) ?_
            refine r_assign (by conv => lhs; whnf) rfl rfl ?_
            refine wpl_nil ?_
            refine thn ?_
            refine ⟨c + 1, ⟨rfl, rfl, trivial⟩, ?_, ?_, ?_, rfl⟩
            · exact ⟨by omega, hS⟩
            · omega
            · (repeat (first | exact Agree.refl _ _ | exact agree_hv rfl (Agree.refl _ _) | refine agree_upd rfl ?_ | refine agree_mkF rfl ?_ | refine agree_hv rfl ?_))
          · -- f
            have hc880 := hc88
            (try simp only [decide_eq_true_eq, decide_eq_false_iff_not, Bool.and_eq_true, Bool.and_eq_false_iff, Bool.not_eq_true', Bool.not_eq_false', Int.not_lt, Int.not_le] at hc88)
            refine k_exit ?_
            refine thn_e ?_
            refine thn_e ?_
            refine blk_e ?_
            refine thn ?_
            refine k_seq ?_
            (try simp only [List.nil_append, List.cons_append, List.set_cons_zero, List.set_cons_succ] at hS)
            refine k_region ?_
            refine r_move (by conv => lhs; whnf) rfl rfl ?_
            refine r_move (by conv => lhs; whnf) rfl rfl ?_
            refine r_call rfl (c15 _ (hP.ext hS.ext)) rfl rfl ?_
            rintro _ w112 ⟨rfl, hE⟩
            have hS := hS.step hE
            refine r_pick_t rfl (by conv => lhs; whnf) rfl rfl ?_
            refine r_assign (by conv => lhs; whnf) rfl rfl ?_
            refine wpl_nil ?_
            refine thn ?_
            refine ret1 (fun _ _ _ => rfl) (by conv => lhs; whnf) ?_
            exact ⟨rfl, hS.ext⟩
end Go.Proofs.YtofpabocpcfbfaaDoor
