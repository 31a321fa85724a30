/- Walks: T25. -/
import Derived.Test.YtofpabocpcfbfaaDoorMF
import Derived.Test.YtofpabocpcfbfaaDoorCT23
import Derived.Test.YtofpabocpcfbfaaDoorMD2
set_option linter.unusedSimpArgs false
set_option linter.unusedVariables false
namespace Go.Proofs.YtofpabocpcfbfaaDoor
open Go Go.Proofs K

set_option maxHeartbeats 1000000 in
set_option maxRecDepth 100000 in
theorem c5 (w : World) (b : HBook) (A1 A2 : Option Addr) (n1 c1 n2 c2 : Nat) (h1 : RdRow Hank.enc 4 w A1 n1 b.hanks) (h2 : RdRow Horse.enc 3 w A2 n2 b.horses) (hP : Parts w) (n : Int) : Cv Tryd.prog 5 #[.agg #[.slice A1 n1 c1, .slice A2 n2 c2, .int .i64 b.dark, .int .i64 b.near, .int .i64 b.mat], .int .i64 n] w (fun v w' => v = .bool true ∧ Ext no w w') := by
  refine cv_intro Tryd.func5 rfl rfl Tryd.ntmps5 rfl (by kernel_rfl) ?_
  have hS := St.nil w
  have hl1 := h1.1
  have hl2 := h2.1
  have hb1 := h1.2.1
  have hb2 := h2.2.1
  refine k_seq ?_
  refine k_region ?_
  refine r_boxa hS rfl rfl rfl ?_
  intro b2 w1 hS hE hB2
  refine r_assign (by conv => lhs; whnf) rfl rfl ?_
  refine wpl_nil ?_
  refine thn ?_
  refine k_seq ?_
  refine k_region ?_
  cases hv : b.valid with
  | false =>
    have hck : b.chk = 60 := by unfold HBook.chk; rw [hv]; rfl
    have hlj : b.lacksV = [] := by unfold HBook.lacksV; rw [hv]; rfl
    refine r_load rfl (ld_ba hS (i := 0) rfl rfl rfl ag_25) rfl rfl ?_
    refine r_call rfl (c27 _ b A1 A2 n1 c1 n2 c2 (h1.ext hS.ext) (h2.ext hS.ext) (hP.ext hS.ext)) rfl rfl ?_
    rintro _ w2 ⟨aq, cq, hv2, hE, hrd, hnw⟩
    simp only [hck, hlj, List.length_nil] at hv2 hrd hnw
    subst hv2
    have hS := hS.add hE (x := lst aq 0 []) hrd hnw
    refine r_move (by conv => lhs; whnf) rfl rfl ?_
    refine r_extract rfl rfl rfl rfl ?_
    refine r_extract rfl rfl rfl rfl ?_
    refine r_assign (by conv => lhs; whnf) rfl rfl ?_
    refine r_assign (by conv => lhs; whnf) rfl rfl ?_
    refine wpl_nil ?_
    refine thn ?_
    refine k_seq ?_
    refine k_seq ?_
    (try simp only [List.nil_append, List.cons_append, List.set_cons_zero, List.set_cons_succ] at hS)
    refine k_region ?_
    refine r_load rfl (ld_ba hS (i := 0) rfl rfl rfl ag_25) rfl rfl ?_
    refine r_call rfl (c14 _ b A1 A2 n1 c1 n2 c2 (h1.ext hS.ext) (h2.ext hS.ext)) rfl rfl ?_
    rintro _ w3 ⟨hv3, hE⟩
    simp only [hv] at hv3
    subst hv3
    have hS := hS.step hE
    refine r_not rfl rfl rfl ?_
    refine wpl_nil ?_
    refine thn ?_
    refine k_cond_t rfl ?_
    refine k_seq ?_
    (try simp only [List.nil_append, List.cons_append, List.set_cons_zero, List.set_cons_succ] at hS)
    refine k_region ?_
    refine r_move (by conv => lhs; whnf) rfl rfl ?_
    refine r_eql rfl rfl rfl rfl ?_
    refine r_move (by conv => lhs; whnf) rfl rfl ?_
    refine r_move (by conv => lhs; whnf) rfl rfl ?_
    refine r_len rfl sl_26 rfl rfl ?_
    refine r_eql rfl rfl rfl rfl ?_
    refine r_pick_t rfl (by conv => lhs; whnf) rfl rfl ?_
    refine r_move (by conv => lhs; whnf) rfl rfl ?_
    refine r_call rfl (c15 _ (hP.ext hS.ext)) rfl rfl ?_
    rintro _ w4 ⟨rfl, hE⟩
    have hS := hS.step hE
    refine r_pick_t rfl (by conv => lhs; whnf) rfl rfl ?_
    refine r_assign (by conv => lhs; whnf) rfl rfl ?_
    refine wpl_nil ?_
    refine thn ?_
    refine ret1 (fun _ _ _ => rfl) (by conv => lhs; whnf) ?_
    exact ⟨rfl, hS.ext⟩
  | true =>
    have hg := (GoodB.of_valid hv).1
    have hg1 := hg.l1
    have hg2 := hg.l2
    have hck : b.chk = 0 := by unfold HBook.chk; rw [hv]; rfl
    obtain ⟨⟨j, hj, hsj, hlj⟩, hmin⟩ := b.lacks_law hv
    rw [hl2] at hj hlj hmin
    have h2p : 2 ^ n2 ≤ 8 := Nat.le_trans (Nat.pow_le_pow_right (by decide) (by omega : n2 ≤ 3)) (by decide)
    have h2q : 1 ≤ 2 ^ n2 := Nat.pow_pos (by decide)
    have hrest : ∀ i, (b.rest i) = b.horsesOf (restTo b.horses i n2) := fun i => by rw [← hl2]
    rw [hrest] at hsj
    have hvr := b.rest_valid hv
    simp only [hrest] at hvr
    have hbe1 : (b.horsesOf (restTo b.horses j n2)).bestE = 0 := by rw [HBook.best_err (hvr j), hsj]; rfl
    have hoj := outTo_len (set := j) (k := n2)
    have hrj := restTo_len (hs := b.horses) (set := j) (k := n2)
    refine r_load rfl (ld_ba hS (i := 0) rfl rfl rfl ag_25) rfl rfl ?_
    refine r_call rfl (c27 _ b A1 A2 n1 c1 n2 c2 (h1.ext hS.ext) (h2.ext hS.ext) (hP.ext hS.ext)) rfl rfl ?_
    rintro _ w5 ⟨aq, cq, hv5, hE, hrd, hnw⟩
    simp only [hck, hlj] at hv5 hrd hnw
    subst hv5
    have hS := hS.add hE (x := lst aq (outTo j n2).length (outTo j n2)) hrd hnw
    refine r_move (by conv => lhs; whnf) rfl rfl ?_
    refine r_extract rfl rfl rfl rfl ?_
    refine r_extract rfl rfl rfl rfl ?_
    refine r_assign (by conv => lhs; whnf) rfl rfl ?_
    refine r_assign (by conv => lhs; whnf) rfl rfl ?_
    refine wpl_nil ?_
    refine thn ?_
    refine k_seq ?_
    refine k_seq ?_
    (try simp only [List.nil_append, List.cons_append, List.set_cons_zero, List.set_cons_succ] at hS)
    refine k_region ?_
    refine r_load rfl (ld_ba hS (i := 0) rfl rfl rfl ag_25) rfl rfl ?_
    refine r_call rfl (c14 _ b A1 A2 n1 c1 n2 c2 (h1.ext hS.ext) (h2.ext hS.ext)) rfl rfl ?_
    rintro _ w6 ⟨hv6, hE⟩
    simp only [hv] at hv6
    subst hv6
    have hS := hS.step hE
    refine r_not rfl rfl rfl ?_
    refine wpl_nil ?_
    refine thn ?_
    refine k_cond_f rfl ?_
    refine k_skip ?_
    refine thn ?_
    refine k_seq ?_
    refine k_seq ?_
    (try simp only [List.nil_append, List.cons_append, List.set_cons_zero, List.set_cons_succ] at hS)
    refine k_region ?_
    refine r_move (by conv => lhs; whnf) rfl rfl ?_
    refine r_neq rfl rfl rfl rfl ?_
    refine r_move (by conv => lhs; whnf) rfl rfl ?_
    refine r_move (by conv => lhs; whnf) rfl rfl ?_
    refine r_field rfl fl_25_1 rfl rfl ?_
    refine r_load rfl (ld_bs hS (i := 0) rfl rfl sc_23) rfl rfl ?_
    refine r_len rfl sl_23 rfl rfl ?_
    refine r_call rfl (c29 _ (outTo j n2) aq _ cq (hS.get (i := 1) rfl) (n2 : Int) outTo_grows) rfl rfl ?_
    rintro _ w7 ⟨rfl, hE⟩
    have hS := hS.step hE
    refine r_not rfl rfl rfl ?_
    refine r_pick_f rfl (by conv => lhs; whnf) rfl rfl ?_
    refine wpl_nil ?_
    refine thn ?_
    refine k_cond_f rfl ?_
    refine k_skip ?_
    refine thn ?_
    refine k_seq ?_
    refine k_seq ?_
    (try simp only [List.nil_append, List.cons_append, List.set_cons_zero, List.set_cons_succ] at hS)
    refine k_region ?_
    refine r_load rfl (ld_ba hS (i := 0) rfl rfl rfl ag_25) rfl rfl ?_
    refine r_move (by conv => lhs; whnf) rfl rfl ?_
    refine r_call rfl (c30 _ b A1 A2 n1 c1 n2 c2 (h1.ext hS.ext) (h2.ext hS.ext) j aq _ cq (hS.get (i := 1) rfl) (by omega)) rfl rfl ?_
    rintro _ w8 ⟨aH, cH, rfl, hE, hrow, hnw⟩
    have hS := hS.add hE (x := row 65 3 aH (restTo b.horses j n2).length cH ((restTo b.horses j n2).flatMap Horse.enc)) hrow hnw
    refine r_call rfl (c26 _ (b.horsesOf (restTo b.horses j n2)) A1 aH n1 c1 (restTo b.horses j n2).length cH (h1.ext hS.ext) (row_rdrow senc_len (hS.get (i := 2) rfl) rfl (by show (restTo b.horses j n2).length ≤ 1000; omega)) (hP.ext hS.ext)) rfl rfl ?_
    rintro _ w9 ⟨a7, c7, hv9, hE, _, _⟩
    simp only [hbe1] at hv9
    subst hv9
    have hS := hS.step hE
    refine r_move (by conv => lhs; whnf) rfl rfl ?_
    refine r_extract rfl rfl rfl rfl ?_
    refine r_extract rfl rfl rfl rfl ?_
    refine r_assign (by conv => lhs; whnf) rfl rfl ?_
    refine r_assign (by conv => lhs; whnf) rfl rfl ?_
    refine wpl_nil ?_
    refine thn ?_
    refine k_seq ?_
    (try simp only [List.nil_append, List.cons_append, List.set_cons_zero, List.set_cons_succ] at hS)
    refine k_region ?_
    refine r_move (by conv => lhs; whnf) rfl rfl ?_
    refine r_neq rfl rfl rfl rfl ?_
    refine wpl_nil ?_
    refine thn ?_
    refine k_cond_f rfl ?_
    refine k_skip ?_
    refine thn ?_
    refine k_seq ?_
    obtain ⟨k, hk, hkd⟩ : ∃ k : Nat, k < 2 ^ n2 ∧ roundI n ((2 ^ n2 : Nat) : Int) = (k : Int) := by
      have := roundI_bd (n := n) (m := ((2 ^ n2 : Nat) : Int)) (by omega)
      exact ⟨(roundI n ((2 ^ n2 : Nat) : Int)).toNat, by omega, by omega⟩
    have hok := outTo_len (set := k) (k := n2)
    have hrk := restTo_len (hs := b.horses) (set := k) (k := n2)
    (try simp only [List.nil_append, List.cons_append, List.set_cons_zero, List.set_cons_succ] at hS)
    have hSb := hS
    apply k_draw (m := 9) (ss := [.val _, .val _, .val _, .val _, .val _, .val _, .val _, .val _, .val _]) mixed rfl (by kernel_rfl) (by kernel_rfl) rfl rfl rfl
    · refine ⟨?_, ?_, ?_, ?_, ?_, ?_, ?_, ?_, ?_, trivial⟩
      · -- op 0
        intro jnk vals lo hi w10 hE0 hd
        have hS := hS.step hE0
        refine r_move (by conv => lhs; whnf) rfl rfl ?_
        refine wpl_end ?_
        exact ⟨rfl, Ext.refl _ _, rfl⟩
      · -- op 1
        intro jnk vals lo hi w11 hE0 hd
        have hS := hS.step hE0
        refine r_field rfl fl_25_1 rfl rfl ?_
        refine wpl_end ?_
        exact ⟨rfl, Ext.refl _ _, rfl⟩
      · -- op 2
        intro jnk vals lo hi w12 hE0 hd
        have hS := hS.step hE0
        refine r_load rfl (ld_bs hS (i := 0) rfl rfl sc_23) rfl rfl ?_
        refine wpl_end ?_
        exact ⟨rfl, Ext.refl _ _, rfl⟩
      · -- op 3
        intro jnk vals lo hi w13 hE0 hd
        have hS := hS.step hE0
        refine r_len rfl sl_23 rfl rfl ?_
        refine wpl_end ?_
        exact ⟨rfl, Ext.refl _ _, rfl⟩
      · -- op 4
        intro jnk vals lo hi w14 hE0 hd
        have hS := hS.step hE0
        refine r_shl1 rfl rfl (by omega) rfl rfl ?_
        refine wpl_end ?_
        exact ⟨rfl, Ext.refl _ _, rfl⟩
      · -- op 5
        intro jnk vals lo hi w16 hE0 hd
        have hS := hS.step hE0
        refine r_call rfl (c17 _ n _ (by omega)) rfl rfl ?_
        rintro _ w17 ⟨rfl, hE⟩
        have hS := hS.step hE
        rw [hkd]
        refine wpl_end ?_
        exact ⟨rfl, hE.of_no, rfl⟩
      · -- op 6
        intro jnk vals lo hi w18 hE0 hd
        have hS := hS.step hE0
        refine r_field rfl fl_25_1 rfl rfl ?_
        refine wpl_end ?_
        exact ⟨rfl, Ext.refl _ _, rfl⟩
      · -- op 7
        intro jnk vals lo hi w19 hE0 hd
        have hS := hS.step hE0
        refine r_load rfl (ld_bs hS (i := 0) rfl rfl sc_23) rfl rfl ?_
        refine wpl_end ?_
        exact ⟨rfl, Ext.refl _ _, rfl⟩
      · -- op 8
        intro jnk vals lo hi w20 hE0 hd
        have hS := hS.step hE0
        refine r_len rfl sl_23 rfl rfl ?_
        refine wpl_end ?_
        exact ⟨rfl, Ext.refl _ _, rfl⟩
    · intro φ hφ v lo hi S w1 w2 hEa hEb hSb2
      simp at hφ
    intro jnk vals lo hi w21 hE0 hsat hdj hbd
    have hS := hS.step hE0
    refine r_call rfl (c31 _ k n2 (by omega) (by omega)) rfl rfl ?_
    rintro _ w22 ⟨ao, co, rfl, hE, hrow, hrf⟩
    have hS := hS.add hE (x := row 3 1 ao (outTo k n2).length co ((outTo k n2).map iv)) hrow hrf
    refine r_assign (by conv => lhs; whnf) rfl rfl ?_
    refine wpl_nil ?_
    refine thn ?_
    refine k_seq ?_
    refine k_seq ?_
    (try simp only [List.nil_append, List.cons_append, List.set_cons_zero, List.set_cons_succ] at hS)
    refine k_region ?_
    refine r_move (by conv => lhs; whnf) rfl rfl ?_
    refine r_move (by conv => lhs; whnf) rfl rfl ?_
    refine r_call rfl (c32 _ (outTo k n2) (outTo j n2) _ _ _ _ _ _ (row_rd (hS.get (i := 3) rfl) (by omega)) (hS.get (i := 1) rfl)) rfl rfl ?_
    rintro _ w23 ⟨rfl, hE⟩
    have hS := hS.step hE
    refine r_not rfl rfl rfl ?_
    refine wpl_nil ?_
    refine thn ?_
    refine k_cond rfl (fun hc24 => ?_) (fun hc24 => ?_)
    · -- t
      skip
      refine k_seq ?_
      (try simp only [List.nil_append, List.cons_append, List.set_cons_zero, List.set_cons_succ] at hS)
      refine k_region ?_
      refine r_call rfl (c15 _ (hP.ext hS.ext)) rfl rfl ?_
      rintro _ w25 ⟨rfl, hE⟩
      have hS := hS.step hE
      refine r_assign (by conv => lhs; whnf) rfl rfl ?_
      refine wpl_nil ?_
      refine thn ?_
      refine ret1 (fun _ _ _ => rfl) (by conv => lhs; whnf) ?_
      exact ⟨rfl, hS.ext⟩
    · -- f
      skip
      have hsh : shorterL (outTo k n2) (outTo j n2) = true := by have hc241 : (!shorterL (outTo k n2) (outTo j n2)) = false := hc24; simpa using hc241
      have hsk : (b.horsesOf (restTo b.horses k n2)).served = false := by
        cases h : (b.horsesOf (restTo b.horses k n2)).served with
        | false => rfl
        | true =>
          have h9 := hmin k hk (by rw [hrest]; exact h)
          rw [hlj, hsh] at h9
          cases h9
      have hbe2 : (b.horsesOf (restTo b.horses k n2)).bestE = 4 := by rw [HBook.best_err (hvr k), hsk]; rfl
      refine k_skip ?_
      refine thn ?_
      refine k_seq ?_
      (try simp only [List.nil_append, List.cons_append, List.set_cons_zero, List.set_cons_succ] at hS)
      refine k_region ?_
      refine r_load rfl (ld_ba hS (i := 0) rfl rfl rfl ag_25) rfl rfl ?_
      refine r_move (by conv => lhs; whnf) rfl rfl ?_
      refine r_call rfl (c30 _ b A1 A2 n1 c1 n2 c2 (h1.ext hS.ext) (h2.ext hS.ext) k ao _ co (row_rd (hS.get (i := 3) rfl) (by omega)) (by omega)) rfl rfl ?_
      rintro _ w26 ⟨aK, cK, rfl, hE, hrow, hnw⟩
      have hS := hS.add hE (x := row 65 3 aK (restTo b.horses k n2).length cK ((restTo b.horses k n2).flatMap Horse.enc)) hrow hnw
      refine r_call rfl (c26 _ (b.horsesOf (restTo b.horses k n2)) A1 aK n1 c1 (restTo b.horses k n2).length cK (h1.ext hS.ext) (row_rdrow senc_len (hS.get (i := 4) rfl) rfl (by show (restTo b.horses k n2).length ≤ 1000; omega)) (hP.ext hS.ext)) rfl rfl ?_
      rintro _ w27 ⟨a8, c8, hv27, hE, _, _⟩
      simp only [hbe2] at hv27
      subst hv27
      have hS := hS.step hE
      refine r_move (by conv => lhs; whnf) rfl rfl ?_
      refine r_extract rfl rfl rfl rfl ?_
      refine r_extract rfl rfl rfl rfl ?_
      refine r_assign (by conv => lhs; whnf) rfl rfl ?_
      refine r_assign (by conv => lhs; whnf) rfl rfl ?_
      refine wpl_nil ?_
      refine thn ?_
      refine k_seq ?_
      (try simp only [List.nil_append, List.cons_append, List.set_cons_zero, List.set_cons_succ] at hS)
      refine k_region ?_
      refine r_move (by conv => lhs; whnf) rfl rfl ?_
      refine r_eql rfl rfl rfl rfl ?_
      refine r_move (by conv => lhs; whnf) rfl rfl ?_
      refine r_call rfl (c15 _ (hP.ext hS.ext)) rfl rfl ?_
      rintro _ w28 ⟨rfl, hE⟩
      have hS := hS.step hE
      refine r_pick_t rfl (by conv => lhs; whnf) rfl rfl ?_
      refine r_assign (by conv => lhs; whnf) rfl rfl ?_
      refine wpl_nil ?_
      refine thn ?_
      refine ret1 (fun _ _ _ => rfl) (by conv => lhs; whnf) ?_
      exact ⟨rfl, hS.ext⟩
end Go.Proofs.YtofpabocpcfbfaaDoor
