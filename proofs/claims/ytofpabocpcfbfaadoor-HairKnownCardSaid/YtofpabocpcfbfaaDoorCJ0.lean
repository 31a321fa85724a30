/- What a reading gives: arguments opened type by type; an argument reads as it did in a world that has grown; what the table of parts holds. Conditions: none. -/
import Derived.Test.YtofpabocpcfbfaaDoorRows
import Derived.Test.YtofpabocpcfbfaaDoorTie
import Derived.Test.YtofpabocpcfbfaaDoorCards
import Derived.Test.YtofpabocpcfbfaaDoorMD
import Derived.ProofKit
import Derived.SizedLaws
import Derived.LaidMore
import Derived.OpenShut
import Derived.Carry
import Derived.Stop.Joined
import Derived.Deep.Slices
set_option linter.unusedSimpArgs false
set_option linter.unusedVariables false
namespace Go.Proofs.YtofpabocpcfbfaaDoor
namespace K
open Go
section
variable {H : Type} {enc : TypeId × Value → H} {P : Program} {w : World}
/-- What reads as a datum of a type, none of its rows too large, is so. -/
def Opens (enc : TypeId × Value → H) (P : Program) (w : World) (t : TypeId) (R : List Value → Prop) : Prop :=
  ∀ fuel cs x, DataW.trod enc P w 0 (fun _ => true) true fuel t cs = some x → (∀ n ∈ x.1.weights P t, n ≤ reachBytes) → R cs
def RInt (cs : List Value) : Prop := ∃ n : Int, cs = [.int .i64 n] ∧ -9223372036854775808 ≤ n ∧ n ≤ 9223372036854775807
def RBool (cs : List Value) : Prop := ∃ b : Bool, cs = [.bool b]
theorem opens_int {t : TypeId} (ht : P.underlying t = some (.int .i64)) : Opens enc P w t RInt := by
  intro fuel cs x h _
  obtain ⟨n, h1, _, h3⟩ := DataW.trod_int ht h
  refine ⟨n, h1, ?_⟩
  simpa [Lit.wf, IntKind.min, IntKind.max, IntKind.signed, IntKind.bits] using h3
theorem opens_bool {t : TypeId} (ht : P.underlying t = some .bool) : Opens enc P w t RBool := by
  intro fuel cs x h _
  obtain ⟨b, h1, _⟩ := DataW.trod_bool ht h
  exact ⟨b, h1⟩
theorem weights_all {e : TypeId} : ∀ {ds : List (DataW H)} {d : DataW H}, d ∈ ds → ∀ n ∈ d.weights P e, n ∈ DataW.weightsAll P e ds
  | [], _, h, _, _ => by cases h
  | d0 :: r, d, h, n, hn => by
    unfold DataW.weightsAll
    rcases List.mem_cons.1 h with rfl | h
    · exact List.mem_append.2 (.inl hn)
    · exact List.mem_append.2 (.inr (weights_all h n hn))
theorem len_2 {α : Type} {l : List α} (h : l.length = 2) : ∃ a b, l = [a, b] := by
  match l, h with
  | [a, b], _ => exact ⟨a, b, rfl⟩
theorem len_3 {α : Type} {l : List α} (h : l.length = 3) : ∃ a b c, l = [a, b, c] := by
  match l, h with
  | [a, b, c], _ => exact ⟨a, b, c, rfl⟩
theorem len_4 {α : Type} {l : List α} (h : l.length = 4) : ∃ a b c d, l = [a, b, c, d] := by
  match l, h with
  | [a, b, c, d], _ => exact ⟨a, b, c, d, rfl⟩
theorem len_5 {α : Type} {l : List α} (h : l.length = 5) : ∃ a b c d e, l = [a, b, c, d, e] := by
  match l, h with
  | [a, b, c, d, e], _ => exact ⟨a, b, c, d, e, rfl⟩
/-- A struct: what each field's cells are (place, many, what is so). -/
def RStruct (N : Nat) (Rs : List (Nat × Nat × (List Value → Prop))) (cs : List Value) : Prop :=
  cs.length = N ∧ ∀ (i : Nat) (r : Nat × Nat × (List Value → Prop)), Rs[i]? = some r → r.2.2 ((cs.drop r.1).take r.2.1)
theorem opens_struct {t : TypeId} {fs : Array Field} {N : Nat} {Rs : List (Nat × Nat × (List Value → Prop))} (ht : P.underlying t = some (.struct fs)) (hN : P.cellsOf t = N) (hlen0 : Rs.length = fs.size)
    (hR : ∀ (i : Nat) (f : Field), fs[i]? = some f → ∃ R, Rs[i]? = some (f.offset, P.cellsOf f.type, R) ∧ Opens enc P w f.type R) : Opens enc P w t (RStruct N Rs) := by
  intro fuel cs x h hw
  obtain ⟨xs, n, _, rfl, hl, hlen, hf⟩ := DataW.trod_struct ht h
  refine ⟨hl.trans hN, fun i r hr => ?_⟩
  have hil : i < fs.size := by have := (List.getElem?_eq_some_iff.1 hr).1; omega
  have hi : fs[i]? = some fs[i] := Array.getElem?_eq_getElem hil
  obtain ⟨R, hr2, hO⟩ := hR i _ hi
  rw [hr] at hr2
  cases hr2
  have h1 := hf i _ hi
  have h2 : xs[i]? = some xs[i] := List.getElem?_eq_getElem (by omega)
  rw [h2] at h1
  refine hO n _ _ h1 fun m hm => hw m ?_
  simp only [DataW.weights, ht]
  refine DataW.weights_mem_each (j := i) (t := fs[i].type) (d := xs[i].1) ?_ ?_ m hm
  · rw [List.getElem?_map, Array.getElem?_toList, hi]; rfl
  · rw [List.getElem?_map, h2]; rfl
def RArray (P : Program) (t e : TypeId) (n : Nat) (R : List Value → Prop) (cs : List Value) : Prop :=
  cs.length = P.cellsOf t ∧ ∀ i, i < n → R ((cs.drop (i * P.cellsOf e)).take (P.cellsOf e))
theorem opens_array {t e : TypeId} {n : Nat} {R : List Value → Prop} (ht : P.underlying t = some (.array n e)) (hR : Opens enc P w e R) : Opens enc P w t (RArray P t e n R) := by
  intro fuel cs x h hw
  obtain ⟨xs, m, _, rfl, hl, hlen, hf⟩ := DataW.trod_array ht h
  refine ⟨hl, fun i hi => ?_⟩
  have h1 := hf i hi
  have h2 : xs[i]? = some xs[i] := List.getElem?_eq_getElem (by omega)
  rw [h2] at h1
  refine hR _ _ _ h1 fun k hk => hw k ?_
  simp only [DataW.weights, ht]
  exact weights_all (List.mem_map.2 ⟨xs[i], List.getElem_mem _, rfl⟩) k hk
/-- A slice: a row of elements, each of which something is so. -/
def RSlice {α : Type} (en : α → List Value) (sz : Nat) (w : World) (Pr : α → Prop) (cs : List Value) : Prop :=
  ∃ A n c xs, cs = [.slice A n c] ∧ n ≤ c ∧ c ≤ 1125899906842624 ∧ RdRow en sz w A n xs ∧ ∀ x ∈ xs, Pr x
theorem opens_slice {α : Type} [Inhabited α] {en : α → List Value} {sz : Nat} {Pr : α → Prop} {t e : TypeId} (ht : P.underlying t = some (.slice e)) (hc : P.cellsOf e = sz) (hb : 1 ≤ P.bytesOf e) (hR : Opens enc P w e (fun cs => ∃ x, cs = en x ∧ Pr x)) : Opens enc P w t (RSlice en sz w Pr) := by
  intro fuel cs x h hw
  rcases DataW.trod_slice ht h with ⟨rfl, _⟩ | ⟨a, len, cap, elems, rest, m, _, rfl, rfl, _, hl, _, hlen, hel, hsp, _⟩
  · exact ⟨none, 0, 0, [], rfl, Nat.le_refl _, by omega, ⟨rfl, by omega, fun i x hi => by cases hi⟩, fun x hx => by cases hx⟩
  · have hrl := (hsp rfl).1
    have hw1 : (elems.length + rest.length) * P.bytesOf e ≤ reachBytes := hw _ (by simp [DataW.weights, ht])
    have hcap : cap ≤ reachBytes := by
      have h1 : elems.length + rest.length = cap := by omega
      rw [h1] at hw1
      exact Nat.le_trans (Nat.le_mul_of_pos_right _ hb) hw1
    have hrb : reachBytes = 140737488351232 := rfl
    obtain ⟨f, hf⟩ := Go.Deep.choose_lt (n := len) (p := fun i x => Cells w (a.add (i * sz)) (en x) ∧ Pr x) (fun i hi => by
      have h1 := hel i hi
      have h2 : elems[i]? = some elems[i] := List.getElem?_eq_getElem (by omega)
      rw [h2] at h1
      obtain ⟨cs', h3, h4⟩ := Option.bind_eq_some_iff.1 h1
      obtain ⟨x, rfl, hx⟩ := hR _ _ _ h4 (fun k hk => hw k (by
        simp only [DataW.weights, ht]
        refine List.mem_cons_of_mem _ (List.mem_append.2 (.inl (weights_all (List.mem_map.2 ⟨elems[i], List.getElem_mem _, rfl⟩) k hk)))))
      obtain ⟨_, h5, h6⟩ := World.cells?_some h3
      refine ⟨x, fun j v hj => ?_, hx⟩
      have hjl := (List.getElem?_eq_some_iff.1 hj).1
      have h7 := h6 j (by omega)
      rw [hj, hc] at h7
      exact h7)
    refine ⟨some a, len, cap, (List.range len).map f, rfl, hl, by omega, ⟨by simp, by omega, fun i x hi => ?_⟩, fun x hx => ?_⟩
    · have hil : i < len := by simpa using (List.getElem?_eq_some_iff.1 hi).1
      rw [List.getElem?_map, List.getElem?_range hil] at hi
      simp only [Option.map_some, Option.some.injEq] at hi
      subst hi
      exact ⟨a, rfl, (hf i hil).1⟩
    · obtain ⟨i, hi, rfl⟩ := List.mem_map.1 hx
      exact (hf i (List.mem_range.1 hi)).2
theorem Opens.mono {t : TypeId} {R R' : List Value → Prop} (h : Opens enc P w t R) (hr : ∀ cs, R cs → R' cs) : Opens enc P w t R' := fun fuel cs x h1 h2 => hr cs (h fuel cs x h1 h2)
theorem Opens.arg {ts : List TypeId} {ds : List (DataW H)} {j : Nat} {t : TypeId} {R : List Value → Prop} {v : Value} {d : DataW H} {p : List MemPlace} (h : Opens enc P w t R) (hw : (DataW.weightsEach P ts ds).all (· ≤ reachBytes) = true) (ht : ts[j]? = some t) (hd : ds[j]? = some d) (hv : DataW.Trod enc P w 0 (fun _ => true) true t v d p) : R v.cells.toList := by
  obtain ⟨n, hn⟩ := hv
  refine h n _ _ hn fun m hm => ?_
  have := List.all_eq_true.1 hw m (DataW.weights_mem_each ht hd m hm)
  simpa using this
end
end K
open K
/-! ### This program's types -/
theorem own : ownKnob Tryd.prog.godebug = none := by kernel_rfl
theorem laidOut : laidOutB Tryd.prog = true := by kernel_rfl
section
variable {H : Type} {enc : TypeId × Value → H} {w : World}
theorem opens3 : Opens enc Tryd.prog w 3 RInt := opens_int Tryd.underlying3
theorem opens26 : Opens enc Tryd.prog w 26 (RSlice IE 1 w (fun _ => True)) :=
  opens_slice Tryd.underlying26 (by kernel_rfl) (of_decide_eq_true (by kernel_rfl)) (opens3.mono fun cs ⟨n, h, _⟩ => ⟨n, h, trivial⟩)
theorem opens35 : Opens enc Tryd.prog w 35 (fun cs => ∃ s : Sp, cs = s.enc) :=
  (opens_struct (N := 2) (Rs := [(0, 1, RInt), (1, 1, RInt)]) Tryd.underlying35 (by kernel_rfl) rfl (fun i f hi => by
    match i, hi with
    | 0, hi => cases hi; exact ⟨_, by show _ = some (_, Tryd.prog.cellsOf 3, _); rw [show Tryd.prog.cellsOf 3 = 1 by kernel_rfl]; rfl, opens3⟩
    | 1, hi => cases hi; exact ⟨_, by show _ = some (_, Tryd.prog.cellsOf 3, _); rw [show Tryd.prog.cellsOf 3 = 1 by kernel_rfl]; rfl, opens3⟩
    | i + 2, hi => cases hi)).mono fun cs ⟨hl, h⟩ => by
      have hl2 : cs.length = 2 := hl
      obtain ⟨c0, c1, rfl⟩ := len_2 hl2
      obtain ⟨n0, h0, _⟩ := h 0 _ rfl
      obtain ⟨n1, h1, _⟩ := h 1 _ rfl
      have e0 : [c0] = [.int .i64 n0] := h0
      have e1 : [c1] = [.int .i64 n1] := h1
      cases e0; cases e1
      exact ⟨⟨n0, n1⟩, rfl⟩
theorem opens42 : Opens enc Tryd.prog w 42 (fun cs => ∃ x : Hank, cs = x.enc ∧ True) :=
  (opens_struct (N := 4) (Rs := [(0, 2, (fun cs => ∃ s : Sp, cs = s.enc)), (2, 2, (fun cs => ∃ s : Sp, cs = s.enc))]) Tryd.underlying42 (by kernel_rfl) rfl (fun i f hi => by
    match i, hi with
    | 0, hi => cases hi; exact ⟨_, by show _ = some (_, Tryd.prog.cellsOf 35, _); rw [show Tryd.prog.cellsOf 35 = 2 by kernel_rfl]; rfl, opens35⟩
    | 1, hi => cases hi; exact ⟨_, by show _ = some (_, Tryd.prog.cellsOf 35, _); rw [show Tryd.prog.cellsOf 35 = 2 by kernel_rfl]; rfl, opens35⟩
    | i + 2, hi => cases hi)).mono fun cs ⟨hl, h⟩ => by
      have hl2 : cs.length = 4 := hl
      obtain ⟨c0, c1, c2, c3, rfl⟩ := len_4 hl2
      obtain ⟨s0, h0⟩ := h 0 _ rfl
      obtain ⟨s1, h1⟩ := h 1 _ rfl
      have e0 : [c0, c1] = s0.enc := h0
      have e1 : [c2, c3] = s1.enc := h1
      cases e0; cases e1
      exact ⟨⟨s0, s1⟩, rfl, trivial⟩
theorem opens65 : Opens enc Tryd.prog w 65 (fun cs => ∃ x : Horse, cs = x.enc ∧ True) :=
  (opens_struct (N := 3) (Rs := [(0, 1, RInt), (1, 1, RInt), (2, 1, RInt)]) Tryd.underlying65 (by kernel_rfl) rfl (fun i f hi => by
    match i, hi with
    | 0, hi => cases hi; exact ⟨_, by show _ = some (_, Tryd.prog.cellsOf 3, _); rw [show Tryd.prog.cellsOf 3 = 1 by kernel_rfl]; rfl, opens3⟩
    | 1, hi => cases hi; exact ⟨_, by show _ = some (_, Tryd.prog.cellsOf 3, _); rw [show Tryd.prog.cellsOf 3 = 1 by kernel_rfl]; rfl, opens3⟩
    | 2, hi => cases hi; exact ⟨_, by show _ = some (_, Tryd.prog.cellsOf 3, _); rw [show Tryd.prog.cellsOf 3 = 1 by kernel_rfl]; rfl, opens3⟩
    | i + 3, hi => cases hi)).mono fun cs ⟨hl, h⟩ => by
      have hl2 : cs.length = 3 := hl
      obtain ⟨c0, c1, c2, rfl⟩ := len_3 hl2
      obtain ⟨n0, h0, _⟩ := h 0 _ rfl
      obtain ⟨n1, h1, _⟩ := h 1 _ rfl
      obtain ⟨n2, h2, _⟩ := h 2 _ rfl
      have e0 : [c0] = [.int .i64 n0] := h0
      have e1 : [c1] = [.int .i64 n1] := h1
      have e2 : [c2] = [.int .i64 n2] := h2
      cases e0; cases e1; cases e2
      exact ⟨⟨n0, n1, n2⟩, rfl, trivial⟩
instance : Inhabited Hank := ⟨Hank0⟩
instance : Inhabited Horse := ⟨Horse0⟩
/-- A book of hair, as its cells. -/
def RHair (w : World) (cs : List Value) : Prop := ∃ (b : HBook) (A1 A2 : Option Addr) (n1 c1 n2 c2 : Nat), cs = [.slice A1 n1 c1, .slice A2 n2 c2, .int .i64 b.dark, .int .i64 b.near, .int .i64 b.mat] ∧ n1 ≤ c1 ∧ RdRow Hank.enc 4 w A1 n1 b.hanks ∧ RdRow Horse.enc 3 w A2 n2 b.horses
theorem opens25 : Opens enc Tryd.prog w 25 (RHair w) :=
  (opens_struct (N := 5) (Rs := [(0, 1, RSlice Hank.enc 4 w (fun _ => True)), (1, 1, RSlice Horse.enc 3 w (fun _ => True)), (2, 1, RInt), (3, 1, RInt), (4, 1, RInt)]) Tryd.underlying25 (by kernel_rfl) rfl (fun i f hi => by
    match i, hi with
    | 0, hi => cases hi; exact ⟨_, by show _ = some (_, Tryd.prog.cellsOf 22, _); rw [show Tryd.prog.cellsOf 22 = 1 by kernel_rfl]; rfl, (opens_slice Tryd.underlying22 (by kernel_rfl) (of_decide_eq_true (by kernel_rfl)) opens42)⟩
    | 1, hi => cases hi; exact ⟨_, by show _ = some (_, Tryd.prog.cellsOf 23, _); rw [show Tryd.prog.cellsOf 23 = 1 by kernel_rfl]; rfl, (opens_slice Tryd.underlying23 (by kernel_rfl) (of_decide_eq_true (by kernel_rfl)) opens65)⟩
    | 2, hi => cases hi; exact ⟨_, by show _ = some (_, Tryd.prog.cellsOf 3, _); rw [show Tryd.prog.cellsOf 3 = 1 by kernel_rfl]; rfl, opens3⟩
    | 3, hi => cases hi; exact ⟨_, by show _ = some (_, Tryd.prog.cellsOf 3, _); rw [show Tryd.prog.cellsOf 3 = 1 by kernel_rfl]; rfl, opens3⟩
    | 4, hi => cases hi; exact ⟨_, by show _ = some (_, Tryd.prog.cellsOf 3, _); rw [show Tryd.prog.cellsOf 3 = 1 by kernel_rfl]; rfl, opens3⟩
    | i + 5, hi => cases hi)).mono fun cs ⟨hl, h⟩ => by
      have hl2 : cs.length = 5 := hl
      obtain ⟨d0, d1, d2, d3, d4, rfl⟩ := len_5 hl2
      obtain ⟨A1, n1, c1, xs, h0, hc, _, hr1, _⟩ := h 0 _ rfl
      obtain ⟨A2, n2, c2, ys, h1, _, _, hr2, _⟩ := h 1 _ rfl
      obtain ⟨n2', h2, _⟩ := h 2 _ rfl
      obtain ⟨n3, h3, _⟩ := h 3 _ rfl
      obtain ⟨n4, h4, _⟩ := h 4 _ rfl
      have e0 : [d0] = [.slice A1 n1 c1] := h0
      have e1 : [d1] = [.slice A2 n2 c2] := h1
      have e2 : [d2] = [.int .i64 n2'] := h2
      have e3 : [d3] = [.int .i64 n3] := h3
      have e4 : [d4] = [.int .i64 n4] := h4
      cases e0; cases e1; cases e2; cases e3; cases e4
      exact ⟨⟨xs, ys, n2', n3, n4⟩, A1, A2, n1, c1, n2, c2, rfl, hc, hr1, hr2⟩
theorem opens58 : Opens enc Tryd.prog w 58 (fun cs => ∃ m0 m1 m2 : Int, cs = [.int .i64 m0, .int .i64 m1, .int .i64 m2]) :=
  (opens_array (n := 3) Tryd.underlying58 opens3).mono fun cs ⟨hl, h⟩ => by
    obtain ⟨d0, d1, d2, rfl⟩ := len_3 (hl.trans (by kernel_rfl))
    rw [show Tryd.prog.cellsOf 3 = 1 by kernel_rfl] at h
    obtain ⟨m0, e0, _⟩ := h 0 (by decide)
    obtain ⟨m1, e1, _⟩ := h 1 (by decide)
    obtain ⟨m2, e2, _⟩ := h 2 (by decide)
    have e0' : [d0] = [.int .i64 m0] := e0
    have e1' : [d1] = [.int .i64 m1] := e1
    have e2' : [d2] = [.int .i64 m2] := e2
    cases e0'; cases e1'; cases e2'
    exact ⟨m0, m1, m2, rfl⟩
theorem opens61 : Opens enc Tryd.prog w 61 (fun cs => ∃ m0 m1 : Int, cs = [.int .i64 m0, .int .i64 m1]) :=
  (opens_array (n := 2) Tryd.underlying61 opens3).mono fun cs ⟨hl, h⟩ => by
    obtain ⟨d0, d1, rfl⟩ := len_2 (hl.trans (by kernel_rfl))
    rw [show Tryd.prog.cellsOf 3 = 1 by kernel_rfl] at h
    obtain ⟨m0, e0, _⟩ := h 0 (by decide)
    obtain ⟨m1, e1, _⟩ := h 1 (by decide)
    have e0' : [d0] = [.int .i64 m0] := e0
    have e1' : [d1] = [.int .i64 m1] := e1
    cases e0'; cases e1'
    exact ⟨m0, m1, rfl⟩
theorem okWide_arr {P : Program} {w : World} {r : Reach} {base n : Nat} {t e : TypeId} {v : Value} (ht : P.underlying t = some (.array n e)) (h : Value.okWide P w r base t v) : ∃ cs, v = .agg cs ∧ cs.size = P.cellsOf t := by
  simp only [Value.okWide, ht] at h
  obtain ⟨cs, h1, h2, _⟩ := h
  exact ⟨cs, h1, h2⟩
theorem gParts : Tryd.prog.globalNamed "skewbald/hair.parts" = some 0 := by kernel_rfl
theorem tParts : (Tryd.prog.globals[0]?).map (·.type) = some 164 := by kernel_rfl
/-- The table of the parts, as it is listed. -/
theorem parts_of {l : List (String × DataW Unit)} (hm : ("skewbald/hair.parts", (Rows.laid_skewbald_hair_parts : DataW Unit)) ∈ l) (h : laidMetH Tryd.prog l w) : Parts w := by
  obtain ⟨g, t, cs, fuel, p, hg, ht, hv, hd⟩ := h.funcs hm
  obtain rfl := Option.some.inj (gParts.symm.trans hg)
  obtain rfl := Option.some.inj (tParts.symm.trans ht)
  obtain ⟨xs, m, _, hx, hl, hlen, hel⟩ := DataW.trod_array (n := 2) (e := 163) (by kernel_rfl) hd
  have hx1 : [DataW.held (H := List UInt8) [40, 115, 107, 101, 119, 98, 97, 108, 100, 47, 104, 97, 105, 114, 46, 104, 111, 114, 115, 101, 41, 46, 109, 97, 110, 101], .held [40, 115, 107, 101, 119, 98, 97, 108, 100, 47, 104, 97, 105, 114, 46, 104, 111, 114, 115, 101, 41, 46, 116, 97, 105, 108]] = xs.map (·.1) := by
    have := congrArg Prod.fst hx
    injection this
  have hc : Tryd.prog.cellsOf 163 = 1 := by kernel_rfl
  have hl2 : cs.toList.length = 2 := hl.trans (by kernel_rfl)
  obtain ⟨cs⟩ := cs
  obtain ⟨c0, c1, rfl⟩ := len_2 (show cs.length = 2 from hl2)
  obtain ⟨x0, x1, rfl⟩ := len_2 hlen
  obtain ⟨hx1, hx2⟩ : x0.1 = DataW.held (H := List UInt8) [40, 115, 107, 101, 119, 98, 97, 108, 100, 47, 104, 97, 105, 114, 46, 104, 111, 114, 115, 101, 41, 46, 109, 97, 110, 101] ∧ x1.1 = .held [40, 115, 107, 101, 119, 98, 97, 108, 100, 47, 104, 97, 105, 114, 46, 104, 111, 114, 115, 101, 41, 46, 116, 97, 105, 108] := by
    have h9 : _ :: _ :: [] = x0.1 :: x1.1 :: [] := hx1
    injection h9 with e0 h9
    injection h9 with e1 _
    exact ⟨e0.symm, e1.symm⟩
  have h0 := hel 0 (by decide)
  have h1 := hel 1 (by decide)
  rw [hc] at h0 h1
  have h0' : DataW.trod (funcToken Tryd.prog) Tryd.prog w 0 (fun _ => true) true m 163 [c0] = some (x0.1, x0.2) := h0
  have h1' : DataW.trod (funcToken Tryd.prog) Tryd.prog w 0 (fun _ => true) true m 163 [c1] = some (x1.1, x1.2) := h1
  rw [hx1] at h0'
  rw [hx2] at h1'
  obtain rfl := func_of_trod (f0 := 202) Tryd.underlying163 (by kernel_rfl) h0'
  obtain rfl := func_of_trod (f0 := 205) Tryd.underlying163 (by kernel_rfl) h1'
  intro i v hi
  have h9 := World.var?_cell hg hv i
  have : (⟨0, 0, none⟩ : Addr).add i = ⟨0, i, none⟩ := by rw [add_own, Nat.zero_add]
  rw [this, h9]
  exact (List.getElem?_toArray ..).trans hi
end
end Go.Proofs.YtofpabocpcfbfaaDoor
