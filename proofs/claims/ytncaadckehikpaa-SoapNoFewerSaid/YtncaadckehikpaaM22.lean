/- A part of the proof: contracts of functions and plain facts (HFewest, Q11, HRef2, HRef3, Q13, Q14). No condition. -/
import Derived.Test.YtncaadckehikpaaM21
import Derived.Test.YtncaadckehikpaaM3
import Derived.Test.YtncaadckehikpaaM13
import Derived.Test.YtncaadckehikpaaM14
import Derived.Test.YtncaadckehikpaaM17
import Derived.Test.YtncaadckehikpaaM8
namespace Go.Proofs.Ytncaadckehikpaa.Q
open Go.RowKit Go.Proofs.YtncaadckehikpaaW.PrintWords Go.Proofs.YtncaadckehikpaaW.PrintLast Go.Proofs.YtncaadckehikpaaW.PrintMore
set_option linter.unusedVariables false
set_option linter.unusedSimpArgs false
def soap_Fewest.f (a0_0 : Int) (l0_1 : List (S122)) (l0_2 : List (S124)) : Option (Int × Int × Int) :=
  some (if askErr a0_0 l0_1 l0_2 = 0 then ((bndL ((truthsL l0_1 l0_2).map payN)).1, (bndL ((truthsL l0_1 l0_2).map payN)).2, 0) else (0, 0, askErr a0_0 l0_1 l0_2))
/-- What a woman is owed in a truth. -/
theorem truths_small {n : Int} {l1 : List S122} {l2 : List S124} (hck : checkS n l1 l2 = 0) (oss : List (List Int)) (hf : ∀ os ∈ oss, os.length = l1.length ∧ FitTo l1 os l1.length) : ∀ v ∈ askedL l1 l2 oss, ∀ j, -480 ≤ rd v j ∧ rd v j ≤ 480 := by
  have hone : ∀ os, os.length = l1.length ∧ FitTo l1 os l1.length → ∀ j, -480 ≤ rd (owedL l1 os) j ∧ rd (owedL l1 os) j ≤ 480 := by
    intro os h
    obtain ⟨z0, z1, z2, z3, z4, z5, z6⟩ := z30 hck
    have hvb := owedTo_bd l1 os (fun i q0 q1 => by
      have he := z47 hck i q0 q1
      have h2 := h.2 i q0 q1
      omega) l1.length (Nat.le_refl _)
    intro j
    have := hvb j
    unfold owedL
    omega
  have h : ∀ (oss : List (List Int)) (acc : List (List Int)), (∀ os ∈ oss, os.length = l1.length ∧ FitTo l1 os l1.length) → (∀ v ∈ acc, ∀ j, -480 ≤ rd v j ∧ rd v j ≤ 480) → ∀ v ∈ oss.foldl (askStep l1 l2) acc, ∀ j, -480 ≤ rd v j ∧ rd v j ≤ 480 := by
    intro oss
    induction oss with
    | nil => exact fun acc _ h => h
    | cons o r ih =>
      intro acc hr ha
      refine ih _ (fun os h => hr os (by simp [h])) ?_
      unfold askStep
      split
      · intro v hv
        rcases List.mem_append.1 hv with h1 | h1
        · exact ha v h1
        · simp at h1
          rw [h1]
          exact hone o (hr o (by simp))
      · exact ha
  exact h oss [] hf (by simp)
/-- All ounces that are listed fit. -/
theorem enumO_fit (l1 : List S122) : ∀ (es : List S122) (p : List Int), l1.drop p.length = es → (p.length ≤ l1.length) → FitTo l1 p p.length → ∀ os ∈ enumO p es, os.length = l1.length ∧ FitTo l1 os l1.length
  | [], p, hd, hl, hf => by
    intro os ho
    simp [enumO] at ho
    subst ho
    have : os.length = l1.length := by
      have := congrArg List.length hd
      simp at this
      omega
    exact ⟨this, by rw [← this]; exact hf⟩
  | e :: es, p, hd, hl, hf => by
    intro os ho
    simp only [enumO, List.mem_flatMap, List.mem_range] at ho
    obtain ⟨k, hk, hm⟩ := ho
    have hlt : p.length < l1.length := by
      rcases Nat.lt_or_ge p.length l1.length with h | h
      · exact h
      · rw [List.drop_eq_nil_of_le h] at hd; cases hd
    rw [List.drop_eq_getElem_cons hlt] at hd
    injection hd with he hd
    refine enumO_fit l1 es (p ++ [e.f2.f0 + (k : Int)]) (by simpa using hd) (by simp; omega) ?_ os hm
    intro j j0 j1
    simp at j1
    have hre : rd_T122 l1 (p.length : Int) = e := by rw [← he]; simp [rd_T122, List.getD, hlt]
    by_cases hj : j = p.length
    · subst hj
      rw [hre]
      have : rd (p ++ [e.f2.f0 + (k : Int)]) (p.length : Int) = e.f2.f0 + k := by simp [rd, List.getD]
      rw [this]
      unfold spanN at hk
      omega
    · have hr : rd (p ++ [e.f2.f0 + (k : Int)]) j = rd p j := by
        simp [rd, List.getD, List.getElem?_append_left (show j.toNat < p.length by omega)]
      rw [hr]
      exact hf j j0 (by omega)
set_option maxHeartbeats 4000000 in
set_option maxRecDepth 100000 in
theorem soap_Fewest.calls (a0_0 : Int) (A0_1 : Option Addr) (c0_1 : Nat) (l0_1 : List (S122)) (A0_2 : Option Addr) (c0_2 : Nat) (l0_2 : List (S124)) (r1 r2 r3 : Int) (w : World) (hr0_1 : Kd.C k122 w A0_1 l0_1.length l0_1) (hc0_1 : l0_1.length ≤ c0_1) (hr0_2 : Kd.C k124 w A0_2 l0_2.length l0_2) (hc0_2 : l0_2.length ≤ c0_2) (h : soap_Fewest.f a0_0 l0_1 l0_2 = some (r1, r2, r3)) :
    Calls Try.prog 37 #[.agg #[.int .i64 a0_0, .slice A0_1 l0_1.length c0_1, .slice A0_2 l0_2.length c0_2]] w fun e w' => e = .returned (.tuple #[.agg #[.int .i64 r1, .int .i64 r2], .int .i64 r3]) ∧ Below w.heap.size w w' := by
  have hu35 := Try.underlying35
  have hu44 := Try.underlying44
  have h2 := Option.some.inj h
  clear h
  obtain ⟨wa, hwa⟩ : ∃ wa, (w.alloc (.cells #[.int .i64 a0_0, .slice A0_1 l0_1.length c0_1, .slice A0_2 l0_2.length c0_2] 35)).alloc (.cells #[.int .i64 0, .int .i64 0] 44) = wa := ⟨_, rfl⟩
  have hbw : Below w.heap.size w wa := by rw [← hwa]; exact z10 (z10 (Below.refl _ _) _) _
  have HAS := mkA (asked_calls a0_0 A0_1 c0_1 l0_1 A0_2 c0_2 l0_2 wa (Kd.C_below hr0_1 hbw) hc0_1 (Kd.C_below hr0_2 hbw) hc0_2)
  have HBW := mkA hbw
  have HC0 := mkA (show wa.heap[w.heap.size + 1]? = some (.cells #[.int .i64 0, .int .i64 0] 44 (0, 0)) from by rw [← hwa]; simpa using z21 (w.alloc _) (.cells #[.int .i64 0, .int .i64 0] 44))
  have hwz : wa.heap.size = w.heap.size + 2 := by rw [← hwa]; simp
  have hsl : wa.heap[w.heap.size]? = some (.cells #[.int .i64 a0_0, .slice A0_1 l0_1.length c0_1, .slice A0_2 l0_2.length c0_2] 35 (0, 0)) := by rw [← hwa]; exact blk_below (z21 w _) (z10 (Below.refl _ _) _)
  have hs0 : wa.cell? ⟨w.heap.size, 0, none⟩ = some (.int .i64 a0_0) := (z13 hsl 0).trans rfl
  have hs1 : wa.cell? ⟨w.heap.size, 1, none⟩ = some (.slice A0_1 l0_1.length c0_1) := (z13 hsl 1).trans rfl
  have hs2 : wa.cell? ⟨w.heap.size, 2, none⟩ = some (.slice A0_2 l0_2.length c0_2) := (z13 hsl 2).trans rfl
  clear hbw hr0_1 hr0_2 hsl
  go_enter Try.func37, Try.ntmps37
  go_wp2_with fail
  clear hwa hs0 hs1 hs2
  refine HAS.out.mono ?_
  rintro e w1 ⟨hb, hcase⟩
  have HB1 := mkA (z17 HBW.out hb)
  have hq1 := blk_below HC0.out hb
  have hc0 : w1.cell? ⟨w.heap.size + 1, 0, none⟩ = some (.int .i64 0) := (z13 hq1 0).trans rfl
  have hc1 : w1.cell? ⟨w.heap.size + 1, 1, none⟩ = some (.int .i64 0) := (z13 hq1 1).trans rfl
  have hf0 : w1.frozen? ⟨w.heap.size + 1, 0, none⟩ = false := z14 hq1 _
  have hf1 : w1.frozen? ⟨w.heap.size + 1, 1, none⟩ = false := z14 hq1 _
  have HQ1 := mkA hq1
  have hsa := hb.size
  clear hb HAS hq1
  rcases hcase with ⟨hck, rfl⟩ | ⟨hck, hem, rfl⟩ | ⟨hck, hne, qb, v, gs, mbs, rfl, hq, hR, hP⟩
  · have hE : askErr a0_0 l0_1 l0_2 = checkS a0_0 l0_1 l0_2 := by unfold askErr; rw [if_neg hck]
    rw [hE, if_neg hck] at h2
    obtain ⟨rfl, h3⟩ := Prod.mk.inj h2
    obtain ⟨rfl, rfl⟩ := Prod.mk.inj h3
    generalize hqq : checkS a0_0 l0_1 l0_2 = q at hck ⊢
    have HQQ := mkA hqq
    have g1 : (q != 0) = true := bne_iff_ne.2 hck
    clear h2 h3 hck hE hqq
    go_wp2
    rw [z26 hc0, z26 hc1]
    exact bodyPost_ret (v := .tuple #[.agg #[.int .i64 0, .int .i64 0], .int .i64 q]) (by simp [results, Try.results37, go_sem, hc0, hc1]) rfl ⟨by rw [HQQ.out], HB1.out⟩
  · have hE : askErr a0_0 l0_1 l0_2 = 11 := by unfold askErr; rw [if_pos hck, if_pos hem]
    rw [hE, if_neg (by decide)] at h2
    obtain ⟨rfl, h3⟩ := Prod.mk.inj h2
    obtain ⟨rfl, rfl⟩ := Prod.mk.inj h3
    clear h2 h3 hck hE hem
    go_wp2
    rw [z26 hc0, z26 hc1]
    exact bodyPost_ret (v := .tuple #[.agg #[.int .i64 0, .int .i64 0], .int .i64 11]) (by simp [results, Try.results37, go_sem, hc0, hc1]) rfl ⟨rfl, HB1.out⟩
  · have hE : askErr a0_0 l0_1 l0_2 = 0 := by unfold askErr; rw [if_pos hck, if_neg hne]
    rw [hE, if_pos rfl] at h2
    obtain ⟨rfl, h3⟩ := Prod.mk.inj h2
    obtain ⟨rfl, rfl⟩ := Prod.mk.inj h3
    have hvl : ((askedL l0_1 l0_2 (enumO [] l0_1)).length : Int) ≤ 140737488355328 := by
      have t1 := askedL_len l0_1 l0_2 (enumO [] l0_1) []
      have t2 := enumO_bound hck
      unfold askedL
      simp only [List.length_nil, Nat.zero_add] at t1
      omega
    have hsm := truths_small hck (enumO [] l0_1) (enumO_fit l0_1 l0_1 [] rfl (by simp) (fun j j0 j1 => by simp at j1; omega))
    generalize hvv : askedL l0_1 l0_2 (enumO [] l0_1) = vs at hP hvl hsm ⊢
    have HVV := mkA hvv
    have HBC := mkA (bounds83_calls payN 0 wa.heap.size qb _ _ _ v gs mbs vs w1 (fun g mb u W hu hp hm => (payments_calls g mb u 0 W (fun j => by have := hsm u hu j; omega) (fun e => by
      obtain ⟨es, cl, h5, _⟩ := hm
      rw [← e, show W.heap[g]? = _ from hp] at h5
      cases h5) hp hm)) hq hR hP hvl hsa)
    have HP := mkA hP
    clear h2 h3 hck hE hne hq hR hP hvv hsm hc0 hc1 hf0 hf1
    generalize hx : (bndL (vs.map payN)).1 = lo at HBC
    generalize hy : (bndL (vs.map payN)).2 = hi at HBC
    have HX := mkA hx
    have HY := mkA hy
    clear hx hy
    go_wp2_with fail
    refine HBC.out.mono ?_
    rintro e w4 ⟨rfl, hm, hp4⟩
    have hb4 : Below wa.heap.size w1 w4 := hm.below hsa HP.out.mems
    have HB4 := mkA (HB1.out.trans (hb4.mono (by omega)))
    have hq4 := (hb4.block (w.heap.size + 1) (by omega)).trans HQ1.out
    have hc0 : w4.cell? ⟨w.heap.size + 1, 0, none⟩ = some (.int .i64 0) := (z13 hq4 0).trans rfl
    have hc1 : w4.cell? ⟨w.heap.size + 1, 1, none⟩ = some (.int .i64 0) := (z13 hq4 1).trans rfl
    have hf0 : w4.frozen? ⟨w.heap.size + 1, 0, none⟩ = false := z14 hq4 _
    have hf1 : w4.frozen? ⟨w.heap.size + 1, 1, none⟩ = false := z14 hq4 _
    have HQ4 := mkA hq4
    clear hm hp4 hb4 hq4 HBC
    go_wp2
    have he : ((w4.setCell ⟨w.heap.size + 1, 0, none⟩ (.int .i64 lo)).setCell ⟨w.heap.size + 1, 1, none⟩ (.int .i64 hi)).heap[w.heap.size + 1]? = some (.cells #[.int .i64 lo, .int .i64 hi] 44 (0, 0)) := by
      simp [World.setCell, Array.getElem?_modify, HQ4.out]
    have e0 : ((w4.setCell ⟨w.heap.size + 1, 0, none⟩ (.int .i64 lo)).setCell ⟨w.heap.size + 1, 1, none⟩ (.int .i64 hi)).cell? ⟨w.heap.size + 1, 0, none⟩ = some (.int .i64 lo) := (z13 he 0).trans rfl
    have e1 : ((w4.setCell ⟨w.heap.size + 1, 0, none⟩ (.int .i64 lo)).setCell ⟨w.heap.size + 1, 1, none⟩ (.int .i64 hi)).cell? ⟨w.heap.size + 1, 1, none⟩ = some (.int .i64 hi) := (z13 he 1).trans rfl
    refine bodyPost_ret (v := .tuple #[.agg #[.int .i64 lo, .int .i64 hi], .int .i64 0]) ?_ rfl ⟨by unfold truthsL; rw [HVV.out, HX.out, HY.out], z15 (z15 HB4.out (by simp)) (by simp)⟩
    simp [results, Try.results37, go_sem, e0, e1]
end Go.Proofs.Ytncaadckehikpaa.Q
namespace Go.Proofs.Ytncaadckehikpaa.Q
open Go.RowKit Go.Proofs.YtncaadckehikpaaW.PrintWords Go.Proofs.YtncaadckehikpaaW.PrintLast Go.Proofs.YtncaadckehikpaaW.PrintMore
attribute [local go_sem] z37 z36 max_two min_two   -- for this text's walks alone
set_option linter.unusedVariables false
set_option linter.unusedSimpArgs false
/-! ### pr_Bounds: function 27 -/
def pr_Bounds.l0 : Nat → List (List Int) → Int → Int → Int → List (S91) → List (S94) → Int → Int → Option (Int × Int)
 | 0, _, _, _, _, _, _, _, _ => none
 | k + 1, x1, x2, x8, x212000, x212001, x212002, x216000, x216001 => if x8 < (x1.length : Int) then (if 0 ≤ x8 then ((pr_Owed.f k x212000 x212001 x212002 (rd_L4 x1 x8) x2).bind fun t217 => ((pr_Wider.f x216000 x216001 t217).bind fun bt218 => (pr_Bounds.l0 k x1 x2 (wrap64 (x8 + 1)) x212000 x212001 x212002 bt218.1 bt218.2))) else (none)) else (some (x216000, x216001))
def pr_Bounds.f (k : Nat) (a0_0 : Int) (l0_1 : List (S91)) (l0_2 : List (S94)) (l1 : List (List Int)) (a2 : Int) : Option (Int × Int) := (pr_Empty.f).bind fun bt213 => (pr_Bounds.l0 k l1 a2 0 a0_0 l0_1 l0_2 bt213.1 bt213.2)
def pr_Bounds.T5 : Bool × List (List Nat × List Nat) := (true, [([], []), ([], []), ([], []), ([], []), ([2, 3], [2, 3]), ([4], [4]), ([], []), ([1, 5, 6], [1, 5, 6]), ([0, 7, 7], [0, 7]), ([8, 8, 0, 1, 2, 3, 4, 5, 6, 7, 8], [8])])
def pr_Bounds.B5 : List Nat := [0, 0, 0, 0, 12, 28, 0, 126, 255, 511]
theorem pr_Bounds.tab5 : rtab .any (opsOf Try.f27 5) = pr_Bounds.T5 := by kernel_rfl
theorem pr_Bounds.bits5 : waitsOk pr_Bounds.T5.2 pr_Bounds.B5 = true := by kernel_rfl
/-! ### pr_Owes: function 28 -/
def pr_Owes.l0 : Nat → List (List Int) → Int → Int → Int → Int → List (S91) → List (S94) → Option (Int)
 | 0, _, _, _, _, _, _, _ => none
 | k + 1, x1, x2, x7, x8, x221000, x221001, x221002 => if x8 < (x1.length : Int) then (if 0 ≤ x8 then ((pr_Owed.f k x221000 x221001 x221002 (rd_L4 x1 x8) x2).bind fun t222 => (if t222 < 0 then (pr_Owes.l0 k x1 x2 (wrap64 (x7 + 1)) (wrap64 (x8 + 1)) x221000 x221001 x221002) else (pr_Owes.l0 k x1 x2 x7 (wrap64 (x8 + 1)) x221000 x221001 x221002))) else (none)) else (if x7 = (x1.length : Int) then (some 1) else (if x7 = 0 then (some 2) else (some 3)))
def pr_Owes.f (k : Nat) (a0_0 : Int) (l0_1 : List (S91)) (l0_2 : List (S94)) (l1 : List (List Int)) (a2 : Int) : Option (Int) := pr_Owes.l0 k l1 a2 0 0 a0_0 l0_1 l0_2
def pr_Owes.T5 : Bool × List (List Nat × List Nat) := (true, [([], []), ([], []), ([], []), ([1, 2], [1, 2]), ([3], [3]), ([], []), ([0, 4, 5], [0, 4, 5]), ([6], [6])])
def pr_Owes.B5 : List Nat := [0, 0, 0, 6, 14, 0, 63, 127]
theorem pr_Owes.tab5 : rtab .any (opsOf Try.f28 5) = pr_Owes.T5 := by kernel_rfl
theorem pr_Owes.bits5 : waitsOk pr_Owes.T5.2 pr_Owes.B5 = true := by kernel_rfl
end Go.Proofs.Ytncaadckehikpaa.Q
namespace Go.Proofs.Ytncaadckehikpaa.Q
open Go.RowKit Go.Proofs.YtncaadckehikpaaW.PrintWords Go.Proofs.YtncaadckehikpaaW.PrintLast Go.Proofs.YtncaadckehikpaaW.PrintMore
set_option linter.unusedVariables false
set_option linter.unusedSimpArgs false
theorem z32 {n : Int} {l1 : List S91} {l2 : List S94} (h : checkS n (l1.map c91) (l2.map c94) = 0) : 0 ≤ n ∧ n ≤ 6 ∧ l1.length ≤ 6 ∧ l2.length ≤ 5 ∧ EntOk n l1 ∧ prodS (l1.map c91) ≤ 2000 := by
  obtain ⟨z0, z1, z2, z3, z4, z5, z6⟩ := z30 h
  rw [List.length_map] at z2 z3
  have he : EntOk n l1 := fun e he => List.all_eq_true.1 z4 e he
  rw [manyS_eq _ (fun e h => (he.sizes e h).1)] at z6
  refine ⟨z0, z1, z2, z3, he, ?_⟩
  unfold mn at z6
  split at z6 <;> omega
/-- Ounces of at most 40. -/
def Small (l : List S122) (os : List Int) : Prop := os.length = l.length ∧ ∀ i : Int, 0 ≤ i → i < l.length → 0 ≤ rd os i ∧ rd os i ≤ 40
theorem owedTo_step (l : List S122) (os : List Int) (i : Nat) (w : Int) (h0 : 0 ≤ (rd_T122 l i).f0) (h1 : (rd_T122 l i).f0 < 6) (h2 : 0 ≤ (rd_T122 l i).f1) (h3 : (rd_T122 l i).f1 < 6) (hne : (rd_T122 l i).f0 ≠ (rd_T122 l i).f1) (hw : 0 ≤ w) (hw6 : w < 6) :
    rd (owedTo l os (i + 1)) w = if (rd_T122 l i).f0 = w then rd (owedTo l os i) w + rd os i else if (rd_T122 l i).f1 = w then rd (owedTo l os i) w - rd os i else rd (owedTo l os i) w := by
  simp only [owedTo]
  have hl := z34 l os i
  rw [rd_upd _ _ _ _ h2 (by rw [z43, hl]; omega) hw]
  by_cases a : w = (rd_T122 l i).f1
  · rw [if_pos a, if_neg (show ¬ (rd_T122 l i).f0 = w by omega), if_pos a.symm, rd_upd _ _ _ _ h0 (by rw [hl]; omega) h2, if_neg (by omega), a]
  · rw [if_neg a, rd_upd _ _ _ _ h0 (by rw [hl]; omega) hw]
    by_cases b : w = (rd_T122 l i).f0
    · rw [if_pos b, if_pos b.symm, b]
    · rw [if_neg b, if_neg (fun h => b h.symm), if_neg (fun h => a h.symm)]
theorem Owed_l0 (n : Int) (l1 : List S91) (l2 : List S94) (os : List Int) (w : Int) (hck : checkS n (l1.map c91) (l2.map c94) = 0) (ho : Small (l1.map c91) os) (hw : 0 ≤ w) (hw6 : w < 6) :
    ∀ (d k i : Nat), i + d = l1.length → d < k → pr_Owed.l0 k os w (rd (owedTo (l1.map c91) os i) w) i n l1 l2 = some (rd (owedL (l1.map c91) os) w)
  | 0, k + 1, i, hi, hk => by
    have hl : (l1.map c91).length = i := by rw [List.length_map]; omega
    rw [pr_Owed.l0, if_neg (by omega), owedL, hl]
  | d + 1, k + 1, i, hi, hk => by
    have hn : i < l1.length := by omega
    obtain ⟨z0, z1, z2, z3, z4, z5⟩ := z32 hck
    have he := z47 hck (i : Int) (by omega) (by rw [List.length_map]; omega)
    have hol := ho.1
    rw [List.length_map] at hol
    have hb := owedTo_bd (l1.map c91) os ho.2 i (by rw [List.length_map]; omega) w
    have hr := ho.2 (i : Int) (by omega) (by rw [List.length_map]; omega)
    have hst := owedTo_step (l1.map c91) os i w (by omega) (by omega) (by omega) (by omega) he.2.2.2.2.1 hw hw6
    have ih := Owed_l0 n l1 l2 os w hck ho hw hw6 d k (i + 1) (by omega) (by omega)
    rw [hst] at ih
    rw [rd_map91 l1 i hn] at ih he
    rw [pr_Owed.l0, if_pos (by omega), if_pos (by omega), w1 i (by omega)]
    have e0 : (c91 (rd_T91 l1 (i : Int))).f0 = (rd_T91 l1 (i : Int)).f0 := rfl
    have e1 : (c91 (rd_T91 l1 (i : Int))).f1 = (rd_T91 l1 (i : Int)).f1 := rfl
    rw [e0, e1] at ih
    rw [e0, e1] at he
    by_cases a : (rd_T91 l1 (i : Int)).f0 = w
    · rw [if_pos a, if_pos (by omega), if_neg (show ¬ (rd_T91 l1 (i : Int)).f1 = w by omega), show ∀ x y : Int, -1000 ≤ x → x ≤ 1000 → 0 ≤ y → y ≤ 40 → wrap64 (x + y) = x + y by intro x y q1 q2 q3 q4; unfold wrap64; omega]
      · rw [if_pos a] at ih; exact ih
      all_goals omega
    · rw [if_neg a] at ih ⊢
      by_cases b : (rd_T91 l1 (i : Int)).f1 = w
      · rw [if_pos b] at ih
        rw [if_pos b, if_pos (by omega), show ∀ x y : Int, -1000 ≤ x → x ≤ 1000 → 0 ≤ y → y ≤ 40 → wrap64 (x - y) = x - y by intro x y q1 q2 q3 q4; unfold wrap64; omega]
        · exact ih
        all_goals omega
      · rw [if_neg b] at ih ⊢
        exact ih
/-- What the reference says a woman is owed. -/
theorem Owed_f (k : Nat) (n : Int) (l1 : List S91) (l2 : List S94) (os : List Int) (w : Int) (hck : checkS n (l1.map c91) (l2.map c94) = 0) (ho : Small (l1.map c91) os) (hw : 0 ≤ w) (hw6 : w < 6) (hk : 7 ≤ k) :
    pr_Owed.f k n l1 l2 os w = some (rd (owedL (l1.map c91) os) w) := by
  have hl := (z32 hck).2.2.1
  have := Owed_l0 n l1 l2 os w hck ho hw hw6 l1.length k 0 (by omega) (by omega)
  have h0 : rd (owedTo (l1.map c91) os 0) w = 0 := by
    obtain ⟨m, rfl⟩ : ∃ m : Nat, w = m := ⟨w.toNat, by omega⟩
    unfold rd owedTo
    rw [Int.toNat_natCast]
    rcases m with _ | _ | _ | _ | _ | _ | m <;> simp [List.getD]
  rw [h0] at this
  exact this
theorem u64_all : ∀ i : Fin 6, IntKind.u64.wrap ((i.val : Nat) : Int) = ((i.val : Nat) : Int) := by decide +kernel
theorem u64_small (i : Nat) (h : i < 6) : IntKind.u64.wrap ((i : Nat) : Int) = ((i : Nat) : Int) := u64_all ⟨i, h⟩
theorem shl_all : ∀ i : Fin 6, shl .i64 1 ((i.val : Nat) : Int) = wrap64 (2 ^ i.val) := by decide +kernel
theorem shlS6 (i : Nat) (h : i < 6) : shl .i64 1 ((i : Nat) : Int) = wrap64 (2 ^ i) := shl_all ⟨i, h⟩
end Go.Proofs.Ytncaadckehikpaa.Q
namespace Go.Proofs.Ytncaadckehikpaa.Q
open Go.RowKit Go.Proofs.YtncaadckehikpaaW.PrintWords Go.Proofs.YtncaadckehikpaaW.PrintLast Go.Proofs.YtncaadckehikpaaW.PrintMore
set_option linter.unusedVariables false
set_option linter.unusedSimpArgs false
theorem small_nth {n : Int} {l1 : List S122} {l2 : List S124} (hck : checkS n l1 l2 = 0) (m : Nat) (hm : m < prodN l1) : Small l1 (nthS l1 m) := by
  have h := enumO_fit l1 l1 [] rfl (by simp) (fun j h0 h1 => absurd h1 (by simp; omega)) (nthS l1 m) ((mem_enumO l1 [] _).2 ⟨m, hm, by simp⟩)
  refine ⟨h.1, fun i h0 h1 => ?_⟩
  have h2 := h.2 i h0 h1
  have h3 := z47 hck i h0 h1
  omega
theorem prodN_le {n : Int} {l1 : List S91} {l2 : List S94} (hck : checkS n (l1.map c91) (l2.map c94) = 0) : prodN (l1.map c91) ≤ 2000 ∧ ((prodN (l1.map c91) : Nat) : Int) = prodS (l1.map c91) := by
  obtain ⟨z0, z1, z2, z3, z4, z5⟩ := z32 hck
  have := prodN_eq (l1.map c91) (fun e h => (z4.sizes e h).1)
  omega
theorem Many_f0 (k : Nat) (n : Int) (l1 : List S91) (l2 : List S94) (hck : checkS n (l1.map c91) (l2.map c94) = 0) (hk : 7 ≤ k) : pr_Many.f k n l1 l2 = some ((prodN (l1.map c91) : Nat) : Int) := by
  obtain ⟨z0, z1, z2, z3, z4, z5⟩ := z32 hck
  rw [Many_f k n l1 l2 z2 z4.sizes hk, (prodN_le hck).2]
  refine congrArg some ?_
  unfold mn
  rw [if_neg (by omega)]
section
variable (n : Int) (l1 : List S91) (l2 : List S94) (oss : List (List Int)) (w : Int) (hck : checkS n (l1.map c91) (l2.map c94) = 0) (ho : ∀ os ∈ oss, Small (l1.map c91) os) (hl : oss.length ≤ 2000) (hw : 0 ≤ w) (hw6 : w < 6)
include hck ho hl hw hw6
end
end Go.Proofs.Ytncaadckehikpaa.Q
namespace Go.Proofs.Ytncaadckehikpaa.Q
open Go.RowKit Go.Proofs.YtncaadckehikpaaW.PrintWords Go.Proofs.YtncaadckehikpaaW.PrintLast Go.Proofs.YtncaadckehikpaaW.PrintMore
attribute [local go_sem] z37 z36 max_two min_two   -- for this text's walks alone
set_option linter.unusedVariables false
set_option linter.unusedSimpArgs false
/-! ### pr_Bits: function 58 -/
def pr_Bits.l0 : Nat → Int → List Int → Int → Option (List Int)
 | 0, _, _, _ => none
 | k + 1, x0, x3, x4 => if 0 ≤ (IntKind.u64.wrap (x4)) then (if (shr .i64 x0 (IntKind.u64.wrap (x4))) > 0 then (if (Int.tmod (shr .i64 x0 (IntKind.u64.wrap (x4))) 2) = 1 then (if x3.length < 17592186044416 then (pr_Bits.l0 k x0 (x3 ++ [x4]) (wrap64 (x4 + 1))) else (none)) else (pr_Bits.l0 k x0 x3 (wrap64 (x4 + 1)))) else (some x3)) else (none)
def pr_Bits.f (k : Nat) (a0 : Int) : Option (List Int) := pr_Bits.l0 k a0 ([] : List Int) 0
theorem pr_Bits.mono_l : ∀ k, (∀ y0 y1 y2, LeO (pr_Bits.l0 k y0 y1 y2) (pr_Bits.l0 (k + 1) y0 y1 y2))
 | 0 => fun _ _ _ r h => by simp [pr_Bits.l0] at h
 | k + 1 => by
  have ih0 := pr_Bits.mono_l k
  ·intro y0 y1 y2
   unfold pr_Bits.l0
   repeat' first
   | (with_reducible exact ih0 _ _ _)
   | (with_reducible exact LeO.refl _)
   | (with_reducible exact LeO.none _)
   | (with_reducible refine LeO.ite ?_ ?_)
   | (with_reducible refine LeO.bind ?_ (fun _ => ?_))
   | exact ih0 _ _ _
   | exact LeO.none _
   | refine LeO.ite ?_ ?_
   | refine LeO.bind ?_ (fun _ => ?_)
theorem pr_Bits.mono : ∀ a0 k, LeO (pr_Bits.f k a0) (pr_Bits.f (k + 1) a0) := by
 intro a0 k
 have ih0 := pr_Bits.mono_l k
 unfold pr_Bits.f
 repeat' first
   | (with_reducible exact ih0 _ _ _)
   | (with_reducible exact LeO.refl _)
   | (with_reducible exact LeO.none _)
   | (with_reducible refine LeO.ite ?_ ?_)
   | (with_reducible refine LeO.bind ?_ (fun _ => ?_))
   | exact ih0 _ _ _
   | exact LeO.none _
   | refine LeO.ite ?_ ?_
   | refine LeO.bind ?_ (fun _ => ?_)
set_option maxHeartbeats 8000000 in
set_option maxRecDepth 100000 in
theorem pr_Bits.calls (k : Nat) (a0 : Int) (r : List Int) (w : World) (h : pr_Bits.f k a0 = some r) :
  Calls Try.prog 58 #[.int .i64 a0] w fun e w' => ∃ v0_ : Value, e = .returned (v0_) ∧ Kd.R (Kd.int .i64) 3 w' w.heap.size (fun _ => True) v0_ r ∧ Below w.heap.size w w' := by
 have HB := mkA (Below.refl w.heap.size w)
 have H : (pr_Bits.l0 k a0 ([] : List Int) 0) = some r := h
 clear h
 have H' := mkA H
 clear H
 go_enter Try.func58, Try.ntmps58
 go_wp2
 go_loopg [3, 4] k (fun kq v3 v4 w' => ∃ (x3_1 : List Int) (x4_1 : Int), v4 = .int .i64 x4_1 ∧ Aside0 (pr_Bits.l0 kq a0 x3_1 x4_1 = some r) ∧ Aside0 (kq ≤ k) ∧ Aside0 (Kd.R (Kd.int .i64) 3 w' w.heap.size (fun _ => True) v3 x3_1) ∧ Aside0 (Below w.heap.size w w'))
 case atStart => exact ⟨(([] : List Int)), (0), (by first | rfl | (simp; done) | (simp [*]; done)), H', ⟨Nat.le_refl _⟩, ⟨by first | exact Kd.R_nil _ _ _ _ _ | exact Kd.N_nil _ _ _ _ _ | exact Kd.V_nil _ _ _ _ _ | exact Kd.Q_nil _ _ _ _ _ | exact Kd.S_nil _ _ _ _ _⟩, ⟨by repeat (first | (with_reducible first | exact HB.out | apply z10 | apply z11 | apply z12) | exact HB.out)⟩⟩
 case round =>
  clear H'
  obtain ⟨x3_1, x4_1, rfl, HA, HK1, HO_3, HB⟩ := hrel
  cases gk with
  | zero => exact absurd HA.out (by simp [pr_Bits.l0])
  | succ k1 =>
   have H := HA.out
   clear HA
   simp only [pr_Bits.l0] at H
   obtain ⟨ji2, hji2⟩ : ∃ j_ : Int, (IntKind.u64.wrap (x4_1)) = j_ := ⟨_, rfl⟩
   replace H : (if 0 ≤ (ji2) then (if (shr .i64 a0 (ji2)) > 0 then (if (Int.tmod (shr .i64 a0 (ji2)) 2) = 1 then (if x3_1.length < 17592186044416 then (pr_Bits.l0 k1 a0 (x3_1 ++ [x4_1]) (wrap64 (x4_1 + 1))) else (none)) else (pr_Bits.l0 k1 a0 x3_1 (wrap64 (x4_1 + 1)))) else (some x3_1)) else (none)) = some r := by first | (rw [hji2] at H; exact H) | (simp only [hji2] at H ⊢; exact H)
   by_cases c3 : 0 ≤ (ji2)
   ·rw [if_pos c3] at H
    have c3b0 := eq_true c3
    have c3b1 : decide (0 ≤ (ji2)) = true := decide_eq_true c3
    clear c3
    obtain ⟨ji4, hji4⟩ : ∃ j_ : Int, (shr .i64 a0 (ji2)) = j_ := ⟨_, rfl⟩
    replace H : (if (ji4) > 0 then (if (Int.tmod (ji4) 2) = 1 then (if x3_1.length < 17592186044416 then (pr_Bits.l0 k1 a0 (x3_1 ++ [x4_1]) (wrap64 (x4_1 + 1))) else (none)) else (pr_Bits.l0 k1 a0 x3_1 (wrap64 (x4_1 + 1)))) else (some x3_1)) = some r := by first | (rw [hji4] at H; exact H) | (simp only [hji4] at H ⊢; exact H)
    have hji4_ : (a0 / 2 ^ min (ji2).toNat 64) = ji4 := hji4
    have hji4z : (ji2) ≤ 64 → (a0 / 2 ^ (ji2).toNat) = ji4 := shr_small hji4
    by_cases c5 : (ji4) > 0
    ·rw [if_pos c5] at H
     have c5b0 : decide (0 < (ji4)) = true := decide_eq_true c5
     clear c5
     have c6b0 := eq_true (of_decide_eq_true (by first | (with_reducible assumption) | assumption) : 0 ≤ (ji2))
     have c7b0 := eq_true (of_decide_eq_true (by first | (with_reducible assumption) | assumption) :  0 < ji4)
     by_cases c8 : (Int.tmod (ji4) 2) = 1
     ·rw [if_pos c8] at H
      have c8b0 : ((Int.tmod (ji4) 2) == 1) = true := beq_iff_eq.mpr c8
      have c8b1 : ((Int.tmod (ji4) 2) != 1) = false := bne_eq_false_iff_eq.mpr c8
      clear c8
      by_cases c9 : x3_1.length < 17592186044416
      ·rw [if_pos c9] at H
       have LMc9 := mkA c9
       clear c9
       obtain ⟨y271, hy271⟩ : ∃ y_ : List Int, y_ = (x3_1 ++ [x4_1]) := ⟨_, rfl⟩
       replace H : (pr_Bits.l0 k1 a0 y271 (wrap64 (x4_1 + 1))) = some r := by first | (rw [hy271]; with_reducible exact H) | (have H2_ := (Option.bind_some _ _).symm.trans H; rw [hy271]; with_reducible exact H2_) | (have H2_ := (Option.bind_some _ _).symm.trans H; with_reducible exact H2_) | with_reducible exact H | (rw [hy271]; exact H) | exact H
       have Ny271 := mkA hy271
       clear hy271
       have H' := mkA H
       clear H
       go_wp2_with (first | ((with_reducible refine z39 (b := .append) (xs := #[.tmp 18, .tmp 20]) rfl ?_); at_builtin; refine Kd.R_append (Kd.int .i64) (w0 := w) w.heap.size rfl (.tmp 18) (.tmp 20) 37 3 (.int .i64 0) 8 rfl Try.underlying37 info3 rfl (by decide) (by omega) u3 x3_1 x4_1 [.int .i64 x4_1] (fun _ => True) (fun _ => False) rfl rfl ?aP (fun _ hk => hk.elim) ?aF ?aO ?aB ?aS ?aL ?_; (case aP => exact rfl); (case aB => exact (by repeat (first | (with_reducible first | exact HB.out | apply z10 | apply z11 | apply z12) | exact HB.out))); (case aF => exact (fun _ _ => trivial)); (case aO => exact (by (with_reducible repeat (first | apply Kd.R_alloc | apply Kd.R_drewN | apply Kd.R_drew)); exact HO_3.out)); (case aS => exact (z18 (by repeat (first | (with_reducible first | exact HB.out | apply z10 | apply z11 | apply z12) | exact HB.out)))); (case aL => have := LMc9.out; omega); intro v272 w10 ho hb hg hat; rw [← Ny271.out] at ho; have n0_ := mkA (hb); have n1_ := mkA (ho); clear HB; clear HO_3; have HB := n0_; have HO273 := n1_; clear n0_ n1_; clear ho hb hg hat))
       go_roundg k1
       case measure => have := HK1.out; omega
       case rel => exact ⟨(y271), (wrap64 (x4_1 + 1)), (by first | rfl | (simp; done) | (simp [*]; done)), H', ⟨by have := HK1.out; omega⟩, ⟨by (with_reducible repeat (first | apply Kd.R_alloc | apply Kd.R_drewN | apply Kd.R_drew)); exact HO273.out⟩, ⟨by repeat (first | (with_reducible first | exact HB.out | apply z10 | apply z11 | apply z12) | exact HB.out)⟩⟩
      ·rw [if_neg c9] at H
       exact absurd H (by simp)
     ·rw [if_neg c8] at H
      have c8b0 : ((Int.tmod (ji4) 2) == 1) = false := beq_eq_false_iff_ne.mpr c8
      have c8b1 : ((Int.tmod (ji4) 2) != 1) = true := bne_iff_ne.mpr c8
      have H' := mkA H
      clear H
      go_wp2
      go_roundg k1
      case measure => have := HK1.out; omega
      case rel => exact ⟨(x3_1), (wrap64 (x4_1 + 1)), (by first | rfl | (simp; done) | (simp [*]; done)), H', ⟨by have := HK1.out; omega⟩, ⟨by (with_reducible repeat (first | apply Kd.R_alloc | apply Kd.R_drewN | apply Kd.R_drew)); exact HO_3.out⟩, ⟨by repeat (first | (with_reducible first | exact HB.out | apply z10 | apply z11 | apply z12) | exact HB.out)⟩⟩
    ·rw [if_neg c5] at H
     have c5b0 : decide (0 < (ji4)) = false := decide_eq_false c5
     clear c5
     obtain rfl := Option.some.inj H
     go_wp2
     go_ret
     exact ⟨_, by first | rfl | (simp [z20, z19] <;> rfl) | (simp only [← hji2, ← hji4]; first | rfl | (simp [z20, z19] <;> rfl)) | (simp [*, z20, z19] <;> rfl), by (with_reducible repeat (first | apply Kd.R_alloc | apply Kd.R_drewN | apply Kd.R_drew)); exact HO_3.out, by repeat (first | (with_reducible first | exact HB.out | apply z10 | apply z11 | apply z12) | exact HB.out)⟩
   ·rw [if_neg c3] at H
    exact absurd H (by simp)
/-! ### pr_Together: function 82 -/
def pr_Together.l0 : Nat → List Int → Int → List Int → Int → Int → List (S91) → List (S94) → Option (Int)
 | 0, _, _, _, _, _, _, _ => none
 | k + 1, x1, x7, x8, x9, x275000, x275001, x275002 => if x9 < (x8.length : Int) then (if 0 ≤ x9 then ((pr_Owed.f k x275000 x275001 x275002 x1 (rd x8 x9)).bind fun t279 => (pr_Together.l0 k x1 (wrap64 (x7 + t279)) x8 (wrap64 (x9 + 1)) x275000 x275001 x275002)) else (none)) else (some x7)
def pr_Together.f (k : Nat) (a0_0 : Int) (l0_1 : List (S91)) (l0_2 : List (S94)) (l1 : List Int) (a2 : Int) : Option (Int) := (pr_Bits.f k a2).bind fun t275 => (pr_Together.l0 k l1 0 t275 0 a0_0 l0_1 l0_2)
end Go.Proofs.Ytncaadckehikpaa.Q
namespace Go.Proofs.Ytncaadckehikpaa.Q
open Go.RowKit Go.Proofs.YtncaadckehikpaaW.PrintWords Go.Proofs.YtncaadckehikpaaW.PrintLast Go.Proofs.YtncaadckehikpaaW.PrintMore
attribute [local go_sem] z37 z36 max_two min_two   -- for this text's walks alone
set_option linter.unusedVariables false
set_option linter.unusedSimpArgs false
/-! ### pr_Most: function 33 -/
mutual
def pr_Most.l0 : Nat → List Int → Int → Int → Int → Int → Int → List (S91) → List (S94) → Option (Int)
 | 0, _, _, _, _, _, _, _, _ => none
 | k + 1, x1, x2, x7, x8, x9, x281000, x281001, x281002 => if x9 > 0 then (if (Go.bits .and .i64 x9 x7) = 0 then (pr_Most.l0 k x1 x2 x7 x8 (Go.bits .and .i64 (wrap64 (x9 - 1)) x2) x281000 x281001 x281002) else ((pr_Together.f k x281000 x281001 x281002 x1 x9).bind fun t281 => (if t281 = 0 then ((pr_Most.f k x281000 x281001 x281002 x1 (Go.bits .andNot .i64 x2 x9)).bind fun t282 => (pr_Most.l0 k x1 x2 x7 (mx x8 (wrap64 (1 + t282))) (Go.bits .and .i64 (wrap64 (x9 - 1)) x2) x281000 x281001 x281002)) else (pr_Most.l0 k x1 x2 x7 x8 (Go.bits .and .i64 (wrap64 (x9 - 1)) x2) x281000 x281001 x281002)))) else (some x8)
def pr_Most.f : Nat → Int → List (S91) → List (S94) → List Int → Int → Option (Int)
 | 0, _, _, _, _, _ => none
 | k + 1, a0_0, l0_1, l0_2, l1, a2 => if a2 = 0 then (some 0) else (pr_Most.l0 k l1 a2 (Go.bits .and .i64 a2 (wrap64 (-a2))) 0 a2 a0_0 l0_1 l0_2)
end
end Go.Proofs.Ytncaadckehikpaa.Q
