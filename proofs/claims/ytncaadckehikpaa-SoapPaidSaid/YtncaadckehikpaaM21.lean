/- A part of the proof: contracts of functions and plain facts (HFewest, Q11, HRef2, HRef3, Q13, Q14, Q15, HMostRef, HPay0). No condition. -/
import Derived.Test.YtncaadckehikpaaM20
import Derived.Test.YtncaadckehikpaaM3
import Derived.Test.YtncaadckehikpaaM13
import Derived.Test.YtncaadckehikpaaM14
import Derived.Test.YtncaadckehikpaaM16
import Derived.Test.YtncaadckehikpaaM8
import Derived.Test.YtncaadckehikpaaM10
import Derived.Test.YtncaadckehikpaaM18
namespace Go.Proofs.Ytncaadckehikpaa.Q
open Go.RowKit Go.Proofs.YtncaadckehikpaaW.PrintWords Go.Proofs.YtncaadckehikpaaW.PrintLast Go.Proofs.YtncaadckehikpaaW.PrintMore
set_option linter.unusedVariables false
set_option linter.unusedSimpArgs false
def soap_Fewest.f (a0_0 : Int) (l0_1 : List (S122)) (l0_2 : List (S124)) : Option (Int × Int × Int) :=
  some (if askErr a0_0 l0_1 l0_2 = 0 then ((bndL ((truthsL l0_1 l0_2).map payN)).1, (bndL ((truthsL l0_1 l0_2).map payN)).2, 0) else (0, 0, askErr a0_0 l0_1 l0_2))
/-- What a woman is owed in a truth. -/
theorem truths_small {n : Int} {l1 : List S122} {l2 : List S124} (hck : checkS n l1 l2 = 0) (oss : List (List Int)) (hf : ∀ os ∈ oss, os.length = l1.length ∧ FitTo l1 os l1.length) : ∀ v ∈ askedL l1 l2 oss, ∀ j, -480 ≤ rd v j ∧ rd v j ≤ 480 := by
  have hone : ∀ os, os.length = l1.length ∧ FitTo l1 os l1.length → ∀ j, -480 ≤ rd (owedL l1 os) j ∧ rd (owedL l1 os) j ≤ 480 := by
    intro os h
    obtain ⟨z0, z1, z2, z3, z4, z5, z6⟩ := z29 hck
    have hvb := owedTo_bd l1 os (fun i q0 q1 => by
      have he := z48 hck i q0 q1
      have h2 := h.2 i q0 q1
      omega) l1.length (Nat.le_refl _)
    intro j
    have := hvb j
    unfold owedL
    omega
  have h : ∀ (oss : List (List Int)) (acc : List (List Int)), (∀ os ∈ oss, os.length = l1.length ∧ FitTo l1 os l1.length) → (∀ v ∈ acc, ∀ j, -480 ≤ rd v j ∧ rd v j ≤ 480) → ∀ v ∈ oss.foldl (askStep l1 l2) acc, ∀ j, -480 ≤ rd v j ∧ rd v j ≤ 480 := by
    intro oss
    induction oss with
    | nil => exact fun acc _ h => h
    | cons o r ih =>
      intro acc hr ha
      refine ih _ (fun os h => hr os (by simp [h])) ?_
      unfold askStep
      split
      · intro v hv
        rcases List.mem_append.1 hv with h1 | h1
        · exact ha v h1
        · simp at h1
          rw [h1]
          exact hone o (hr o (by simp))
      · exact ha
  exact h oss [] hf (by simp)
/-- All ounces that are listed fit. -/
theorem enumO_fit (l1 : List S122) : ∀ (es : List S122) (p : List Int), l1.drop p.length = es → (p.length ≤ l1.length) → FitTo l1 p p.length → ∀ os ∈ enumO p es, os.length = l1.length ∧ FitTo l1 os l1.length
  | [], p, hd, hl, hf => by
    intro os ho
    simp [enumO] at ho
    subst ho
    have : os.length = l1.length := by
      have := congrArg List.length hd
      simp at this
      omega
    exact ⟨this, by rw [← this]; exact hf⟩
  | e :: es, p, hd, hl, hf => by
    intro os ho
    simp only [enumO, List.mem_flatMap, List.mem_range] at ho
    obtain ⟨k, hk, hm⟩ := ho
    have hlt : p.length < l1.length := by
      rcases Nat.lt_or_ge p.length l1.length with h | h
      · exact h
      · rw [List.drop_eq_nil_of_le h] at hd; cases hd
    rw [List.drop_eq_getElem_cons hlt] at hd
    injection hd with he hd
    refine enumO_fit l1 es (p ++ [e.f2.f0 + (k : Int)]) (by simpa using hd) (by simp; omega) ?_ os hm
    intro j j0 j1
    simp at j1
    have hre : rd_T122 l1 (p.length : Int) = e := by rw [← he]; simp [rd_T122, List.getD, hlt]
    by_cases hj : j = p.length
    · subst hj
      rw [hre]
      have : rd (p ++ [e.f2.f0 + (k : Int)]) (p.length : Int) = e.f2.f0 + k := by simp [rd, List.getD]
      rw [this]
      unfold spanN at hk
      omega
    · have hr : rd (p ++ [e.f2.f0 + (k : Int)]) j = rd p j := by
        simp [rd, List.getD, List.getElem?_append_left (show j.toNat < p.length by omega)]
      rw [hr]
      exact hf j j0 (by omega)
set_option maxHeartbeats 4000000 in
set_option maxRecDepth 100000 in
theorem soap_Fewest.calls (a0_0 : Int) (A0_1 : Option Addr) (c0_1 : Nat) (l0_1 : List (S122)) (A0_2 : Option Addr) (c0_2 : Nat) (l0_2 : List (S124)) (r1 r2 r3 : Int) (w : World) (hr0_1 : Kd.C k122 w A0_1 l0_1.length l0_1) (hc0_1 : l0_1.length ≤ c0_1) (hr0_2 : Kd.C k124 w A0_2 l0_2.length l0_2) (hc0_2 : l0_2.length ≤ c0_2) (h : soap_Fewest.f a0_0 l0_1 l0_2 = some (r1, r2, r3)) :
    Calls Try.prog 37 #[.agg #[.int .i64 a0_0, .slice A0_1 l0_1.length c0_1, .slice A0_2 l0_2.length c0_2]] w fun e w' => e = .returned (.tuple #[.agg #[.int .i64 r1, .int .i64 r2], .int .i64 r3]) ∧ Below w.heap.size w w' := by
  have hu35 := Try.underlying35
  have hu44 := Try.underlying44
  have h2 := Option.some.inj h
  clear h
  obtain ⟨wa, hwa⟩ : ∃ wa, (w.alloc (.cells #[.int .i64 a0_0, .slice A0_1 l0_1.length c0_1, .slice A0_2 l0_2.length c0_2] 35)).alloc (.cells #[.int .i64 0, .int .i64 0] 44) = wa := ⟨_, rfl⟩
  have hbw : Below w.heap.size w wa := by rw [← hwa]; exact z10 (z10 (Below.refl _ _) _) _
  have HAS := mkA (asked_calls a0_0 A0_1 c0_1 l0_1 A0_2 c0_2 l0_2 wa (Kd.C_below hr0_1 hbw) hc0_1 (Kd.C_below hr0_2 hbw) hc0_2)
  have HBW := mkA hbw
  have HC0 := mkA (show wa.heap[w.heap.size + 1]? = some (.cells #[.int .i64 0, .int .i64 0] 44 (0, 0)) from by rw [← hwa]; simpa using z19 (w.alloc _) (.cells #[.int .i64 0, .int .i64 0] 44))
  have hwz : wa.heap.size = w.heap.size + 2 := by rw [← hwa]; simp
  have hsl : wa.heap[w.heap.size]? = some (.cells #[.int .i64 a0_0, .slice A0_1 l0_1.length c0_1, .slice A0_2 l0_2.length c0_2] 35 (0, 0)) := by rw [← hwa]; exact blk_below (z19 w _) (z10 (Below.refl _ _) _)
  have hs0 : wa.cell? ⟨w.heap.size, 0, none⟩ = some (.int .i64 a0_0) := (z13 hsl 0).trans rfl
  have hs1 : wa.cell? ⟨w.heap.size, 1, none⟩ = some (.slice A0_1 l0_1.length c0_1) := (z13 hsl 1).trans rfl
  have hs2 : wa.cell? ⟨w.heap.size, 2, none⟩ = some (.slice A0_2 l0_2.length c0_2) := (z13 hsl 2).trans rfl
  clear hbw hr0_1 hr0_2 hsl
  go_enter Try.func37, Try.ntmps37
  go_wp2_with fail
  clear hwa hs0 hs1 hs2
  refine HAS.out.mono ?_
  rintro e w1 ⟨hb, hcase⟩
  have HB1 := mkA (z16 HBW.out hb)
  have hq1 := blk_below HC0.out hb
  have hc0 : w1.cell? ⟨w.heap.size + 1, 0, none⟩ = some (.int .i64 0) := (z13 hq1 0).trans rfl
  have hc1 : w1.cell? ⟨w.heap.size + 1, 1, none⟩ = some (.int .i64 0) := (z13 hq1 1).trans rfl
  have hf0 : w1.frozen? ⟨w.heap.size + 1, 0, none⟩ = false := z14 hq1 _
  have hf1 : w1.frozen? ⟨w.heap.size + 1, 1, none⟩ = false := z14 hq1 _
  have HQ1 := mkA hq1
  have hsa := hb.size
  clear hb HAS hq1
  rcases hcase with ⟨hck, rfl⟩ | ⟨hck, hem, rfl⟩ | ⟨hck, hne, qb, v, gs, mbs, rfl, hq, hR, hP⟩
  · have hE : askErr a0_0 l0_1 l0_2 = checkS a0_0 l0_1 l0_2 := by unfold askErr; rw [if_neg hck]
    rw [hE, if_neg hck] at h2
    obtain ⟨rfl, h3⟩ := Prod.mk.inj h2
    obtain ⟨rfl, rfl⟩ := Prod.mk.inj h3
    generalize hqq : checkS a0_0 l0_1 l0_2 = q at hck ⊢
    have HQQ := mkA hqq
    have g1 : (q != 0) = true := bne_iff_ne.2 hck
    clear h2 h3 hck hE hqq
    go_wp2
    rw [z27 hc0, z27 hc1]
    exact bodyPost_ret (v := .tuple #[.agg #[.int .i64 0, .int .i64 0], .int .i64 q]) (by simp [results, Try.results37, go_sem, hc0, hc1]) rfl ⟨by rw [HQQ.out], HB1.out⟩
  · have hE : askErr a0_0 l0_1 l0_2 = 11 := by unfold askErr; rw [if_pos hck, if_pos hem]
    rw [hE, if_neg (by decide)] at h2
    obtain ⟨rfl, h3⟩ := Prod.mk.inj h2
    obtain ⟨rfl, rfl⟩ := Prod.mk.inj h3
    clear h2 h3 hck hE hem
    go_wp2
    rw [z27 hc0, z27 hc1]
    exact bodyPost_ret (v := .tuple #[.agg #[.int .i64 0, .int .i64 0], .int .i64 11]) (by simp [results, Try.results37, go_sem, hc0, hc1]) rfl ⟨rfl, HB1.out⟩
  · have hE : askErr a0_0 l0_1 l0_2 = 0 := by unfold askErr; rw [if_pos hck, if_neg hne]
    rw [hE, if_pos rfl] at h2
    obtain ⟨rfl, h3⟩ := Prod.mk.inj h2
    obtain ⟨rfl, rfl⟩ := Prod.mk.inj h3
    have hvl : ((askedL l0_1 l0_2 (enumO [] l0_1)).length : Int) ≤ 140737488355328 := by
      have t1 := askedL_len l0_1 l0_2 (enumO [] l0_1) []
      have t2 := enumO_bound hck
      unfold askedL
      simp only [List.length_nil, Nat.zero_add] at t1
      omega
    have hsm := truths_small hck (enumO [] l0_1) (enumO_fit l0_1 l0_1 [] rfl (by simp) (fun j j0 j1 => by simp at j1; omega))
    generalize hvv : askedL l0_1 l0_2 (enumO [] l0_1) = vs at hP hvl hsm ⊢
    have HVV := mkA hvv
    have HBC := mkA (bounds83_calls payN 0 wa.heap.size qb _ _ _ v gs mbs vs w1 (fun g mb u W hu hp hm => (payments_calls g mb u 0 W (fun j => by have := hsm u hu j; omega) (fun e => by
      obtain ⟨es, cl, h5, _⟩ := hm
      rw [← e, show W.heap[g]? = _ from hp] at h5
      cases h5) hp hm)) hq hR hP hvl hsa)
    have HP := mkA hP
    clear h2 h3 hck hE hne hq hR hP hvv hsm hc0 hc1 hf0 hf1
    generalize hx : (bndL (vs.map payN)).1 = lo at HBC
    generalize hy : (bndL (vs.map payN)).2 = hi at HBC
    have HX := mkA hx
    have HY := mkA hy
    clear hx hy
    go_wp2_with fail
    refine HBC.out.mono ?_
    rintro e w4 ⟨rfl, hm, hp4⟩
    have hb4 : Below wa.heap.size w1 w4 := hm.below hsa HP.out.mems
    have HB4 := mkA (HB1.out.trans (hb4.mono (by omega)))
    have hq4 := (hb4.block (w.heap.size + 1) (by omega)).trans HQ1.out
    have hc0 : w4.cell? ⟨w.heap.size + 1, 0, none⟩ = some (.int .i64 0) := (z13 hq4 0).trans rfl
    have hc1 : w4.cell? ⟨w.heap.size + 1, 1, none⟩ = some (.int .i64 0) := (z13 hq4 1).trans rfl
    have hf0 : w4.frozen? ⟨w.heap.size + 1, 0, none⟩ = false := z14 hq4 _
    have hf1 : w4.frozen? ⟨w.heap.size + 1, 1, none⟩ = false := z14 hq4 _
    have HQ4 := mkA hq4
    clear hm hp4 hb4 hq4 HBC
    go_wp2
    have he : ((w4.setCell ⟨w.heap.size + 1, 0, none⟩ (.int .i64 lo)).setCell ⟨w.heap.size + 1, 1, none⟩ (.int .i64 hi)).heap[w.heap.size + 1]? = some (.cells #[.int .i64 lo, .int .i64 hi] 44 (0, 0)) := by
      simp [World.setCell, Array.getElem?_modify, HQ4.out]
    have e0 : ((w4.setCell ⟨w.heap.size + 1, 0, none⟩ (.int .i64 lo)).setCell ⟨w.heap.size + 1, 1, none⟩ (.int .i64 hi)).cell? ⟨w.heap.size + 1, 0, none⟩ = some (.int .i64 lo) := (z13 he 0).trans rfl
    have e1 : ((w4.setCell ⟨w.heap.size + 1, 0, none⟩ (.int .i64 lo)).setCell ⟨w.heap.size + 1, 1, none⟩ (.int .i64 hi)).cell? ⟨w.heap.size + 1, 1, none⟩ = some (.int .i64 hi) := (z13 he 1).trans rfl
    refine bodyPost_ret (v := .tuple #[.agg #[.int .i64 lo, .int .i64 hi], .int .i64 0]) ?_ rfl ⟨by unfold truthsL; rw [HVV.out, HX.out, HY.out], z15 (z15 HB4.out (by simp)) (by simp)⟩
    simp [results, Try.results37, go_sem, e0, e1]
end Go.Proofs.Ytncaadckehikpaa.Q
namespace Go.Proofs.Ytncaadckehikpaa.Q
open Go.RowKit Go.Proofs.YtncaadckehikpaaW.PrintWords Go.Proofs.YtncaadckehikpaaW.PrintLast Go.Proofs.YtncaadckehikpaaW.PrintMore
attribute [local go_sem] z37 z36 max_two min_two   -- for this text's walks alone
set_option linter.unusedVariables false
set_option linter.unusedSimpArgs false
/-! ### pr_Bounds: function 27 -/
def pr_Bounds.l0 : Nat → List (List Int) → Int → Int → Int → List (S91) → List (S94) → Int → Int → Option (Int × Int)
 | 0, _, _, _, _, _, _, _, _ => none
 | k + 1, x1, x2, x8, x212000, x212001, x212002, x216000, x216001 => if x8 < (x1.length : Int) then (if 0 ≤ x8 then ((pr_Owed.f k x212000 x212001 x212002 (rd_L4 x1 x8) x2).bind fun t217 => ((pr_Wider.f x216000 x216001 t217).bind fun bt218 => (pr_Bounds.l0 k x1 x2 (wrap64 (x8 + 1)) x212000 x212001 x212002 bt218.1 bt218.2))) else (none)) else (some (x216000, x216001))
def pr_Bounds.f (k : Nat) (a0_0 : Int) (l0_1 : List (S91)) (l0_2 : List (S94)) (l1 : List (List Int)) (a2 : Int) : Option (Int × Int) := (pr_Empty.f).bind fun bt213 => (pr_Bounds.l0 k l1 a2 0 a0_0 l0_1 l0_2 bt213.1 bt213.2)
/-! ### pr_Owes: function 28 -/
def pr_Owes.l0 : Nat → List (List Int) → Int → Int → Int → Int → List (S91) → List (S94) → Option (Int)
 | 0, _, _, _, _, _, _, _ => none
 | k + 1, x1, x2, x7, x8, x221000, x221001, x221002 => if x8 < (x1.length : Int) then (if 0 ≤ x8 then ((pr_Owed.f k x221000 x221001 x221002 (rd_L4 x1 x8) x2).bind fun t222 => (if t222 < 0 then (pr_Owes.l0 k x1 x2 (wrap64 (x7 + 1)) (wrap64 (x8 + 1)) x221000 x221001 x221002) else (pr_Owes.l0 k x1 x2 x7 (wrap64 (x8 + 1)) x221000 x221001 x221002))) else (none)) else (if x7 = (x1.length : Int) then (some 1) else (if x7 = 0 then (some 2) else (some 3)))
def pr_Owes.f (k : Nat) (a0_0 : Int) (l0_1 : List (S91)) (l0_2 : List (S94)) (l1 : List (List Int)) (a2 : Int) : Option (Int) := pr_Owes.l0 k l1 a2 0 0 a0_0 l0_1 l0_2
end Go.Proofs.Ytncaadckehikpaa.Q
namespace Go.Proofs.Ytncaadckehikpaa.Q
open Go.RowKit Go.Proofs.YtncaadckehikpaaW.PrintWords Go.Proofs.YtncaadckehikpaaW.PrintLast Go.Proofs.YtncaadckehikpaaW.PrintMore
set_option linter.unusedVariables false
set_option linter.unusedSimpArgs false
theorem z33 {n : Int} {l1 : List S91} {l2 : List S94} (h : checkS n (l1.map c91) (l2.map c94) = 0) : 0 ≤ n ∧ n ≤ 6 ∧ l1.length ≤ 6 ∧ l2.length ≤ 5 ∧ EntOk n l1 ∧ prodS (l1.map c91) ≤ 2000 := by
  obtain ⟨z0, z1, z2, z3, z4, z5, z6⟩ := z29 h
  rw [List.length_map] at z2 z3
  have he : EntOk n l1 := fun e he => List.all_eq_true.1 z4 e he
  rw [manyS_eq _ (fun e h => (he.sizes e h).1)] at z6
  refine ⟨z0, z1, z2, z3, he, ?_⟩
  unfold mn at z6
  split at z6 <;> omega
/-- Ounces of at most 40. -/
def Small (l : List S122) (os : List Int) : Prop := os.length = l.length ∧ ∀ i : Int, 0 ≤ i → i < l.length → 0 ≤ rd os i ∧ rd os i ≤ 40
theorem owedTo_step (l : List S122) (os : List Int) (i : Nat) (w : Int) (h0 : 0 ≤ (rd_T122 l i).f0) (h1 : (rd_T122 l i).f0 < 6) (h2 : 0 ≤ (rd_T122 l i).f1) (h3 : (rd_T122 l i).f1 < 6) (hne : (rd_T122 l i).f0 ≠ (rd_T122 l i).f1) (hw : 0 ≤ w) (hw6 : w < 6) :
    rd (owedTo l os (i + 1)) w = if (rd_T122 l i).f0 = w then rd (owedTo l os i) w + rd os i else if (rd_T122 l i).f1 = w then rd (owedTo l os i) w - rd os i else rd (owedTo l os i) w := by
  simp only [owedTo]
  have hl := z34 l os i
  rw [rd_upd _ _ _ _ h2 (by rw [z43, hl]; omega) hw]
  by_cases a : w = (rd_T122 l i).f1
  · rw [if_pos a, if_neg (show ¬ (rd_T122 l i).f0 = w by omega), if_pos a.symm, rd_upd _ _ _ _ h0 (by rw [hl]; omega) h2, if_neg (by omega), a]
  · rw [if_neg a, rd_upd _ _ _ _ h0 (by rw [hl]; omega) hw]
    by_cases b : w = (rd_T122 l i).f0
    · rw [if_pos b, if_pos b.symm, b]
    · rw [if_neg b, if_neg (fun h => b h.symm), if_neg (fun h => a h.symm)]
theorem Owed_l0 (n : Int) (l1 : List S91) (l2 : List S94) (os : List Int) (w : Int) (hck : checkS n (l1.map c91) (l2.map c94) = 0) (ho : Small (l1.map c91) os) (hw : 0 ≤ w) (hw6 : w < 6) :
    ∀ (d k i : Nat), i + d = l1.length → d < k → pr_Owed.l0 k os w (rd (owedTo (l1.map c91) os i) w) i n l1 l2 = some (rd (owedL (l1.map c91) os) w)
  | 0, k + 1, i, hi, hk => by
    have hl : (l1.map c91).length = i := by rw [List.length_map]; omega
    rw [pr_Owed.l0, if_neg (by omega), owedL, hl]
  | d + 1, k + 1, i, hi, hk => by
    have hn : i < l1.length := by omega
    obtain ⟨z0, z1, z2, z3, z4, z5⟩ := z33 hck
    have he := z48 hck (i : Int) (by omega) (by rw [List.length_map]; omega)
    have hol := ho.1
    rw [List.length_map] at hol
    have hb := owedTo_bd (l1.map c91) os ho.2 i (by rw [List.length_map]; omega) w
    have hr := ho.2 (i : Int) (by omega) (by rw [List.length_map]; omega)
    have hst := owedTo_step (l1.map c91) os i w (by omega) (by omega) (by omega) (by omega) he.2.2.2.2.1 hw hw6
    have ih := Owed_l0 n l1 l2 os w hck ho hw hw6 d k (i + 1) (by omega) (by omega)
    rw [hst] at ih
    rw [rd_map91 l1 i hn] at ih he
    rw [pr_Owed.l0, if_pos (by omega), if_pos (by omega), w1 i (by omega)]
    have e0 : (c91 (rd_T91 l1 (i : Int))).f0 = (rd_T91 l1 (i : Int)).f0 := rfl
    have e1 : (c91 (rd_T91 l1 (i : Int))).f1 = (rd_T91 l1 (i : Int)).f1 := rfl
    rw [e0, e1] at ih
    rw [e0, e1] at he
    by_cases a : (rd_T91 l1 (i : Int)).f0 = w
    · rw [if_pos a, if_pos (by omega), if_neg (show ¬ (rd_T91 l1 (i : Int)).f1 = w by omega), show ∀ x y : Int, -1000 ≤ x → x ≤ 1000 → 0 ≤ y → y ≤ 40 → wrap64 (x + y) = x + y by intro x y q1 q2 q3 q4; unfold wrap64; omega]
      · rw [if_pos a] at ih; exact ih
      all_goals omega
    · rw [if_neg a] at ih ⊢
      by_cases b : (rd_T91 l1 (i : Int)).f1 = w
      · rw [if_pos b] at ih
        rw [if_pos b, if_pos (by omega), show ∀ x y : Int, -1000 ≤ x → x ≤ 1000 → 0 ≤ y → y ≤ 40 → wrap64 (x - y) = x - y by intro x y q1 q2 q3 q4; unfold wrap64; omega]
        · exact ih
        all_goals omega
      · rw [if_neg b] at ih ⊢
        exact ih
/-- What the reference says a woman is owed. -/
theorem Owed_f (k : Nat) (n : Int) (l1 : List S91) (l2 : List S94) (os : List Int) (w : Int) (hck : checkS n (l1.map c91) (l2.map c94) = 0) (ho : Small (l1.map c91) os) (hw : 0 ≤ w) (hw6 : w < 6) (hk : 7 ≤ k) :
    pr_Owed.f k n l1 l2 os w = some (rd (owedL (l1.map c91) os) w) := by
  have hl := (z33 hck).2.2.1
  have := Owed_l0 n l1 l2 os w hck ho hw hw6 l1.length k 0 (by omega) (by omega)
  have h0 : rd (owedTo (l1.map c91) os 0) w = 0 := by
    obtain ⟨m, rfl⟩ : ∃ m : Nat, w = m := ⟨w.toNat, by omega⟩
    unfold rd owedTo
    rw [Int.toNat_natCast]
    rcases m with _ | _ | _ | _ | _ | _ | m <;> simp [List.getD]
  rw [h0] at this
  exact this
end Go.Proofs.Ytncaadckehikpaa.Q
namespace Go.Proofs.Ytncaadckehikpaa.Q
open Go.RowKit Go.Proofs.YtncaadckehikpaaW.PrintWords Go.Proofs.YtncaadckehikpaaW.PrintLast Go.Proofs.YtncaadckehikpaaW.PrintMore
set_option linter.unusedVariables false
set_option linter.unusedSimpArgs false
theorem small_nth {n : Int} {l1 : List S122} {l2 : List S124} (hck : checkS n l1 l2 = 0) (m : Nat) (hm : m < prodN l1) : Small l1 (nthS l1 m) := by
  have h := enumO_fit l1 l1 [] rfl (by simp) (fun j h0 h1 => absurd h1 (by simp; omega)) (nthS l1 m) ((mem_enumO l1 [] _).2 ⟨m, hm, by simp⟩)
  refine ⟨h.1, fun i h0 h1 => ?_⟩
  have h2 := h.2 i h0 h1
  have h3 := z48 hck i h0 h1
  omega
theorem prodN_le {n : Int} {l1 : List S91} {l2 : List S94} (hck : checkS n (l1.map c91) (l2.map c94) = 0) : prodN (l1.map c91) ≤ 2000 ∧ ((prodN (l1.map c91) : Nat) : Int) = prodS (l1.map c91) := by
  obtain ⟨z0, z1, z2, z3, z4, z5⟩ := z33 hck
  have := prodN_eq (l1.map c91) (fun e h => (z4.sizes e h).1)
  omega
theorem Many_f0 (k : Nat) (n : Int) (l1 : List S91) (l2 : List S94) (hck : checkS n (l1.map c91) (l2.map c94) = 0) (hk : 7 ≤ k) : pr_Many.f k n l1 l2 = some ((prodN (l1.map c91) : Nat) : Int) := by
  obtain ⟨z0, z1, z2, z3, z4, z5⟩ := z33 hck
  rw [Many_f k n l1 l2 z2 z4.sizes hk, (prodN_le hck).2]
  refine congrArg some ?_
  unfold mn
  rw [if_neg (by omega)]
section
variable (n : Int) (l1 : List S91) (l2 : List S94) (oss : List (List Int)) (w : Int) (hck : checkS n (l1.map c91) (l2.map c94) = 0) (ho : ∀ os ∈ oss, Small (l1.map c91) os) (hl : oss.length ≤ 2000) (hw : 0 ≤ w) (hw6 : w < 6)
include hck ho hl hw hw6
end
end Go.Proofs.Ytncaadckehikpaa.Q
namespace Go.Proofs.Ytncaadckehikpaa.Q
open Go.RowKit Go.Proofs.YtncaadckehikpaaW.PrintWords Go.Proofs.YtncaadckehikpaaW.PrintLast Go.Proofs.YtncaadckehikpaaW.PrintMore
attribute [local go_sem] z37 z36 max_two min_two   -- for this text's walks alone
set_option linter.unusedVariables false
set_option linter.unusedSimpArgs false
/-! ### pr_Bits: function 58 -/
def pr_Bits.l0 : Nat → Int → List Int → Int → Option (List Int)
 | 0, _, _, _ => none
 | k + 1, x0, x3, x4 => if 0 ≤ (IntKind.u64.wrap (x4)) then (if (shr .i64 x0 (IntKind.u64.wrap (x4))) > 0 then (if (Int.tmod (shr .i64 x0 (IntKind.u64.wrap (x4))) 2) = 1 then (if x3.length < 17592186044416 then (pr_Bits.l0 k x0 (x3 ++ [x4]) (wrap64 (x4 + 1))) else (none)) else (pr_Bits.l0 k x0 x3 (wrap64 (x4 + 1)))) else (some x3)) else (none)
def pr_Bits.f (k : Nat) (a0 : Int) : Option (List Int) := pr_Bits.l0 k a0 ([] : List Int) 0
/-! ### pr_Together: function 82 -/
def pr_Together.l0 : Nat → List Int → Int → List Int → Int → Int → List (S91) → List (S94) → Option (Int)
 | 0, _, _, _, _, _, _, _ => none
 | k + 1, x1, x7, x8, x9, x275000, x275001, x275002 => if x9 < (x8.length : Int) then (if 0 ≤ x9 then ((pr_Owed.f k x275000 x275001 x275002 x1 (rd x8 x9)).bind fun t279 => (pr_Together.l0 k x1 (wrap64 (x7 + t279)) x8 (wrap64 (x9 + 1)) x275000 x275001 x275002)) else (none)) else (some x7)
def pr_Together.f (k : Nat) (a0_0 : Int) (l0_1 : List (S91)) (l0_2 : List (S94)) (l1 : List Int) (a2 : Int) : Option (Int) := (pr_Bits.f k a2).bind fun t275 => (pr_Together.l0 k l1 0 t275 0 a0_0 l0_1 l0_2)
end Go.Proofs.Ytncaadckehikpaa.Q
namespace Go.Proofs.Ytncaadckehikpaa.Q
open Go.RowKit Go.Proofs.YtncaadckehikpaaW.PrintWords Go.Proofs.YtncaadckehikpaaW.PrintLast Go.Proofs.YtncaadckehikpaaW.PrintMore
attribute [local go_sem] z37 z36 max_two min_two   -- for this text's walks alone
set_option linter.unusedVariables false
set_option linter.unusedSimpArgs false
/-! ### pr_Most: function 33 -/
mutual
def pr_Most.l0 : Nat → List Int → Int → Int → Int → Int → Int → List (S91) → List (S94) → Option (Int)
 | 0, _, _, _, _, _, _, _, _ => none
 | k + 1, x1, x2, x7, x8, x9, x281000, x281001, x281002 => if x9 > 0 then (if (Go.bits .and .i64 x9 x7) = 0 then (pr_Most.l0 k x1 x2 x7 x8 (Go.bits .and .i64 (wrap64 (x9 - 1)) x2) x281000 x281001 x281002) else ((pr_Together.f k x281000 x281001 x281002 x1 x9).bind fun t281 => (if t281 = 0 then ((pr_Most.f k x281000 x281001 x281002 x1 (Go.bits .andNot .i64 x2 x9)).bind fun t282 => (pr_Most.l0 k x1 x2 x7 (mx x8 (wrap64 (1 + t282))) (Go.bits .and .i64 (wrap64 (x9 - 1)) x2) x281000 x281001 x281002)) else (pr_Most.l0 k x1 x2 x7 x8 (Go.bits .and .i64 (wrap64 (x9 - 1)) x2) x281000 x281001 x281002)))) else (some x8)
def pr_Most.f : Nat → Int → List (S91) → List (S94) → List Int → Int → Option (Int)
 | 0, _, _, _, _, _ => none
 | k + 1, a0_0, l0_1, l0_2, l1, a2 => if a2 = 0 then (some 0) else (pr_Most.l0 k l1 a2 (Go.bits .and .i64 a2 (wrap64 (-a2))) 0 a2 a0_0 l0_1 l0_2)
end
end Go.Proofs.Ytncaadckehikpaa.Q
namespace Go.Proofs.Ytncaadckehikpaa.Q
open Go.RowKit Go.Proofs.YtncaadckehikpaaW.PrintWords Go.Proofs.YtncaadckehikpaaW.PrintLast Go.Proofs.YtncaadckehikpaaW.PrintMore
attribute [local go_sem] z37 z36 max_two min_two   -- for this text's walks alone
set_option linter.unusedVariables false
set_option linter.unusedSimpArgs false
/-! ### pr_Open: function 34 -/
def pr_Open.l0 : Nat → List Int → Int → Int → Int → List (S91) → List (S94) → Option (Int)
 | 0, _, _, _, _, _, _ => none
 | k + 1, x1, x5, x6, x284000, x284001, x284002 => if x6 < x284000 then ((pr_Owed.f k x284000 x284001 x284002 x1 x6).bind fun t284 => (if t284 = 0 then (pr_Open.l0 k x1 x5 (wrap64 (x6 + 1)) x284000 x284001 x284002) else (if 0 ≤ (IntKind.u64.wrap (x6)) then (pr_Open.l0 k x1 (Go.bits .or .i64 x5 (shl .i64 1 (IntKind.u64.wrap (x6)))) (wrap64 (x6 + 1)) x284000 x284001 x284002) else (none)))) else (some x5)
def pr_Open.f (k : Nat) (a0_0 : Int) (l0_1 : List (S91)) (l0_2 : List (S94)) (l1 : List Int) : Option (Int) := pr_Open.l0 k l1 0 0 a0_0 l0_1 l0_2
/-! ### pr_Payments: function 55 -/
def pr_Payments.f (k : Nat) (a0_0 : Int) (l0_1 : List (S91)) (l0_2 : List (S94)) (l1 : List Int) : Option (Int) := (pr_Open.f k a0_0 l0_1 l0_2 l1).bind fun t321 => ((pr_Bits.f k t321).bind fun t322 => ((pr_Most.f k a0_0 l0_1 l0_2 l1 t321).bind fun t325 => (some (wrap64 ((t322.length : Int) - t325)))))
/-! ### pr_Fewest: function 38 -/
def pr_Fewest.l0 : Nat → List (List Int) → Int → Int → List (S91) → List (S94) → Int → Int → Option (Int × Int)
 | 0, _, _, _, _, _, _, _ => none
 | k + 1, x1, x6, x327000, x327001, x327002, x331000, x331001 => if x6 < (x1.length : Int) then (if 0 ≤ x6 then ((pr_Payments.f k x327000 x327001 x327002 (rd_L4 x1 x6)).bind fun t332 => ((pr_Wider.f x331000 x331001 t332).bind fun bt333 => (pr_Fewest.l0 k x1 (wrap64 (x6 + 1)) x327000 x327001 x327002 bt333.1 bt333.2))) else (none)) else (some (x331000, x331001))
def pr_Fewest.f (k : Nat) (a0_0 : Int) (l0_1 : List (S91)) (l0_2 : List (S94)) (l1 : List (List Int)) : Option (Int × Int) := (pr_Empty.f).bind fun bt328 => (pr_Fewest.l0 k l1 0 a0_0 l0_1 l0_2 bt328.1 bt328.2)
end Go.Proofs.Ytncaadckehikpaa.Q
namespace Go.Proofs.Ytncaadckehikpaa.Q
open Go.RowKit Go.Proofs.YtncaadckehikpaaW.PrintWords Go.Proofs.YtncaadckehikpaaW.PrintLast Go.Proofs.YtncaadckehikpaaW.PrintMore
set_option linter.unusedVariables false
set_option linter.unusedSimpArgs false
/-- Some women are among others. -/
def SubB (a b : Nat) : Prop := ∀ i, i < 6 → bitN a i = true → bitN b i = true
theorem SubB.trans {a b c : Nat} (h : SubB a b) (k : SubB b c) : SubB a c := fun i hi q => k i hi (h i hi q)
theorem SubB.refl (a : Nat) : SubB a a := fun _ _ h => h
set_option maxRecDepth 100000 in
theorem bit_sub_all : ∀ a : Fin 64, ∀ b : Fin 64, (∀ i : Fin 6, bitN a.val i.val = true → bitN b.val i.val = true) → a.val ≤ b.val ∧ (a.val = b.val ∨ ∃ i : Fin 6, bitN b.val i.val = true ∧ bitN a.val i.val = false) ∧ ∀ i : Fin 6, bitN (b.val - a.val) i.val = (bitN b.val i.val && !bitN a.val i.val) := by decide +kernel
theorem bit_sub {a b : Nat} (ha : a < 64) (hb : b < 64) (h : SubB a b) : a ≤ b ∧ (a = b ∨ ∃ i, i < 6 ∧ bitN b i = true ∧ bitN a i = false) ∧ ∀ i, i < 6 → bitN (b - a) i = (bitN b i && !bitN a i) := by
  obtain ⟨h1, h2, h3⟩ := bit_sub_all ⟨a, ha⟩ ⟨b, hb⟩ (fun i q => h i.val i.isLt q)
  exact ⟨h1, h2.imp id (fun ⟨i, q⟩ => ⟨i.val, i.isLt, q⟩), fun i hi => h3 ⟨i, hi⟩⟩
set_option maxRecDepth 100000 in
theorem clr_bits_all : ∀ b : Fin 64, ∀ i : Fin 6, ∀ j : Fin 6, bitN (clr b.val i.val) j.val = (bitN b.val j.val && !(i.val == j.val)) := by decide +kernel
theorem clr_bits {b i j : Nat} (hb : b < 64) (hi : i < 6) (hj : j < 6) : bitN (clr b i) j = (bitN b j && !(i == j)) := clr_bits_all ⟨b, hb⟩ ⟨i, hi⟩ ⟨j, hj⟩
theorem clr_le (b i : Nat) : clr b i ≤ b := by
  unfold clr
  split
  · exact Nat.sub_le _ _
  · exact Nat.le_refl _
theorem clr_sub {b i : Nat} (hb : b < 64) (hi : i < 6) : SubB (clr b i) b := fun j hj h => by
  rw [clr_bits hb hi hj, Bool.and_eq_true] at h
  exact h.1
theorem sub_clr {a b i : Nat} (hb : b < 64) (hi : i < 6) (h : SubB a b) (ha : bitN a i = false) : SubB a (clr b i) := fun j hj q => by
  rw [clr_bits hb hi hj, Bool.and_eq_true]
  refine ⟨h j hj q, ?_⟩
  by_cases e : i = j
  · subst e; rw [ha] at q; cases q
  · simp [e]
theorem ne_zero_of_bit {m i : Nat} (h : bitN m i = true) : m ≠ 0 := by
  intro e
  subst e
  have := bitN_le h
  have : 0 < 2 ^ i := Nat.two_pow_pos i
  omega
theorem bestTo_ge (f : Nat → Int) (m : Nat) : ∀ n i, i < n → bitN m i = true → f (clr m i) ≤ bestTo f m n
  | 0, i, h, _ => by omega
  | n + 1, i, h, hb => by
    have hm : ∀ a b : Int, a ≤ mx a b ∧ b ≤ mx a b := fun a b => by unfold mx; split <;> omega
    simp only [bestTo]
    by_cases e : i = n
    · subst e
      rw [if_pos hb]
      exact (hm _ _).2
    · have := bestTo_ge f m n i (by omega) hb
      split
      · exact Int.le_trans this (hm _ _).1
      · exact this
/-- One woman fewer has no more groups; if all sum to 0, one group fewer. -/
theorem F_clr (v : List Int) {m i : Nat} (hi : i < 6) (hb : bitN m i = true) : F v (clr m i) + (if sumN v m = 0 then 1 else 0) ≤ F v m := by
  rw [F_step v m (ne_zero_of_bit hb)]
  have := bestTo_ge (F v) m 6 i hi hb
  omega
theorem Fmono6 (v : List Int) : ∀ (k m a : Nat), m ≤ k → m < 64 → a < 64 → SubB a m → F v a ≤ F v m
  | 0, m, a, hk, hm, ha, h => by
    obtain ⟨h1, _, _⟩ := bit_sub ha hm h
    rw [show a = m by omega]
    exact Int.le_refl _
  | k + 1, m, a, hk, hm, ha, h => by
    obtain ⟨h1, h2, h3⟩ := bit_sub ha hm h
    rcases h2 with rfl | ⟨i, hi, hb, hn⟩
    · exact Int.le_refl _
    · have hlt := clr_lt hb
      have ih := Fmono6 v k (clr m i) a (by omega) (by omega) ha (sub_clr hm hi h hn)
      have := F_clr v hi hb
      split at this <;> omega
/-- A group that is taken away leaves one fewer at most. -/
theorem Ftake6 (v : List Int) {m g : Nat} (hm : m < 64) (hg : g < 64) (h : SubB g m) (h0 : g ≠ 0) (hs : sumN v m = 0) : 1 + F v (m - g) ≤ F v m := by
  obtain ⟨h1, h2, h3⟩ := bit_sub hg hm h
  obtain ⟨i, hi⟩ := has_bit_all ⟨g, hg⟩ h0
  have hbm := h i.val i.isLt hi
  have hf := F_clr v i.isLt hbm
  rw [if_pos hs] at hf
  have hsub : SubB (m - g) (clr m i.val) := fun j hj q => by
    rw [h3 j hj, Bool.and_eq_true] at q
    rw [clr_bits hm i.isLt hj, Bool.and_eq_true]
    refine ⟨q.1, ?_⟩
    by_cases e : i.val = j
    · rw [← e, show bitN g i.val = true from hi] at q
      simp at q
    · simp [e]
  have := Fmono6 v (clr m i.val) (clr m i.val) (m - g) (Nat.le_refl _) (by have := clr_le m i.val; omega) (by omega) hsub
  omega
theorem sumTo_sub (v : List Int) {a b : Nat} (ha : a < 64) (hb : b < 64) (h : SubB a b) : ∀ n, n ≤ 6 → sumTo v b n = sumTo v a n + sumTo v (b - a) n
  | 0, _ => by simp [sumTo]
  | n + 1, hn => by
    have ih := sumTo_sub v ha hb h n (by omega)
    obtain ⟨h1, h2, h3⟩ := bit_sub ha hb h
    simp only [sumTo]
    rw [h3 n (by omega)]
    have hx := h n (by omega)
    cases hbn : bitN b n <;> cases han : bitN a n <;> simp [hbn, han] at hx ⊢ <;> omega
theorem sumN_sub (v : List Int) {a b : Nat} (ha : a < 64) (hb : b < 64) (h : SubB a b) : sumN v b = sumN v a + sumN v (b - a) := sumTo_sub v ha hb h 6 (by omega)
/-- Some women who sum to 0 have as many groups. -/
theorem F_core (v : List Int) : ∀ (k m : Nat), m ≤ k → m < 64 → ∃ a, SubB a m ∧ a ≤ m ∧ sumN v a = 0 ∧ F v m = F v a
  | 0, m, hk, hm => ⟨m, SubB.refl m, Nat.le_refl _, by rw [show m = 0 by omega]; simp [sumN, sumTo, bitN], rfl⟩
  | k + 1, m, hk, hm => by
    by_cases h0 : m = 0
    · subst h0
      exact ⟨0, SubB.refl 0, Nat.le_refl _, by simp [sumN, sumTo, bitN], rfl⟩
    · by_cases hs : sumN v m = 0
      · exact ⟨m, SubB.refl m, Nat.le_refl _, hs, rfl⟩
      · obtain ⟨i0, hi0⟩ := has_bit_all ⟨m, hm⟩ h0
        obtain ⟨i, hi, hb, he⟩ := bestTo_hit (f := F v) (m := m) (fun j _ => (F_bd v _).1) 6 ⟨i0.val, i0.isLt, hi0⟩
        have hlt := clr_lt hb
        obtain ⟨a, h1, h2, h3, h4⟩ := F_core v k (clr m i) (by omega) (by omega)
        refine ⟨a, h1.trans (clr_sub hm hi), by omega, h3, ?_⟩
        rw [F_step v m h0, if_neg hs, ← he, h4]
        omega
/-- Whichever woman is asked for: a group with her begins a way that has as many groups. -/
theorem F_with (v : List Int) : ∀ (k m f : Nat), m ≤ k → m < 64 → f < 6 → bitN m f = true → sumN v m = 0 →
    ∃ g, g < 64 ∧ SubB g m ∧ bitN g f = true ∧ sumN v g = 0 ∧ F v m ≤ 1 + F v (m - g)
  | 0, m, f, hk, hm, hf, hb, hs => absurd (show m = 0 by omega) (ne_zero_of_bit hb)
  | k + 1, m, f, hk, hm, hf, hb, hs => by
    have h0 := ne_zero_of_bit hb
    obtain ⟨i, hi, hbi, he⟩ := bestTo_hit (f := F v) (m := m) (fun j _ => (F_bd v _).1) 6 ⟨f, hf, hb⟩
    have hlt := clr_lt hbi
    obtain ⟨a, a1, a2, a3, a4⟩ := F_core v (clr m i) (clr m i) (Nat.le_refl _) (by omega)
    have ham : SubB a m := a1.trans (clr_sub hm hi)
    have hF : F v m = 1 + F v a := by rw [F_step v m h0, if_pos hs, ← he, a4]; omega
    obtain ⟨b1, b2, b3⟩ := bit_sub (show a < 64 by omega) hm ham
    have hsum := sumN_sub v (show a < 64 by omega) hm ham
    by_cases haf : bitN a f = true
    · obtain ⟨g, g1, g2, g3, g4, g5⟩ := F_with v k a f (by omega) (by omega) hf haf a3
      have hgm : SubB g m := g2.trans ham
      obtain ⟨c1, c2, c3⟩ := bit_sub g1 (show a < 64 by omega) g2
      obtain ⟨d1, d2, d3⟩ := bit_sub g1 hm hgm
      refine ⟨g, g1, hgm, g3, g4, ?_⟩
      have hs2 : sumN v (m - g) = 0 := by have := sumN_sub v g1 hm hgm; omega
      have hsub : SubB (m - a) (m - g) := fun j hj q => by
        rw [b3 j hj, Bool.and_eq_true] at q
        rw [d3 j hj, Bool.and_eq_true]
        refine ⟨q.1, ?_⟩
        cases hg : bitN g j
        · rfl
        · have := g2 j hj hg
          rw [this] at q
          simp at q
      have ht := Ftake6 v (m := m - g) (g := m - a) (by omega) (by omega) hsub (by omega) hs2
      have e : m - g - (m - a) = a - g := by omega
      rw [e] at ht
      omega
    · refine ⟨m - a, by omega, fun j hj q => ?_, ?_, by omega, ?_⟩
      · rw [b3 j hj, Bool.and_eq_true] at q
        exact q.1
      · rw [b3 f hf, hb, show bitN a f = false by simpa using haf]
        rfl
      · rw [show m - (m - a) = a by omega, hF]
        exact Int.le_refl _
/-! The reference's search. -/
section
variable (n : Int) (l1 : List S91) (l2 : List S94) (os : List Int) (hck : checkS n (l1.map c91) (l2.map c94) = 0) (ho : Small (l1.map c91) os)
set_option linter.unusedSectionVars false
include hck ho
theorem owed_500 (j : Int) : -500 ≤ rd (owedL (l1.map c91) os) j ∧ rd (owedL (l1.map c91) os) j ≤ 500 := by
  have := owedTo_bd (l1.map c91) os ho.2 (l1.map c91).length (Nat.le_refl _) j
  have hl := (z33 hck).2.2.1
  rw [List.length_map] at this
  unfold owedL
  rw [List.length_map]
  omega
end
end Go.Proofs.Ytncaadckehikpaa.Q
namespace Go.Proofs.Ytncaadckehikpaa.Q
open Go.RowKit Go.Proofs.YtncaadckehikpaaW.PrintWords Go.Proofs.YtncaadckehikpaaW.PrintLast Go.Proofs.YtncaadckehikpaaW.PrintMore
set_option linter.unusedVariables false
set_option linter.unusedSimpArgs false
/-- What a payment changes for a woman. -/
def eff1 (p : S76) (i : Int) : Int := (if p.f0 = i then p.f2 else 0) - (if p.f1 = i then p.f2 else 0)
def eff (ps : List S76) (i : Int) : Int := (ps.map (fun p => eff1 p i)).sum
theorem eff_append (a b : List S76) (i : Int) : eff (a ++ b) i = eff a i + eff b i := by simp [eff]
theorem z54 (p : S76) (b : List S76) (i : Int) : eff (p :: b) i = eff1 p i + eff b i := by simp [eff]
/-- Women of six, not the same one twice. -/
def Six (p : S76) : Prop := 0 ≤ p.f0 ∧ p.f0 < 6 ∧ 0 ≤ p.f1 ∧ p.f1 < 6 ∧ p.f0 ≠ p.f1
theorem rd_pay1 (v : List Int) (p : S76) (hv : v.length = 6) (hp : Six p) (i : Int) (h0 : 0 ≤ i) (h6 : i < 6) : rd (pay1 v p) i = rd v i + eff1 p i := by
  obtain ⟨q0, q1, q2, q3, q4⟩ := hp
  simp only [pay1]
  rw [rd_upd _ _ _ _ q2 (by rw [z43, hv]; omega) h0]
  unfold eff1
  by_cases a : i = p.f1
  · rw [if_pos a, rd_upd _ _ _ _ q0 (by rw [hv]; omega) q2, if_neg (by omega), if_neg (by omega), if_pos a.symm, a]
    omega
  · rw [if_neg a, rd_upd _ _ _ _ q0 (by rw [hv]; omega) h0]
    by_cases b : i = p.f0
    · rw [if_pos b, if_pos b.symm, if_neg (by omega), b]
      omega
    · rw [if_neg b, if_neg (fun h => b h.symm), if_neg (fun h => a h.symm)]
      omega
theorem rd_pays : ∀ (ps : List S76) (v : List Int), v.length = 6 → (∀ p ∈ ps, Six p) → ∀ i : Int, 0 ≤ i → i < 6 → rd (ps.foldl pay1 v) i = rd v i + eff ps i
  | [], v, hv, hp, i, h0, h6 => by simp [eff]
  | p :: ps, v, hv, hp, i, h0, h6 => by
    rw [List.foldl_cons, rd_pays ps (pay1 v p) (by rw [pay1_length]; exact hv) (fun q hq => hp q (by simp [hq])) i h0 h6, rd_pay1 v p hv (hp p (by simp)) i h0 h6, z54]
    omega
theorem sumTo_pay (v w : List Int) (p : S76) (hp : Six p) (h : ∀ i : Int, 0 ≤ i → i < 6 → rd w i = rd v i + eff1 p i) (m : Nat) : ∀ n : Nat, n ≤ 6 →
    sumTo w m n = sumTo v m n + (if p.f0 < n ∧ bitN m p.f0.toNat = true then p.f2 else 0) - (if p.f1 < n ∧ bitN m p.f1.toNat = true then p.f2 else 0)
  | 0, _ => by
    obtain ⟨q0, q1, q2, q3, q4⟩ := hp
    rw [if_neg (by omega), if_neg (by omega)]
    simp [sumTo]
  | n + 1, hn => by
    have ih := sumTo_pay v w p hp h m n (by omega)
    obtain ⟨q0, q1, q2, q3, q4⟩ := hp
    have hr := h (n : Int) (by omega) (by omega)
    unfold eff1 at hr
    simp only [sumTo]
    by_cases a : p.f0 = n
    · have ha : p.f0.toNat = n := by omega
      rw [if_pos a, if_neg (by omega)] at hr
      rw [ha] at ih ⊢
      rw [if_neg (by omega)] at ih
      have e : (p.f1 < ((n + 1 : Nat) : Int) ∧ bitN m p.f1.toNat = true) ↔ (p.f1 < (n : Int) ∧ bitN m p.f1.toNat = true) := ⟨fun q => ⟨by omega, q.2⟩, fun q => ⟨by omega, q.2⟩⟩
      by_cases hb : bitN m n = true
      · rw [if_pos hb, if_pos hb, if_pos (And.intro (show p.f0 < ((n + 1 : Nat) : Int) by omega) hb)]
        simp only [e]
        omega
      · rw [if_neg hb, if_neg hb, if_neg (fun q => hb q.2)]
        simp only [e]
        omega
    · have e0 : (p.f0 < ((n + 1 : Nat) : Int) ∧ bitN m p.f0.toNat = true) ↔ (p.f0 < (n : Int) ∧ bitN m p.f0.toNat = true) := ⟨fun q => ⟨by omega, q.2⟩, fun q => ⟨by omega, q.2⟩⟩
      rw [if_neg a] at hr
      by_cases b : p.f1 = n
      · have hb' : p.f1.toNat = n := by omega
        rw [if_pos b] at hr
        rw [hb'] at ih ⊢
        rw [if_neg (c := p.f1 < (n : Int) ∧ bitN m n = true) (by omega)] at ih
        by_cases hb : bitN m n = true
        · rw [if_pos hb, if_pos hb, if_pos (And.intro (show p.f1 < ((n + 1 : Nat) : Int) by omega) hb)]
          simp only [e0]
          omega
        · rw [if_neg hb, if_neg hb, if_neg (c := p.f1 < ((n + 1 : Nat) : Int) ∧ bitN m n = true) (fun q => hb q.2)]
          simp only [e0]
          omega
      · have e1 : (p.f1 < ((n + 1 : Nat) : Int) ∧ bitN m p.f1.toNat = true) ↔ (p.f1 < (n : Int) ∧ bitN m p.f1.toNat = true) := ⟨fun q => ⟨by omega, q.2⟩, fun q => ⟨by omega, q.2⟩⟩
        rw [if_neg b] at hr
        simp only [e0, e1]
        by_cases hb : bitN m n = true
        · rw [if_pos hb, if_pos hb]; omega
        · rw [if_neg hb, if_neg hb]; omega
/-- A sum that both women, or neither, are of stays. -/
theorem sumN_pay {v w : List Int} {p : S76} (hp : Six p) (h : ∀ i : Int, 0 ≤ i → i < 6 → rd w i = rd v i + eff1 p i) {m : Nat} (hb : bitN m p.f0.toNat = bitN m p.f1.toNat) : sumN w m = sumN v m := by
  have := sumTo_pay v w p hp h m 6 (by omega)
  obtain ⟨q0, q1, q2, q3, q4⟩ := hp
  unfold sumN
  rw [this, hb]
  have e0 : p.f0 < ((6 : Nat) : Int) := by omega
  have e1 : p.f1 < ((6 : Nat) : Int) := by omega
  simp only [e0, e1, true_and]
  omega
theorem F_congr (v w : List Int) : ∀ (k m : Nat), m ≤ k → m < 64 → (∀ s, s < 64 → SubB s m → sumN v s = sumN w s) → F v m = F w m
  | 0, m, hk, hm, h => by rw [show m = 0 by omega]; rfl
  | k + 1, m, hk, hm, h => by
    by_cases h0 : m = 0
    · subst h0; rfl
    · have hs := h m hm (SubB.refl m)
      have hbst : ∀ n, n ≤ 6 → bestTo (F v) m n = bestTo (F w) m n := by
        intro n
        induction n with
        | zero => intro _; rfl
        | succ n ih =>
          intro hn
          simp only [bestTo]
          rw [ih (by omega)]
          by_cases hb : bitN m n = true
          · have hlt := clr_lt hb
            rw [if_pos hb, if_pos hb, F_congr v w k (clr m n) (by omega) (by omega) (fun s hs' q => h s hs' (q.trans (clr_sub hm (by omega))))]
          · rw [if_neg hb, if_neg hb]
      rw [F_step v m h0, F_step w m h0, hbst 6 (by omega), hs]
/-- One payment joins two groups at most. -/
theorem F_pay {v w : List Int} {p : S76} (hp : Six p) (h : ∀ i : Int, 0 ≤ i → i < 6 → rd w i = rd v i + eff1 p i) (hs : sumN v 63 = 0) : F w 63 ≤ F v 63 + 1 := by
  have hp' := hp
  obtain ⟨q0, q1, q2, q3, q4⟩ := hp'
  have all : ∀ i : Fin 6, bitN 63 i.val = true := by decide +kernel
  have sub63 : ∀ c, c < 64 → SubB c 63 := fun c _ i hi _ => all ⟨i, hi⟩
  have hsw : sumN w 63 = 0 := by rw [sumN_pay hp h (by rw [all ⟨p.f0.toNat, by omega⟩, all ⟨p.f1.toNat, by omega⟩])]; exact hs
  have fin : ∀ c, c < 64 → c ≠ 63 → bitN c p.f0.toNat = false → bitN c p.f1.toNat = false → sumN w c = 0 → F w 63 ≤ 2 + F w c → F w 63 ≤ F v 63 + 1 := by
    intro c hc hne ha hb hsc hF
    have hcv : sumN v c = 0 := by rw [← sumN_pay hp h (by rw [ha, hb])]; exact hsc
    have hco : F v c = F w c := F_congr v w c c (Nat.le_refl _) hc (fun s hs' q => by
      have h0 : bitN s p.f0.toNat = false := by
        cases e : bitN s p.f0.toNat
        · rfl
        · rw [q _ (by omega) e] at ha; cases ha
      have h1 : bitN s p.f1.toNat = false := by
        cases e : bitN s p.f1.toNat
        · rfl
        · rw [q _ (by omega) e] at hb; cases hb
      exact (sumN_pay hp h (by rw [h0, h1])).symm)
    have hsub := bit_sub hc (by omega : 63 < 64) (sub63 c hc)
    have hsum := sumN_sub v hc (by omega : 63 < 64) (sub63 c hc)
    have ht := Ftake6 v (m := 63) (g := 63 - c) (by omega) (by omega) (sub63 _ (by omega)) (by omega) hs
    rw [show 63 - (63 - c) = c by omega] at ht
    omega
  obtain ⟨g, g1, g2, g3, g4, g5⟩ := F_with w 63 63 p.f0.toNat (Nat.le_refl _) (by omega) (by omega) (all ⟨p.f0.toNat, by omega⟩) hsw
  obtain ⟨b1, b2, b3⟩ := bit_sub g1 (by omega : 63 < 64) g2
  have hsum := sumN_sub w g1 (by omega : 63 < 64) g2
  have hg0 : g ≠ 0 := ne_zero_of_bit g3
  have hra : bitN (63 - g) p.f0.toNat = false := by rw [b3 _ (by omega), g3]; simp
  by_cases hb : bitN g p.f1.toNat = true
  · exact fin (63 - g) (by omega) (by omega) hra (by rw [b3 _ (by omega), hb]; simp) (by omega) (by omega)
  · have hrb : bitN (63 - g) p.f1.toNat = true := by
      rw [b3 _ (by omega), all ⟨p.f1.toNat, by omega⟩, show bitN g p.f1.toNat = false by simpa using hb]
      rfl
    obtain ⟨k, k1, k2, k3, k4, k5⟩ := F_with w (63 - g) (63 - g) p.f1.toNat (Nat.le_refl _) (by omega) (by omega) hrb (by omega)
    obtain ⟨c1, c2, c3⟩ := bit_sub k1 (by omega : 63 - g < 64) k2
    have hsum2 := sumN_sub w k1 (by omega : 63 - g < 64) k2
    refine fin (63 - g - k) (by omega) (by omega) ?_ ?_ (by omega) (by omega)
    · rw [c3 _ (by omega), hra]; rfl
    · rw [c3 _ (by omega), k3]; simp
theorem sum63_pay {v w : List Int} {p : S76} (hp : Six p) (h : ∀ i : Int, 0 ≤ i → i < 6 → rd w i = rd v i + eff1 p i) : sumN w 63 = sumN v 63 := by
  have all : ∀ i : Fin 6, bitN 63 i.val = true := by decide +kernel
  have hp' := hp
  obtain ⟨q0, q1, q2, q3, q4⟩ := hp'
  exact sumN_pay hp h (by rw [all ⟨p.f0.toNat, by omega⟩, all ⟨p.f1.toNat, by omega⟩])
theorem F_zero63 (v : List Int) (h : ∀ i : Int, 0 ≤ i → i < 6 → rd v i = 0) : F v 63 = 6 := by
  have : F v 63 = F [0, 0, 0, 0, 0, 0] 63 := F_congr v _ 63 63 (Nat.le_refl _) (by omega) (fun s _ _ => by
    have e : ∀ n : Nat, n ≤ 6 → sumTo v s n = sumTo [0, 0, 0, 0, 0, 0] s n := by
      intro n
      induction n with
      | zero => intro _; rfl
      | succ n ih =>
        intro hn
        have z : rd [0, 0, 0, 0, 0, 0] (n : Int) = 0 := by
          unfold rd
          rw [Int.toNat_natCast]
          rcases n with _ | _ | _ | _ | _ | _ | m <;> simp [List.getD]
        simp only [sumTo]
        rw [ih (by omega), h n (by omega) (by omega), z]
    exact e 6 (by omega))
  rw [this]
  decide +kernel
/-- No payments that settle all are fewer than women less the greatest number of groups. -/
theorem pays_lower : ∀ (ps : List S76) (v : List Int), v.length = 6 → (∀ p ∈ ps, Six p) → sumN v 63 = 0 → (∀ i : Int, 0 ≤ i → i < 6 → rd (ps.foldl pay1 v) i = 0) → 6 - F v 63 ≤ ps.length
  | [], v, hv, hp, hs, hz => by
    rw [F_zero63 v hz]
    simp
  | p :: ps, v, hv, hp, hs, hz => by
    have h1 := rd_pay1 v p hv (hp p (by simp))
    have ih := pays_lower ps (pay1 v p) (by rw [pay1_length]; exact hv) (fun q hq => hp q (by simp [hq])) (by rw [sum63_pay (hp p (by simp)) h1]; exact hs) (by rw [List.foldl_cons] at hz; exact hz)
    have := F_pay (hp p (by simp)) h1 hs
    rw [List.length_cons]
    omega
end Go.Proofs.Ytncaadckehikpaa.Q
