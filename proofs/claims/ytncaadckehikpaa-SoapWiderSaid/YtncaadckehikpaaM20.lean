/- A part of the proof: contracts of functions and plain facts (HFewest). No condition. -/
import Derived.Test.YtncaadckehikpaaM19
namespace Go.Proofs.Ytncaadckehikpaa.Q
open Go.RowKit Go.Proofs.YtncaadckehikpaaW.PrintWords Go.Proofs.YtncaadckehikpaaW.PrintLast Go.Proofs.YtncaadckehikpaaW.PrintMore
set_option linter.unusedVariables false
set_option linter.unusedSimpArgs false
def soap_Fewest.f (a0_0 : Int) (l0_1 : List (S122)) (l0_2 : List (S124)) : Option (Int × Int × Int) :=
  some (if askErr a0_0 l0_1 l0_2 = 0 then ((bndL ((truthsL l0_1 l0_2).map payN)).1, (bndL ((truthsL l0_1 l0_2).map payN)).2, 0) else (0, 0, askErr a0_0 l0_1 l0_2))
/-- What a woman is owed in a truth. -/
theorem truths_small {n : Int} {l1 : List S122} {l2 : List S124} (hck : checkS n l1 l2 = 0) (oss : List (List Int)) (hf : ∀ os ∈ oss, os.length = l1.length ∧ FitTo l1 os l1.length) : ∀ v ∈ askedL l1 l2 oss, ∀ j, -480 ≤ rd v j ∧ rd v j ≤ 480 := by
  have hone : ∀ os, os.length = l1.length ∧ FitTo l1 os l1.length → ∀ j, -480 ≤ rd (owedL l1 os) j ∧ rd (owedL l1 os) j ≤ 480 := by
    intro os h
    obtain ⟨z0, z1, z2, z3, z4, z5, z6⟩ := z28 hck
    have hvb := owedTo_bd l1 os (fun i q0 q1 => by
      have he := entry_in hck i q0 q1
      have h2 := h.2 i q0 q1
      omega) l1.length (Nat.le_refl _)
    intro j
    have := hvb j
    unfold owedL
    omega
  have h : ∀ (oss : List (List Int)) (acc : List (List Int)), (∀ os ∈ oss, os.length = l1.length ∧ FitTo l1 os l1.length) → (∀ v ∈ acc, ∀ j, -480 ≤ rd v j ∧ rd v j ≤ 480) → ∀ v ∈ oss.foldl (askStep l1 l2) acc, ∀ j, -480 ≤ rd v j ∧ rd v j ≤ 480 := by
    intro oss
    induction oss with
    | nil => exact fun acc _ h => h
    | cons o r ih =>
      intro acc hr ha
      refine ih _ (fun os h => hr os (by simp [h])) ?_
      unfold askStep
      split
      · intro v hv
        rcases List.mem_append.1 hv with h1 | h1
        · exact ha v h1
        · simp at h1
          rw [h1]
          exact hone o (hr o (by simp))
      · exact ha
  exact h oss [] hf (by simp)
/-- All ounces that are listed fit. -/
theorem enumO_fit (l1 : List S122) : ∀ (es : List S122) (p : List Int), l1.drop p.length = es → (p.length ≤ l1.length) → FitTo l1 p p.length → ∀ os ∈ enumO p es, os.length = l1.length ∧ FitTo l1 os l1.length
  | [], p, hd, hl, hf => by
    intro os ho
    simp [enumO] at ho
    subst ho
    have : os.length = l1.length := by
      have := congrArg List.length hd
      simp at this
      omega
    exact ⟨this, by rw [← this]; exact hf⟩
  | e :: es, p, hd, hl, hf => by
    intro os ho
    simp only [enumO, List.mem_flatMap, List.mem_range] at ho
    obtain ⟨k, hk, hm⟩ := ho
    have hlt : p.length < l1.length := by
      rcases Nat.lt_or_ge p.length l1.length with h | h
      · exact h
      · rw [List.drop_eq_nil_of_le h] at hd; cases hd
    rw [List.drop_eq_getElem_cons hlt] at hd
    injection hd with he hd
    refine enumO_fit l1 es (p ++ [e.f2.f0 + (k : Int)]) (by simpa using hd) (by simp; omega) ?_ os hm
    intro j j0 j1
    simp at j1
    have hre : rd_T122 l1 (p.length : Int) = e := by rw [← he]; simp [rd_T122, List.getD, hlt]
    by_cases hj : j = p.length
    · subst hj
      rw [hre]
      have : rd (p ++ [e.f2.f0 + (k : Int)]) (p.length : Int) = e.f2.f0 + k := by simp [rd, List.getD]
      rw [this]
      unfold spanN at hk
      omega
    · have hr : rd (p ++ [e.f2.f0 + (k : Int)]) j = rd p j := by
        simp [rd, List.getD, List.getElem?_append_left (show j.toNat < p.length by omega)]
      rw [hr]
      exact hf j j0 (by omega)
set_option maxHeartbeats 4000000 in
set_option maxRecDepth 100000 in
theorem soap_Fewest.calls (a0_0 : Int) (A0_1 : Option Addr) (c0_1 : Nat) (l0_1 : List (S122)) (A0_2 : Option Addr) (c0_2 : Nat) (l0_2 : List (S124)) (r1 r2 r3 : Int) (w : World) (hr0_1 : Kd.C k122 w A0_1 l0_1.length l0_1) (hc0_1 : l0_1.length ≤ c0_1) (hr0_2 : Kd.C k124 w A0_2 l0_2.length l0_2) (hc0_2 : l0_2.length ≤ c0_2) (h : soap_Fewest.f a0_0 l0_1 l0_2 = some (r1, r2, r3)) :
    Calls Try.prog 37 #[.agg #[.int .i64 a0_0, .slice A0_1 l0_1.length c0_1, .slice A0_2 l0_2.length c0_2]] w fun e w' => e = .returned (.tuple #[.agg #[.int .i64 r1, .int .i64 r2], .int .i64 r3]) ∧ Below w.heap.size w w' := by
  have hu35 := Try.underlying35
  have hu44 := Try.underlying44
  have h2 := Option.some.inj h
  clear h
  obtain ⟨wa, hwa⟩ : ∃ wa, (w.alloc (.cells #[.int .i64 a0_0, .slice A0_1 l0_1.length c0_1, .slice A0_2 l0_2.length c0_2] 35)).alloc (.cells #[.int .i64 0, .int .i64 0] 44) = wa := ⟨_, rfl⟩
  have hbw : Below w.heap.size w wa := by rw [← hwa]; exact z10 (z10 (Below.refl _ _) _) _
  have HAS := mkA (asked_calls a0_0 A0_1 c0_1 l0_1 A0_2 c0_2 l0_2 wa (Kd.C_below hr0_1 hbw) hc0_1 (Kd.C_below hr0_2 hbw) hc0_2)
  have HBW := mkA hbw
  have HC0 := mkA (show wa.heap[w.heap.size + 1]? = some (.cells #[.int .i64 0, .int .i64 0] 44 (0, 0)) from by rw [← hwa]; simpa using z19 (w.alloc _) (.cells #[.int .i64 0, .int .i64 0] 44))
  have hwz : wa.heap.size = w.heap.size + 2 := by rw [← hwa]; simp
  have hsl : wa.heap[w.heap.size]? = some (.cells #[.int .i64 a0_0, .slice A0_1 l0_1.length c0_1, .slice A0_2 l0_2.length c0_2] 35 (0, 0)) := by rw [← hwa]; exact blk_below (z19 w _) (z10 (Below.refl _ _) _)
  have hs0 : wa.cell? ⟨w.heap.size, 0, none⟩ = some (.int .i64 a0_0) := (z12 hsl 0).trans rfl
  have hs1 : wa.cell? ⟨w.heap.size, 1, none⟩ = some (.slice A0_1 l0_1.length c0_1) := (z12 hsl 1).trans rfl
  have hs2 : wa.cell? ⟨w.heap.size, 2, none⟩ = some (.slice A0_2 l0_2.length c0_2) := (z12 hsl 2).trans rfl
  clear hbw hr0_1 hr0_2 hsl
  go_enter Try.func37, Try.ntmps37
  go_wp2_with fail
  clear hwa hs0 hs1 hs2
  refine HAS.out.mono ?_
  rintro e w1 ⟨hb, hcase⟩
  have HB1 := mkA (z16 HBW.out hb)
  have hq1 := blk_below HC0.out hb
  have hc0 : w1.cell? ⟨w.heap.size + 1, 0, none⟩ = some (.int .i64 0) := (z12 hq1 0).trans rfl
  have hc1 : w1.cell? ⟨w.heap.size + 1, 1, none⟩ = some (.int .i64 0) := (z12 hq1 1).trans rfl
  have hf0 : w1.frozen? ⟨w.heap.size + 1, 0, none⟩ = false := z14 hq1 _
  have hf1 : w1.frozen? ⟨w.heap.size + 1, 1, none⟩ = false := z14 hq1 _
  have HQ1 := mkA hq1
  have hsa := hb.size
  clear hb HAS hq1
  rcases hcase with ⟨hck, rfl⟩ | ⟨hck, hem, rfl⟩ | ⟨hck, hne, qb, v, gs, mbs, rfl, hq, hR, hP⟩
  · have hE : askErr a0_0 l0_1 l0_2 = checkS a0_0 l0_1 l0_2 := by unfold askErr; rw [if_neg hck]
    rw [hE, if_neg hck] at h2
    obtain ⟨rfl, h3⟩ := Prod.mk.inj h2
    obtain ⟨rfl, rfl⟩ := Prod.mk.inj h3
    generalize hqq : checkS a0_0 l0_1 l0_2 = q at hck ⊢
    have HQQ := mkA hqq
    have g1 : (q != 0) = true := bne_iff_ne.2 hck
    clear h2 h3 hck hE hqq
    go_wp2
    rw [z26 hc0, z26 hc1]
    exact bodyPost_ret (v := .tuple #[.agg #[.int .i64 0, .int .i64 0], .int .i64 q]) (by simp [results, Try.results37, go_sem, hc0, hc1]) rfl ⟨by rw [HQQ.out], HB1.out⟩
  · have hE : askErr a0_0 l0_1 l0_2 = 11 := by unfold askErr; rw [if_pos hck, if_pos hem]
    rw [hE, if_neg (by decide)] at h2
    obtain ⟨rfl, h3⟩ := Prod.mk.inj h2
    obtain ⟨rfl, rfl⟩ := Prod.mk.inj h3
    clear h2 h3 hck hE hem
    go_wp2
    rw [z26 hc0, z26 hc1]
    exact bodyPost_ret (v := .tuple #[.agg #[.int .i64 0, .int .i64 0], .int .i64 11]) (by simp [results, Try.results37, go_sem, hc0, hc1]) rfl ⟨rfl, HB1.out⟩
  · have hE : askErr a0_0 l0_1 l0_2 = 0 := by unfold askErr; rw [if_pos hck, if_neg hne]
    rw [hE, if_pos rfl] at h2
    obtain ⟨rfl, h3⟩ := Prod.mk.inj h2
    obtain ⟨rfl, rfl⟩ := Prod.mk.inj h3
    have hvl : ((askedL l0_1 l0_2 (enumO [] l0_1)).length : Int) ≤ 140737488355328 := by
      have t1 := askedL_len l0_1 l0_2 (enumO [] l0_1) []
      have t2 := enumO_bound hck
      unfold askedL
      simp only [List.length_nil, Nat.zero_add] at t1
      omega
    have hsm := truths_small hck (enumO [] l0_1) (enumO_fit l0_1 l0_1 [] rfl (by simp) (fun j j0 j1 => by simp at j1; omega))
    generalize hvv : askedL l0_1 l0_2 (enumO [] l0_1) = vs at hP hvl hsm ⊢
    have HVV := mkA hvv
    have HBC := mkA (bounds83_calls payN 0 wa.heap.size qb _ _ _ v gs mbs vs w1 (fun g mb u W hu hp hm => (payments_calls g mb u 0 W (fun j => by have := hsm u hu j; omega) (fun e => by
      obtain ⟨es, cl, h5, _⟩ := hm
      rw [← e, show W.heap[g]? = _ from hp] at h5
      cases h5) hp hm)) hq hR hP hvl hsa)
    have HP := mkA hP
    clear h2 h3 hck hE hne hq hR hP hvv hsm hc0 hc1 hf0 hf1
    generalize hx : (bndL (vs.map payN)).1 = lo at HBC
    generalize hy : (bndL (vs.map payN)).2 = hi at HBC
    have HX := mkA hx
    have HY := mkA hy
    clear hx hy
    go_wp2_with fail
    refine HBC.out.mono ?_
    rintro e w4 ⟨rfl, hm, hp4⟩
    have hb4 : Below wa.heap.size w1 w4 := hm.below hsa HP.out.mems
    have HB4 := mkA (HB1.out.trans (hb4.mono (by omega)))
    have hq4 := (hb4.block (w.heap.size + 1) (by omega)).trans HQ1.out
    have hc0 : w4.cell? ⟨w.heap.size + 1, 0, none⟩ = some (.int .i64 0) := (z12 hq4 0).trans rfl
    have hc1 : w4.cell? ⟨w.heap.size + 1, 1, none⟩ = some (.int .i64 0) := (z12 hq4 1).trans rfl
    have hf0 : w4.frozen? ⟨w.heap.size + 1, 0, none⟩ = false := z14 hq4 _
    have hf1 : w4.frozen? ⟨w.heap.size + 1, 1, none⟩ = false := z14 hq4 _
    have HQ4 := mkA hq4
    clear hm hp4 hb4 hq4 HBC
    go_wp2
    have he : ((w4.setCell ⟨w.heap.size + 1, 0, none⟩ (.int .i64 lo)).setCell ⟨w.heap.size + 1, 1, none⟩ (.int .i64 hi)).heap[w.heap.size + 1]? = some (.cells #[.int .i64 lo, .int .i64 hi] 44 (0, 0)) := by
      simp [World.setCell, Array.getElem?_modify, HQ4.out]
    have e0 : ((w4.setCell ⟨w.heap.size + 1, 0, none⟩ (.int .i64 lo)).setCell ⟨w.heap.size + 1, 1, none⟩ (.int .i64 hi)).cell? ⟨w.heap.size + 1, 0, none⟩ = some (.int .i64 lo) := (z12 he 0).trans rfl
    have e1 : ((w4.setCell ⟨w.heap.size + 1, 0, none⟩ (.int .i64 lo)).setCell ⟨w.heap.size + 1, 1, none⟩ (.int .i64 hi)).cell? ⟨w.heap.size + 1, 1, none⟩ = some (.int .i64 hi) := (z12 he 1).trans rfl
    refine bodyPost_ret (v := .tuple #[.agg #[.int .i64 lo, .int .i64 hi], .int .i64 0]) ?_ rfl ⟨by unfold truthsL; rw [HVV.out, HX.out, HY.out], z15 (z15 HB4.out (by simp)) (by simp)⟩
    simp [results, Try.results37, go_sem, e0, e1]
end Go.Proofs.Ytncaadckehikpaa.Q
