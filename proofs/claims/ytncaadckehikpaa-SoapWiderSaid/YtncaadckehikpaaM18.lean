/- A part of the proof: contracts of functions and plain facts (HWider). No condition. -/
import Derived.Test.YtncaadckehikpaaM0
import Derived.Test.YtncaadckehikpaaM17
namespace Go.Proofs.Ytncaadckehikpaa.Q
open Go.RowKit Go.Proofs.YtncaadckehikpaaW.PrintWords Go.Proofs.YtncaadckehikpaaW.PrintLast Go.Proofs.YtncaadckehikpaaW.PrintMore
set_option linter.unusedVariables false
set_option linter.unusedSimpArgs false
set_option maxHeartbeats 2000000 in
set_option maxRecDepth 100000 in
theorem wider_core (lo hi x m : Int) (w : World) (hm : (hi < x ∧ m = x) ∨ (¬ hi < x ∧ m = hi)) :
    Calls Try.prog 106 #[.agg #[.int .i64 lo, .int .i64 hi], .int .i64 x] w fun e w' => e = .returned (.agg #[.int .i64 (mn lo x), .int .i64 m]) ∧ Below w.heap.size w w' := by
  rcases hm with ⟨hlt, rfl⟩ | ⟨hlt, rfl⟩
  · have hu44 := Try.underlying44
    go_enter Try.func106, Try.ntmps106
    go_wp2_with fail
    obtain ⟨w2, hw2⟩ : ∃ w2, (w.alloc (.cells #[.int .i64 lo, .int .i64 hi] 44)).alloc (.cells #[.int .i64 0, .int .i64 0] 44) = w2 := ⟨_, rfl⟩
    have HB := mkA (show Below w.heap.size w w2 from by rw [← hw2]; exact z10 (z10 (Below.refl _ _) _) _)
    have H0 := mkA (show w2.heap[w.heap.size]? = some (.cells #[.int .i64 lo, .int .i64 hi] 44 (0, 0)) from by rw [← hw2]; exact blk_below (z19 w _) (z10 (Below.refl _ _) _))
    have H1 := mkA (show w2.heap[w.heap.size + 1]? = some (.cells #[.int .i64 0, .int .i64 0] 44 (0, 0)) from by rw [← hw2]; simpa using z19 (w.alloc _) (.cells #[.int .i64 0, .int .i64 0] 44))
    rw [hw2]
    clear hw2
    have HK := mkA (fun (W' : World) (hb : Below w2.heap.size w2 W') => show W'.cell? ⟨w.heap.size, 0, none⟩ = some (.int .i64 lo) ∧ W'.cell? ⟨w.heap.size, 1, none⟩ = some (.int .i64 hi) from
      ⟨(z12 (blk_below H0.out hb) 0).trans rfl, (z12 (blk_below H0.out hb) 1).trans rfl⟩)
    have HMI := mkA (soap_minimum.calls (some ⟨w2.drew.heap.size, 0, none⟩) 2 [lo, m] (mn lo m) (w2.drew.alloc (.cells #[.int .i64 lo, .int .i64 m] 3))
        (C_ints [lo, m] (by simp) (z19 w2.drew _)) (by simp) (by
          unfold soap_minimum.f; rw [if_pos (by simp)]; simp [minTo, rd, show mn lo lo = lo by unfold mn; split <;> rfl]))
    focus
      refine plain_region_head (S := (fun W' => W'.cell? ⟨w.heap.size, 0, none⟩ = some (.int .i64 lo) ∧ W'.cell? ⟨w.heap.size, 1, none⟩ = some (.int .i64 hi))) 10 (by kernel_rfl) (by kernel_rfl) ?_ (fun hHeld => ?_)
      · (try dsimp only); exact HK.out _ (z13 (Below.refl _ _))
      try simp only [List.take_succ_cons, List.take_zero, List.drop_succ_cons, List.drop_zero]
      refine tk (v := ?_) 0 hHeld rfl (by kernel_rfl) (fun _ _ _ h => h) (Or.inl ⟨?tkh, ?tky⟩) ?_
      case tkh => rfl
      case tky => intro w hSw; (try dsimp only at hSw); go_simp; (try with_reducible rfl)
      try simp only [Act.put, xq1, xq2, xq3]
      refine tk (v := ?_) 1 hHeld rfl (by kernel_rfl) (fun _ _ _ h => h) (Or.inl ⟨?tkh, ?tky⟩) ?_
      case tkh => rfl
      case tky => intro w hSw; (try dsimp only at hSw); go_simp; (try with_reducible rfl)
      try simp only [Act.put, xq1, xq2, xq3]
      refine tk (v := ?_) 2 hHeld rfl (by kernel_rfl) (fun _ _ _ h => h) (Or.inl ⟨?tkh, ?tky⟩) ?_
      case tkh => rfl
      case tky => intro w hSw; (try dsimp only at hSw); go_simp; (try with_reducible rfl)
      try simp only [Act.put, xq1, xq2, xq3]
      refine tk (v := ?_) 5 hHeld rfl (by kernel_rfl) (fun _ _ _ h => h) (Or.inl ⟨?tkh, ?tky⟩) ?_
      case tkh => rfl
      case tky => intro w hSw; (try dsimp only at hSw); go_simp; (try with_reducible rfl)
      try simp only [Act.put, xq1, xq2, xq3]
      refine tk (v := ?_) 6 hHeld rfl (by kernel_rfl) (fun _ _ _ h => h) (Or.inl ⟨?tkh, ?tky⟩) ?_
      case tkh => rfl
      case tky => intro w hSw; (try dsimp only at hSw); go_simp; (try with_reducible rfl)
      try simp only [Act.put, xq1, xq2, xq3]
      refine tk (v := ?_) 7 hHeld rfl (by kernel_rfl) (fun _ _ _ h => h) (Or.inl ⟨?tkh, ?tky⟩) ?_
      case tkh => rfl
      case tky => intro w hSw; (try dsimp only at hSw); go_simp; (try with_reducible rfl)
      try simp only [Act.put, xq1, xq2, xq3]
      refine wpAnyH_ready (rs := [3, 8]) (by kernel_rfl) (by simp) (cs rfl (fun K hK => ?_) (cs rfl (fun K hK => ?_) AllReadyH.nil))
      go_simp
      try simp only [Act.put, xq1, xq2, xq3]
      refine hK.out _ _ ?_ (fun hHeld2 => ?_)
      · (try dsimp only); exact HK.out _ (z10 (z13 (Below.refl _ _)) _)
      clear hK K hHeld; have hHeld := hHeld2; clear hHeld2
      refine wpAnyH_ready (rs := [4, 8]) (by kernel_rfl) (by simp) (cs rfl (fun K hK => ?_) (cs rfl (fun K hK => ?_) AllReadyH.nil))
      go_simp
      ((go_at_call 103; refine HMI.out.mono ?_; rintro e w4 ⟨rfl, ⟨mm, hw4⟩⟩; have HB4 := mkA (show Below w2.heap.size w2 w4 by rw [hw4]; exact z11 (z10 (z13 (Below.refl _ _)) _) _); clear hw4; dsimp only))
      try simp only [Act.put, xq1, xq2, xq3]
      refine hK.out _ _ ?_ (fun hHeld2 => ?_)
      · (try dsimp only); exact HK.out _ HB4.out
      clear hK K hHeld; have hHeld := hHeld2; clear hHeld2
      refine wpAnyH_ready (rs := [8]) (by kernel_rfl) (by simp) (cs rfl (fun K hK => ?_) AllReadyH.nil)
      go_simp
      try simp only [Act.put, xq1, xq2, xq3]
      refine hK.out _ _ ?_ (fun hHeld2 => ?_)
      · (try dsimp only); exact HK.out _ HB4.out
      clear hK K hHeld; have hHeld := hHeld2; clear hHeld2
      refine tk (v := ?_) 9 hHeld rfl (by kernel_rfl) (fun _ _ _ h => h) (Or.inl ⟨?tkh, ?tky⟩) ?_
      case tkh => rfl
      case tky => intro w hSw; (try dsimp only at hSw); go_simp; (try with_reducible rfl)
      try simp only [Act.put, xq1, xq2, xq3]
      refine wpAnyH_done (by kernel_rfl) ?_ _
      rotate_left
      go_simp
      try simp only [Act.put, xq1, xq2, xq3]
      refine hK.out _ _ ?_ (fun hHeld2 => ?_)
      · (try dsimp only); exact HK.out _ (z10 (z13 (Below.refl _ _)) _)
      clear hK K hHeld; have hHeld := hHeld2; clear hHeld2
      refine wpAnyH_ready (rs := [4]) (by kernel_rfl) (by simp) (cs rfl (fun K hK => ?_) AllReadyH.nil)
      go_simp
      ((go_at_call 103; refine HMI.out.mono ?_; rintro e w4 ⟨rfl, ⟨mm, hw4⟩⟩; have HB4 := mkA (show Below w2.heap.size w2 w4 by rw [hw4]; exact z11 (z10 (z13 (Below.refl _ _)) _) _); clear hw4; dsimp only))
      try simp only [Act.put, xq1, xq2, xq3]
      refine hK.out _ _ ?_ (fun hHeld2 => ?_)
      · (try dsimp only); exact HK.out _ HB4.out
      clear hK K hHeld; have hHeld := hHeld2; clear hHeld2
      refine tk (v := ?_) 9 hHeld rfl (by kernel_rfl) (fun _ _ _ h => h) (Or.inl ⟨?tkh, ?tky⟩) ?_
      case tkh => rfl
      case tky => intro w hSw; (try dsimp only at hSw); go_simp; (try with_reducible rfl)
      try simp only [Act.put, xq1, xq2, xq3]
      refine wpAnyH_done (by kernel_rfl) ?_ _
      rotate_left
      go_simp
      try simp only [Act.put, xq1, xq2, xq3]
      refine hK.out _ _ ?_ (fun hHeld2 => ?_)
      · (try dsimp only); exact HK.out _ (z13 (Below.refl _ _))
      clear hK K hHeld; have hHeld := hHeld2; clear hHeld2
      refine wpAnyH_ready (rs := [3]) (by kernel_rfl) (by simp) (cs rfl (fun K hK => ?_) AllReadyH.nil)
      go_simp
      try simp only [Act.put, xq1, xq2, xq3]
      refine hK.out _ _ ?_ (fun hHeld2 => ?_)
      · (try dsimp only); exact HK.out _ (z10 (z13 (Below.refl _ _)) _)
      clear hK K hHeld; have hHeld := hHeld2; clear hHeld2
      refine wpAnyH_ready (rs := [4]) (by kernel_rfl) (by simp) (cs rfl (fun K hK => ?_) AllReadyH.nil)
      go_simp
      ((go_at_call 103; refine HMI.out.mono ?_; rintro e w4 ⟨rfl, ⟨mm, hw4⟩⟩; have HB4 := mkA (show Below w2.heap.size w2 w4 by rw [hw4]; exact z11 (z10 (z13 (Below.refl _ _)) _) _); clear hw4; dsimp only))
      try simp only [Act.put, xq1, xq2, xq3]
      refine hK.out _ _ ?_ (fun hHeld2 => ?_)
      · (try dsimp only); exact HK.out _ HB4.out
      clear hK K hHeld; have hHeld := hHeld2; clear hHeld2
      refine tk (v := ?_) 9 hHeld rfl (by kernel_rfl) (fun _ _ _ h => h) (Or.inl ⟨?tkh, ?tky⟩) ?_
      case tkh => rfl
      case tky => intro w hSw; (try dsimp only at hSw); go_simp; (try with_reducible rfl)
      try simp only [Act.put, xq1, xq2, xq3]
      refine wpAnyH_done (by kernel_rfl) ?_ _
      rotate_left
      all_goals (refine EndsBy.mk ?_)
    all_goals
      have hq := blk_below H1.out HB4.out
      have hc0 : w4.cell? ⟨w.heap.size + 1, 0, none⟩ = some (.int .i64 0) := (z12 hq 0).trans rfl
      have hc1 : w4.cell? ⟨w.heap.size + 1, 1, none⟩ = some (.int .i64 0) := (z12 hq 1).trans rfl
      have hf0 : w4.frozen? ⟨w.heap.size + 1, 0, none⟩ = false := z14 hq _
      have hf1 : w4.frozen? ⟨w.heap.size + 1, 1, none⟩ = false := z14 hq _
      have HQ := mkA hq
      clear hq
      go_wp2
      have hq := HQ.out
      have he : ((w4.setCell ⟨w.heap.size + 1, 0, none⟩ (.int .i64 (mn lo m))).setCell ⟨w.heap.size + 1, 1, none⟩ (.int .i64 m)).heap[w.heap.size + 1]? = some (.cells #[.int .i64 (mn lo m), .int .i64 m] 44 (0, 0)) := by
        simp [World.setCell, Array.getElem?_modify, hq]
      have e0 := z12 he 0
      have e1 := z12 he 1
      refine bodyPost_ret (v := .agg #[.int .i64 (mn lo m), .int .i64 m]) ?_ rfl ⟨rfl, z15 (z15 (z16 HB.out HB4.out) (by simp)) (by simp)⟩
      simp at e0 e1
      simp [results, Try.results106, go_sem, e0, e1]
  · have hu44 := Try.underlying44
    go_enter Try.func106, Try.ntmps106
    go_wp2_with fail
    obtain ⟨w2, hw2⟩ : ∃ w2, (w.alloc (.cells #[.int .i64 lo, .int .i64 m] 44)).alloc (.cells #[.int .i64 0, .int .i64 0] 44) = w2 := ⟨_, rfl⟩
    have HB := mkA (show Below w.heap.size w w2 from by rw [← hw2]; exact z10 (z10 (Below.refl _ _) _) _)
    have H0 := mkA (show w2.heap[w.heap.size]? = some (.cells #[.int .i64 lo, .int .i64 m] 44 (0, 0)) from by rw [← hw2]; exact blk_below (z19 w _) (z10 (Below.refl _ _) _))
    have H1 := mkA (show w2.heap[w.heap.size + 1]? = some (.cells #[.int .i64 0, .int .i64 0] 44 (0, 0)) from by rw [← hw2]; simpa using z19 (w.alloc _) (.cells #[.int .i64 0, .int .i64 0] 44))
    rw [hw2]
    clear hw2
    have HK := mkA (fun (W' : World) (hb : Below w2.heap.size w2 W') => show W'.cell? ⟨w.heap.size, 0, none⟩ = some (.int .i64 lo) ∧ W'.cell? ⟨w.heap.size, 1, none⟩ = some (.int .i64 m) from
      ⟨(z12 (blk_below H0.out hb) 0).trans rfl, (z12 (blk_below H0.out hb) 1).trans rfl⟩)
    have HMI := mkA (soap_minimum.calls (some ⟨w2.drew.heap.size, 0, none⟩) 2 [lo, x] (mn lo x) (w2.drew.alloc (.cells #[.int .i64 lo, .int .i64 x] 3))
        (C_ints [lo, x] (by simp) (z19 w2.drew _)) (by simp) (by
          unfold soap_minimum.f; rw [if_pos (by simp)]; simp [minTo, rd, show mn lo lo = lo by unfold mn; split <;> rfl]))
    focus
      refine plain_region_head (S := (fun W' => W'.cell? ⟨w.heap.size, 0, none⟩ = some (.int .i64 lo) ∧ W'.cell? ⟨w.heap.size, 1, none⟩ = some (.int .i64 m))) 10 (by kernel_rfl) (by kernel_rfl) ?_ (fun hHeld => ?_)
      · (try dsimp only); exact HK.out _ (z13 (Below.refl _ _))
      try simp only [List.take_succ_cons, List.take_zero, List.drop_succ_cons, List.drop_zero]
      refine tk (v := ?_) 0 hHeld rfl (by kernel_rfl) (fun _ _ _ h => h) (Or.inl ⟨?tkh, ?tky⟩) ?_
      case tkh => rfl
      case tky => intro w hSw; (try dsimp only at hSw); go_simp; (try with_reducible rfl)
      try simp only [Act.put, xq1, xq2, xq3]
      refine tk (v := ?_) 1 hHeld rfl (by kernel_rfl) (fun _ _ _ h => h) (Or.inl ⟨?tkh, ?tky⟩) ?_
      case tkh => rfl
      case tky => intro w hSw; (try dsimp only at hSw); go_simp; (try with_reducible rfl)
      try simp only [Act.put, xq1, xq2, xq3]
      refine tk (v := ?_) 2 hHeld rfl (by kernel_rfl) (fun _ _ _ h => h) (Or.inl ⟨?tkh, ?tky⟩) ?_
      case tkh => rfl
      case tky => intro w hSw; (try dsimp only at hSw); go_simp; (try with_reducible rfl)
      try simp only [Act.put, xq1, xq2, xq3]
      refine tk (v := ?_) 5 hHeld rfl (by kernel_rfl) (fun _ _ _ h => h) (Or.inl ⟨?tkh, ?tky⟩) ?_
      case tkh => rfl
      case tky => intro w hSw; (try dsimp only at hSw); go_simp; (try with_reducible rfl)
      try simp only [Act.put, xq1, xq2, xq3]
      refine tk (v := ?_) 6 hHeld rfl (by kernel_rfl) (fun _ _ _ h => h) (Or.inl ⟨?tkh, ?tky⟩) ?_
      case tkh => rfl
      case tky => intro w hSw; (try dsimp only at hSw); go_simp; (try with_reducible rfl)
      try simp only [Act.put, xq1, xq2, xq3]
      refine tk (v := ?_) 7 hHeld rfl (by kernel_rfl) (fun _ _ _ h => h) (Or.inl ⟨?tkh, ?tky⟩) ?_
      case tkh => rfl
      case tky => intro w hSw; (try dsimp only at hSw); go_simp; (try with_reducible rfl)
      try simp only [Act.put, xq1, xq2, xq3]
      refine wpAnyH_ready (rs := [3, 8]) (by kernel_rfl) (by simp) (cs rfl (fun K hK => ?_) (cs rfl (fun K hK => ?_) AllReadyH.nil))
      go_simp
      try simp only [Act.put, xq1, xq2, xq3]
      refine hK.out _ _ ?_ (fun hHeld2 => ?_)
      · (try dsimp only); exact HK.out _ (z10 (z13 (Below.refl _ _)) _)
      clear hK K hHeld; have hHeld := hHeld2; clear hHeld2
      refine wpAnyH_ready (rs := [4, 8]) (by kernel_rfl) (by simp) (cs rfl (fun K hK => ?_) (cs rfl (fun K hK => ?_) AllReadyH.nil))
      go_simp
      ((go_at_call 103; refine HMI.out.mono ?_; rintro e w4 ⟨rfl, ⟨mm, hw4⟩⟩; have HB4 := mkA (show Below w2.heap.size w2 w4 by rw [hw4]; exact z11 (z10 (z13 (Below.refl _ _)) _) _); clear hw4; dsimp only))
      try simp only [Act.put, xq1, xq2, xq3]
      refine hK.out _ _ ?_ (fun hHeld2 => ?_)
      · (try dsimp only); exact HK.out _ HB4.out
      clear hK K hHeld; have hHeld := hHeld2; clear hHeld2
      refine wpAnyH_ready (rs := [8]) (by kernel_rfl) (by simp) (cs rfl (fun K hK => ?_) AllReadyH.nil)
      go_simp
      try simp only [Act.put, xq1, xq2, xq3]
      refine hK.out _ _ ?_ (fun hHeld2 => ?_)
      · (try dsimp only); exact HK.out _ HB4.out
      clear hK K hHeld; have hHeld := hHeld2; clear hHeld2
      refine tk (v := ?_) 9 hHeld rfl (by kernel_rfl) (fun _ _ _ h => h) (Or.inl ⟨?tkh, ?tky⟩) ?_
      case tkh => rfl
      case tky => intro w hSw; (try dsimp only at hSw); go_simp; (try with_reducible rfl)
      try simp only [Act.put, xq1, xq2, xq3]
      refine wpAnyH_done (by kernel_rfl) ?_ _
      rotate_left
      go_simp
      try simp only [Act.put, xq1, xq2, xq3]
      refine hK.out _ _ ?_ (fun hHeld2 => ?_)
      · (try dsimp only); exact HK.out _ (z10 (z13 (Below.refl _ _)) _)
      clear hK K hHeld; have hHeld := hHeld2; clear hHeld2
      refine wpAnyH_ready (rs := [4]) (by kernel_rfl) (by simp) (cs rfl (fun K hK => ?_) AllReadyH.nil)
      go_simp
      ((go_at_call 103; refine HMI.out.mono ?_; rintro e w4 ⟨rfl, ⟨mm, hw4⟩⟩; have HB4 := mkA (show Below w2.heap.size w2 w4 by rw [hw4]; exact z11 (z10 (z13 (Below.refl _ _)) _) _); clear hw4; dsimp only))
      try simp only [Act.put, xq1, xq2, xq3]
      refine hK.out _ _ ?_ (fun hHeld2 => ?_)
      · (try dsimp only); exact HK.out _ HB4.out
      clear hK K hHeld; have hHeld := hHeld2; clear hHeld2
      refine tk (v := ?_) 9 hHeld rfl (by kernel_rfl) (fun _ _ _ h => h) (Or.inl ⟨?tkh, ?tky⟩) ?_
      case tkh => rfl
      case tky => intro w hSw; (try dsimp only at hSw); go_simp; (try with_reducible rfl)
      try simp only [Act.put, xq1, xq2, xq3]
      refine wpAnyH_done (by kernel_rfl) ?_ _
      rotate_left
      go_simp
      try simp only [Act.put, xq1, xq2, xq3]
      refine hK.out _ _ ?_ (fun hHeld2 => ?_)
      · (try dsimp only); exact HK.out _ (z13 (Below.refl _ _))
      clear hK K hHeld; have hHeld := hHeld2; clear hHeld2
      refine wpAnyH_ready (rs := [3]) (by kernel_rfl) (by simp) (cs rfl (fun K hK => ?_) AllReadyH.nil)
      go_simp
      try simp only [Act.put, xq1, xq2, xq3]
      refine hK.out _ _ ?_ (fun hHeld2 => ?_)
      · (try dsimp only); exact HK.out _ (z10 (z13 (Below.refl _ _)) _)
      clear hK K hHeld; have hHeld := hHeld2; clear hHeld2
      refine wpAnyH_ready (rs := [4]) (by kernel_rfl) (by simp) (cs rfl (fun K hK => ?_) AllReadyH.nil)
      go_simp
      ((go_at_call 103; refine HMI.out.mono ?_; rintro e w4 ⟨rfl, ⟨mm, hw4⟩⟩; have HB4 := mkA (show Below w2.heap.size w2 w4 by rw [hw4]; exact z11 (z10 (z13 (Below.refl _ _)) _) _); clear hw4; dsimp only))
      try simp only [Act.put, xq1, xq2, xq3]
      refine hK.out _ _ ?_ (fun hHeld2 => ?_)
      · (try dsimp only); exact HK.out _ HB4.out
      clear hK K hHeld; have hHeld := hHeld2; clear hHeld2
      refine tk (v := ?_) 9 hHeld rfl (by kernel_rfl) (fun _ _ _ h => h) (Or.inl ⟨?tkh, ?tky⟩) ?_
      case tkh => rfl
      case tky => intro w hSw; (try dsimp only at hSw); go_simp; (try with_reducible rfl)
      try simp only [Act.put, xq1, xq2, xq3]
      refine wpAnyH_done (by kernel_rfl) ?_ _
      rotate_left
      all_goals (refine EndsBy.mk ?_)
    all_goals
      have hq := blk_below H1.out HB4.out
      have hc0 : w4.cell? ⟨w.heap.size + 1, 0, none⟩ = some (.int .i64 0) := (z12 hq 0).trans rfl
      have hc1 : w4.cell? ⟨w.heap.size + 1, 1, none⟩ = some (.int .i64 0) := (z12 hq 1).trans rfl
      have hf0 : w4.frozen? ⟨w.heap.size + 1, 0, none⟩ = false := z14 hq _
      have hf1 : w4.frozen? ⟨w.heap.size + 1, 1, none⟩ = false := z14 hq _
      have HQ := mkA hq
      clear hq
      go_wp2
      have hq := HQ.out
      have he : ((w4.setCell ⟨w.heap.size + 1, 0, none⟩ (.int .i64 (mn lo x))).setCell ⟨w.heap.size + 1, 1, none⟩ (.int .i64 m)).heap[w.heap.size + 1]? = some (.cells #[.int .i64 (mn lo x), .int .i64 m] 44 (0, 0)) := by
        simp [World.setCell, Array.getElem?_modify, hq]
      have e0 := z12 he 0
      have e1 := z12 he 1
      refine bodyPost_ret (v := .agg #[.int .i64 (mn lo x), .int .i64 m]) ?_ rfl ⟨rfl, z15 (z15 (z16 HB.out HB4.out) (by simp)) (by simp)⟩
      simp at e0 e1
      simp [results, Try.results106, go_sem, e0, e1]
theorem wider_calls (lo hi x : Int) (w : World) :
    Calls Try.prog 106 #[.agg #[.int .i64 lo, .int .i64 hi], .int .i64 x] w fun e w' => e = .returned (.agg #[.int .i64 (mn lo x), .int .i64 (mx hi x)]) ∧ Below w.heap.size w w' := by
  refine wider_core lo hi x _ w ?_
  unfold mx
  split
  · exact .inl ⟨by assumption, rfl⟩
  · exact .inr ⟨by assumption, rfl⟩
end Go.Proofs.Ytncaadckehikpaa.Q
