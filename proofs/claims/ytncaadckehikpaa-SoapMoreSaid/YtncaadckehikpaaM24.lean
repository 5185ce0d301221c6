/- A part of the proof: contracts of functions and plain facts (HFour). No condition. -/
import Derived.Test.YtncaadckehikpaaM23
import Derived.Test.YtncaadckehikpaaM11
namespace Go.Proofs.Ytncaadckehikpaa.Q
open Go.RowKit Go.Proofs.YtncaadckehikpaaW.PrintWords Go.Proofs.YtncaadckehikpaaW.PrintLast Go.Proofs.YtncaadckehikpaaW.PrintMore
set_option linter.unusedVariables false
set_option linter.unusedSimpArgs false
def fourE : List S122 := [⟨0, 1, ⟨2, 3⟩⟩, ⟨1, 2, ⟨2, 2⟩⟩, ⟨3, 2, ⟨1, 4⟩⟩]
def fourS : List S124 := [⟨2, ⟨-4, -3⟩⟩, ⟨1, ⟨-1, -1⟩⟩, ⟨0, ⟨2, 2⟩⟩]
theorem flat_at {α : Type} (f : α → List Value) (s : Nat) (hl : ∀ x, (f x).length = s) : ∀ (xs : List α) (j : Nat) (p : α) (i : Nat), xs[j]? = some p → i < s → (xs.flatMap f)[j * s + i]? = (f p)[i]?
  | [], _, _, _, h, _ => by simp at h
  | x :: r, 0, p, i, h, hi => by
    simp at h
    subst h
    rw [List.flatMap_cons, Nat.zero_mul, Nat.zero_add, List.getElem?_append_left (by rw [hl]; exact hi)]
  | x :: r, j + 1, p, i, h, hi => by
    rw [List.flatMap_cons, Nat.succ_mul, List.getElem?_append_right (by rw [hl]; omega), hl, show j * s + s + i - s = j * s + i by omega]
    exact flat_at f s hl r j p i (by simpa using h) hi
/-- A block of elements reads as their list. -/
theorem C_block {α : Type} (d : Kd α) (f : α → List Value) {W : World} {g : Nat} {e : TypeId} (hK : ∀ x, d.K W x (f x)) (xs : List α) (hn : xs.length ≤ 9223372036854775807) (h : W.heap[g]? = some (.cells (xs.flatMap f).toArray e (0, 0))) : d.C W (some ⟨g, 0, none⟩) xs.length xs := by
  have hl : ∀ x, (f x).length = d.sz := fun x => d.K_len (hK x)
  refine ⟨rfl, hn, fun _ => ⟨⟨g, 0, none⟩, rfl, fun j p hj => ⟨f p, hl p, hK p, fun i u hi => ?_⟩⟩⟩
  have his : i < d.sz := by
    rw [← hl p]
    exact (List.getElem?_eq_some_iff.1 hi).1
  rw [add_plain, cell_of_row W g (j * d.sz + i) _ e (0, 0) h]
  have := flat_at f d.sz hl xs j p i hj his
  rw [hi] at this
  simpa using this
def cells122 (x : S122) : List Value := [.int .i64 x.f0, .int .i64 x.f1, .int .i64 x.f2.f0, .int .i64 x.f2.f1]
def cells124 (x : S124) : List Value := [.int .i64 x.f0, .int .i64 x.f1.f0, .int .i64 x.f1.f1]
theorem C_four_E {W : World} {g : Nat} (h : W.heap[g]? = some (.cells #[.int .i64 0, .int .i64 1, .int .i64 2, .int .i64 3, .int .i64 1, .int .i64 2, .int .i64 2, .int .i64 2, .int .i64 3, .int .i64 2, .int .i64 1, .int .i64 4] 122 (0, 0))) : Kd.C k122 W (some ⟨g, 0, none⟩) 3 fourE :=
  C_block k122 cells122 (fun x => k122_mk W x) fourE (by decide) h
theorem C_four_S {W : World} {g : Nat} (h : W.heap[g]? = some (.cells #[.int .i64 2, .int .i64 (-4), .int .i64 (-3), .int .i64 1, .int .i64 (-1), .int .i64 (-1), .int .i64 0, .int .i64 2, .int .i64 2] 124 (0, 0))) : Kd.C k124 W (some ⟨g, 0, none⟩) 3 fourS :=
  C_block k124 cells124 (fun x => k124_mk W x) fourS (by decide) h
set_option maxHeartbeats 2000000 in
set_option maxRecDepth 100000 in
theorem four_calls (k : Int) (hk0 : 0 ≤ k) (hk3 : k ≤ 3) (w : World) :
    Calls Try.prog 70 #[.int .i64 k] w fun e w' => ∃ A1 A2, e = .returned (.agg #[.int .i64 4, .slice A1 3 3, .slice A2 k.toNat 3]) ∧ Kd.C k122 w' A1 3 fourE ∧ Kd.C k124 w' A2 k.toNat (fourS.take k.toNat) ∧ Below w.heap.size w w' := by
  have hu35 := Try.underlying35
  have hu122 := Try.underlying122
  have hu124 := Try.underlying124
  have hu44 := Try.underlying44
  go_enter Try.func70, Try.ntmps70
  go_wp2_with (first | (go_at_call 71; (refine (pl_between.calls (-4) (-3) (-4) (-3) _ rfl).mono ?_); rintro e w1 ⟨rfl, hb⟩; have HB1 := mkA hb; clear hb) | (go_at_call 71; (refine (pl_between.calls (-1) (-1) (-1) (-1) _ rfl).mono ?_); rintro e w2 ⟨rfl, hb⟩; have HB2 := mkA hb; clear hb) | (go_at_call 71; (refine (pl_between.calls 2 2 2 2 _ rfl).mono ?_); rintro e w3 ⟨rfl, hb⟩; have HB3 := mkA hb; clear hb))
  focus
    refine plain_region_head (S := (fun _ => True)) 11 (by kernel_rfl) (by kernel_rfl) ?_ (fun hHeld => ?_)
    · try dsimp only
    try simp only [List.take_succ_cons, List.take_zero, List.drop_succ_cons, List.drop_zero]
    refine tk (v := ?_) 7 hHeld rfl (by kernel_rfl) (fun _ _ _ h => h) (Or.inl ⟨?tkh, ?tky⟩) ?_
    case tkh => rfl
    case tky => intro w hSw; (try dsimp only at hSw); go_simp; (try with_reducible rfl)
    try simp only [Act.put, xq1, xq2, xq3]
    refine tk (v := ?_) 8 hHeld rfl (by kernel_rfl) (fun _ _ _ h => h) (Or.inl ⟨?tkh, ?tky⟩) ?_
    case tkh => rfl
    case tky => intro w hSw; (try dsimp only at hSw); go_simp; (try with_reducible rfl)
    try simp only [Act.put, xq1, xq2, xq3]
    refine tk (v := ?_) 9 hHeld rfl (by kernel_rfl) (fun _ _ _ h => h) (Or.inl ⟨?tkh, ?tky⟩) ?_
    case tkh => rfl
    case tky => intro w hSw; (try dsimp only at hSw); go_simp; (try with_reducible rfl)
    try simp only [Act.put, xq1, xq2, xq3]
    refine wpAnyH_ready (rs := [0]) (by kernel_rfl) (by simp) (cs rfl (fun K hK => ?_) AllReadyH.nil)
    go_simp
    ((go_at_call 71; (with_reducible refine (pl_between.calls 2 3 2 3 _ rfl).mono ?_); rintro e w4 ⟨rfl, hb⟩; have HB4 := mkA hb; clear hb; dsimp only))
    try simp only [Act.put, xq1, xq2, xq3]
    refine hK.out _ _ ?_ (fun hHeld2 => ?_)
    · try dsimp only
    clear hK K hHeld; have hHeld := hHeld2; clear hHeld2
    refine tk (v := ?_) 1 hHeld rfl (by kernel_rfl) (fun _ _ _ h => h) (Or.inl ⟨?tkh, ?tky⟩) ?_
    case tkh => rfl
    case tky => intro w hSw; (try dsimp only at hSw); go_simp; (try with_reducible rfl)
    try simp only [Act.put, xq1, xq2, xq3]
    refine wpAnyH_ready (rs := [2]) (by kernel_rfl) (by simp) (cs rfl (fun K hK => ?_) AllReadyH.nil)
    go_simp
    ((go_at_call 71; (with_reducible refine (pl_between.calls 2 2 2 2 _ rfl).mono ?_); rintro e w5 ⟨rfl, hb⟩; have HB5 := mkA hb; clear hb; dsimp only))
    try simp only [Act.put, xq1, xq2, xq3]
    refine hK.out _ _ ?_ (fun hHeld2 => ?_)
    · try dsimp only
    clear hK K hHeld; have hHeld := hHeld2; clear hHeld2
    refine tk (v := ?_) 3 hHeld rfl (by kernel_rfl) (fun _ _ _ h => h) (Or.inl ⟨?tkh, ?tky⟩) ?_
    case tkh => rfl
    case tky => intro w hSw; (try dsimp only at hSw); go_simp; (try with_reducible rfl)
    try simp only [Act.put, xq1, xq2, xq3]
    refine wpAnyH_ready (rs := [4]) (by kernel_rfl) (by simp) (cs rfl (fun K hK => ?_) AllReadyH.nil)
    go_simp
    ((go_at_call 71; (with_reducible refine (pl_between.calls 1 4 1 4 _ rfl).mono ?_); rintro e w6 ⟨rfl, hb⟩; have HB6 := mkA hb; clear hb; dsimp only))
    try simp only [Act.put, xq1, xq2, xq3]
    refine hK.out _ _ ?_ (fun hHeld2 => ?_)
    · try dsimp only
    clear hK K hHeld; have hHeld := hHeld2; clear hHeld2
    refine tk (v := ?_) 5 hHeld rfl (by kernel_rfl) (fun _ _ _ h => h) (Or.inl ⟨?tkh, ?tky⟩) ?_
    case tkh => rfl
    case tky => intro w hSw; (try dsimp only at hSw); go_simp; (try with_reducible rfl)
    try simp only [Act.put, xq1, xq2, xq3]
    refine wpAnyH_ready (rs := [6]) (by kernel_rfl) (by simp) (cs rfl (fun K hK => ?_) AllReadyH.nil)
    go_simp
    try simp only [Act.put, xq1, xq2, xq3]
    refine hK.out _ _ ?_ (fun hHeld2 => ?_)
    · try dsimp only
    clear hK K hHeld; have hHeld := hHeld2; clear hHeld2
    refine tk (v := ?_) 10 hHeld rfl (by kernel_rfl) (fun _ _ _ h => h) (Or.inl ⟨?tkh, ?tky⟩) ?_
    case tkh => rfl
    case tky => intro w hSw; (try dsimp only at hSw); go_simp; (try with_reducible rfl)
    try simp only [Act.put, xq1, xq2, xq3]
    refine wpAnyH_done (by kernel_rfl) ?_ _
    all_goals (refine EndsBy.mk ?_)
  all_goals
    have b3 := z17 (z17 HB1.out HB2.out) HB3.out
    have hw0 := z21 w (.cells #[.int .i64 0, .slice none 0 0, .slice none 0 0] 35)
    have b6 := z17 (z12 (Below.refl _ _)) (z17 (z17 HB4.out HB5.out) HB6.out)
    have hsay := blk_below (z21 w3 (.cells #[.int .i64 2, .int .i64 (-4), .int .i64 (-3), .int .i64 1, .int .i64 (-1), .int .i64 (-1), .int .i64 0, .int .i64 2, .int .i64 2] 124)) b6
    have b36 : Below w3.heap.size w3 w6 := z17 (z10 (Below.refl _ _) _) b6
    have hres := blk_below (blk_below hw0 b3) b36
    have hbw : Below w.heap.size w w6 := z17 (z17 (z10 (Below.refl _ _) _) b3) b36
    obtain ⟨w7, hw7⟩ : ∃ w7, w6.alloc (.cells #[.int .i64 0, .int .i64 1, .int .i64 2, .int .i64 3, .int .i64 1, .int .i64 2, .int .i64 2, .int .i64 2, .int .i64 3, .int .i64 2, .int .i64 1, .int .i64 4] 122) = w7 := ⟨_, rfl⟩
    have hent : w7.heap[w6.heap.size]? = some (.cells #[.int .i64 0, .int .i64 1, .int .i64 2, .int .i64 3, .int .i64 1, .int .i64 2, .int .i64 2, .int .i64 2, .int .i64 3, .int .i64 2, .int .i64 1, .int .i64 4] 122 (0, 0)) := by rw [← hw7]; exact z21 w6 (.cells #[.int .i64 0, .int .i64 1, .int .i64 2, .int .i64 3, .int .i64 1, .int .i64 2, .int .i64 2, .int .i64 2, .int .i64 3, .int .i64 2, .int .i64 1, .int .i64 4] 122)
    have b67 : Below w6.heap.size w6 w7 := by rw [← hw7]; exact z10 (Below.refl _ _) _
    have hres7 := blk_below hres b67
    have hsay7 := blk_below hsay b67
    have c0 : w7.cell? ⟨w.heap.size, 0, none⟩ = some (.int .i64 0) := (z13 hres7 0).trans rfl
    have c1 : w7.cell? ⟨w.heap.size, 1, none⟩ = some (.slice none 0 0) := (z13 hres7 1).trans rfl
    have c2 : w7.cell? ⟨w.heap.size, 2, none⟩ = some (.slice none 0 0) := (z13 hres7 2).trans rfl
    have f0 : w7.frozen? ⟨w.heap.size, 0, none⟩ = false := z15 hres7 _
    have f1 : w7.frozen? ⟨w.heap.size, 1, none⟩ = false := z15 hres7 _
    have f2 : w7.frozen? ⟨w.heap.size, 2, none⟩ = false := z15 hres7 _
    have HE := mkA hent
    have HSY := mkA hsay7
    have HRS := mkA hres7
    have HBW := mkA (z17 hbw b67)
    have hs3 : w.heap.size < w3.heap.size := z26 (blk_below hw0 b3)
    have hs6 : w.heap.size < w6.heap.size := z26 hres
    rw [hw7]
    clear b3 hw0 b6 hsay b36 hres hbw hw7 hent b67 hres7 hsay7
    go_wp2
    obtain ⟨w9, hw9⟩ : ∃ w9, (((w7.setCell ⟨w.heap.size, 0, none⟩ (.int .i64 4)).setCell ⟨w.heap.size, 1, none⟩ (.slice (some ⟨w6.heap.size, 0, none⟩) 3 3)).setCell ⟨w.heap.size, 2, none⟩ (.slice (some ⟨w3.heap.size, 0, none⟩) k.toNat 3)) = w9 := ⟨_, rfl⟩
    have hk : ∀ j, j ≠ w.heap.size → w9.heap[j]? = w7.heap[j]? := fun j hj => by
      rw [← hw9]
      exact (Below.heap_setCell _ _ _ _ hj).trans ((Below.heap_setCell _ _ _ _ hj).trans (Below.heap_setCell _ _ _ _ hj))
    have hr9 : w9.heap[w.heap.size]? = some (.cells #[.int .i64 4, .slice (some ⟨w6.heap.size, 0, none⟩) 3 3, .slice (some ⟨w3.heap.size, 0, none⟩) k.toNat 3] 35 (0, 0)) := by
      rw [← hw9]; simp [World.setCell, Array.getElem?_modify, HRS.out]
    have hb9 : Below w.heap.size w w9 := by rw [← hw9]; exact z14 (z14 (z14 HBW.out (Nat.le_refl _)) (Nat.le_refl _)) (Nat.le_refl _)
    have e0 : w9.cell? ⟨w.heap.size, 0, none⟩ = some (.int .i64 4) := (z13 hr9 0).trans rfl
    have e1 : w9.cell? ⟨w.heap.size, 1, none⟩ = some (.slice (some ⟨w6.heap.size, 0, none⟩) 3 3) := (z13 hr9 1).trans rfl
    have e2 : w9.cell? ⟨w.heap.size, 2, none⟩ = some (.slice (some ⟨w3.heap.size, 0, none⟩) k.toNat 3) := (z13 hr9 2).trans rfl
    rw [hw9]
    have hct := Kd.C_take (C_four_S ((hk w3.heap.size (by omega)).trans HSY.out)) (show k.toNat ≤ fourS.length by simp [fourS]; omega)
    rw [show (fourS.take k.toNat).length = k.toNat by rw [List.length_take]; simp [fourS]; omega] at hct
    refine bodyPost_ret (v := .agg #[.int .i64 4, .slice (some ⟨w6.heap.size, 0, none⟩) 3 3, .slice (some ⟨w3.heap.size, 0, none⟩) k.toNat 3]) (by simp [results, Try.results70, go_sem, e0, e1, e2]) rfl ⟨_, _, rfl, C_four_E ((hk w6.heap.size (by omega)).trans HE.out), hct, hb9⟩
end Go.Proofs.Ytncaadckehikpaa.Q
