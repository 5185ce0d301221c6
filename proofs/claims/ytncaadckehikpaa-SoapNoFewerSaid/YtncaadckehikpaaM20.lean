/- A part of the proof: contracts of functions and plain facts (HSettle2, HWider). No condition. -/
import Derived.Test.YtncaadckehikpaaM19
import Derived.Test.YtncaadckehikpaaM0
namespace Go.Proofs.Ytncaadckehikpaa.Q
open Go.RowKit Go.Proofs.YtncaadckehikpaaW.PrintWords Go.Proofs.YtncaadckehikpaaW.PrintLast Go.Proofs.YtncaadckehikpaaW.PrintMore
set_option linter.unusedVariables false
set_option linter.unusedSimpArgs false
/-- The payments of all the groups. -/
def z28 (v : List Int) : List (List Int) → List S76
  | [] => []
  | g :: r => settleL g v ++ z28 v r
theorem settleAll_append (v : List Int) : ∀ (xs ys : List (List Int)), z28 v (xs ++ ys) = z28 v xs ++ z28 v ys
  | [], _ => rfl
  | x :: r, ys => by simp [z28, settleAll_append v r ys]
theorem settleFrom_len (grp : List Int) : ∀ k u, (z33 grp k u).length ≤ k
  | 0, _ => by simp [z33]
  | k + 1, u => by
    simp only [z33]
    split
    · simp
    · simp; exact settleFrom_len grp k _
theorem settleL_len (grp v : List Int) : (settleL grp v).length ≤ 7 := settleFrom_len grp 7 v
theorem settleAll_take (v : List Int) (gs : List (List Int)) (n : Nat) (h : n < gs.length) : z28 v (gs.take (n + 1)) = z28 v (gs.take n) ++ settleL (gs.getD n []) v := by
  rw [List.take_add_one, settleAll_append, List.getElem?_eq_getElem h]
  simp [z28, List.getD, h]
theorem settleAll_len (v : List Int) : ∀ gs : List (List Int), (z28 v gs).length ≤ 7 * gs.length
  | [] => by simp [z28]
  | x :: r => by have := settleAll_len v r; have := settleL_len x v; simp [z28]; omega
theorem bitsL_len (m : Nat) : (bitsL m).length ≤ 6 := by
  unfold bitsL
  rw [List.length_map]
  exact Nat.le_trans (List.length_filter_le _ _) (by simp)
theorem bitsL_lt (m : Nat) : ∀ x ∈ bitsL m, 0 ≤ x ∧ x < 6 := by
  intro x hx
  unfold bitsL at hx
  obtain ⟨y, hy, rfl⟩ := List.mem_map.1 hx
  have := List.mem_range.1 (List.mem_filter.1 hy).1
  simp
  omega
theorem groupsFrom_bits (v : List Int) : ∀ k m gr, ∀ g ∈ z35 v k m gr, ∃ b, g = bitsL b
  | 0, _, _ => by simp [z35]
  | k + 1, m, gr => by
    simp only [z35]
    split
    · simp
    · split
      · simp
      · split
        · rintro g (_ | ⟨_, hg⟩)
          · exact ⟨_, rfl⟩
          · exact groupsFrom_bits v k _ _ g hg
        · exact groupsFrom_bits v k _ _
theorem groups_good (v : List Int) (n : Nat) (h : n < (groupsL v).length) : ((groupsL v).getD n []).length ≤ 6 ∧ ∀ x ∈ (groupsL v).getD n [], 0 ≤ x ∧ x < 6 := by
  have hm : (groupsL v).getD n [] ∈ groupsL v := by simp [List.getD, h]
  obtain ⟨b, hb⟩ := groupsFrom_bits v _ _ _ _ hm
  rw [hb]
  exact ⟨bitsL_len b, bitsL_lt b⟩
def soap_Settle.f (a0_0 : Int) (l0_1 : List (S122)) (l0_2 : List (S124)) (l1 : List Int) : Option (List S76 × Int) :=
  some (if playE a0_0 l0_1 l0_2 l1 = 0 then (z28 (owedL l0_1 l1) (groupsL (owedL l0_1 l1)), 0) else ([], playE a0_0 l0_1 l0_2 l1))
set_option maxHeartbeats 2000000 in
set_option maxRecDepth 100000 in
theorem soap_Settle.calls (a0_0 : Int) (A0_1 : Option Addr) (c0_1 : Nat) (l0_1 : List (S122)) (A0_2 : Option Addr) (c0_2 : Nat) (l0_2 : List (S124)) (A1 : Option Addr) (c1 : Nat) (l1 : List Int) (r1 : List S76) (r2 : Int) (w : World) (hr0_1 : Kd.C k122 w A0_1 l0_1.length l0_1) (hc0_1 : l0_1.length ≤ c0_1) (hr0_2 : Kd.C k124 w A0_2 l0_2.length l0_2) (hc0_2 : l0_2.length ≤ c0_2) (hr1 : Kd.C (Kd.int .i64) w A1 l1.length l1) (hc1 : l1.length ≤ c1) (h : soap_Settle.f a0_0 l0_1 l0_2 l1 = some (r1, r2)) :
    Calls Try.prog 49 #[.agg #[.int .i64 a0_0, .slice A0_1 l0_1.length c0_1, .slice A0_2 l0_2.length c0_2], .slice A1 l1.length c1] w fun e w' => ∃ v0_ : Value, e = .returned (.tuple #[v0_, .int .i64 r2]) ∧ Kd.R k76 76 w' w.heap.size (fun _ => True) v0_ r1 ∧ Below w.heap.size w w' := by
  have hu35 := Try.underlying35
  have hu128 := Try.underlying128
  have h2 := Option.some.inj h
  clear h
  have hbw : Below w.heap.size w (w.alloc (.cells #[.int .i64 a0_0, .slice A0_1 l0_1.length c0_1, .slice A0_2 l0_2.length c0_2] 35)) := z10 (Below.refl _ _) _
  have HP := mkA (played_calls a0_0 A0_1 c0_1 l0_1 A0_2 c0_2 l0_2 A1 c1 l1 _ (Kd.C_below hr0_1 hbw) hc0_1 (Kd.C_below hr0_2 hbw) hc0_2 (Kd.C_below hr1 hbw) hc1)
  have HBW := mkA hbw
  clear hbw hr0_1 hr0_2 hr1
  by_cases hE : playE a0_0 l0_1 l0_2 l1 = 0
  · rw [if_pos hE] at h2
    obtain ⟨rfl, rfl⟩ := Prod.mk.inj h2
    obtain ⟨hck, har, hV⟩ := playE_zero hE
    have HVB := mkA (owed_small hck har)
    have hvl : (owedL l0_1 l1).length = 6 := by unfold owedL; exact z34 _ _ _
    rw [hE, hV] at HP
    clear h2 hE hck har hV
    go_enter Try.func49, Try.ntmps49
    go_wp2_with fail
    refine HP.out.mono ?_
    rintro e w1 ⟨rfl, hb⟩
    have HB1 := mkA (z17 HBW.out hb)
    clear hb HBW HP
    generalize hvv : owedL l0_1 l1 = v at HVB hvl ⊢
    have HVV := mkA hvv
    clear hvv
    have HPU := mkA (purse_calls v (w1.alloc (.cells #[.int .i64 (rd v 0), .int .i64 (rd v 1), .int .i64 (rd v 2), .int .i64 (rd v 3), .int .i64 (rd v 4), .int .i64 (rd v 5)] 128)))
    unfold aggV at HPU ⊢
    go_wp2_with fail
    refine HPU.out.mono ?_
    rintro e w2 ⟨g, mb, rfl, hp, hmm, hne, hg1, hg2, hb⟩
    have HB2 := mkA (z17 (z10 HB1.out _) hb)
    have hmb : w.heap.size ≤ mb := by have := HB1.out.size; simp at hg1; omega
    have HGR := mkA (groups_calls g mb v w2 (fun j => by have := HVB.out j; omega) hne hp hmm)
    have HP2 := mkA hp
    have HMB := mkA (And.intro hmb hne)
    clear hp hmm hne hg1 hg2 hb hmb HPU
    go_wp2_with fail
    refine HGR.out.mono ?_
    rintro e w3 ⟨v0, rfl, hs, hbut, _⟩
    obtain ⟨A, c, rfl, hlc, hC⟩ := Kd.S_reads hs
    have HG3 := mkA hC
    have HP3 := mkA (show PurseAt w3 g mb v from hbut.keeps HP2.out HMB.out.2)
    have HB3 := mkA (((But.of_below HB2.out).trans hbut).below HMB.out.1)
    have hgl : (groupsL v).length ≤ 64 := groups_len v 64 _ 0
    clear hs hbut HGR hC HP2 HMB HB2 HB1
    generalize hgg : groupsL v = gs at HG3 hgl hlc ⊢
    have HGD := mkA (fun n h => groups_good v n (by rw [hgg]; exact h))
    rw [hgg] at HGD
    have HGG := mkA hgg
    clear hgg
    go_wp2_with fail
    go_loopw [8, 26] (fun v8 i wr => ∃ (k : Int) (outs : List S76), 0 ≤ k ∧ k ≤ (gs.length : Int) ∧ i = .int .i64 k ∧ Aside0 (outs = z28 v (gs.take k.toNat)) ∧ Aside0 (Kd.R k76 76 wr w3.heap.size (fun _ => True) v8 outs) ∧ Below w3.heap.size w3 wr) (fun _ i _ => gs.length - (intOf i).toNat)
    case atStart => exact ⟨0, [], by omega, by omega, rfl, ⟨by simp [z28]⟩, ⟨Kd.R_nil _ _ _ _ _⟩, Below.refl _ _⟩
    case round =>
      obtain ⟨k, outs, hk0, hk1, rfl, HOU, HR, hb⟩ := hrel
      have HB := mkA hb
      clear hb
      by_cases hlt : k < (gs.length : Int)
      · have g1 : decide (k < (gs.length : Int)) = true := decide_eq_true hlt
        obtain ⟨ad, A0, c0, rfl, y1, y2, y3⟩ := at_L4 (Kd.C_below HG3.out HB.out) k hk0 hlt
        have HY3 := mkA y3
        clear y3
        obtain ⟨q1, q2⟩ := HGD.out k.toNat (by omega)
        have HSC := mkA (settle_calls g mb v A0 c0 (rd_L4 gs k) wr hvl HVB.out (blk_below HP3.out HB.out) HY3.out y2 q1 q2)
        have hol : outs.length ≤ 7 * gs.length := by
          rw [HOU.out]
          have h1 := settleAll_len v (gs.take k.toNat)
          rw [List.length_take] at h1
          omega
        clear q1 q2 HY3
        go_wp2_with fail
        refine HSC.out.mono ?_
        rintro e w4 ⟨v4, rfl, hr, hb⟩
        obtain ⟨A4, c4, rfl, hl4, hC4⟩ := Kd.R_reads hr
        have HC4 := mkA hC4
        have HB4 := mkA (z17 HB.out hb)
        have HR4 := mkA (Kd.R_below HR.out hb)
        have hs4 := settleL_len (rd_L4 gs k) v
        clear hr hb hC4 HR HSC
        go_wp2_with ((with_reducible refine z39 (b := .append) (xs := #[.tmp 30, .tmp 33]) rfl ?_); at_builtin; refine Kd.R_append_rows k76 (w0 := w3) w3.heap.size rfl (.tmp 30) (.tmp 33) 69 76 (.agg #[(.int .i64 0), (.int .i64 0), (.int .i64 0)]) 24 rfl Try.underlying69 info76 rfl (by decide) (by omega) u8 outs (settleL (rd_L4 gs k) v) _ _ _ (fun _ => True) (fun _ => False) rfl rfl ?aO ?aR (fun _ _ h => h) (fun _ h => h.elim) ?aF ?aB ?aS ?aL ?_; (case aR => exact HC4.out); (case aB => exact HB4.out); (case aF => exact (fun _ _ => trivial)); (case aO => exact HR4.out); (case aS => exact HB4.out.size); (case aL => omega); intro v9 w9 ho hb hg hat; have n0_ := mkA ho; have n1_ := mkA hb; clear ho hb hg hat)
        go_round
        case measure => simp [intOf]; omega
        case rel =>
          refine ⟨k + 1, outs ++ settleL (rd_L4 gs k) v, by omega, by omega, by go_num, ⟨?_⟩, n0_, n1_.out⟩
          rw [HOU.out, show (k + 1).toNat = k.toNat + 1 by omega, settleAll_take v gs k.toNat (by omega)]
          rfl
      · have g1 : decide (k < (gs.length : Int)) = false := decide_eq_false hlt
        obtain rfl : k = gs.length := by omega
        go_wp2
        go_ret2
        refine ⟨u8, rfl, ?_, ?_⟩
        · rw [HVV.out, HGG.out]
          have := HOU.out
          simp only [Int.toNat_natCast, List.take_length] at this
          rw [← this]
          exact Kd.R_lower HR.out HB3.out.size
        · exact z17 HB3.out HB.out
  · rw [if_neg hE] at h2
    obtain ⟨rfl, rfl⟩ := Prod.mk.inj h2
    generalize hq : playE a0_0 l0_1 l0_2 l1 = q at hE HP ⊢
    have g1 : (q != 0) = true := bne_iff_ne.2 hE
    clear h2 hE hq
    go_enter Try.func49, Try.ntmps49
    go_wp2_with fail
    refine HP.out.mono ?_
    rintro e w1 ⟨rfl, hb⟩
    have HB1 := mkA (z17 HBW.out hb)
    clear hb HBW HP
    generalize playV a0_0 l0_1 l0_2 l1 = v
    unfold aggV
    go_wp2
    go_ret2
    exact ⟨_, rfl, Kd.R_nil _ _ _ _ _, z10 HB1.out _⟩
end Go.Proofs.Ytncaadckehikpaa.Q
namespace Go.Proofs.Ytncaadckehikpaa.Q
open Go.RowKit Go.Proofs.YtncaadckehikpaaW.PrintWords Go.Proofs.YtncaadckehikpaaW.PrintLast Go.Proofs.YtncaadckehikpaaW.PrintMore
set_option linter.unusedVariables false
set_option linter.unusedSimpArgs false
set_option maxHeartbeats 2000000 in
set_option maxRecDepth 100000 in
theorem wider_core (lo hi x m : Int) (w : World) (hm : (hi < x ∧ m = x) ∨ (¬ hi < x ∧ m = hi)) :
    Calls Try.prog 106 #[.agg #[.int .i64 lo, .int .i64 hi], .int .i64 x] w fun e w' => e = .returned (.agg #[.int .i64 (mn lo x), .int .i64 m]) ∧ Below w.heap.size w w' := by
  rcases hm with ⟨hlt, rfl⟩ | ⟨hlt, rfl⟩
  · have hu44 := Try.underlying44
    go_enter Try.func106, Try.ntmps106
    go_wp2_with fail
    obtain ⟨w2, hw2⟩ : ∃ w2, (w.alloc (.cells #[.int .i64 lo, .int .i64 hi] 44)).alloc (.cells #[.int .i64 0, .int .i64 0] 44) = w2 := ⟨_, rfl⟩
    have HB := mkA (show Below w.heap.size w w2 from by rw [← hw2]; exact z10 (z10 (Below.refl _ _) _) _)
    have H0 := mkA (show w2.heap[w.heap.size]? = some (.cells #[.int .i64 lo, .int .i64 hi] 44 (0, 0)) from by rw [← hw2]; exact blk_below (z21 w _) (z10 (Below.refl _ _) _))
    have H1 := mkA (show w2.heap[w.heap.size + 1]? = some (.cells #[.int .i64 0, .int .i64 0] 44 (0, 0)) from by rw [← hw2]; simpa using z21 (w.alloc _) (.cells #[.int .i64 0, .int .i64 0] 44))
    rw [hw2]
    clear hw2
    have HK := mkA (fun (W' : World) (hb : Below w2.heap.size w2 W') => show W'.cell? ⟨w.heap.size, 0, none⟩ = some (.int .i64 lo) ∧ W'.cell? ⟨w.heap.size, 1, none⟩ = some (.int .i64 hi) from
      ⟨(z13 (blk_below H0.out hb) 0).trans rfl, (z13 (blk_below H0.out hb) 1).trans rfl⟩)
    have HMI := mkA (soap_minimum.calls (some ⟨w2.drew.heap.size, 0, none⟩) 2 [lo, m] (mn lo m) (w2.drew.alloc (.cells #[.int .i64 lo, .int .i64 m] 3))
        (C_ints [lo, m] (by simp) (z21 w2.drew _)) (by simp) (by
          unfold soap_minimum.f; rw [if_pos (by simp)]; simp [minTo, rd, show mn lo lo = lo by unfold mn; split <;> rfl]))
    focus
      refine plain_region_head (S := (fun W' => W'.cell? ⟨w.heap.size, 0, none⟩ = some (.int .i64 lo) ∧ W'.cell? ⟨w.heap.size, 1, none⟩ = some (.int .i64 hi))) 10 (by kernel_rfl) (by kernel_rfl) ?_ (fun hHeld => ?_)
      · (try dsimp only); exact HK.out _ (z12 (Below.refl _ _))
      try simp only [List.take_succ_cons, List.take_zero, List.drop_succ_cons, List.drop_zero]
      refine tk (v := ?_) 0 hHeld rfl (by kernel_rfl) (fun _ _ _ h => h) (Or.inl ⟨?tkh, ?tky⟩) ?_
      case tkh => rfl
      case tky => intro w hSw; (try dsimp only at hSw); go_simp; (try with_reducible rfl)
      try simp only [Act.put, xq1, xq2, xq3]
      refine tk (v := ?_) 1 hHeld rfl (by kernel_rfl) (fun _ _ _ h => h) (Or.inl ⟨?tkh, ?tky⟩) ?_
      case tkh => rfl
      case tky => intro w hSw; (try dsimp only at hSw); go_simp; (try with_reducible rfl)
      try simp only [Act.put, xq1, xq2, xq3]
      refine tk (v := ?_) 2 hHeld rfl (by kernel_rfl) (fun _ _ _ h => h) (Or.inl ⟨?tkh, ?tky⟩) ?_
      case tkh => rfl
      case tky => intro w hSw; (try dsimp only at hSw); go_simp; (try with_reducible rfl)
      try simp only [Act.put, xq1, xq2, xq3]
      refine tk (v := ?_) 5 hHeld rfl (by kernel_rfl) (fun _ _ _ h => h) (Or.inl ⟨?tkh, ?tky⟩) ?_
      case tkh => rfl
      case tky => intro w hSw; (try dsimp only at hSw); go_simp; (try with_reducible rfl)
      try simp only [Act.put, xq1, xq2, xq3]
      refine tk (v := ?_) 6 hHeld rfl (by kernel_rfl) (fun _ _ _ h => h) (Or.inl ⟨?tkh, ?tky⟩) ?_
      case tkh => rfl
      case tky => intro w hSw; (try dsimp only at hSw); go_simp; (try with_reducible rfl)
      try simp only [Act.put, xq1, xq2, xq3]
      refine tk (v := ?_) 7 hHeld rfl (by kernel_rfl) (fun _ _ _ h => h) (Or.inl ⟨?tkh, ?tky⟩) ?_
      case tkh => rfl
      case tky => intro w hSw; (try dsimp only at hSw); go_simp; (try with_reducible rfl)
      try simp only [Act.put, xq1, xq2, xq3]
      refine wpAnyH_ready (rs := [3, 8]) (by kernel_rfl) (by simp) (cs rfl (fun K hK => ?_) (cs rfl (fun K hK => ?_) AllReadyH.nil))
      go_simp
      try simp only [Act.put, xq1, xq2, xq3]
      refine hK.out _ _ ?_ (fun hHeld2 => ?_)
      · (try dsimp only); exact HK.out _ (z10 (z12 (Below.refl _ _)) _)
      clear hK K hHeld; have hHeld := hHeld2; clear hHeld2
      refine wpAnyH_ready (rs := [4, 8]) (by kernel_rfl) (by simp) (cs rfl (fun K hK => ?_) (cs rfl (fun K hK => ?_) AllReadyH.nil))
      go_simp
      ((go_at_call 103; refine HMI.out.mono ?_; rintro e w4 ⟨rfl, ⟨mm, hw4⟩⟩; have HB4 := mkA (show Below w2.heap.size w2 w4 by rw [hw4]; exact z11 (z10 (z12 (Below.refl _ _)) _) _); clear hw4; dsimp only))
      try simp only [Act.put, xq1, xq2, xq3]
      refine hK.out _ _ ?_ (fun hHeld2 => ?_)
      · (try dsimp only); exact HK.out _ HB4.out
      clear hK K hHeld; have hHeld := hHeld2; clear hHeld2
      refine wpAnyH_ready (rs := [8]) (by kernel_rfl) (by simp) (cs rfl (fun K hK => ?_) AllReadyH.nil)
      go_simp
      try simp only [Act.put, xq1, xq2, xq3]
      refine hK.out _ _ ?_ (fun hHeld2 => ?_)
      · (try dsimp only); exact HK.out _ HB4.out
      clear hK K hHeld; have hHeld := hHeld2; clear hHeld2
      refine tk (v := ?_) 9 hHeld rfl (by kernel_rfl) (fun _ _ _ h => h) (Or.inl ⟨?tkh, ?tky⟩) ?_
      case tkh => rfl
      case tky => intro w hSw; (try dsimp only at hSw); go_simp; (try with_reducible rfl)
      try simp only [Act.put, xq1, xq2, xq3]
      refine wpAnyH_done (by kernel_rfl) ?_ _
      rotate_left
      go_simp
      try simp only [Act.put, xq1, xq2, xq3]
      refine hK.out _ _ ?_ (fun hHeld2 => ?_)
      · (try dsimp only); exact HK.out _ (z10 (z12 (Below.refl _ _)) _)
      clear hK K hHeld; have hHeld := hHeld2; clear hHeld2
      refine wpAnyH_ready (rs := [4]) (by kernel_rfl) (by simp) (cs rfl (fun K hK => ?_) AllReadyH.nil)
      go_simp
      ((go_at_call 103; refine HMI.out.mono ?_; rintro e w4 ⟨rfl, ⟨mm, hw4⟩⟩; have HB4 := mkA (show Below w2.heap.size w2 w4 by rw [hw4]; exact z11 (z10 (z12 (Below.refl _ _)) _) _); clear hw4; dsimp only))
      try simp only [Act.put, xq1, xq2, xq3]
      refine hK.out _ _ ?_ (fun hHeld2 => ?_)
      · (try dsimp only); exact HK.out _ HB4.out
      clear hK K hHeld; have hHeld := hHeld2; clear hHeld2
      refine tk (v := ?_) 9 hHeld rfl (by kernel_rfl) (fun _ _ _ h => h) (Or.inl ⟨?tkh, ?tky⟩) ?_
      case tkh => rfl
      case tky => intro w hSw; (try dsimp only at hSw); go_simp; (try with_reducible rfl)
      try simp only [Act.put, xq1, xq2, xq3]
      refine wpAnyH_done (by kernel_rfl) ?_ _
      rotate_left
      go_simp
      try simp only [Act.put, xq1, xq2, xq3]
      refine hK.out _ _ ?_ (fun hHeld2 => ?_)
      · (try dsimp only); exact HK.out _ (z12 (Below.refl _ _))
      clear hK K hHeld; have hHeld := hHeld2; clear hHeld2
      refine wpAnyH_ready (rs := [3]) (by kernel_rfl) (by simp) (cs rfl (fun K hK => ?_) AllReadyH.nil)
      go_simp
      try simp only [Act.put, xq1, xq2, xq3]
      refine hK.out _ _ ?_ (fun hHeld2 => ?_)
      · (try dsimp only); exact HK.out _ (z10 (z12 (Below.refl _ _)) _)
      clear hK K hHeld; have hHeld := hHeld2; clear hHeld2
      refine wpAnyH_ready (rs := [4]) (by kernel_rfl) (by simp) (cs rfl (fun K hK => ?_) AllReadyH.nil)
      go_simp
      ((go_at_call 103; refine HMI.out.mono ?_; rintro e w4 ⟨rfl, ⟨mm, hw4⟩⟩; have HB4 := mkA (show Below w2.heap.size w2 w4 by rw [hw4]; exact z11 (z10 (z12 (Below.refl _ _)) _) _); clear hw4; dsimp only))
      try simp only [Act.put, xq1, xq2, xq3]
      refine hK.out _ _ ?_ (fun hHeld2 => ?_)
      · (try dsimp only); exact HK.out _ HB4.out
      clear hK K hHeld; have hHeld := hHeld2; clear hHeld2
      refine tk (v := ?_) 9 hHeld rfl (by kernel_rfl) (fun _ _ _ h => h) (Or.inl ⟨?tkh, ?tky⟩) ?_
      case tkh => rfl
      case tky => intro w hSw; (try dsimp only at hSw); go_simp; (try with_reducible rfl)
      try simp only [Act.put, xq1, xq2, xq3]
      refine wpAnyH_done (by kernel_rfl) ?_ _
      rotate_left
      all_goals (refine EndsBy.mk ?_)
    all_goals
      have hq := blk_below H1.out HB4.out
      have hc0 : w4.cell? ⟨w.heap.size + 1, 0, none⟩ = some (.int .i64 0) := (z13 hq 0).trans rfl
      have hc1 : w4.cell? ⟨w.heap.size + 1, 1, none⟩ = some (.int .i64 0) := (z13 hq 1).trans rfl
      have hf0 : w4.frozen? ⟨w.heap.size + 1, 0, none⟩ = false := z14 hq _
      have hf1 : w4.frozen? ⟨w.heap.size + 1, 1, none⟩ = false := z14 hq _
      have HQ := mkA hq
      clear hq
      go_wp2
      have hq := HQ.out
      have he : ((w4.setCell ⟨w.heap.size + 1, 0, none⟩ (.int .i64 (mn lo m))).setCell ⟨w.heap.size + 1, 1, none⟩ (.int .i64 m)).heap[w.heap.size + 1]? = some (.cells #[.int .i64 (mn lo m), .int .i64 m] 44 (0, 0)) := by
        simp [World.setCell, Array.getElem?_modify, hq]
      have e0 := z13 he 0
      have e1 := z13 he 1
      refine bodyPost_ret (v := .agg #[.int .i64 (mn lo m), .int .i64 m]) ?_ rfl ⟨rfl, z15 (z15 (z17 HB.out HB4.out) (by simp)) (by simp)⟩
      simp at e0 e1
      simp [results, Try.results106, go_sem, e0, e1]
  · have hu44 := Try.underlying44
    go_enter Try.func106, Try.ntmps106
    go_wp2_with fail
    obtain ⟨w2, hw2⟩ : ∃ w2, (w.alloc (.cells #[.int .i64 lo, .int .i64 m] 44)).alloc (.cells #[.int .i64 0, .int .i64 0] 44) = w2 := ⟨_, rfl⟩
    have HB := mkA (show Below w.heap.size w w2 from by rw [← hw2]; exact z10 (z10 (Below.refl _ _) _) _)
    have H0 := mkA (show w2.heap[w.heap.size]? = some (.cells #[.int .i64 lo, .int .i64 m] 44 (0, 0)) from by rw [← hw2]; exact blk_below (z21 w _) (z10 (Below.refl _ _) _))
    have H1 := mkA (show w2.heap[w.heap.size + 1]? = some (.cells #[.int .i64 0, .int .i64 0] 44 (0, 0)) from by rw [← hw2]; simpa using z21 (w.alloc _) (.cells #[.int .i64 0, .int .i64 0] 44))
    rw [hw2]
    clear hw2
    have HK := mkA (fun (W' : World) (hb : Below w2.heap.size w2 W') => show W'.cell? ⟨w.heap.size, 0, none⟩ = some (.int .i64 lo) ∧ W'.cell? ⟨w.heap.size, 1, none⟩ = some (.int .i64 m) from
      ⟨(z13 (blk_below H0.out hb) 0).trans rfl, (z13 (blk_below H0.out hb) 1).trans rfl⟩)
    have HMI := mkA (soap_minimum.calls (some ⟨w2.drew.heap.size, 0, none⟩) 2 [lo, x] (mn lo x) (w2.drew.alloc (.cells #[.int .i64 lo, .int .i64 x] 3))
        (C_ints [lo, x] (by simp) (z21 w2.drew _)) (by simp) (by
          unfold soap_minimum.f; rw [if_pos (by simp)]; simp [minTo, rd, show mn lo lo = lo by unfold mn; split <;> rfl]))
    focus
      refine plain_region_head (S := (fun W' => W'.cell? ⟨w.heap.size, 0, none⟩ = some (.int .i64 lo) ∧ W'.cell? ⟨w.heap.size, 1, none⟩ = some (.int .i64 m))) 10 (by kernel_rfl) (by kernel_rfl) ?_ (fun hHeld => ?_)
      · (try dsimp only); exact HK.out _ (z12 (Below.refl _ _))
      try simp only [List.take_succ_cons, List.take_zero, List.drop_succ_cons, List.drop_zero]
      refine tk (v := ?_) 0 hHeld rfl (by kernel_rfl) (fun _ _ _ h => h) (Or.inl ⟨?tkh, ?tky⟩) ?_
      case tkh => rfl
      case tky => intro w hSw; (try dsimp only at hSw); go_simp; (try with_reducible rfl)
      try simp only [Act.put, xq1, xq2, xq3]
      refine tk (v := ?_) 1 hHeld rfl (by kernel_rfl) (fun _ _ _ h => h) (Or.inl ⟨?tkh, ?tky⟩) ?_
      case tkh => rfl
      case tky => intro w hSw; (try dsimp only at hSw); go_simp; (try with_reducible rfl)
      try simp only [Act.put, xq1, xq2, xq3]
      refine tk (v := ?_) 2 hHeld rfl (by kernel_rfl) (fun _ _ _ h => h) (Or.inl ⟨?tkh, ?tky⟩) ?_
      case tkh => rfl
      case tky => intro w hSw; (try dsimp only at hSw); go_simp; (try with_reducible rfl)
      try simp only [Act.put, xq1, xq2, xq3]
      refine tk (v := ?_) 5 hHeld rfl (by kernel_rfl) (fun _ _ _ h => h) (Or.inl ⟨?tkh, ?tky⟩) ?_
      case tkh => rfl
      case tky => intro w hSw; (try dsimp only at hSw); go_simp; (try with_reducible rfl)
      try simp only [Act.put, xq1, xq2, xq3]
      refine tk (v := ?_) 6 hHeld rfl (by kernel_rfl) (fun _ _ _ h => h) (Or.inl ⟨?tkh, ?tky⟩) ?_
      case tkh => rfl
      case tky => intro w hSw; (try dsimp only at hSw); go_simp; (try with_reducible rfl)
      try simp only [Act.put, xq1, xq2, xq3]
      refine tk (v := ?_) 7 hHeld rfl (by kernel_rfl) (fun _ _ _ h => h) (Or.inl ⟨?tkh, ?tky⟩) ?_
      case tkh => rfl
      case tky => intro w hSw; (try dsimp only at hSw); go_simp; (try with_reducible rfl)
      try simp only [Act.put, xq1, xq2, xq3]
      refine wpAnyH_ready (rs := [3, 8]) (by kernel_rfl) (by simp) (cs rfl (fun K hK => ?_) (cs rfl (fun K hK => ?_) AllReadyH.nil))
      go_simp
      try simp only [Act.put, xq1, xq2, xq3]
      refine hK.out _ _ ?_ (fun hHeld2 => ?_)
      · (try dsimp only); exact HK.out _ (z10 (z12 (Below.refl _ _)) _)
      clear hK K hHeld; have hHeld := hHeld2; clear hHeld2
      refine wpAnyH_ready (rs := [4, 8]) (by kernel_rfl) (by simp) (cs rfl (fun K hK => ?_) (cs rfl (fun K hK => ?_) AllReadyH.nil))
      go_simp
      ((go_at_call 103; refine HMI.out.mono ?_; rintro e w4 ⟨rfl, ⟨mm, hw4⟩⟩; have HB4 := mkA (show Below w2.heap.size w2 w4 by rw [hw4]; exact z11 (z10 (z12 (Below.refl _ _)) _) _); clear hw4; dsimp only))
      try simp only [Act.put, xq1, xq2, xq3]
      refine hK.out _ _ ?_ (fun hHeld2 => ?_)
      · (try dsimp only); exact HK.out _ HB4.out
      clear hK K hHeld; have hHeld := hHeld2; clear hHeld2
      refine wpAnyH_ready (rs := [8]) (by kernel_rfl) (by simp) (cs rfl (fun K hK => ?_) AllReadyH.nil)
      go_simp
      try simp only [Act.put, xq1, xq2, xq3]
      refine hK.out _ _ ?_ (fun hHeld2 => ?_)
      · (try dsimp only); exact HK.out _ HB4.out
      clear hK K hHeld; have hHeld := hHeld2; clear hHeld2
      refine tk (v := ?_) 9 hHeld rfl (by kernel_rfl) (fun _ _ _ h => h) (Or.inl ⟨?tkh, ?tky⟩) ?_
      case tkh => rfl
      case tky => intro w hSw; (try dsimp only at hSw); go_simp; (try with_reducible rfl)
      try simp only [Act.put, xq1, xq2, xq3]
      refine wpAnyH_done (by kernel_rfl) ?_ _
      rotate_left
      go_simp
      try simp only [Act.put, xq1, xq2, xq3]
      refine hK.out _ _ ?_ (fun hHeld2 => ?_)
      · (try dsimp only); exact HK.out _ (z10 (z12 (Below.refl _ _)) _)
      clear hK K hHeld; have hHeld := hHeld2; clear hHeld2
      refine wpAnyH_ready (rs := [4]) (by kernel_rfl) (by simp) (cs rfl (fun K hK => ?_) AllReadyH.nil)
      go_simp
      ((go_at_call 103; refine HMI.out.mono ?_; rintro e w4 ⟨rfl, ⟨mm, hw4⟩⟩; have HB4 := mkA (show Below w2.heap.size w2 w4 by rw [hw4]; exact z11 (z10 (z12 (Below.refl _ _)) _) _); clear hw4; dsimp only))
      try simp only [Act.put, xq1, xq2, xq3]
      refine hK.out _ _ ?_ (fun hHeld2 => ?_)
      · (try dsimp only); exact HK.out _ HB4.out
      clear hK K hHeld; have hHeld := hHeld2; clear hHeld2
      refine tk (v := ?_) 9 hHeld rfl (by kernel_rfl) (fun _ _ _ h => h) (Or.inl ⟨?tkh, ?tky⟩) ?_
      case tkh => rfl
      case tky => intro w hSw; (try dsimp only at hSw); go_simp; (try with_reducible rfl)
      try simp only [Act.put, xq1, xq2, xq3]
      refine wpAnyH_done (by kernel_rfl) ?_ _
      rotate_left
      go_simp
      try simp only [Act.put, xq1, xq2, xq3]
      refine hK.out _ _ ?_ (fun hHeld2 => ?_)
      · (try dsimp only); exact HK.out _ (z12 (Below.refl _ _))
      clear hK K hHeld; have hHeld := hHeld2; clear hHeld2
      refine wpAnyH_ready (rs := [3]) (by kernel_rfl) (by simp) (cs rfl (fun K hK => ?_) AllReadyH.nil)
      go_simp
      try simp only [Act.put, xq1, xq2, xq3]
      refine hK.out _ _ ?_ (fun hHeld2 => ?_)
      · (try dsimp only); exact HK.out _ (z10 (z12 (Below.refl _ _)) _)
      clear hK K hHeld; have hHeld := hHeld2; clear hHeld2
      refine wpAnyH_ready (rs := [4]) (by kernel_rfl) (by simp) (cs rfl (fun K hK => ?_) AllReadyH.nil)
      go_simp
      ((go_at_call 103; refine HMI.out.mono ?_; rintro e w4 ⟨rfl, ⟨mm, hw4⟩⟩; have HB4 := mkA (show Below w2.heap.size w2 w4 by rw [hw4]; exact z11 (z10 (z12 (Below.refl _ _)) _) _); clear hw4; dsimp only))
      try simp only [Act.put, xq1, xq2, xq3]
      refine hK.out _ _ ?_ (fun hHeld2 => ?_)
      · (try dsimp only); exact HK.out _ HB4.out
      clear hK K hHeld; have hHeld := hHeld2; clear hHeld2
      refine tk (v := ?_) 9 hHeld rfl (by kernel_rfl) (fun _ _ _ h => h) (Or.inl ⟨?tkh, ?tky⟩) ?_
      case tkh => rfl
      case tky => intro w hSw; (try dsimp only at hSw); go_simp; (try with_reducible rfl)
      try simp only [Act.put, xq1, xq2, xq3]
      refine wpAnyH_done (by kernel_rfl) ?_ _
      rotate_left
      all_goals (refine EndsBy.mk ?_)
    all_goals
      have hq := blk_below H1.out HB4.out
      have hc0 : w4.cell? ⟨w.heap.size + 1, 0, none⟩ = some (.int .i64 0) := (z13 hq 0).trans rfl
      have hc1 : w4.cell? ⟨w.heap.size + 1, 1, none⟩ = some (.int .i64 0) := (z13 hq 1).trans rfl
      have hf0 : w4.frozen? ⟨w.heap.size + 1, 0, none⟩ = false := z14 hq _
      have hf1 : w4.frozen? ⟨w.heap.size + 1, 1, none⟩ = false := z14 hq _
      have HQ := mkA hq
      clear hq
      go_wp2
      have hq := HQ.out
      have he : ((w4.setCell ⟨w.heap.size + 1, 0, none⟩ (.int .i64 (mn lo x))).setCell ⟨w.heap.size + 1, 1, none⟩ (.int .i64 m)).heap[w.heap.size + 1]? = some (.cells #[.int .i64 (mn lo x), .int .i64 m] 44 (0, 0)) := by
        simp [World.setCell, Array.getElem?_modify, hq]
      have e0 := z13 he 0
      have e1 := z13 he 1
      refine bodyPost_ret (v := .agg #[.int .i64 (mn lo x), .int .i64 m]) ?_ rfl ⟨rfl, z15 (z15 (z17 HB.out HB4.out) (by simp)) (by simp)⟩
      simp at e0 e1
      simp [results, Try.results106, go_sem, e0, e1]
theorem wider_calls (lo hi x : Int) (w : World) :
    Calls Try.prog 106 #[.agg #[.int .i64 lo, .int .i64 hi], .int .i64 x] w fun e w' => e = .returned (.agg #[.int .i64 (mn lo x), .int .i64 (mx hi x)]) ∧ Below w.heap.size w w' := by
  refine wider_core lo hi x _ w ?_
  unfold mx
  split
  · exact .inl ⟨by assumption, rfl⟩
  · exact .inr ⟨by assumption, rfl⟩
end Go.Proofs.Ytncaadckehikpaa.Q
