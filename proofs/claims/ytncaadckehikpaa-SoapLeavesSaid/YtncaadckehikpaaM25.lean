/- A part of the proof: contracts of functions and plain facts (HLeave, Q17). No condition. -/
import Derived.Test.YtncaadckehikpaaM24
import Derived.Test.YtncaadckehikpaaM7
import Derived.Test.YtncaadckehikpaaM3
import Derived.Test.YtncaadckehikpaaM13
import Derived.Test.YtncaadckehikpaaM14
import Derived.Test.YtncaadckehikpaaM17
namespace Go.Proofs.Ytncaadckehikpaa.Q
open Go.RowKit Go.Proofs.YtncaadckehikpaaW.PrintWords Go.Proofs.YtncaadckehikpaaW.PrintLast Go.Proofs.YtncaadckehikpaaW.PrintMore
set_option linter.unusedVariables false
set_option linter.unusedSimpArgs false
attribute [local go_sem] run_store_func
/-- The choices of at most k sayings less one, in order. -/
def z42 (len k : Nat) : List (List Int) := (List.range k).flatMap (fun j => combosL len j [] 0)
theorem allCombos_succ (len k : Nat) : z42 len (k + 1) = z42 len k ++ combosL len k [] 0 := by simp [z42, List.range_succ]
theorem allCombos_more (len k n : Nat) (h : k ≤ n) : ∃ r, z42 len n = z42 len k ++ r := by
  induction n with
  | zero => obtain rfl : k = 0 := by omega
            exact ⟨[], by simp⟩
  | succ n ih =>
    rcases Nat.lt_or_ge k (n + 1) with hl | hl
    · obtain ⟨r, hr⟩ := ih (by omega)
      exact ⟨r ++ combosL len n [] 0, by rw [allCombos_succ, hr, List.append_assoc]⟩
    · obtain rfl : k = n + 1 := by omega
      exact ⟨[], by simp⟩
def leaveO (l1 : List S122) (l2 : List S124) : Option (List Int) := (z42 l2.length (l2.length + 1)).find? (possB l1 l2)
def soap_Leave.f (a0_0 : Int) (l0_1 : List (S122)) (l0_2 : List (S124)) : Option (List Int × Int) :=
  if checkS a0_0 l0_1 l0_2 = 0 then (leaveO l0_1 l0_2).map (fun o => (o, 0)) else some ([], checkS a0_0 l0_1 l0_2)
set_option maxHeartbeats 4000000 in
set_option maxRecDepth 100000 in
theorem soap_Leave.calls (a0_0 : Int) (A0_1 : Option Addr) (c0_1 : Nat) (l0_1 : List (S122)) (A0_2 : Option Addr) (c0_2 : Nat) (l0_2 : List (S124)) (r1 : List Int) (r2 : Int) (w : World) (hr0_1 : Kd.C k122 w A0_1 l0_1.length l0_1) (hc0_1 : l0_1.length ≤ c0_1) (hr0_2 : Kd.C k124 w A0_2 l0_2.length l0_2) (hc0_2 : l0_2.length ≤ c0_2) (h : soap_Leave.f a0_0 l0_1 l0_2 = some (r1, r2)) :
    Calls Try.prog 40 #[.agg #[.int .i64 a0_0, .slice A0_1 l0_1.length c0_1, .slice A0_2 l0_2.length c0_2]] w fun e w' => ∃ v0_ : Value, e = .returned (.tuple #[v0_, .int .i64 r2]) ∧ Kd.R (Kd.int .i64) 3 w' w.heap.size (fun _ => True) v0_ r1 ∧ Below w.heap.size w w' := by
  have hu35 := Try.underlying35
  have hbw : Below w.heap.size w (w.alloc (.cells #[.int .i64 a0_0, .slice A0_1 l0_1.length c0_1, .slice A0_2 l0_2.length c0_2] 35)) := z11 (Below.refl _ _) _
  have HCK := mkA (soap_CheckSlate.calls a0_0 A0_1 c0_1 l0_1 A0_2 c0_2 l0_2 _ _ (Kd.C_below hr0_1 hbw) hc0_1 (Kd.C_below hr0_2 hbw) hc0_2 rfl)
  have HBW := mkA hbw
  have HS0 := mkA (z22 w (.cells #[.int .i64 a0_0, .slice A0_1 l0_1.length c0_1, .slice A0_2 l0_2.length c0_2] 35))
  have HR1 := mkA hr0_1
  have HR2 := mkA hr0_2
  have HF := mkA h
  clear hr0_1 hr0_2 hbw h
  go_enter Try.func40, Try.ntmps40
  go_wp2_with fail
  refine HCK.out.mono ?_
  rintro e w1 ⟨rfl, hb⟩
  have HB1 := mkA (z17 HBW.out hb)
  have HS1 := mkA (blk_below HS0.out hb)
  clear hb HCK HBW HS0
  by_cases hck : checkS a0_0 l0_1 l0_2 = 0
  · have hf := HF.out
    unfold soap_Leave.f at hf
    rw [if_pos hck] at hf
    have HFF := mkA hf
    have HZ := mkA hck
    have hlt : w.heap.size < w1.heap.size := z27 HS1.out
    have hl5 : l0_2.length ≤ 5 := by obtain ⟨z0, z1, z2, z3, _⟩ := z30 hck; exact z3
    have hs2 : w1.cell? ⟨w.heap.size, 2, none⟩ = some (.slice A0_2 l0_2.length c0_2) := (z13 HS1.out 2).trans rfl
    rw [hck]
    clear hf hck HF
    have HST := mkA (show LeaveSt w w.heap.size w1.heap.size (w1.heap.size + 1) a0_0 A0_1 c0_1 l0_1 A0_2 c0_2 l0_2 ((w1.alloc (.cells #[.slice none 0 0] 37)).alloc (.cells #[.func (.func 85) #[] #[.pointer (some ⟨w1.heap.size, 0, none⟩), .pointer (some ⟨w.heap.size, 0, none⟩), .pointer (some ⟨w1.heap.size + 1, 0, none⟩)]] 135)) from
      ⟨z11 (z11 HB1.out _) _, blk_below HS1.out (z11 (z11 (Below.refl _ _) _) _), ⟨_, blk_below (z22 w1 _) (z11 (Below.refl _ _) _)⟩, by
        have := z22 (w1.alloc (.cells #[.slice none 0 0] 37)) (.cells #[.func (.func 85) #[] #[.pointer (some ⟨w1.heap.size, 0, none⟩), .pointer (some ⟨w.heap.size, 0, none⟩), .pointer (some ⟨w1.heap.size + 1, 0, none⟩)]] 135)
        rw [World.size_alloc] at this
        exact this⟩)
    go_wp2
    go_loopw [18] (fun i wr => ∃ (k : Nat), i = .int .i64 (k : Int) ∧ k ≤ l0_2.length + 1 ∧ Aside0 (LeaveSt w w.heap.size w1.heap.size (w1.heap.size + 1) a0_0 A0_1 c0_1 l0_1 A0_2 c0_2 l0_2 wr) ∧ Aside0 ((z42 l0_2.length k).find? (possB l0_1 l0_2) = none)) (fun i _ => 7 - (intOf i).toNat)
    case atStart => exact ⟨0, rfl, by omega, HST, ⟨rfl⟩⟩
    case round =>
      obtain ⟨k, rfl, hk, HS, HN⟩ := hrel
      by_cases hlk : (k : Int) < (l0_2.length : Int) + 1
      · have g1 : decide ((k : Int) < (l0_2.length : Int) + 1) = true := decide_eq_true hlk
        have k4 : wr.cell? ⟨w1.heap.size + 1, 0, none⟩ = some (.func (.func 85) #[] #[.pointer (some ⟨w1.heap.size, 0, none⟩), .pointer (some ⟨w.heap.size, 0, none⟩), .pointer (some ⟨w1.heap.size + 1, 0, none⟩)]) := (z13 HS.out.choose 0).trans rfl
        have HLC := mkA (leave1_calls w w.heap.size w1.heap.size (w1.heap.size + 1) w.heap.size a0_0 A0_1 c0_1 l0_1 A0_2 c0_2 l0_2 HZ.out HR1.out hc0_1 HR2.out hc0_2 (by omega) (by omega) (by omega) k [] (.slice none 0 0) 0 k wr rfl (by omega) (by omega) (by simp; omega) HS.out (Kd.R_nil _ _ _ _ _) HS.out.below.size)
        go_wp2_with fail
        refine HLC.out.mono ?_
        rintro e w3 ⟨b, rfl, hbu, ht, hf⟩
        have HBU := mkA hbu
        have HT := mkA ht
        have HFA := mkA hf
        clear hbu ht hf HLC
        cases b with
        | true =>
          obtain ⟨v, o, f1, f2, f3⟩ := HT.out rfl
          have hfo : leaveO l0_1 l0_2 = some o := by
            obtain ⟨r, hr⟩ := allCombos_more l0_2.length (k + 1) (l0_2.length + 1) (by omega)
            unfold leaveO
            rw [hr, allCombos_succ, List.find?_append, List.find?_append, HN.out, f1]
            rfl
          have hh := HFF.out
          rw [hfo] at hh
          obtain ⟨rfl, rfl⟩ := Prod.mk.inj (Option.some.inj hh)
          have k5 : w3.cell? ⟨w1.heap.size, 0, none⟩ = some v := (z13 f2 0).trans rfl
          have HF3 := mkA f3
          have HBL := mkA ((HS.out.but HBU.out ⟨_, f2⟩ (by omega) (by omega) (by omega)).below)
          clear f1 f2 f3 hfo hh HT HFA
          go_wp2
          go_ret2
          exact ⟨v, rfl, HF3.out, HBL.out⟩
        | false =>
          obtain ⟨f1, f2⟩ := HFA.out rfl
          have HST3 := mkA (HS.out.but HBU.out f2 (by omega) (by omega) (by omega))
          have hfn : (z42 l0_2.length (k + 1)).find? (possB l0_1 l0_2) = none := by
            rw [allCombos_succ, List.find?_append, HN.out, f1]
            rfl
          have hfa : ∀ x ∈ z42 l0_2.length (k + 1), possB l0_1 l0_2 x = false := by
            intro x hx
            have hnp := List.find?_eq_none.1 hfn x hx
            cases hv : possB l0_1 l0_2 x with
            | false => rfl
            | true => exact absurd hv hnp
          have HFAA := mkA hfa
          have HFN := mkA hfn
          clear f1 f2 hfn hfa HT HFA
          go_wp2
          go_round
          case measure => simp [intOf]; omega
          case rel => first | exact ⟨k + 1, by go_num, by omega, HST3, HFN⟩ | exact ⟨k + 1, by omega, by omega, HST3, HFAA⟩ | exact ⟨k + 1, by omega, by omega, HFAA⟩
      · exfalso
        obtain rfl : k = l0_2.length + 1 := by omega
        have hh := HFF.out
        unfold leaveO at hh
        rw [HN.out] at hh
        cases hh
  · have hf := HF.out
    unfold soap_Leave.f at hf
    rw [if_neg hck] at hf
    obtain ⟨rfl, rfl⟩ := Prod.mk.inj (Option.some.inj hf)
    generalize hqq : checkS a0_0 l0_1 l0_2 = q at hck ⊢
    have HQQ := mkA hqq
    have g1 : (q != 0) = true := bne_iff_ne.2 hck
    clear hf hck hqq HF
    go_wp2
    go_ret2
    exact ⟨_, by rw [HQQ.out]; rfl, Kd.R_nil _ _ _ _ _, HB1.out⟩
end Go.Proofs.Ytncaadckehikpaa.Q
namespace Go.Proofs.Ytncaadckehikpaa.Q
open Go.RowKit Go.Proofs.YtncaadckehikpaaW.PrintWords Go.Proofs.YtncaadckehikpaaW.PrintLast Go.Proofs.YtncaadckehikpaaW.PrintMore
attribute [local go_sem] z36 z35 max_two min_two   -- for this text's walks alone
set_option linter.unusedVariables false
set_option linter.unusedSimpArgs false
/-! ### pr_All: function 41 -/
def pr_All.l0 : Nat → List Int → Int → Int → List (S91) → List (S94) → Option (List Int)
 | 0, _, _, _, _, _ => none
 | k + 1, x3, x4, x360000, x360001, x360002 => (pr_Many.f k x360000 x360001 x360002).bind fun t360 => (if x4 < t360 then ((pr_Nth.f k x360000 x360001 x360002 x4).bind fun t361 => ((pr_Right.f k x360000 x360001 x360002 t361).bind fun t364 => (if x3.length < 17592186044416 then (pr_All.l0 k (x3 ++ [t364]) (wrap64 (x4 + 1)) x360000 x360001 x360002) else (none)))) else (some x3))
def pr_All.f (k : Nat) (a0_0 : Int) (l0_1 : List (S91)) (l0_2 : List (S94)) : Option (List Int) := pr_All.l0 k ([] : List Int) 0 a0_0 l0_1 l0_2
def pr_All.T5 : Bool × List (List Nat × List Nat) := (true, [([], []), ([], []), ([], []), ([], []), ([2, 3], [2, 3]), ([1, 4, 4], [1, 4]), ([5], [5]), ([0, 6, 5], [0, 6]), ([7, 7, 0, 1, 2, 3, 4, 5, 6, 7], [0, 7])])
def pr_All.B5 : List Nat := [0, 0, 0, 0, 12, 30, 62, 127, 255]
theorem pr_All.tab5 : rtab .any (opsOf Try.f41 5) = pr_All.T5 := by kernel_rfl
theorem pr_All.bits5 : waitsOk pr_All.T5.2 pr_All.B5 = true := by kernel_rfl
set_option maxHeartbeats 8000000 in
set_option maxRecDepth 100000 in
theorem pr_All.calls (k : Nat) (a0_0 : Int) (A0_1 : Option Addr) (c0_1 : Nat) (l0_1 : List (S91)) (A0_2 : Option Addr) (c0_2 : Nat) (l0_2 : List (S94)) (r : List Int) (w : World) (hr0_1 : Kd.C k91 w A0_1 l0_1.length l0_1) (hc0_1 : l0_1.length ≤ c0_1) (hr0_2 : Kd.C k94 w A0_2 l0_2.length l0_2) (hc0_2 : l0_2.length ≤ c0_2) (h : pr_All.f k a0_0 l0_1 l0_2 = some r) :
  Calls Try.prog 41 #[.agg #[.int .i64 a0_0, .slice A0_1 l0_1.length c0_1, .slice A0_2 l0_2.length c0_2]] w fun e w' => ∃ v0_ : Value, e = .returned (v0_) ∧ Kd.R (Kd.int .i64) 3 w' w.heap.size (fun _ => True) v0_ r ∧ Below w.heap.size w w' := by
 have hu25 := Try.underlying25
 have HR0_1 := mkA hr0_1
 have HC0_1 := mkA hc0_1
 clear hr0_1 hc0_1
 have HR0_2 := mkA hr0_2
 have HC0_2 := mkA hc0_2
 clear hr0_2 hc0_2
 have HB := mkA (Below.refl w.heap.size w)
 have H : (pr_All.l0 k ([] : List Int) 0 a0_0 l0_1 l0_2) = some r := h
 clear h
 have H' := mkA H
 clear H
 go_enter Try.func41, Try.ntmps41
 go_wp2_with (first | ((with_reducible refine z26 (N := 1) rfl ?_); refine z25 ?hg (N := 1) ?hd (cs := #[.int .i64 a0_0, .slice A0_1 l0_1.length c0_1, .slice A0_2 l0_2.length c0_2]) (t := 25) ?hr ?_; (case hd => rfl); (case hg => rfl); (case hr => first | (go_simp; done) | (go_simp; rfl)); intro gb359 hg w2 hbox hb; have n0_ := mkA (z17 (by repeat (first | (with_reducible first | exact HB.out | apply z11 | apply z10 | apply z12) | exact HB.out)) hb); have n1_ := mkA (hbox); have n2_ := mkA ((by rw [hg]; exact (z18 (by repeat (first | (with_reducible first | exact HB.out | apply z11 | apply z10 | apply z12) | exact HB.out))) : w.heap.size ≤ gb359)); have n3_ := mkA ((by rw [hg]; exact (z18 (by repeat (first | (with_reducible first | exact HB.out | apply z11 | apply z10 | apply z12) | exact HB.out))) : w.heap.size ≤ gb359)); clear HB; have HB := n0_; have BK359 := n1_; have GW359 := n2_; have GE359 := n3_; clear n0_ n1_ n2_ n3_; clear hb hbox hg))
 go_loopg [3, 4] k (fun kq v3 v4 w' => ∃ (x3_1 : List Int) (x4_1 : Int), v4 = .int .i64 x4_1 ∧ Aside0 (pr_All.l0 kq x3_1 x4_1 a0_0 l0_1 l0_2 = some r) ∧ Aside0 (kq ≤ k) ∧ Aside0 (Kd.R (Kd.int .i64) 3 w' w.heap.size (fun _ => True) v3 x3_1) ∧ Aside0 (w'.heap[gb359]? = some (.cells #[.int .i64 a0_0, (.slice A0_1 l0_1.length c0_1), (.slice A0_2 l0_2.length c0_2)] 25 (0, 0))) ∧ Aside0 (Below w.heap.size w w'))
 case atStart => exact ⟨(([] : List Int)), (0), (by first | rfl | (simp; done) | (simp [*]; done)), H', ⟨Nat.le_refl _⟩, ⟨by first | exact Kd.R_nil _ _ _ _ _ | exact Kd.N_nil _ _ _ _ _ | exact Kd.V_nil _ _ _ _ _ | exact Kd.Q_nil _ _ _ _ _ | exact Kd.S_nil _ _ _ _ _⟩, ⟨by (with_reducible repeat (first | refine z16 ?_ _ | refine z24 ?_ | refine z23 ?_ _)); exact BK359.out⟩, ⟨by repeat (first | (with_reducible first | exact HB.out | apply z11 | apply z10 | apply z12 | refine z15 ?_ GE359.out) | exact HB.out)⟩⟩
 case round =>
  clear H'
  try clear p2
  obtain ⟨x3_1, x4_1, rfl, HA, HK1, HO_3, BK359, HB⟩ := hrel
  cases gk with
  | zero => exact absurd HA.out (by simp [pr_All.l0])
  | succ k1 =>
   have H := HA.out
   clear HA
   simp only [pr_All.l0] at H
   replace H := Option.bind_eq_some_iff.mp H
   obtain ⟨t360, A30, H⟩ := H
   replace H : (if x4_1 < t360 then ((pr_Nth.f k1 a0_0 l0_1 l0_2 x4_1).bind fun t361 => ((pr_Right.f k1 a0_0 l0_1 l0_2 t361).bind fun t364 => (if x3_1.length < 17592186044416 then (pr_All.l0 k1 (x3_1 ++ [t364]) (wrap64 (x4_1 + 1)) a0_0 l0_1 l0_2) else (none)))) else (some x3_1)) = some r := H
   have A3 := mkA A30
   clear A30
   by_cases c4 : x4_1 < t360
   ·rw [if_pos c4] at H
    have c4b0 : decide (x4_1 < t360) = true := decide_eq_true c4
    clear c4
    replace H := Option.bind_eq_some_iff.mp H
    obtain ⟨t361, A50, H⟩ := H
    replace H : ((pr_Right.f k1 a0_0 l0_1 l0_2 t361).bind fun t364 => (if x3_1.length < 17592186044416 then (pr_All.l0 k1 (x3_1 ++ [t364]) (wrap64 (x4_1 + 1)) a0_0 l0_1 l0_2) else (none))) = some r := H
    have A5 := mkA A50
    clear A50
    replace H := Option.bind_eq_some_iff.mp H
    obtain ⟨t364, A60, H⟩ := H
    replace H : (if x3_1.length < 17592186044416 then (pr_All.l0 k1 (x3_1 ++ [t364]) (wrap64 (x4_1 + 1)) a0_0 l0_1 l0_2) else (none)) = some r := H
    have A6 := mkA A60
    clear A60
    by_cases c7 : x3_1.length < 17592186044416
    ·rw [if_pos c7] at H
     have LMc7 := mkA c7
     clear c7
     obtain ⟨y365, hy365⟩ : ∃ y_ : List Int, y_ = (x3_1 ++ [t364]) := ⟨_, rfl⟩
     replace H : (pr_All.l0 k1 y365 (wrap64 (x4_1 + 1)) a0_0 l0_1 l0_2) = some r := by first | (rw [hy365]; with_reducible exact H) | (have H2_ := (Option.bind_some _ _).symm.trans H; rw [hy365]; with_reducible exact H2_) | (have H2_ := (Option.bind_some _ _).symm.trans H; with_reducible exact H2_) | with_reducible exact H | (rw [hy365]; exact H) | exact H
     have Ny365 := mkA hy365
     clear hy365
     have H' := mkA H
     clear H
     have hcz8_0 : wr.cell? ⟨gb359, 0, none⟩ = some (.int .i64 a0_0) := (z13 BK359.out 0).trans rfl
     have hcz8_1 : wr.cell? ⟨gb359, 1, none⟩ = some (.slice A0_1 l0_1.length c0_1) := (z13 BK359.out 1).trans rfl
     have hcz8_2 : wr.cell? ⟨gb359, 2, none⟩ = some (.slice A0_2 l0_2.length c0_2) := (z13 BK359.out 2).trans rfl
     have hfz8_0 := z14 BK359.out 0
     have hfz8_1 := z14 BK359.out 1
     have hfz8_2 := z14 BK359.out 2
     try go_wp2_with (first | ((with_reducible refine z21 (f := 47) rfl ?_); refine goesL_ (some 7) rfl rfl Try.func47 (by kernel_rfl) rfl #[.agg #[.int .i64 a0_0, .slice A0_1 l0_1.length c0_1, .slice A0_2 l0_2.length c0_2]] rfl (by (try simp only [List.map_toArray, List.map_cons, List.map_nil]); first | done | rfl | (simp only [List.length_drop, List.length_take]; rfl)) ?_; (with_reducible refine (pr_Many.calls k1 a0_0 _ _ l0_1 _ _ l0_2 t360 _ ?side1 ?side2 ?side3 ?side4 A3.out).mono ?_); (case side1 => repeat (first | exact (Kd.C_below HR0_1.out HB.out) | (with_reducible refine Kd.C_alloc ?_ _) | (with_reducible refine Kd.C_drewN ?_ _) | (with_reducible refine Kd.C_drew ?_))); (case side2 => exact HC0_1.out); (case side3 => repeat (first | exact (Kd.C_below HR0_2.out HB.out) | (with_reducible refine Kd.C_alloc ?_ _) | (with_reducible refine Kd.C_drewN ?_ _) | (with_reducible refine Kd.C_drew ?_))); (case side4 => exact HC0_2.out); rintro e w9 ⟨rfl, hb⟩; refine ⟨_, rfl, ?_⟩; have n0_ := mkA (Kd.R_below (by (with_reducible repeat (first | apply Kd.R_alloc | apply Kd.R_drewN | apply Kd.R_drew)); exact HO_3.out) hb); have n1_ := mkA (blk_below (g := gb359) (o := .cells #[.int .i64 a0_0, .slice A0_1 l0_1.length c0_1, .slice A0_2 l0_2.length c0_2] 25 (0, 0)) (by (with_reducible repeat (first | refine z16 ?_ _ | refine z24 ?_ | refine z23 ?_ _)); exact BK359.out) hb); have n2_ := mkA (z17 (by repeat (first | (with_reducible first | exact HB.out | apply z11 | apply z10 | apply z12 | refine z15 ?_ GE359.out) | exact HB.out)) hb); clear HO_3; clear BK359; clear HB; have HO_3 := n0_; have BK359 := n1_; have HB := n2_; clear n0_ n1_ n2_; (try clear hb); (try clear hb2); (try clear hk); (try clear hi)))
     have n0_ := mkA (Kd.R_drew HO_3.out)
     have n1_ := mkA (z24 BK359.out)
     have n2_ := mkA (z12 HB.out)
     clear HO_3
     clear BK359
     clear HB
     have HO_3 := n0_
     have BK359 := n1_
     have HB := n2_
     clear n0_ n1_ n2_
     refine start_ (n := 9) (S := fun w' => w'.cell? ⟨gb359, 0, none⟩ = some (.int .i64 a0_0) ∧ w'.cell? ⟨gb359, 1, none⟩ = some (.slice A0_1 l0_1.length c0_1) ∧ w'.cell? ⟨gb359, 2, none⟩ = some (.slice A0_2 l0_2.length c0_2)) (ds := []) #[false, false, false, false, false, false, false, false, false] (by kernel_rfl) rfl rfl ⟨(z13 BK359.out 0).trans rfl, (z13 BK359.out 1).trans rfl, (z13 BK359.out 2).trans rfl⟩ (fun hHeld => ?_); refine with_tabW pr_All.tab5 pr_All.bits5 (fun HT_ HW_ => ?_)
     generalize w9.drew = w10 at HO_3 BK359 HB hHeld ⊢
     refine pure_ (i := 0) (N := some 11) (v := ?_) (a' := ?_) #[true, false, false, false, false, false, false, false, false] rfl rfl (any_of HT_.out (by kernel_rfl)) (fun _ _ _ h => h) (Or.inl ⟨by rfl, ?_⟩) ?_ ?_
     rotate_left
     ·intro w'
      go_simp
      with_reducible rfl
     rotate_left
     ·simp only [Act.put, xq1, xq2, xq3, i64_w, i32_w]
      rfl
     refine pure_ (i := 3) (N := some 14) (v := ?_) (a' := ?_) #[true, false, false, true, false, false, false, false, false] rfl rfl (any_of HT_.out (by kernel_rfl)) (fun _ _ _ h => h) (Or.inl ⟨by rfl, ?_⟩) ?_ ?_
     rotate_left
     ·intro w'
      go_simp
      with_reducible rfl
     rotate_left
     ·simp only [Act.put, xq1, xq2, xq3, i64_w, i32_w]
      rfl
     refine take_ (i := 1) (N := some 12) (v := ?_) (a' := ?_) #[true, true, false, true, false, false, false, false, false] rfl rfl (z32 HT_.out HW_.out (by kernel_rfl)) (fun _ _ _ h => h) (Or.inl ⟨by rfl, ?_⟩) hHeld ?_ ?_
     rotate_left
     ·rintro w' ⟨s0, s1, s2⟩
      go_simp
      with_reducible rfl
     rotate_left
     ·simp only [Act.put, xq1, xq2, xq3, i64_w, i32_w]
      rfl
     refine take_ (i := 2) (N := some 13) (v := ?_) (a' := ?_) #[true, true, true, true, false, false, false, false, false] rfl rfl (z32 HT_.out HW_.out (by kernel_rfl)) (fun _ _ _ h => h) (Or.inl ⟨by rfl, ?_⟩) hHeld ?_ ?_
     rotate_left
     ·rintro w' ⟨s0, s1, s2⟩
      go_simp
      with_reducible rfl
     rotate_left
     ·simp only [Act.put, xq1, xq2, xq3, i64_w, i32_w]
      rfl
     refine one_ (i := 4) (N := some 15) #[true, true, true, true, true, false, false, false, false] rfl rfl (one_of HT_.out (by kernel_rfl)) (by decide) (fun K hK => ?_)
     refine goes_ Try.func46 (by kernel_rfl) rfl #[.agg #[.int .i64 a0_0, .slice A0_1 l0_1.length c0_1, .slice A0_2 l0_2.length c0_2], .int .i64 x4_1] (by rfl) rfl rfl (by (try simp only [List.map_toArray, List.map_cons, List.map_nil]); first | done | rfl | (simp only [List.length_drop, List.length_take]; rfl)) ?_
     with_reducible refine (pr_Nth.calls k1 a0_0 _ _ l0_1 _ _ l0_2 x4_1 t361 _ ?side1 ?side2 ?side3 ?side4 A5.out).mono ?_
     (case side1 => repeat (first | exact (Kd.C_below HR0_1.out HB.out) | (with_reducible refine Kd.C_alloc ?_ _) | (with_reducible refine Kd.C_drewN ?_ _) | (with_reducible refine Kd.C_drew ?_)))
     (case side2 => exact HC0_1.out)
     (case side3 => repeat (first | exact (Kd.C_below HR0_2.out HB.out) | (with_reducible refine Kd.C_alloc ?_ _) | (with_reducible refine Kd.C_drewN ?_ _) | (with_reducible refine Kd.C_drew ?_)))
     (case side4 => exact HC0_2.out)
     rintro e w11 ⟨v362, rfl, ho0, hb⟩
     refine ⟨_, rfl, ?_⟩
     have n0_ := mkA (Kd.R_elder' (by (with_reducible repeat (first | apply Kd.R_alloc | apply Kd.R_drewN | apply Kd.R_drew)); exact HO_3.out) (Kd.R_base ho0) hb)
     have n1_ := mkA (Kd.R_lower (Kd.R_new' ho0 (Kd.R_lt (by (with_reducible repeat (first | apply Kd.R_alloc | apply Kd.R_drewN | apply Kd.R_drew)); exact HO_3.out))) (z18 (by repeat (first | (with_reducible first | exact HB.out | apply z11 | apply z10 | apply z12 | refine z15 ?_ GE359.out) | exact HB.out))))
     have n2_ := mkA (blk_below (g := gb359) (o := .cells #[.int .i64 a0_0, .slice A0_1 l0_1.length c0_1, .slice A0_2 l0_2.length c0_2] 25 (0, 0)) (by (with_reducible repeat (first | refine z16 ?_ _ | refine z24 ?_ | refine z23 ?_ _)); exact BK359.out) hb)
     have n3_ := mkA (z17 (by repeat (first | (with_reducible first | exact HB.out | apply z11 | apply z10 | apply z12 | refine z15 ?_ GE359.out) | exact HB.out)) hb)
     clear HO_3
     clear BK359
     clear HB
     have HO_3 := n0_
     have HO363 := n1_
     have BK359 := n2_
     have HB := n3_
     clear n0_ n1_ n2_ n3_
     (try clear hb)
     (try clear hb2)
     (try clear hk)
     (try clear hi)
     (try clear ho0)
     obtain ⟨Ao12, co12, eo12⟩ := Kd.R_slice HO363.out
     (first | subst eo12 | (injection eo12 with f1_ f2_ f3_; have f4_ := f1_.symm; have f5_ := f3_.symm; clear f1_ f2_ f3_; subst f4_; subst f5_))
     refine hK.out _ _ ⟨(z13 BK359.out 0).trans rfl, (z13 BK359.out 1).trans rfl, (z13 BK359.out 2).trans rfl⟩ (fun hHeld => ?_)
     clear hK K
     refine norm_ (a' := ?_) ?_ ?_
     rotate_left
     ·show Act.put _ (some 15) _ = _
      simp only [Act.put, xq1, xq2, xq3, i64_w, i32_w]
      rfl
     refine one_ (i := 5) (N := some 16) #[true, true, true, true, true, true, false, false, false] rfl rfl (one_of HT_.out (by kernel_rfl)) (by decide) (fun K hK => ?_)
     refine goes_ Try.func87 (by kernel_rfl) rfl #[.agg #[.int .i64 a0_0, .slice A0_1 l0_1.length c0_1, .slice A0_2 l0_2.length c0_2], .slice Ao12 t361.length co12] (by rfl) rfl rfl (by (try simp only [List.map_toArray, List.map_cons, List.map_nil]); first | done | rfl | (simp only [List.length_drop, List.length_take]; rfl)) ?_
     with_reducible refine (pr_Right.calls k1 a0_0 _ _ l0_1 _ _ l0_2 _ _ t361 t364 _ ?side1 ?side2 ?side3 ?side4 ?side5 ?side6 A6.out).mono ?_
     (case side1 => repeat (first | exact (Kd.C_below HR0_1.out HB.out) | (with_reducible refine Kd.C_alloc ?_ _) | (with_reducible refine Kd.C_drewN ?_ _) | (with_reducible refine Kd.C_drew ?_)))
     (case side2 => exact HC0_1.out)
     (case side3 => repeat (first | exact (Kd.C_below HR0_2.out HB.out) | (with_reducible refine Kd.C_alloc ?_ _) | (with_reducible refine Kd.C_drewN ?_ _) | (with_reducible refine Kd.C_drew ?_)))
     (case side4 => exact HC0_2.out)
     (case side5 => repeat (first | exact (Kd.R_reads' HO363.out).2.2 | (with_reducible refine Kd.C_alloc ?_ _) | (with_reducible refine Kd.C_drewN ?_ _) | (with_reducible refine Kd.C_drew ?_)))
     (case side6 => exact (Kd.R_reads' HO363.out).2.1)
     rintro e w13 ⟨rfl, hb⟩
     refine ⟨_, rfl, ?_⟩
     have n0_ := mkA (Kd.R_below (by (with_reducible repeat (first | apply Kd.R_alloc | apply Kd.R_drewN | apply Kd.R_drew)); exact HO_3.out) hb)
     have n1_ := mkA (Kd.R_below (by (with_reducible repeat (first | apply Kd.R_alloc | apply Kd.R_drewN | apply Kd.R_drew)); exact HO363.out) hb)
     have n2_ := mkA (blk_below (g := gb359) (o := .cells #[.int .i64 a0_0, .slice A0_1 l0_1.length c0_1, .slice A0_2 l0_2.length c0_2] 25 (0, 0)) (by (with_reducible repeat (first | refine z16 ?_ _ | refine z24 ?_ | refine z23 ?_ _)); exact BK359.out) hb)
     have n3_ := mkA (z17 (by repeat (first | (with_reducible first | exact HB.out | apply z11 | apply z10 | apply z12 | refine z15 ?_ GE359.out) | exact HB.out)) hb)
     clear HO_3
     clear HO363
     clear BK359
     clear HB
     have HO_3 := n0_
     have HO363 := n1_
     have BK359 := n2_
     have HB := n3_
     clear n0_ n1_ n2_ n3_
     (try clear hb)
     (try clear hb2)
     (try clear hk)
     (try clear hi)
     refine hK.out _ _ ⟨(z13 BK359.out 0).trans rfl, (z13 BK359.out 1).trans rfl, (z13 BK359.out 2).trans rfl⟩ (fun hHeld => ?_)
     clear hK K
     refine norm_ (a' := ?_) ?_ ?_
     rotate_left
     ·show Act.put _ (some 16) _ = _
      simp only [Act.put, xq1, xq2, xq3, i64_w, i32_w]
      rfl
     refine one_ (i := 6) (N := some 17) #[true, true, true, true, true, true, true, false, false] rfl rfl (one_of HT_.out (by kernel_rfl)) (by decide) (fun K hK => ?_)
     refine value_ (w1 := ?_) (v := ?_) (by rfl) rfl ?_ ?_
     rotate_left 2
     ·go_simp
      constructor
      ·rfl
      ·rfl
     refine hK.out _ _ ⟨(z13 (z23 BK359.out _) 0).trans rfl, (z13 (z23 BK359.out _) 1).trans rfl, (z13 (z23 BK359.out _) 2).trans rfl⟩ (fun hHeld => ?_)
     clear hK K
     refine norm_ (a' := ?_) ?_ ?_
     rotate_left
     ·show Act.put _ (some 17) _ = _
      simp only [Act.put, xq1, xq2, xq3, i64_w, i32_w]
      rfl
     refine one_ (i := 7) (N := some 18) #[true, true, true, true, true, true, true, true, false] rfl rfl (one_of HT_.out (by kernel_rfl)) (by decide) (fun K hK => ?_)
     refine Kd.R_append_step (Kd.int .i64) (w0 := w) w.heap.size (by rfl) (.tmp 11) (.tmp 17) 37 3 (.int .i64 0) 8 rfl Try.underlying37 info3 rfl (by decide) (by omega) u3 x3_1 t364 [.int .i64 t364] (fun k_ => some k_ ≠ (.slice Ao12 t361.length co12 : Value).ownBlock) (fun _ => False) rfl rfl ?aP (fun _ hk => hk.elim) ?aF ?aO ?aB ?aS ?aL ?_
     (case aP => exact rfl)
     (case aB => exact (by repeat (first | (with_reducible first | exact HB.out | apply z11 | apply z10 | apply z12 | refine z15 ?_ GE359.out) | exact HB.out)))
     (case aF => exact (fun k_ hk => Kd.fresh' (Kd.R_lt (by (with_reducible repeat (first | apply Kd.R_alloc | apply Kd.R_drewN | apply Kd.R_drew)); exact HO363.out)) k_ hk))
     (case aO => exact (by (with_reducible repeat (first | apply Kd.R_alloc | apply Kd.R_drewN | apply Kd.R_drew)); exact Kd.R_mono HO_3.out (fun _ hk => hk.2)))
     (case aS => exact (z18 (by repeat (first | (with_reducible first | exact HB.out | apply z11 | apply z10 | apply z12 | refine z15 ?_ GE359.out) | exact HB.out))))
     (case aL => have := LMc7.out; omega)
     intro v366 w14 ho hb hg hat
     rw [← Ny365.out] at ho
     have n0_ := mkA (z38 (g := gb359) (o := .cells #[.int .i64 a0_0, .slice A0_1 l0_1.length c0_1, .slice A0_2 l0_2.length c0_2] 25 (0, 0)) (by (with_reducible repeat (first | refine z16 ?_ _ | refine z24 ?_ | refine z23 ?_ _)); exact BK359.out) hg (Kd.R_ne HO_3.out BK359.out (by decide)))
     have n1_ := mkA (Kd.R_after (ok := (fun _ => True)) (by (with_reducible repeat (first | apply Kd.R_alloc | apply Kd.R_drewN | apply Kd.R_drew)); exact HO363.out) hg hat)
     have n2_ := mkA (hb)
     have n3_ := mkA (ho)
     clear BK359
     clear HO363
     clear HB
     clear HO_3
     have BK359 := n0_
     have HO363 := n1_
     have HB := n2_
     have HO367 := n3_
     clear n0_ n1_ n2_ n3_
     clear ho hb hg hat
     refine hK.out _ _ ⟨(z13 BK359.out 0).trans rfl, (z13 BK359.out 1).trans rfl, (z13 BK359.out 2).trans rfl⟩ (fun hHeld => ?_)
     clear hK K
     refine norm_ (a' := ?_) ?_ ?_
     rotate_left
     ·show Act.put _ (some 18) _ = _
      simp only [Act.put, xq1, xq2, xq3, i64_w, i32_w]
      rfl
     refine pure_ (i := 8) (N := some 3) (v := ?_) (a' := ?_) #[true, true, true, true, true, true, true, true, true] rfl rfl (any_of HT_.out (by kernel_rfl)) (fun _ _ _ h => h) (Or.inl ⟨by rfl, ?_⟩) ?_ ?_
     rotate_left
     ·intro w'
      go_simp
      with_reducible rfl
     rotate_left
     ·simp only [Act.put, xq1, xq2, xq3, i64_w, i32_w]
      rfl
     refine done_ (done_of HT_.out (by kernel_rfl)) ?_
     try go_wp2
     go_roundg k1
     case measure => have := HK1.out; omega
     case rel => exact ⟨(y365), (wrap64 (x4_1 + 1)), (by first | rfl | (simp; done) | (simp [*]; done)), H', ⟨by have := HK1.out; omega⟩, ⟨by (with_reducible repeat (first | apply Kd.R_alloc | apply Kd.R_drewN | apply Kd.R_drew)); exact Kd.R_mono HO367.out (fun _ hk => trivial)⟩, ⟨by (with_reducible repeat (first | refine z16 ?_ _ | refine z24 ?_ | refine z23 ?_ _)); exact BK359.out⟩, ⟨by repeat (first | (with_reducible first | exact HB.out | apply z11 | apply z10 | apply z12 | refine z15 ?_ GE359.out) | exact HB.out)⟩⟩
    ·rw [if_neg c7] at H
     exact absurd H (by simp)
   ·rw [if_neg c4] at H
    have c4b0 : decide (x4_1 < t360) = false := decide_eq_false c4
    clear c4
    obtain rfl := Option.some.inj H
    have hcz15_0 : wr.cell? ⟨gb359, 0, none⟩ = some (.int .i64 a0_0) := (z13 BK359.out 0).trans rfl
    have hcz15_1 : wr.cell? ⟨gb359, 1, none⟩ = some (.slice A0_1 l0_1.length c0_1) := (z13 BK359.out 1).trans rfl
    have hcz15_2 : wr.cell? ⟨gb359, 2, none⟩ = some (.slice A0_2 l0_2.length c0_2) := (z13 BK359.out 2).trans rfl
    have hfz15_0 := z14 BK359.out 0
    have hfz15_1 := z14 BK359.out 1
    have hfz15_2 := z14 BK359.out 2
    go_wp2_with (first | ((with_reducible refine z21 (f := 47) rfl ?_); refine goesL_ (some 7) rfl rfl Try.func47 (by kernel_rfl) rfl #[.agg #[.int .i64 a0_0, .slice A0_1 l0_1.length c0_1, .slice A0_2 l0_2.length c0_2]] rfl (by (try simp only [List.map_toArray, List.map_cons, List.map_nil]); first | done | rfl | (simp only [List.length_drop, List.length_take]; rfl)) ?_; (with_reducible refine (pr_Many.calls k1 a0_0 _ _ l0_1 _ _ l0_2 t360 _ ?side1 ?side2 ?side3 ?side4 A3.out).mono ?_); (case side1 => repeat (first | exact (Kd.C_below HR0_1.out HB.out) | (with_reducible refine Kd.C_alloc ?_ _) | (with_reducible refine Kd.C_drewN ?_ _) | (with_reducible refine Kd.C_drew ?_))); (case side2 => exact HC0_1.out); (case side3 => repeat (first | exact (Kd.C_below HR0_2.out HB.out) | (with_reducible refine Kd.C_alloc ?_ _) | (with_reducible refine Kd.C_drewN ?_ _) | (with_reducible refine Kd.C_drew ?_))); (case side4 => exact HC0_2.out); rintro e w16 ⟨rfl, hb⟩; refine ⟨_, rfl, ?_⟩; have n0_ := mkA (Kd.R_below (by (with_reducible repeat (first | apply Kd.R_alloc | apply Kd.R_drewN | apply Kd.R_drew)); exact HO_3.out) hb); have n1_ := mkA (blk_below (g := gb359) (o := .cells #[.int .i64 a0_0, .slice A0_1 l0_1.length c0_1, .slice A0_2 l0_2.length c0_2] 25 (0, 0)) (by (with_reducible repeat (first | refine z16 ?_ _ | refine z24 ?_ | refine z23 ?_ _)); exact BK359.out) hb); have n2_ := mkA (z17 (by repeat (first | (with_reducible first | exact HB.out | apply z11 | apply z10 | apply z12 | refine z15 ?_ GE359.out) | exact HB.out)) hb); clear HO_3; clear BK359; clear HB; have HO_3 := n0_; have BK359 := n1_; have HB := n2_; clear n0_ n1_ n2_; (try clear hb); (try clear hb2); (try clear hk); (try clear hi)))
    go_ret
    exact ⟨_, by first | rfl | (simp [z20, z19] <;> rfl) | (simp [*, z20, z19] <;> rfl), by (with_reducible repeat (first | apply Kd.R_alloc | apply Kd.R_drewN | apply Kd.R_drew)); exact HO_3.out, by repeat (first | (with_reducible first | exact HB.out | apply z11 | apply z10 | apply z12 | refine z15 ?_ GE359.out) | exact HB.out)⟩
/-! ### pr_Can: function 88 -/
def pr_Can.l0 : Nat → List Int → Int → Int → Option (Bool)
 | 0, _, _, _ => none
 | k + 1, x0, x1, x5 => if x5 < (x0.length : Int) then (if 0 ≤ x5 then (if (Go.bits .and .i64 (rd x0 x5) x1) = x1 then (some true) else (pr_Can.l0 k x0 x1 (wrap64 (x5 + 1)))) else (none)) else (some false)
def pr_Can.f (k : Nat) (l0 : List Int) (a1 : Int) : Option (Bool) := pr_Can.l0 k l0 a1 0
set_option maxHeartbeats 8000000 in
set_option maxRecDepth 100000 in
theorem pr_Can.calls (k : Nat) (A0 : Option Addr) (c0 : Nat) (l0 : List Int) (a1 : Int) (r : Bool) (w : World) (hr0 : Kd.C (Kd.int .i64) w A0 l0.length l0) (hc0 : l0.length ≤ c0) (h : pr_Can.f k l0 a1 = some r) :
  Calls Try.prog 88 #[.slice A0 l0.length c0, .int .i64 a1] w fun e w' => e = .returned (.bool r) ∧ Drawn0 w w' := by
 have HR0 := mkA hr0
 have HC0 := mkA hc0
 clear hr0 hc0
 have H : (pr_Can.l0 k l0 a1 0) = some r := h
 clear h
 have H' := mkA H
 clear H
 go_enter Try.func88, Try.ntmps88
 go_wp2
 go_loopg [5] k (fun kq v5 w' => ∃ (x5_1 : Int), v5 = .int .i64 x5_1 ∧ Aside0 (pr_Can.l0 kq l0 a1 x5_1 = some r) ∧ Aside0 (kq ≤ k) ∧ Drawn0 w w')
 case atStart => exact ⟨(0), (by first | rfl | (simp; done) | (simp [*]; done)), H', ⟨Nat.le_refl _⟩, by repeat (first | exact Drawn0.refl _ | apply Drawn0.step)⟩
 case round =>
  clear H'
  try clear p2
  obtain ⟨x5_1, rfl, HA, HK1, ⟨m1, rfl⟩⟩ := hrel
  cases gk with
  | zero => exact absurd HA.out (by simp [pr_Can.l0])
  | succ k1 =>
   have H := HA.out
   clear HA
   simp only [pr_Can.l0] at H
   by_cases c3 : x5_1 < (l0.length : Int)
   ·rw [if_pos c3] at H
    have c3b0 : decide (x5_1 < (l0.length : Int)) = true := decide_eq_true c3
    clear c3
    by_cases c4 : 0 ≤ x5_1
    ·rw [if_pos c4] at H
     have c4b0 : decide (0 ≤ x5_1) = true := decide_eq_true c4
     clear c4
     by_cases c5 : (Go.bits .and .i64 (rd l0 x5_1) a1) = a1
     ·rw [if_pos c5] at H
      have c5b0 : ((Go.bits .and .i64 (rd l0 x5_1) a1) == a1) = true := beq_iff_eq.mpr c5
      have c5b1 : ((Go.bits .and .i64 (rd l0 x5_1) a1) != a1) = false := bne_eq_false_iff_eq.mpr c5
      clear c5
      obtain rfl := Option.some.inj H
      have p373 : 0 ≤ (x5_1 : Int) := of_decide_eq_true (by first | (with_reducible assumption) | assumption)
      have q373 : x5_1 < (l0.length : Int) := of_decide_eq_true (by first | (with_reducible assumption) | assumption)
      obtain ⟨ad373, e373, hx373_0⟩ := Kd.at_int HR0.out x5_1 p373 q373
      cases e373
      replace p373 := eq_true p373
      replace q373 := eq_true q373
      go_wp2
      go_ret
      exact ⟨by first | rfl | (simp; done) | (simp [*]; done), by repeat (first | exact Drawn0.refl _ | apply Drawn0.step)⟩
     ·rw [if_neg c5] at H
      have c5b0 : ((Go.bits .and .i64 (rd l0 x5_1) a1) == a1) = false := beq_eq_false_iff_ne.mpr c5
      have c5b1 : ((Go.bits .and .i64 (rd l0 x5_1) a1) != a1) = true := bne_iff_ne.mpr c5
      have H' := mkA H
      clear H
      have p373 : 0 ≤ (x5_1 : Int) := of_decide_eq_true (by first | (with_reducible assumption) | assumption)
      have q373 : x5_1 < (l0.length : Int) := of_decide_eq_true (by first | (with_reducible assumption) | assumption)
      obtain ⟨ad373, e373, hx373_0⟩ := Kd.at_int HR0.out x5_1 p373 q373
      cases e373
      replace p373 := eq_true p373
      replace q373 := eq_true q373
      go_wp2
      go_roundg k1
      case measure => have := HK1.out; omega
      case rel => exact ⟨(wrap64 (x5_1 + 1)), (by first | rfl | (simp; done) | (simp [*]; done)), H', ⟨by have := HK1.out; omega⟩, by repeat (first | exact Drawn0.refl _ | apply Drawn0.step)⟩
    ·rw [if_neg c4] at H
     exact absurd H (by simp)
   ·rw [if_neg c3] at H
    have c3b0 : decide (x5_1 < (l0.length : Int)) = false := decide_eq_false c3
    clear c3
    obtain rfl := Option.some.inj H
    go_wp2
    go_ret
    exact ⟨by first | rfl | (simp; done) | (simp [*]; done), by repeat (first | exact Drawn0.refl _ | apply Drawn0.step)⟩
end Go.Proofs.Ytncaadckehikpaa.Q
