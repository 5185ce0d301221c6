/- The last part: the row, by the parts before. No condition. -/
import Derived.Lib.SmallJoins
import Derived.Deep.Slices
import Derived.ChangeSame
import Derived.WideLaws
import Derived.Test.YtncaadckehikpaaRows
import Derived.WalkKit
import Derived.ProofKit
import Derived.OpenShut
import Derived.ChangeOld
import Derived.Below
import Derived.SizedLaws
import Derived.Test.YtncaadckehikpaaM26
import Derived.Test.YtncaadckehikpaaM3
namespace Go.Proofs.Ytncaadckehikpaa.Q
open Go.RowKit Go.Proofs.YtncaadckehikpaaW.PrintWords Go.Proofs.YtncaadckehikpaaW.PrintLast Go.Proofs.YtncaadckehikpaaW.PrintMore
set_option linter.unusedVariables false
set_option linter.unusedSimpArgs false
set_option linter.unusedSectionVars false
/-- Ounces of a list of entries. -/
def fitL : List S122 → List Int → Prop
  | [], [] => True
  | e :: L, x :: t => (e.f2.f0 ≤ x ∧ x ≤ e.f2.f1) ∧ fitL L t
  | _, _ => False
theorem mem_fit : ∀ (L : List S122) (p os : List Int), os ∈ enumO p L ↔ ∃ t, os = p ++ t ∧ fitL L t
  | [], p, os => by
    rw [enumO, List.mem_singleton]
    constructor
    · rintro rfl
      exact ⟨[], by simp, trivial⟩
    · rintro ⟨t, rfl, h⟩
      cases t with
      | nil => simp
      | cons x r => exact h.elim
  | e :: L, p, os => by
    rw [enumO, List.mem_flatMap]
    constructor
    · rintro ⟨k, hk, h⟩
      obtain ⟨t, rfl, ht⟩ := (mem_fit L _ os).1 h
      have := List.mem_range.1 hk
      refine ⟨(e.f2.f0 + (k : Int)) :: t, by simp, ⟨by omega, ?_⟩, ht⟩
      unfold spanN at this
      omega
    · rintro ⟨t, rfl, h⟩
      cases t with
      | nil => exact h.elim
      | cons x r =>
        obtain ⟨⟨h1, h2⟩, h3⟩ := h
        refine ⟨(x - e.f2.f0).toNat, List.mem_range.2 ?_, (mem_fit L _ _).2 ⟨r, ?_, h3⟩⟩
        · unfold spanN
          omega
        · rw [show e.f2.f0 + (((x - e.f2.f0).toNat : Nat) : Int) = x by omega]
          simp
/-- The same entries with wider ranges. -/
def widE : List S122 → List S122 → Prop
  | [], [] => True
  | e :: L, e2 :: M => (e.f0 = e2.f0 ∧ e.f1 = e2.f1 ∧ e2.f2.f0 ≤ e.f2.f0 ∧ e.f2.f1 ≤ e2.f2.f1) ∧ widE L M
  | _, _ => False
theorem fit_wide : ∀ (L M : List S122) (t : List Int), widE L M → fitL L t → fitL M t
  | [], [], _, _, h => h
  | e :: L, e2 :: M, [], _, h => h.elim
  | e :: L, e2 :: M, x :: t, ⟨⟨a, b, c, d⟩, w⟩, ⟨⟨h1, h2⟩, h3⟩ => ⟨⟨by omega, by omega⟩, fit_wide L M t w h3⟩
  | [], _ :: _, _, h, _ => h.elim
  | _ :: _, [], _, h, _ => h.elim
theorem widE_refl : ∀ L : List S122, widE L L
  | [] => trivial
  | e :: L => ⟨⟨rfl, rfl, Int.le_refl _, Int.le_refl _⟩, widE_refl L⟩
theorem widE_set : ∀ (l : List S91) (k : Nat) (d0 d1 : Int), 0 ≤ d0 → 0 ≤ d1 → widE (l.map c91) ((wideE l k d0 d1).map c91)
  | [], k, d0, d1, _, _ => by simp [wideE, widE]
  | e :: l, 0, d0, d1, h0, h1 => by
    have : rd_T91 (e :: l) ((0 : Nat) : Int) = e := rfl
    rw [wideE, this, List.set_cons_zero, List.map_cons, List.map_cons]
    exact ⟨⟨rfl, rfl, show e.f2.f0 - d0 ≤ e.f2.f0 by omega, show e.f2.f1 ≤ e.f2.f1 + d1 by omega⟩, widE_refl _⟩
  | e :: l, k + 1, d0, d1, h0, h1 => by
    have : rd_T91 (e :: l) ((k + 1 : Nat) : Int) = rd_T91 l (k : Int) := rfl
    rw [wideE, this, List.set_cons_succ, List.map_cons, List.map_cons]
    exact ⟨⟨rfl, rfl, Int.le_refl _, Int.le_refl _⟩, widE_set l k d0 d1 h0 h1⟩
theorem widE_len : ∀ (L M : List S122), widE L M → L.length = M.length
  | [], [], _ => rfl
  | e :: L, e2 :: M, h => by rw [List.length_cons, List.length_cons, widE_len L M h.2]
  | [], _ :: _, h => h.elim
  | _ :: _, [], h => h.elim
theorem widE_at : ∀ (L M : List S122), widE L M → ∀ i : Nat, (rd_T122 L (i : Int)).f0 = (rd_T122 M (i : Int)).f0 ∧ (rd_T122 L (i : Int)).f1 = (rd_T122 M (i : Int)).f1
  | [], [], _, i => ⟨rfl, rfl⟩
  | e :: L, e2 :: M, h, 0 => ⟨h.1.1, h.1.2.1⟩
  | e :: L, e2 :: M, h, i + 1 => widE_at L M h.2 i
  | [], _ :: _, h, _ => h.elim
  | _ :: _, [], h, _ => h.elim
theorem owedTo_wide (L M : List S122) (h : widE L M) (os : List Int) : ∀ m : Nat, owedTo L os m = owedTo M os m
  | 0 => rfl
  | m + 1 => by
    simp only [owedTo]
    rw [owedTo_wide L M h os m, (widE_at L M h m).1, (widE_at L M h m).2]
theorem owedL_wide (L M : List S122) (h : widE L M) (os : List Int) : owedL L os = owedL M os := by
  unfold owedL
  rw [← widE_len L M h]
  exact owedTo_wide L M h os _
/-- The same sayings with wider ranges. -/
def widS (L M : List S124) : Prop := L.length = M.length ∧ ∀ (v out : List Int) (i : Nat), i < L.length → rightAt L v out i = true → rightAt M v out i = true
theorem widS_set (l : List S94) (k : Nat) (d0 d1 : Int) (h0 : 0 ≤ d0) (h1 : 0 ≤ d1) : widS (l.map c94) ((wideS l k d0 d1).map c94) := by
  refine ⟨by simp [wideS], fun v out i hi h => ?_⟩
  rw [List.length_map] at hi
  unfold rightAt at h ⊢
  rw [rd_map94 _ i (by simp [wideS]; exact hi)]
  rw [rd_map94 _ i hi] at h
  by_cases e : k = i
  · subst e
    have : rd_T94 (wideS l k d0 d1) (k : Int) = ⟨(rd_T94 l (k : Int)).f0, ⟨(rd_T94 l (k : Int)).f1.f0 - d0, (rd_T94 l (k : Int)).f1.f1 + d1⟩⟩ := by
      rw [rd94 _ k (by simp [wideS]; exact hi)]
      simp [wideS]
    rw [this]
    simp only [c94, Bool.or_eq_true, Bool.and_eq_true, decide_eq_true_eq] at h ⊢
    rcases h with h | h
    · exact .inl h
    · have a1 : (rd_T94 l (k : Int)).f1.f0 ≤ _ := of_decide_eq_true h.1
      have a2 : _ ≤ (rd_T94 l (k : Int)).f1.f1 := of_decide_eq_true h.2
      exact .inr ⟨decide_eq_true (Int.le_trans (show (rd_T94 l (k : Int)).f1.f0 - d0 ≤ (rd_T94 l (k : Int)).f1.f0 by omega) a1), decide_eq_true (Int.le_trans a2 (show (rd_T94 l (k : Int)).f1.f1 ≤ (rd_T94 l (k : Int)).f1.f1 + d1 by omega))⟩
  · have : rd_T94 (wideS l k d0 d1) (i : Int) = rd_T94 l (i : Int) := by
      rw [rd94 _ i (by simp [wideS]; exact hi), rd94 _ i hi]
      simp [wideS, e]
    rw [this]
    exact h
section
variable {L M : List S122} {L2 M2 : List S124} (hw : widE L M) (hs : widS L2 M2)
include hw hs
theorem right_wide (v out : List Int) (h : rightB L2 v out = true) : rightB M2 v out = true := by
  unfold rightB at h ⊢
  rw [decide_eq_true_eq] at h ⊢
  exact fun i hi => hs.2 v out i (by rw [hs.1]; exact hi) (h i (by rw [hs.1]; exact hi))
theorem enum_wide (os : List Int) (h : os ∈ enumO [] L) : os ∈ enumO [] M := by
  obtain ⟨t, e, ht⟩ := (mem_fit L [] os).1 h
  exact (mem_fit M [] os).2 ⟨t, e, fit_wide L M t hw ht⟩
theorem poss_wide (out : List Int) (h : possB L L2 out = true) : possB M M2 out = true := by
  rw [poss_mem] at h ⊢
  obtain ⟨os, ho, hr⟩ := h
  refine ⟨os, enum_wide hw hs os ho, fun i hi => ?_⟩
  rw [← owedL_wide L M hw os]
  exact hs.2 _ out i (by rw [hs.1]; exact hi) (hr i (by rw [hs.1]; exact hi))
theorem truths_wide (v : List Int) (h : v ∈ truthsL L L2) : v ∈ truthsL M M2 := by
  obtain ⟨os, ho, rfl⟩ := (mem_truthsL L L2 v).1 h
  obtain ⟨h1, h2⟩ := (mem_truthsR L L2 os).1 ho
  refine (mem_truthsL M M2 _).2 ⟨os, (mem_truthsR M M2 os).2 ⟨enum_wide hw hs os h1, ?_⟩, owedL_wide L M hw os⟩
  rw [← owedL_wide L M hw os]
  exact right_wide hw hs _ [] h2
end
/-- The law's call. -/
theorem soapWider_calls (n : Int) (A1 : Option Addr) (c1 : Nat) (l1 : List S91) (A2 : Option Addr) (c2 : Nat) (l2 : List S94) (a : Int) (ha0 : 0 ≤ a) (ha1 : a < 256) (b : Int) (hb0 : 0 ≤ b) (hb1 : b < 256) (w : World)
    (hr1 : Kd.C k91 w A1 l1.length l1) (hc1 : l1.length ≤ c1) (hr2 : Kd.C k94 w A2 l2.length l2) (hc2 : l2.length ≤ c2) :
    Calls Try.prog 14 #[.agg #[.int .i64 n, .slice A1 l1.length c1, .slice A2 l2.length c2], .int .u8 a, .int .u8 b] w fun e w' => e = .returned (.bool true) ∧ Below w.heap.size w w' := by
  have hrd := ready_split (n := n) (l1 := l1) (l2 := l2) 100 (by omega)
  by_cases hq : checkS n (l1.map c91) (l2.map c94) = 0 ∧ 0 < l1.length + l2.length
  · obtain ⟨hck, hpos⟩ := hq
    rw [decide_eq_true hck] at hrd
    obtain ⟨z0, z1, z2, z3, z4, z5⟩ := z48 hck
    have hz := z28 hck
    have hx := slate_ok n A1 _ c1 l1 A2 _ c2 l2 w hr1 hc1 hr2 hc2 (by omega) (by omega)
    have hm0 := Int.emod_nonneg a (show ((l1.length : Int) + l2.length) ≠ 0 by omega)
    have hm1 := Int.emod_lt_of_pos a (show 0 < ((l1.length : Int) + l2.length) by omega)
    obtain ⟨k, hk⟩ : ∃ k : Nat, a % ((l1.length : Int) + l2.length) = (k : Int) := ⟨_, (Int.toNat_of_nonneg hm0).symm⟩
    obtain ⟨x, x1, x2, x3, x4⟩ := leave_spec n l1 l2 hck
    obtain ⟨E, S, hes, hwE, hwS, hl2⟩ : ∃ (E : List S91) (S : List S94), (if k < l1.length then E = wideE l1 k (b % 2) (b / 2 % 2) ∧ S = l2 else E = l1 ∧ S = wideS l2 (k - l1.length) (b % 2) (b / 2 % 2)) ∧ widE (l1.map c91) (E.map c91) ∧ widS (l2.map c94) (S.map c94) ∧ S.length = l2.length := by
      by_cases h : k < l1.length
      · exact ⟨_, _, by rw [if_pos h]; exact ⟨rfl, rfl⟩, widE_set l1 k _ _ (by omega) (by omega), ⟨rfl, fun _ _ _ _ h => h⟩, rfl⟩
      · exact ⟨_, _, by rw [if_neg h]; exact ⟨rfl, rfl⟩, widE_refl _, widS_set l2 _ _ _ (by omega) (by omega), by simp [wideS]⟩
    have hg := ready_split (n := n) (l1 := E) (l2 := S) 100 (by omega)
    obtain ⟨o2, ho2⟩ : ∃ o2, decide (checkS n (E.map c91) (S.map c94) = 0) = true → soap_Leave.f n (E.map c91) (S.map c94) = some (o2, 0) ∧ o2.length ≤ (bitsL x).length ∧ ((bitsL x).length = 0 → CloserOk n l1 l2 n E S) := by
      by_cases hc : checkS n (E.map c91) (S.map c94) = 0
      · obtain ⟨y, y1, y2, y3, y4⟩ := leave_spec n E S hc
        rw [hl2] at y1 y4
        have hp := y4 x x1 (poss_wide hwE hwS _ x3)
        refine ⟨bitsL y, fun _ => ⟨by rw [soap_Leave.f, if_pos hc, y2]; rfl, order_len l2.length y x z3 y1 x1 hp, fun h0 => ?_⟩⟩
        rw [List.eq_nil_of_length_eq_zero h0] at x3
        exact closer_ok hck hc ((poss_truths _ _).1 x3) (fun v hv => truths_wide hwE hwS v hv)
      · exact ⟨[], fun h => absurd (of_decide_eq_true h) hc⟩
    refine wider_yes n A1 c1 l1 A2 c2 l2 a b w hr1 hc1 hr2 hc2 ha0 ha1 hb0 hb1 hrd z2 z3 hpos (fun j hj => ?_) (fun j hj => ?_) _ _ hx k hk (by omega) E S hes _ hg (bitsL x) o2 (by rw [soap_Leave.f, if_pos hck, x2]; rfl) _ _ rfl rfl ho2
    · have := z4.sizes (c91 (rd_T91 l1 (j : Int))) (List.mem_map.2 ⟨_, by rw [rd91 l1 j hj]; exact List.getElem_mem hj, rfl⟩)
      obtain ⟨s1, s2, s3, s4⟩ := this
      simp only [sizeS, c91] at s1 s2 s3 s4
      exact ⟨by omega, by omega, by omega, by omega⟩
    · have := List.all_eq_true.1 hz.2.2.2.2.2.1 (c94 (rd_T94 l2 (j : Int))) (List.mem_map.2 ⟨_, by rw [rd94 l2 j hj]; exact List.getElem_mem hj, rfl⟩)
      simp only [sayingB, c94, Bool.and_eq_true, decide_eq_true_eq] at this
      obtain ⟨_, ⟨s1, s2⟩, s3⟩ := this
      have t1 : -240 ≤ (rd_T94 l2 (j : Int)).f1.f0 := of_decide_eq_true s1
      have t2 : (rd_T94 l2 (j : Int)).f1.f0 ≤ (rd_T94 l2 (j : Int)).f1.f1 := of_decide_eq_true s2
      have t3 : (rd_T94 l2 (j : Int)).f1.f1 ≤ 240 := of_decide_eq_true s3
      exact ⟨by omega, by omega, by omega, by omega⟩
  · refine wider_no n A1 c1 l1 A2 c2 l2 a b w hr1 hc1 hr2 hc2 _ hrd (fun h => ?_)
    have hck := of_decide_eq_true h
    by_cases hpos : 0 < l1.length + l2.length
    · exact absurd ⟨hck, hpos⟩ hq
    · omega
end Go.Proofs.Ytncaadckehikpaa.Q
namespace Go.Proofs.Ytncaadckehikpaa.Q
open Go.RowKit Go.Proofs.YtncaadckehikpaaW.PrintWords Go.Proofs.YtncaadckehikpaaW.PrintLast Go.Proofs.YtncaadckehikpaaW.PrintMore
open Go.ChangeShapes Go.WideShapes Go.Deep Go.Joins
set_option linter.unusedVariables false
set_option linter.unusedSimpArgs false
theorem list2 {α : Type} {l : List α} (h : l.length = 2) : ∃ a b, l = [a, b] := by
  match l, h with
  | [a, b], _ => exact ⟨a, b, rfl⟩
theorem list3 {α : Type} {l : List α} (h : l.length = 3) : ∃ a b c, l = [a, b, c] := by
  match l, h with
  | [a, b, c], _ => exact ⟨a, b, c, rfl⟩
theorem list4 {α : Type} {l : List α} (h : l.length = 4) : ∃ a b c d, l = [a, b, c, d] := by
  match l, h with
  | [a, b, c, d], _ => exact ⟨a, b, c, d, rfl⟩
section
variable {H : Type} {enc : TypeId × Value → H} {w : World} {base : Nat} {spare : Nat → Bool} {held : Bool}
theorem cells_3 : Try.prog.cellsOf 3 = 1 := by kernel_rfl
theorem cells_46 : Try.prog.cellsOf 46 = 2 := by kernel_rfl
theorem cells_91 : Try.prog.cellsOf 91 = 4 := by kernel_rfl
theorem cells_94 : Try.prog.cellsOf 94 = 3 := by kernel_rfl
theorem cells_25 : Try.prog.cellsOf 25 = 3 := by kernel_rfl
theorem one25 : oneCellFields Try.prog #[{ name := "Women", type := 3, offset := 0, embedded := false, tag := "", pkgPath := "", byteOffset := 0 }, { name := "Entries", type := 22, offset := 1, embedded := false, tag := "", pkgPath := "", byteOffset := 8 }, { name := "Sayings", type := 23, offset := 2, embedded := false, tag := "", pkgPath := "", byteOffset := 32 }] = true := by kernel_rfl
theorem u8_bd {a : Int} (h : (Lit.int .u8 a).wf = true) : 0 ≤ a ∧ a < 256 := by
  have h1 : IntKind.u8.min = 0 := by decide
  have h2 : IntKind.u8.max = 255 := by decide
  simp only [Lit.wf, Bool.and_eq_true, decide_eq_true_eq, h1, h2] at h
  omega
/-- A range. -/
theorem open_46 {fuel : Nat} {cs : List Value} {x : DataW H × List MemPlace} (h : DataW.trod enc Try.prog w base spare held fuel 46 cs = some x) :
    ∃ a b : Int, cs = [.int .i64 a, .int .i64 b] := by
  obtain ⟨xs, n, _, _, hl, hlen, hf⟩ := DataW.trod_struct Try.underlying46 h
  rw [cells_46] at hl
  obtain ⟨c0, c1, rfl⟩ := list2 hl
  obtain ⟨y0, y1, rfl⟩ := list2 hlen
  have h0 := hf 0 _ rfl
  change DataW.trod enc Try.prog w base spare held n 3 (([c0, c1].drop 0).take (Try.prog.cellsOf 3)) = some y0 at h0
  rw [cells_3] at h0
  have h1 := hf 1 _ rfl
  change DataW.trod enc Try.prog w base spare held n 3 (([c0, c1].drop 1).take (Try.prog.cellsOf 3)) = some y1 at h1
  rw [cells_3] at h1
  obtain ⟨a, ha, _, _⟩ := DataW.trod_int Try.underlying3 h0
  obtain ⟨b, hb, _, _⟩ := DataW.trod_int Try.underlying3 h1
  have ha' : [c0] = _ := ha
  have hb' : [c1] = _ := hb
  simp only [List.cons.injEq, and_true] at ha' hb'
  exact ⟨a, b, by rw [ha', hb']⟩
/-- An entry. -/
theorem open_91 {fuel : Nat} {cs : List Value} {x : DataW H × List MemPlace} (h : DataW.trod enc Try.prog w base spare held fuel 91 cs = some x) :
    ∃ e : S91, cs = [.int .i64 e.f0, .int .i64 e.f1, .int .i64 e.f2.f0, .int .i64 e.f2.f1] := by
  obtain ⟨xs, n, _, _, hl, hlen, hf⟩ := DataW.trod_struct Try.underlying91 h
  rw [cells_91] at hl
  obtain ⟨c0, c1, c2, c3, rfl⟩ := list4 hl
  obtain ⟨y0, y1, y2, rfl⟩ := list3 hlen
  have h0 := hf 0 _ rfl
  change DataW.trod enc Try.prog w base spare held n 3 (([c0, c1, c2, c3].drop 0).take (Try.prog.cellsOf 3)) = some y0 at h0
  rw [cells_3] at h0
  have h1 := hf 1 _ rfl
  change DataW.trod enc Try.prog w base spare held n 3 (([c0, c1, c2, c3].drop 1).take (Try.prog.cellsOf 3)) = some y1 at h1
  rw [cells_3] at h1
  have h2 := hf 2 _ rfl
  change DataW.trod enc Try.prog w base spare held n 46 (([c0, c1, c2, c3].drop 2).take (Try.prog.cellsOf 46)) = some y2 at h2
  rw [cells_46] at h2
  obtain ⟨a, ha, _, _⟩ := DataW.trod_int Try.underlying3 h0
  obtain ⟨b, hb, _, _⟩ := DataW.trod_int Try.underlying3 h1
  obtain ⟨c, d, hc⟩ := open_46 h2
  have ha' : [c0] = _ := ha
  have hb' : [c1] = _ := hb
  have hc' : [c2, c3] = _ := hc
  simp only [List.cons.injEq, and_true] at ha' hb' hc'
  exact ⟨⟨a, b, ⟨c, d⟩⟩, by rw [ha', hb', hc'.1, hc'.2]⟩
/-- A saying. -/
theorem open_94 {fuel : Nat} {cs : List Value} {x : DataW H × List MemPlace} (h : DataW.trod enc Try.prog w base spare held fuel 94 cs = some x) :
    ∃ e : S94, cs = [.int .i64 e.f0, .int .i64 e.f1.f0, .int .i64 e.f1.f1] := by
  obtain ⟨xs, n, _, _, hl, hlen, hf⟩ := DataW.trod_struct Try.underlying94 h
  rw [cells_94] at hl
  obtain ⟨c0, c1, c2, rfl⟩ := list3 hl
  obtain ⟨y0, y1, rfl⟩ := list2 hlen
  have h0 := hf 0 _ rfl
  change DataW.trod enc Try.prog w base spare held n 3 (([c0, c1, c2].drop 0).take (Try.prog.cellsOf 3)) = some y0 at h0
  rw [cells_3] at h0
  have h1 := hf 1 _ rfl
  change DataW.trod enc Try.prog w base spare held n 46 (([c0, c1, c2].drop 1).take (Try.prog.cellsOf 46)) = some y1 at h1
  rw [cells_46] at h1
  obtain ⟨a, ha, _, _⟩ := DataW.trod_int Try.underlying3 h0
  obtain ⟨c, d, hc⟩ := open_46 h1
  have ha' : [c0] = _ := ha
  have hc' : [c1, c2] = _ := hc
  simp only [List.cons.injEq, and_true] at ha' hc'
  exact ⟨⟨a, ⟨c, d⟩⟩, by rw [ha', hc'.1, hc'.2]⟩
/-- A row whose elements open. -/
theorem open_row {α : Type} (d : Kd α) {t e : TypeId} (ht : Try.prog.underlying t = some (.slice e)) (hC : Try.prog.cellsOf e = d.sz)
    (ho : ∀ (fuel : Nat) (cs : List Value) (x : DataW H × List MemPlace), DataW.trod enc Try.prog w base spare held fuel e cs = some x → ∃ y : α, d.K w y cs)
    {fuel : Nat} {v : Value} {x : DataW H × List MemPlace} (h : DataW.trod enc Try.prog w base spare held fuel t [v] = some x) :
    ∃ (A : Option Addr) (c : Nat) (l : List α), v = .slice A l.length c ∧ Kd.C d w A l.length l ∧ l.length ≤ c := by
  rcases open_slice ht h with ⟨hcs, _⟩ | ⟨a, len, cap, m, n, D, Pl, hcs, hb, hl, hm, hmm, hx, hi⟩
  · simp only [List.cons.injEq, and_true] at hcs
    subst hcs
    exact ⟨none, 0, [], rfl, ⟨rfl, by simp, fun q => absurd q (by simp)⟩, by simp⟩
  · simp only [List.cons.injEq, and_true] at hcs
    subst hcs
    have hlm : len ≤ m := by rw [hmm]; split <;> omega
    have hcell : ∀ i : Nat, i < len → ∃ y : α, ∃ cs', w.cells? base (a.add (i * d.sz)) d.sz = some cs' ∧ d.K w y cs' := fun i hil => by
      obtain ⟨cs', h1, h2⟩ := hi i (by omega)
      rw [hC] at h1
      obtain ⟨y, hy⟩ := ho _ _ _ h2
      exact ⟨y, cs', h1, hy⟩
    have hsel : ∀ j, j ≤ len → ∃ l : List α, l.length = j ∧ ∀ (i : Nat) (y : α), l[i]? = some y → ∃ cs', w.cells? base (a.add (i * d.sz)) d.sz = some cs' ∧ d.K w y cs' := by
      intro j
      induction j with
      | zero => exact fun _ => ⟨[], rfl, fun i y hy => by simp at hy⟩
      | succ j ih =>
        intro hj
        obtain ⟨l, hll, hlr⟩ := ih (by omega)
        obtain ⟨y, cs', h1, h2⟩ := hcell j (by omega)
        refine ⟨l ++ [y], by simp [hll], fun i z hz => ?_⟩
        by_cases hij : i < j
        · rw [List.getElem?_append_left (by omega)] at hz
          exact hlr i z hz
        · rw [List.getElem?_append_right (by omega)] at hz
          have hi0 : i = j := by
            by_cases q : i - l.length = 0
            · omega
            · obtain ⟨q', hq'⟩ : ∃ q', i - l.length = q' + 1 := ⟨i - l.length - 1, by omega⟩
              rw [hq'] at hz
              simp at hz
          subst hi0
          rw [show i - l.length = 0 by omega] at hz
          simp only [List.getElem?_cons_zero, Option.some.injEq] at hz
          subst hz
          exact ⟨cs', h1, h2⟩
    obtain ⟨l, hll, hlr⟩ := hsel len (Nat.le_refl _)
    refine ⟨some a, cap, l, by rw [hll], ⟨rfl, ?_, fun _ => ⟨a, rfl, fun j p hp => ?_⟩⟩, by omega⟩
    · have : cap ≤ 9223372036854775807 := hm
      omega
    · obtain ⟨cs', h1, h2⟩ := hlr j p hp
      obtain ⟨_, hcl, hat⟩ := World.cells?_some h1
      refine ⟨cs', hcl, h2, fun i u hu => ?_⟩
      have hil : i < d.sz := by rw [← hcl]; exact (List.getElem?_eq_some_iff.1 hu).1
      rw [← Go.Deep.add_add, hat i hil, hu]
set_option maxRecDepth 100000 in
theorem open_slate {r : Reach} {b0 : Nat} {v : Value} {d : DataW H} {p : List MemPlace} (hv : Value.okWide Try.prog w r b0 25 v) (h : DataW.Trod enc Try.prog w base spare held 25 v d p) :
    ∃ (n : Int) (A1 : Option Addr) (c1 : Nat) (l1 : List S91) (A2 : Option Addr) (c2 : Nat) (l2 : List S94), v = .agg #[.int .i64 n, .slice A1 l1.length c1, .slice A2 l2.length c2] ∧
      Kd.C k91 w A1 l1.length l1 ∧ l1.length ≤ c1 ∧ Kd.C k94 w A2 l2.length l2 ∧ l2.length ≤ c2 ∧ (Lit.int .i64 n).wf = true := by
  obtain ⟨v0, v1, v2, y0, y1, y2, n, rfl, _, _, h0, h1, h2⟩ := open_agg3 Try.underlying25 one25 cells_25 hv h
  obtain ⟨a, ha, _, hwf⟩ := DataW.trod_int Try.underlying3 h0
  simp only [List.cons.injEq, and_true] at ha
  subst ha
  obtain ⟨A1, c1, l1, rfl, q1, q2⟩ := open_row k91 Try.underlying22 cells_91 (fun fuel cs x hx => by
    obtain ⟨e, rfl⟩ := open_91 hx
    exact ⟨e, k91_mk w e⟩) h1
  obtain ⟨A2, c2, l2, rfl, q3, q4⟩ := open_row k94 Try.underlying23 cells_94 (fun fuel cs x hx => by
    obtain ⟨e, rfl⟩ := open_94 hx
    exact ⟨e, k94_mk w e⟩) h2
  exact ⟨a, A1, c1, l1, A2, c2, l2, rfl, q1, q2, q3, q4, hwf⟩
end
end Go.Proofs.Ytncaadckehikpaa.Q
namespace Go.Proofs.Ytncaadckehikpaa.soapWider
open Go.ChangeShapes Go.WideShapes Go.ChangeAt Go.RowKit
set_option linter.unusedVariables false
theorem own : ownKnob Try.prog.godebug = none := by kernel_rfl
theorem laidOut : laidOutB Try.prog = true := by kernel_rfl
set_option maxRecDepth 100000 in
theorem lifted (os : Os) (started : os.Started) (H : Type) (enc : TypeId × Value → H) :
    ReturnsInHanded {} Try.checked os 14 .any (Rows.soapWiderSpec.pre6 enc Try.prog Try.f14 Rows.soapWiderRow.domain false) (Rows.soapWiderSpec.post enc Try.prog Try.f14 false true false false) := by
  refine returnsInHanded_of_change_sized (C := Try.checked) own started (by kernel_rfl) Try.func14
    (ChangeSpec.witness6 (enc := enc) (C := Try.checked) false ⟨#[], #[.agg #[.int .i64 0, .slice none 0 0, .slice none 0 0], .int .u8 0, .int .u8 0], []⟩ 8 (by kernel_rfl) (by kernel_rfl) (by kernel_rfl) (by kernel_rfl)) ?_
  intro W base args ds gs before hval0 hW hcnd hsz0 _
  have hval : ∀ (j : Nat) t v, Try.f14.params[j]? = some t → args[j]? = some v → Value.okWide Try.prog W .any base t v := hval0
  have hW' := hW
  obtain ⟨p, q, hA0, hV, rfl, hfz, hnd⟩ := hW
  have hA : DataW.TrodAll enc Try.prog W 0 (fun _ => true) true Try.f14.params.toList args.toList ds p := hA0
  rw [Try.params14] at hA hval
  obtain ⟨v0, vs0, d0, ds0, p0, q0, hargs, rfl, rfl, h0, r0⟩ := trodAll_cons hA
  obtain ⟨v1, vs1, d1, ds1, p1, q1, rfl, rfl, rfl, h1, r1⟩ := trodAll_cons r0
  obtain ⟨v2, vs2, d2, ds2, p2, q2, rfl, rfl, rfl, h2, r2⟩ := trodAll_cons r1
  obtain ⟨rfl, rfl, rfl⟩ := trodAll_nil r2
  obtain rfl : args = #[v0, v1, v2] := by cases args; simp_all
  obtain ⟨rfl, rfl⟩ := trodVars_none hV
  have k0 := h0
  have lt0 : ∀ x ∈ p0, x.block < W.heap.size := by obtain ⟨m, hm⟩ := k0; exact DataW.trod_lt m _ _ _ hm
  obtain ⟨n0, A0a, c0a, l0a, A0b, c0b, l0b, rfl, hr0a, hc0a, hr0b, hc0b, hwf0⟩ := Q.open_slate (hval 0 25 v0 rfl rfl) h0
  obtain ⟨a1, rfl, rfl, rfl, w1⟩ := open_int Try.underlying5 (hval 1 5 v1 rfl rfl) h1
  obtain ⟨a2, rfl, rfl, rfl, w2⟩ := open_int Try.underlying5 (hval 2 5 v2 rfl rfl) h2
  clear hA0 hval0 hsz0
  refine (Q.soapWider_calls n0 A0a c0a l0a A0b c0b l0b a1 (Q.u8_bd w1).1 (Q.u8_bd w1).2 a2 (Q.u8_bd w2).1 (Q.u8_bd w2).2 W hr0a hc0a hr0b hc0b).mono fun e W' ⟨he, bel⟩ => ?_
  subst he
  exact ⟨_, rfl, _, _, _, [], _, [], hW', trodAll_mk1 (shut_bool Try.underlying4 _), (trodAll_cons_mk (Below.trod laidOut (by kernel_rfl) (of_decide_eq_true (by kernel_rfl)) k0 bel lt0) (trodAll_cons_mk (shut_int Try.underlying5 w1) (trodAll_cons_mk (shut_int Try.underlying5 w2) trodAll_mk0))), rfl, bel.frame _, fun h => by cases h⟩
theorem over : Rows.soapWiderRow.holds Try.pinned (OpenSpec.ofChange Rows.soapWiderSpec) :=
  OpenClaim.holds_of_wide 14 Try.f14 rfl rfl rfl rfl rfl rfl rfl ⟨rfl, rfl, rfl, rfl, rfl⟩ rfl rfl rfl rfl rfl (by kernel_rfl) Try.func14 (by kernel_rfl)
    (of_decide_eq_true (by kernel_rfl)) (by unfold Func.isWrapper; first | (rw [if_pos (by decide +kernel)]; kernel_rfl) | (rw [if_neg (by decide +kernel)]; exact ⟨rfl, rfl⟩))
    (fun os started H enc _ => lifted os started H enc)
end Go.Proofs.Ytncaadckehikpaa.soapWider
namespace Go.Proofs.Ytncaadckehikpaa
/-- The statement. -/
theorem soapWider_holds : Rows.SoapWiderSaid := soapWider.over
end Go.Proofs.Ytncaadckehikpaa
