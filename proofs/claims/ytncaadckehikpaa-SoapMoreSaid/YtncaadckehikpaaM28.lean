/- The last part: the row, by the parts before. No condition. -/
import Derived.Lib.SmallJoins
import Derived.Deep.Slices
import Derived.ChangeSame
import Derived.WideLaws
import Derived.Test.YtncaadckehikpaaRows
import Derived.WalkKit
import Derived.ProofKit
import Derived.OpenShut
import Derived.ChangeOld
import Derived.Below
import Derived.SizedLaws
import Derived.Test.YtncaadckehikpaaM26
import Derived.Test.YtncaadckehikpaaM27
import Derived.Test.YtncaadckehikpaaM3
namespace Go.Proofs.Ytncaadckehikpaa.Q
open Go.RowKit Go.Proofs.YtncaadckehikpaaW.PrintWords Go.Proofs.YtncaadckehikpaaW.PrintLast Go.Proofs.YtncaadckehikpaaW.PrintMore
set_option linter.unusedVariables false
set_option linter.unusedSimpArgs false
theorem rd124_app (L : List S124) (e : S124) (i : Nat) (h : i < L.length) : rd_T124 (L ++ [e]) (i : Int) = rd_T124 L (i : Int) := by
  simp only [rd_T124, Int.toNat_natCast, List.getD_eq_getElem?_getD]
  rw [List.getElem?_append_left h]
theorem cut_all : ∀ len : Fin 5, ∀ x : Fin 32, x.val < 2 ^ (len.val + 1) → x.val % 2 ^ len.val < 2 ^ len.val ∧ (bitsL (x.val % 2 ^ len.val)).length ≤ (bitsL x.val).length ∧ ∀ i : Fin 6, i.val < len.val → bitN (x.val % 2 ^ len.val) i.val = bitN x.val i.val := by decide +kernel
theorem grow_all : ∀ len : Fin 5, ∀ x : Fin 32, x.val < 2 ^ len.val → x.val + 2 ^ len.val < 2 ^ (len.val + 1) ∧ (bitsL (x.val + 2 ^ len.val)).length = (bitsL x.val).length + 1 ∧ (∀ i : Fin 6, i.val < len.val → bitN (x.val + 2 ^ len.val) i.val = bitN x.val i.val) ∧ bitN (x.val + 2 ^ len.val) len.val = true := by decide +kernel
theorem poss_mem (l1 : List S122) (l2 : List S124) (out : List Int) : possB l1 l2 out = true ↔ ∃ os ∈ enumO [] l1, ∀ i : Nat, i < l2.length → rightAt l2 (owedL l1 os) out i = true := by
  unfold possB anyL
  rw [List.any_eq_true]
  unfold rightB
  simp only [decide_eq_true_eq]
/-- One more saying. -/
theorem more_leave {n : Int} {l1 : List S91} {l2 : List S94} {e : S94} (h1 : checkS n (l1.map c91) (l2.map c94) = 0) (h2 : checkS n (l1.map c91) ((l2 ++ [e]).map c94) = 0) :
    ∃ l m, leaveO (l1.map c91) (l2.map c94) = some l ∧ leaveO (l1.map c91) ((l2 ++ [e]).map c94) = some m ∧ l.length ≤ m.length ∧ m.length ≤ l.length + 1 ∧ l.length ≤ 6 ∧ m.length ≤ 6 ∧ (m.length = 0 → possB (l1.map c91) ((l2 ++ [e]).map c94) [] = true) := by
  obtain ⟨z0, z1, z2, z3, z4, z5⟩ := z45 h2
  obtain ⟨x, x1, x2, x3, x4⟩ := leave_spec n l1 l2 h1
  obtain ⟨y, y1, y2, y3, y4⟩ := leave_spec n l1 (l2 ++ [e]) h2
  rw [List.length_append, List.length_singleton] at y1 y4 z3
  have hL : l2.length ≤ 4 := by omega
  have p5 : 2 ^ (l2.length + 1) ≤ 32 := pw32 (by omega)
  have p4 : 2 ^ l2.length ≤ 32 := pw32 (by omega)
  have hm : (l2 ++ [e]).map c94 = l2.map c94 ++ [c94 e] := by simp
  have hlen : (l2.map c94).length = l2.length := List.length_map _
  obtain ⟨q1, q2, q3⟩ := cut_all ⟨l2.length, by omega⟩ ⟨y, by omega⟩ y1
  obtain ⟨r1, r2, r3, r4⟩ := grow_all ⟨l2.length, by omega⟩ ⟨x, by omega⟩ x1
  simp only [] at q1 q2 q3 r1 r2 r3 r4
  have hhas : ∀ b : Nat, b < 64 → ∀ i : Nat, i < 6 → hasB (bitsL b) (i : Int) = bitN b i := fun b hb i hi => has_bits_all ⟨b, hb⟩ ⟨i, hi⟩
  have hlow : possB (l1.map c91) (l2.map c94) (bitsL (y % 2 ^ l2.length)) = true := by
    rw [poss_mem] at y3 ⊢
    obtain ⟨os, ho, hr⟩ := y3
    refine ⟨os, ho, fun i hi => ?_⟩
    have := hr i (by rw [hm, List.length_append]; omega)
    unfold rightAt at this ⊢
    rw [hm, rd124_app _ _ i hi, hhas y (by omega) i (by omega)] at this
    rw [hhas _ (by omega) i (by omega), q3 ⟨i, by omega⟩ (by show i < l2.length; omega)]
    exact this
  have hhigh : possB (l1.map c91) ((l2 ++ [e]).map c94) (bitsL (x + 2 ^ l2.length)) = true := by
    rw [poss_mem] at x3 ⊢
    obtain ⟨os, ho, hr⟩ := x3
    refine ⟨os, ho, fun i hi => ?_⟩
    rw [hm, List.length_append, List.length_singleton] at hi
    unfold rightAt
    rw [hhas _ (by omega) i (by omega)]
    by_cases hi2 : i < l2.length
    · have := hr i (by omega)
      unfold rightAt at this
      rw [hhas x (by omega) i (by omega)] at this
      rw [hm, rd124_app _ _ i (by omega), r3 ⟨i, by omega⟩ hi2]
      exact this
    · rw [show i = l2.length by omega, r4]
      rfl
  have o1 := order_len l2.length x _ (by omega) x1 q1 (x4 _ q1 hlow)
  have o2 := order_len (l2.length + 1) y _ (by omega) y1 r1 (y4 _ r1 hhigh)
  refine ⟨_, _, x2, y2, by omega, by omega, bitsL_length x, bitsL_length y, fun h0 => ?_⟩
  have := List.eq_nil_of_length_eq_zero h0
  rw [this] at y3
  exact y3
theorem right_more {L2 : List S124} {e : S124} {v : List Int} (h : rightB (L2 ++ [e]) v [] = true) : rightB L2 v [] = true := by
  unfold rightB at h ⊢
  rw [decide_eq_true_eq] at h ⊢
  intro i hi
  have := h i (by rw [List.length_append]; omega)
  unfold rightAt at this ⊢
  rw [rd124_app _ _ i hi] at this
  exact this
theorem ready_split {n : Int} {l1 : List S91} {l2 : List S94} (k : Nat) (hk : 40 ≤ k) : pl_ready.f k n l1 l2 = some (decide (checkS n (l1.map c91) (l2.map c94) = 0)) := by
  rw [ready_f k n l1 l2 hk]
  by_cases h : checkS n (l1.map c91) (l2.map c94) = 0
  · obtain ⟨z0, z1, z2, z3, z4, z5⟩ := z45 h
    rw [decide_eq_true (show l1.length ≤ 30 ∧ l2.length ≤ 30 by omega), decide_eq_true h]
    rfl
  · rw [decide_eq_false h, Bool.and_false]
/-- The law holds at every slate and saying. -/
theorem soapMore_true (n : Int) (l1 : List S91) (l2 : List S94) (a b c : Int) (hs : l2.length * 24 ≤ 140737488351232) : pl_SoapMore.f 200 n l1 l2 a b c = some true := by
  unfold pl_SoapMore.f
  simp only [Option.bind_some, List.length_nil, List.nil_append, List.length_singleton]
  rw [if_pos (by omega), if_pos (by omega), ready_split 200 (by omega), ready_split 200 (by omega)]
  simp only [Option.bind_some]
  by_cases h1 : checkS n (l1.map c91) (l2.map c94) = 0
  · rw [if_pos (by simpa using h1)]
    by_cases h2 : checkS n (l1.map c91) ((l2 ++ [(⟨a, ⟨b, c⟩⟩ : S94)]).map c94) = 0
    · obtain ⟨z0, z1, z2, z3, z4, z5⟩ := z45 h1
      obtain ⟨y0, y1, y2, y3, y4, y5⟩ := z45 h2
      obtain ⟨l, m, e1, e2, e3, e4, e5, e6, e7⟩ := more_leave h1 h2
      rw [decide_eq_true h2, pl_SoapMore.j0, if_neg (by simp), Slate_f 199 n l1 l2 (by omega) (by omega) (by omega), Option.bind_some, soap_Leave.f, if_pos h1, e1, Slate_f 199 n l1 _ (by omega) (by omega) (by omega)]
      simp only [Option.map_some, Option.bind_some]
      rw [soap_Leave.f, if_pos h2, e2]
      simp only [Option.map_some, Option.bind_some, if_true]
      have hd : decide ((m.length : Int) > wrap64 ((l.length : Int) + 1)) = false := decide_eq_false (by unfold wrap64; omega)
      rw [if_neg (by omega), hd, pl_SoapMore.j1, if_neg (by simp)]
      by_cases hm : (m.length : Int) > 0
      · rw [if_pos hm]
        rfl
      · rw [if_neg hm]
        have hne := (poss_truths _ _).1 (e7 (by omega))
        have hcl : pl_closer.f n l1 (l2 ++ [(⟨a, ⟨b, c⟩⟩ : S94)]) n l1 l2 = some true := by
          unfold pl_closer.f
          rw [if_pos]
          refine closerB_mk (closer_ok h2 h1 hne (fun v hv => ?_))
          obtain ⟨os, ho, rfl⟩ := (mem_truthsL _ _ v).1 hv
          obtain ⟨ho1, ho2⟩ := (mem_truthsR _ _ os).1 ho
          refine (mem_truthsL _ _ _).2 ⟨os, (mem_truthsR _ _ os).2 ⟨ho1, ?_⟩, rfl⟩
          rw [List.map_append] at ho2
          exact right_more ho2
        rw [hcl]
        rfl
    · rw [decide_eq_false h2, pl_SoapMore.j0, if_pos (by rfl)]
      rfl
  · rw [if_neg (by simpa using h1), pl_SoapMore.j0, if_pos rfl]
    rfl
end Go.Proofs.Ytncaadckehikpaa.Q
namespace Go.Proofs.Ytncaadckehikpaa.Q
open Go.RowKit Go.Proofs.YtncaadckehikpaaW.PrintWords Go.Proofs.YtncaadckehikpaaW.PrintLast Go.Proofs.YtncaadckehikpaaW.PrintMore
open Go.ChangeShapes Go.WideShapes Go.Deep Go.Joins
set_option linter.unusedVariables false
set_option linter.unusedSimpArgs false
theorem list2 {α : Type} {l : List α} (h : l.length = 2) : ∃ a b, l = [a, b] := by
  match l, h with
  | [a, b], _ => exact ⟨a, b, rfl⟩
theorem list3 {α : Type} {l : List α} (h : l.length = 3) : ∃ a b c, l = [a, b, c] := by
  match l, h with
  | [a, b, c], _ => exact ⟨a, b, c, rfl⟩
theorem list4 {α : Type} {l : List α} (h : l.length = 4) : ∃ a b c d, l = [a, b, c, d] := by
  match l, h with
  | [a, b, c, d], _ => exact ⟨a, b, c, d, rfl⟩
section
variable {H : Type} {enc : TypeId × Value → H} {w : World} {base : Nat} {spare : Nat → Bool} {held : Bool}
theorem cells_3 : Try.prog.cellsOf 3 = 1 := by kernel_rfl
theorem cells_46 : Try.prog.cellsOf 46 = 2 := by kernel_rfl
theorem cells_91 : Try.prog.cellsOf 91 = 4 := by kernel_rfl
theorem cells_94 : Try.prog.cellsOf 94 = 3 := by kernel_rfl
theorem cells_25 : Try.prog.cellsOf 25 = 3 := by kernel_rfl
theorem one25 : oneCellFields Try.prog #[{ name := "Women", type := 3, offset := 0, embedded := false, tag := "", pkgPath := "", byteOffset := 0 }, { name := "Entries", type := 22, offset := 1, embedded := false, tag := "", pkgPath := "", byteOffset := 8 }, { name := "Sayings", type := 23, offset := 2, embedded := false, tag := "", pkgPath := "", byteOffset := 32 }] = true := by kernel_rfl
/-- A range. -/
theorem open_46 {fuel : Nat} {cs : List Value} {x : DataW H × List MemPlace} (h : DataW.trod enc Try.prog w base spare held fuel 46 cs = some x) :
    ∃ a b : Int, cs = [.int .i64 a, .int .i64 b] := by
  obtain ⟨xs, n, _, _, hl, hlen, hf⟩ := DataW.trod_struct Try.underlying46 h
  rw [cells_46] at hl
  obtain ⟨c0, c1, rfl⟩ := list2 hl
  obtain ⟨y0, y1, rfl⟩ := list2 hlen
  have h0 := hf 0 _ rfl
  change DataW.trod enc Try.prog w base spare held n 3 (([c0, c1].drop 0).take (Try.prog.cellsOf 3)) = some y0 at h0
  rw [cells_3] at h0
  have h1 := hf 1 _ rfl
  change DataW.trod enc Try.prog w base spare held n 3 (([c0, c1].drop 1).take (Try.prog.cellsOf 3)) = some y1 at h1
  rw [cells_3] at h1
  obtain ⟨a, ha, _, _⟩ := DataW.trod_int Try.underlying3 h0
  obtain ⟨b, hb, _, _⟩ := DataW.trod_int Try.underlying3 h1
  have ha' : [c0] = _ := ha
  have hb' : [c1] = _ := hb
  simp only [List.cons.injEq, and_true] at ha' hb'
  exact ⟨a, b, by rw [ha', hb']⟩
/-- An entry. -/
theorem open_91 {fuel : Nat} {cs : List Value} {x : DataW H × List MemPlace} (h : DataW.trod enc Try.prog w base spare held fuel 91 cs = some x) :
    ∃ e : S91, cs = [.int .i64 e.f0, .int .i64 e.f1, .int .i64 e.f2.f0, .int .i64 e.f2.f1] := by
  obtain ⟨xs, n, _, _, hl, hlen, hf⟩ := DataW.trod_struct Try.underlying91 h
  rw [cells_91] at hl
  obtain ⟨c0, c1, c2, c3, rfl⟩ := list4 hl
  obtain ⟨y0, y1, y2, rfl⟩ := list3 hlen
  have h0 := hf 0 _ rfl
  change DataW.trod enc Try.prog w base spare held n 3 (([c0, c1, c2, c3].drop 0).take (Try.prog.cellsOf 3)) = some y0 at h0
  rw [cells_3] at h0
  have h1 := hf 1 _ rfl
  change DataW.trod enc Try.prog w base spare held n 3 (([c0, c1, c2, c3].drop 1).take (Try.prog.cellsOf 3)) = some y1 at h1
  rw [cells_3] at h1
  have h2 := hf 2 _ rfl
  change DataW.trod enc Try.prog w base spare held n 46 (([c0, c1, c2, c3].drop 2).take (Try.prog.cellsOf 46)) = some y2 at h2
  rw [cells_46] at h2
  obtain ⟨a, ha, _, _⟩ := DataW.trod_int Try.underlying3 h0
  obtain ⟨b, hb, _, _⟩ := DataW.trod_int Try.underlying3 h1
  obtain ⟨c, d, hc⟩ := open_46 h2
  have ha' : [c0] = _ := ha
  have hb' : [c1] = _ := hb
  have hc' : [c2, c3] = _ := hc
  simp only [List.cons.injEq, and_true] at ha' hb' hc'
  exact ⟨⟨a, b, ⟨c, d⟩⟩, by rw [ha', hb', hc'.1, hc'.2]⟩
/-- A saying. -/
theorem open_94 {fuel : Nat} {cs : List Value} {x : DataW H × List MemPlace} (h : DataW.trod enc Try.prog w base spare held fuel 94 cs = some x) :
    ∃ e : S94, cs = [.int .i64 e.f0, .int .i64 e.f1.f0, .int .i64 e.f1.f1] := by
  obtain ⟨xs, n, _, _, hl, hlen, hf⟩ := DataW.trod_struct Try.underlying94 h
  rw [cells_94] at hl
  obtain ⟨c0, c1, c2, rfl⟩ := list3 hl
  obtain ⟨y0, y1, rfl⟩ := list2 hlen
  have h0 := hf 0 _ rfl
  change DataW.trod enc Try.prog w base spare held n 3 (([c0, c1, c2].drop 0).take (Try.prog.cellsOf 3)) = some y0 at h0
  rw [cells_3] at h0
  have h1 := hf 1 _ rfl
  change DataW.trod enc Try.prog w base spare held n 46 (([c0, c1, c2].drop 1).take (Try.prog.cellsOf 46)) = some y1 at h1
  rw [cells_46] at h1
  obtain ⟨a, ha, _, _⟩ := DataW.trod_int Try.underlying3 h0
  obtain ⟨c, d, hc⟩ := open_46 h1
  have ha' : [c0] = _ := ha
  have hc' : [c1, c2] = _ := hc
  simp only [List.cons.injEq, and_true] at ha' hc'
  exact ⟨⟨a, ⟨c, d⟩⟩, by rw [ha', hc'.1, hc'.2]⟩
/-- A row whose elements open. -/
theorem open_row {α : Type} (d : Kd α) {t e : TypeId} (ht : Try.prog.underlying t = some (.slice e)) (hC : Try.prog.cellsOf e = d.sz)
    (ho : ∀ (fuel : Nat) (cs : List Value) (x : DataW H × List MemPlace), DataW.trod enc Try.prog w base spare held fuel e cs = some x → ∃ y : α, d.K w y cs)
    {fuel : Nat} {v : Value} {x : DataW H × List MemPlace} (h : DataW.trod enc Try.prog w base spare held fuel t [v] = some x) :
    ∃ (A : Option Addr) (c : Nat) (l : List α), v = .slice A l.length c ∧ Kd.C d w A l.length l ∧ l.length ≤ c := by
  rcases open_slice ht h with ⟨hcs, _⟩ | ⟨a, len, cap, m, n, D, Pl, hcs, hb, hl, hm, hmm, hx, hi⟩
  · simp only [List.cons.injEq, and_true] at hcs
    subst hcs
    exact ⟨none, 0, [], rfl, ⟨rfl, by simp, fun q => absurd q (by simp)⟩, by simp⟩
  · simp only [List.cons.injEq, and_true] at hcs
    subst hcs
    have hlm : len ≤ m := by rw [hmm]; split <;> omega
    have hcell : ∀ i : Nat, i < len → ∃ y : α, ∃ cs', w.cells? base (a.add (i * d.sz)) d.sz = some cs' ∧ d.K w y cs' := fun i hil => by
      obtain ⟨cs', h1, h2⟩ := hi i (by omega)
      rw [hC] at h1
      obtain ⟨y, hy⟩ := ho _ _ _ h2
      exact ⟨y, cs', h1, hy⟩
    have hsel : ∀ j, j ≤ len → ∃ l : List α, l.length = j ∧ ∀ (i : Nat) (y : α), l[i]? = some y → ∃ cs', w.cells? base (a.add (i * d.sz)) d.sz = some cs' ∧ d.K w y cs' := by
      intro j
      induction j with
      | zero => exact fun _ => ⟨[], rfl, fun i y hy => by simp at hy⟩
      | succ j ih =>
        intro hj
        obtain ⟨l, hll, hlr⟩ := ih (by omega)
        obtain ⟨y, cs', h1, h2⟩ := hcell j (by omega)
        refine ⟨l ++ [y], by simp [hll], fun i z hz => ?_⟩
        by_cases hij : i < j
        · rw [List.getElem?_append_left (by omega)] at hz
          exact hlr i z hz
        · rw [List.getElem?_append_right (by omega)] at hz
          have hi0 : i = j := by
            by_cases q : i - l.length = 0
            · omega
            · obtain ⟨q', hq'⟩ : ∃ q', i - l.length = q' + 1 := ⟨i - l.length - 1, by omega⟩
              rw [hq'] at hz
              simp at hz
          subst hi0
          rw [show i - l.length = 0 by omega] at hz
          simp only [List.getElem?_cons_zero, Option.some.injEq] at hz
          subst hz
          exact ⟨cs', h1, h2⟩
    obtain ⟨l, hll, hlr⟩ := hsel len (Nat.le_refl _)
    refine ⟨some a, cap, l, by rw [hll], ⟨rfl, ?_, fun _ => ⟨a, rfl, fun j p hp => ?_⟩⟩, by omega⟩
    · have : cap ≤ 9223372036854775807 := hm
      omega
    · obtain ⟨cs', h1, h2⟩ := hlr j p hp
      obtain ⟨_, hcl, hat⟩ := World.cells?_some h1
      refine ⟨cs', hcl, h2, fun i u hu => ?_⟩
      have hil : i < d.sz := by rw [← hcl]; exact (List.getElem?_eq_some_iff.1 hu).1
      rw [← Go.Deep.add_add, hat i hil, hu]
set_option maxRecDepth 100000 in
theorem open_slate {r : Reach} {b0 : Nat} {v : Value} {d : DataW H} {p : List MemPlace} (hv : Value.okWide Try.prog w r b0 25 v) (h : DataW.Trod enc Try.prog w base spare held 25 v d p) :
    ∃ (n : Int) (A1 : Option Addr) (c1 : Nat) (l1 : List S91) (A2 : Option Addr) (c2 : Nat) (l2 : List S94), v = .agg #[.int .i64 n, .slice A1 l1.length c1, .slice A2 l2.length c2] ∧
      Kd.C k91 w A1 l1.length l1 ∧ l1.length ≤ c1 ∧ Kd.C k94 w A2 l2.length l2 ∧ l2.length ≤ c2 ∧ (Lit.int .i64 n).wf = true := by
  obtain ⟨v0, v1, v2, y0, y1, y2, n, rfl, _, _, h0, h1, h2⟩ := open_agg3 Try.underlying25 one25 cells_25 hv h
  obtain ⟨a, ha, _, hwf⟩ := DataW.trod_int Try.underlying3 h0
  simp only [List.cons.injEq, and_true] at ha
  subst ha
  obtain ⟨A1, c1, l1, rfl, q1, q2⟩ := open_row k91 Try.underlying22 cells_91 (fun fuel cs x hx => by
    obtain ⟨e, rfl⟩ := open_91 hx
    exact ⟨e, k91_mk w e⟩) h1
  obtain ⟨A2, c2, l2, rfl, q3, q4⟩ := open_row k94 Try.underlying23 cells_94 (fun fuel cs x hx => by
    obtain ⟨e, rfl⟩ := open_94 hx
    exact ⟨e, k94_mk w e⟩) h2
  exact ⟨a, A1, c1, l1, A2, c2, l2, rfl, q1, q2, q3, q4, hwf⟩
end
end Go.Proofs.Ytncaadckehikpaa.Q
namespace Go.Proofs.Ytncaadckehikpaa.Q
open Go.RowKit Go.Proofs.YtncaadckehikpaaW.PrintWords Go.Proofs.YtncaadckehikpaaW.PrintLast Go.Proofs.YtncaadckehikpaaW.PrintMore
open Go.ChangeShapes Go.WideShapes Go.Deep Go.Joins
set_option linter.unusedVariables false
set_option linter.unusedSimpArgs false
section
variable {H : Type} {enc : TypeId × Value → H} {w : World} {base : Nat} {spare : Nat → Bool} {held : Bool}
/-- A row that is handed in is no longer than memory reaches. -/
theorem row_sized {t e : TypeId} (ht : Try.prog.underlying t = some (.slice e)) {fuel : Nat} {A : Option Addr} {n c R : Nat} {x : DataW H × List MemPlace} (h : DataW.trod enc Try.prog w base spare held fuel t [.slice A n c] = some x) (hw : ∀ k ∈ x.1.weights Try.prog t, k ≤ R) : n * Try.prog.bytesOf e ≤ R := by
  rcases open_slice ht h with ⟨hcs, _⟩ | ⟨a, len, cap, m, q, D, Pl, hcs, hb, hl, hm, hmm, hx, hi⟩
  · simp only [List.cons.injEq, Value.slice.injEq, and_true] at hcs
    rw [hcs.2.1]
    omega
  · simp only [List.cons.injEq, Value.slice.injEq, and_true] at hcs
    rw [hx] at hw
    have := hw _ (by
      simp only [DataW.weights, ht]
      exact List.mem_cons_self ..)
    rw [List.length_map, List.length_range] at this
    rw [hcs.2.1]
    exact Nat.le_trans (Nat.mul_le_mul_right _ (Nat.le_add_right _ _)) this
theorem bytes_91 : Try.prog.bytesOf 91 = 32 := by kernel_rfl
theorem bytes_94 : Try.prog.bytesOf 94 = 24 := by kernel_rfl
set_option maxRecDepth 100000 in
theorem slate_sized {r : Reach} {b0 : Nat} {n : Int} {A1 A2 : Option Addr} {n1 c1 n2 c2 R : Nat} {d : DataW H} {p : List MemPlace} (hv : Value.okWide Try.prog w r b0 25 (.agg #[.int .i64 n, .slice A1 n1 c1, .slice A2 n2 c2]))
    (h : DataW.Trod enc Try.prog w base spare held 25 (.agg #[.int .i64 n, .slice A1 n1 c1, .slice A2 n2 c2]) d p) (hw : ∀ k ∈ d.weights Try.prog 25, k ≤ R) : n1 * 32 ≤ R ∧ n2 * 24 ≤ R := by
  obtain ⟨v0, v1, v2, y0, y1, y2, q, hve, hd, _, h0, h1, h2⟩ := open_agg3 Try.underlying25 one25 cells_25 hv h
  simp only [Value.agg.injEq, Array.mk.injEq, List.cons.injEq, and_true] at hve
  obtain ⟨e0, e1, e2⟩ := hve
  rw [← e1] at h1
  rw [← e2] at h2
  rw [hd] at hw
  have hmem : ∀ k, k ∈ y1.1.weights Try.prog 22 ∨ k ∈ y2.1.weights Try.prog 23 → k ≤ R := fun k hk => hw k (by
    simp only [DataW.weights, Try.underlying25]
    simp only [List.map_cons, List.map_nil, DataW.weightsEach, List.mem_append]
    rcases hk with hk | hk
    · exact .inr (.inl hk)
    · exact .inr (.inr (.inl hk)))
  have r1 := row_sized Try.underlying22 h1 (fun k hk => hmem k (.inl hk))
  have r2 := row_sized Try.underlying23 h2 (fun k hk => hmem k (.inr hk))
  rw [bytes_91] at r1
  rw [bytes_94] at r2
  exact ⟨r1, r2⟩
set_option maxRecDepth 100000 in
theorem open_saying {r : Reach} {b0 : Nat} {v : Value} {d : DataW H} {p : List MemPlace} (hv : Value.okWide Try.prog w r b0 94 v) (h : DataW.Trod enc Try.prog w base spare held 94 v d p) :
    ∃ a b c : Int, v = .agg #[.int .i64 a, .int .i64 b, .int .i64 c] := by
  obtain ⟨cs, rfl, hsz⟩ := okWide_struct Try.underlying94 hv
  obtain ⟨fuel, hf⟩ := h
  obtain ⟨e, he⟩ := open_94 (cs := cs.toList) hf
  refine ⟨e.f0, e.f1.f0, e.f1.f1, ?_⟩
  congr 1
  exact Array.toList_inj.1 he
end
end Go.Proofs.Ytncaadckehikpaa.Q
namespace Go.Proofs.Ytncaadckehikpaa.soapMore
open Go.ChangeShapes Go.WideShapes Go.ChangeAt Go.RowKit
set_option linter.unusedVariables false
theorem own : ownKnob Try.prog.godebug = none := by kernel_rfl
theorem laidOut : laidOutB Try.prog = true := by kernel_rfl
set_option maxRecDepth 100000 in
theorem lifted (os : Os) (started : os.Started) (H : Type) (enc : TypeId × Value → H) :
    ReturnsInHanded {} Try.checked os 13 .any (Rows.soapMoreSpec.pre6 enc Try.prog Try.f13 Rows.soapMoreRow.domain false) (Rows.soapMoreSpec.post enc Try.prog Try.f13 false true false false) := by
  refine returnsInHanded_of_change_sized (C := Try.checked) own started (by kernel_rfl) Try.func13
    (ChangeSpec.witness6 (enc := enc) (C := Try.checked) false ⟨#[], #[.agg #[.int .i64 0, .slice none 0 0, .slice none 0 0], .agg #[.int .i64 0, .int .i64 0, .int .i64 0]], []⟩ 8 (by kernel_rfl) (by kernel_rfl) (by kernel_rfl) (by kernel_rfl)) ?_
  intro W base args ds gs before hval0 hW hcnd hsz0 _
  have hval : ∀ (j : Nat) t v, Try.f13.params[j]? = some t → args[j]? = some v → Value.okWide Try.prog W .any base t v := hval0
  have hW' := hW
  obtain ⟨p, q, hA0, hV, rfl, hfz, hnd⟩ := hW
  have hA : DataW.TrodAll enc Try.prog W 0 (fun _ => true) true Try.f13.params.toList args.toList ds p := hA0
  rw [Try.params13] at hA hval
  obtain ⟨v0, vs0, d0, ds0, p0, q0, hargs, rfl, rfl, h0, r0⟩ := trodAll_cons hA
  obtain ⟨v1, vs1, d1, ds1, p1, q1, rfl, rfl, rfl, h1, r1⟩ := trodAll_cons r0
  obtain ⟨rfl, rfl, rfl⟩ := trodAll_nil r1
  obtain rfl : args = #[v0, v1] := by cases args; simp_all
  obtain ⟨rfl, rfl⟩ := trodVars_none hV
  have k0 := h0
  have lt0 : ∀ x ∈ p0, x.block < W.heap.size := by obtain ⟨m, hm⟩ := k0; exact DataW.trod_lt m _ _ _ hm
  obtain ⟨n0, A0a, c0a, l0a, A0b, c0b, l0b, rfl, hr0a, hc0a, hr0b, hc0b, hwf0⟩ := Q.open_slate (hval 0 25 v0 rfl rfl) h0
  have k1 := h1
  have lt1 : ∀ x ∈ p1, x.block < W.heap.size := by obtain ⟨m, hm⟩ := k1; exact DataW.trod_lt m _ _ _ hm
  obtain ⟨a1, b1, c1, rfl⟩ := Q.open_saying (hval 1 94 v1 rfl rfl) h1
  have hsz : (DataW.weightsEach Try.prog (Try.f13.params.toList ++ Rows.soapMoreSpec.plain.varTypes Try.prog) (_ ++ _)).all (· ≤ reachBytes) = true := hsz0
  rw [Try.params13] at hsz
  have hsl := Q.slate_sized (hval 0 25 _ rfl rfl) h0 (fun k hk => by have := List.all_eq_true.1 hsz k (DataW.weights_mem_each (j := 0) rfl rfl k hk); simpa using this)
  clear hsz
  clear hA0 hval0 hsz0
  refine (Q.pl_SoapMore.calls 200 n0 A0a c0a l0a A0b c0b l0b a1 b1 c1 true W hr0a hc0a hr0b hc0b (Q.soapMore_true n0 l0a l0b a1 b1 c1 hsl.2)).mono fun e W' ⟨he, bel⟩ => ?_
  subst he
  exact ⟨_, rfl, _, _, _, [], _, [], hW', trodAll_mk1 (shut_bool Try.underlying4 _), (trodAll_cons_mk (Below.trod laidOut (by kernel_rfl) (of_decide_eq_true (by kernel_rfl)) k0 bel lt0) (trodAll_cons_mk (Below.trod laidOut (by kernel_rfl) (of_decide_eq_true (by kernel_rfl)) k1 bel lt1) trodAll_mk0)), rfl, bel.frame _, fun h => by cases h⟩
theorem over : Rows.soapMoreRow.holds Try.pinned (OpenSpec.ofChange Rows.soapMoreSpec) :=
  OpenClaim.holds_of_wide 13 Try.f13 rfl rfl rfl rfl rfl rfl rfl ⟨rfl, rfl, rfl, rfl, rfl⟩ rfl rfl rfl rfl rfl (by kernel_rfl) Try.func13 (by kernel_rfl)
    (of_decide_eq_true (by kernel_rfl)) (by unfold Func.isWrapper; first | (rw [if_pos (by decide +kernel)]; kernel_rfl) | (rw [if_neg (by decide +kernel)]; exact ⟨rfl, rfl⟩))
    (fun os started H enc _ => lifted os started H enc)
end Go.Proofs.Ytncaadckehikpaa.soapMore
namespace Go.Proofs.Ytncaadckehikpaa
/-- The statement. -/
theorem soapMore_holds : Rows.SoapMoreSaid := soapMore.over
end Go.Proofs.Ytncaadckehikpaa
