/- The last part: the row, by the parts before. No condition. -/
import Derived.Lib.SmallJoins
import Derived.Deep.Slices
import Derived.ChangeSame
import Derived.WideLaws
import Derived.Test.YtncaadckehikpaaRows
import Derived.WalkKit
import Derived.ProofKit
import Derived.OpenShut
import Derived.ChangeOld
import Derived.Below
import Derived.SizedLaws
import Derived.Test.YtncaadckehikpaaM3
import Derived.Test.YtncaadckehikpaaM30
namespace Go.Proofs.Ytncaadckehikpaa.Q
open Go.RowKit Go.Proofs.YtncaadckehikpaaW.PrintWords Go.Proofs.YtncaadckehikpaaW.PrintLast Go.Proofs.YtncaadckehikpaaW.PrintMore
open Go.ChangeShapes Go.WideShapes Go.Deep Go.Joins
set_option linter.unusedVariables false
set_option linter.unusedSimpArgs false
theorem list2 {α : Type} {l : List α} (h : l.length = 2) : ∃ a b, l = [a, b] := by
  match l, h with
  | [a, b], _ => exact ⟨a, b, rfl⟩
theorem list3 {α : Type} {l : List α} (h : l.length = 3) : ∃ a b c, l = [a, b, c] := by
  match l, h with
  | [a, b, c], _ => exact ⟨a, b, c, rfl⟩
theorem list4 {α : Type} {l : List α} (h : l.length = 4) : ∃ a b c d, l = [a, b, c, d] := by
  match l, h with
  | [a, b, c, d], _ => exact ⟨a, b, c, d, rfl⟩
section
variable {H : Type} {enc : TypeId × Value → H} {w : World} {base : Nat} {spare : Nat → Bool} {held : Bool}
theorem cells_3 : Try.prog.cellsOf 3 = 1 := by kernel_rfl
theorem cells_46 : Try.prog.cellsOf 46 = 2 := by kernel_rfl
theorem cells_91 : Try.prog.cellsOf 91 = 4 := by kernel_rfl
theorem cells_94 : Try.prog.cellsOf 94 = 3 := by kernel_rfl
theorem cells_25 : Try.prog.cellsOf 25 = 3 := by kernel_rfl
theorem one25 : oneCellFields Try.prog #[{ name := "Women", type := 3, offset := 0, embedded := false, tag := "", pkgPath := "", byteOffset := 0 }, { name := "Entries", type := 22, offset := 1, embedded := false, tag := "", pkgPath := "", byteOffset := 8 }, { name := "Sayings", type := 23, offset := 2, embedded := false, tag := "", pkgPath := "", byteOffset := 32 }] = true := by kernel_rfl
theorem u16_bd {a : Int} (h : (Lit.int .u16 a).wf = true) : 0 ≤ a ∧ a < 65536 := by
  have h1 : IntKind.u16.min = 0 := by decide
  have h2 : IntKind.u16.max = 65535 := by decide
  simp only [Lit.wf, Bool.and_eq_true, decide_eq_true_eq, h1, h2] at h
  omega
theorem u8_bd {a : Int} (h : (Lit.int .u8 a).wf = true) : 0 ≤ a ∧ a < 256 := by
  have h1 : IntKind.u8.min = 0 := by decide
  have h2 : IntKind.u8.max = 255 := by decide
  simp only [Lit.wf, Bool.and_eq_true, decide_eq_true_eq, h1, h2] at h
  omega
/-- A range. -/
theorem open_46 {fuel : Nat} {cs : List Value} {x : DataW H × List MemPlace} (h : DataW.trod enc Try.prog w base spare held fuel 46 cs = some x) :
    ∃ a b : Int, cs = [.int .i64 a, .int .i64 b] := by
  obtain ⟨xs, n, _, _, hl, hlen, hf⟩ := DataW.trod_struct Try.underlying46 h
  rw [cells_46] at hl
  obtain ⟨c0, c1, rfl⟩ := list2 hl
  obtain ⟨y0, y1, rfl⟩ := list2 hlen
  have h0 := hf 0 _ rfl
  change DataW.trod enc Try.prog w base spare held n 3 (([c0, c1].drop 0).take (Try.prog.cellsOf 3)) = some y0 at h0
  rw [cells_3] at h0
  have h1 := hf 1 _ rfl
  change DataW.trod enc Try.prog w base spare held n 3 (([c0, c1].drop 1).take (Try.prog.cellsOf 3)) = some y1 at h1
  rw [cells_3] at h1
  obtain ⟨a, ha, _, _⟩ := DataW.trod_int Try.underlying3 h0
  obtain ⟨b, hb, _, _⟩ := DataW.trod_int Try.underlying3 h1
  have ha' : [c0] = _ := ha
  have hb' : [c1] = _ := hb
  simp only [List.cons.injEq, and_true] at ha' hb'
  exact ⟨a, b, by rw [ha', hb']⟩
/-- An entry. -/
theorem open_91 {fuel : Nat} {cs : List Value} {x : DataW H × List MemPlace} (h : DataW.trod enc Try.prog w base spare held fuel 91 cs = some x) :
    ∃ e : S91, cs = [.int .i64 e.f0, .int .i64 e.f1, .int .i64 e.f2.f0, .int .i64 e.f2.f1] := by
  obtain ⟨xs, n, _, _, hl, hlen, hf⟩ := DataW.trod_struct Try.underlying91 h
  rw [cells_91] at hl
  obtain ⟨c0, c1, c2, c3, rfl⟩ := list4 hl
  obtain ⟨y0, y1, y2, rfl⟩ := list3 hlen
  have h0 := hf 0 _ rfl
  change DataW.trod enc Try.prog w base spare held n 3 (([c0, c1, c2, c3].drop 0).take (Try.prog.cellsOf 3)) = some y0 at h0
  rw [cells_3] at h0
  have h1 := hf 1 _ rfl
  change DataW.trod enc Try.prog w base spare held n 3 (([c0, c1, c2, c3].drop 1).take (Try.prog.cellsOf 3)) = some y1 at h1
  rw [cells_3] at h1
  have h2 := hf 2 _ rfl
  change DataW.trod enc Try.prog w base spare held n 46 (([c0, c1, c2, c3].drop 2).take (Try.prog.cellsOf 46)) = some y2 at h2
  rw [cells_46] at h2
  obtain ⟨a, ha, _, _⟩ := DataW.trod_int Try.underlying3 h0
  obtain ⟨b, hb, _, _⟩ := DataW.trod_int Try.underlying3 h1
  obtain ⟨c, d, hc⟩ := open_46 h2
  have ha' : [c0] = _ := ha
  have hb' : [c1] = _ := hb
  have hc' : [c2, c3] = _ := hc
  simp only [List.cons.injEq, and_true] at ha' hb' hc'
  exact ⟨⟨a, b, ⟨c, d⟩⟩, by rw [ha', hb', hc'.1, hc'.2]⟩
/-- A saying. -/
theorem open_94 {fuel : Nat} {cs : List Value} {x : DataW H × List MemPlace} (h : DataW.trod enc Try.prog w base spare held fuel 94 cs = some x) :
    ∃ e : S94, cs = [.int .i64 e.f0, .int .i64 e.f1.f0, .int .i64 e.f1.f1] := by
  obtain ⟨xs, n, _, _, hl, hlen, hf⟩ := DataW.trod_struct Try.underlying94 h
  rw [cells_94] at hl
  obtain ⟨c0, c1, c2, rfl⟩ := list3 hl
  obtain ⟨y0, y1, rfl⟩ := list2 hlen
  have h0 := hf 0 _ rfl
  change DataW.trod enc Try.prog w base spare held n 3 (([c0, c1, c2].drop 0).take (Try.prog.cellsOf 3)) = some y0 at h0
  rw [cells_3] at h0
  have h1 := hf 1 _ rfl
  change DataW.trod enc Try.prog w base spare held n 46 (([c0, c1, c2].drop 1).take (Try.prog.cellsOf 46)) = some y1 at h1
  rw [cells_46] at h1
  obtain ⟨a, ha, _, _⟩ := DataW.trod_int Try.underlying3 h0
  obtain ⟨c, d, hc⟩ := open_46 h1
  have ha' : [c0] = _ := ha
  have hc' : [c1, c2] = _ := hc
  simp only [List.cons.injEq, and_true] at ha' hc'
  exact ⟨⟨a, ⟨c, d⟩⟩, by rw [ha', hc'.1, hc'.2]⟩
/-- A row whose elements open. -/
theorem open_row {α : Type} (d : Kd α) {t e : TypeId} (ht : Try.prog.underlying t = some (.slice e)) (hC : Try.prog.cellsOf e = d.sz)
    (ho : ∀ (fuel : Nat) (cs : List Value) (x : DataW H × List MemPlace), DataW.trod enc Try.prog w base spare held fuel e cs = some x → ∃ y : α, d.K w y cs)
    {fuel : Nat} {v : Value} {x : DataW H × List MemPlace} (h : DataW.trod enc Try.prog w base spare held fuel t [v] = some x) :
    ∃ (A : Option Addr) (c : Nat) (l : List α), v = .slice A l.length c ∧ Kd.C d w A l.length l ∧ l.length ≤ c := by
  rcases open_slice ht h with ⟨hcs, _⟩ | ⟨a, len, cap, m, n, D, Pl, hcs, hb, hl, hm, hmm, hx, hi⟩
  · simp only [List.cons.injEq, and_true] at hcs
    subst hcs
    exact ⟨none, 0, [], rfl, ⟨rfl, by simp, fun q => absurd q (by simp)⟩, by simp⟩
  · simp only [List.cons.injEq, and_true] at hcs
    subst hcs
    have hlm : len ≤ m := by rw [hmm]; split <;> omega
    have hcell : ∀ i : Nat, i < len → ∃ y : α, ∃ cs', w.cells? base (a.add (i * d.sz)) d.sz = some cs' ∧ d.K w y cs' := fun i hil => by
      obtain ⟨cs', h1, h2⟩ := hi i (by omega)
      rw [hC] at h1
      obtain ⟨y, hy⟩ := ho _ _ _ h2
      exact ⟨y, cs', h1, hy⟩
    have hsel : ∀ j, j ≤ len → ∃ l : List α, l.length = j ∧ ∀ (i : Nat) (y : α), l[i]? = some y → ∃ cs', w.cells? base (a.add (i * d.sz)) d.sz = some cs' ∧ d.K w y cs' := by
      intro j
      induction j with
      | zero => exact fun _ => ⟨[], rfl, fun i y hy => by simp at hy⟩
      | succ j ih =>
        intro hj
        obtain ⟨l, hll, hlr⟩ := ih (by omega)
        obtain ⟨y, cs', h1, h2⟩ := hcell j (by omega)
        refine ⟨l ++ [y], by simp [hll], fun i z hz => ?_⟩
        by_cases hij : i < j
        · rw [List.getElem?_append_left (by omega)] at hz
          exact hlr i z hz
        · rw [List.getElem?_append_right (by omega)] at hz
          have hi0 : i = j := by
            by_cases q : i - l.length = 0
            · omega
            · obtain ⟨q', hq'⟩ : ∃ q', i - l.length = q' + 1 := ⟨i - l.length - 1, by omega⟩
              rw [hq'] at hz
              simp at hz
          subst hi0
          rw [show i - l.length = 0 by omega] at hz
          simp only [List.getElem?_cons_zero, Option.some.injEq] at hz
          subst hz
          exact ⟨cs', h1, h2⟩
    obtain ⟨l, hll, hlr⟩ := hsel len (Nat.le_refl _)
    refine ⟨some a, cap, l, by rw [hll], ⟨rfl, ?_, fun _ => ⟨a, rfl, fun j p hp => ?_⟩⟩, by omega⟩
    · have : cap ≤ 9223372036854775807 := hm
      omega
    · obtain ⟨cs', h1, h2⟩ := hlr j p hp
      obtain ⟨_, hcl, hat⟩ := World.cells?_some h1
      refine ⟨cs', hcl, h2, fun i u hu => ?_⟩
      have hil : i < d.sz := by rw [← hcl]; exact (List.getElem?_eq_some_iff.1 hu).1
      rw [← Go.Deep.add_add, hat i hil, hu]
set_option maxRecDepth 100000 in
theorem open_slate {r : Reach} {b0 : Nat} {v : Value} {d : DataW H} {p : List MemPlace} (hv : Value.okWide Try.prog w r b0 25 v) (h : DataW.Trod enc Try.prog w base spare held 25 v d p) :
    ∃ (n : Int) (A1 : Option Addr) (c1 : Nat) (l1 : List S91) (A2 : Option Addr) (c2 : Nat) (l2 : List S94), v = .agg #[.int .i64 n, .slice A1 l1.length c1, .slice A2 l2.length c2] ∧
      Kd.C k91 w A1 l1.length l1 ∧ l1.length ≤ c1 ∧ Kd.C k94 w A2 l2.length l2 ∧ l2.length ≤ c2 ∧ (Lit.int .i64 n).wf = true := by
  obtain ⟨v0, v1, v2, y0, y1, y2, n, rfl, _, _, h0, h1, h2⟩ := open_agg3 Try.underlying25 one25 cells_25 hv h
  obtain ⟨a, ha, _, hwf⟩ := DataW.trod_int Try.underlying3 h0
  simp only [List.cons.injEq, and_true] at ha
  subst ha
  obtain ⟨A1, c1, l1, rfl, q1, q2⟩ := open_row k91 Try.underlying22 cells_91 (fun fuel cs x hx => by
    obtain ⟨e, rfl⟩ := open_91 hx
    exact ⟨e, k91_mk w e⟩) h1
  obtain ⟨A2, c2, l2, rfl, q3, q4⟩ := open_row k94 Try.underlying23 cells_94 (fun fuel cs x hx => by
    obtain ⟨e, rfl⟩ := open_94 hx
    exact ⟨e, k94_mk w e⟩) h2
  exact ⟨a, A1, c1, l1, A2, c2, l2, rfl, q1, q2, q3, q4, hwf⟩
end
end Go.Proofs.Ytncaadckehikpaa.Q
namespace Go.Proofs.Ytncaadckehikpaa.soapPaid
open Go.ChangeShapes Go.WideShapes Go.ChangeAt Go.RowKit
set_option linter.unusedVariables false
theorem own : ownKnob Try.prog.godebug = none := by kernel_rfl
theorem laidOut : laidOutB Try.prog = true := by kernel_rfl
set_option maxRecDepth 100000 in
theorem lifted (os : Os) (started : os.Started) (H : Type) (enc : TypeId × Value → H) :
    ReturnsInHanded {} Try.checked os 11 .any (Rows.soapPaidSpec.pre6 enc Try.prog Try.f11 Rows.soapPaidRow.domain false) (Rows.soapPaidSpec.post enc Try.prog Try.f11 false true false false) := by
  refine returnsInHanded_of_change_sized (C := Try.checked) own started (by kernel_rfl) Try.func11
    (ChangeSpec.witness6 (enc := enc) (C := Try.checked) false ⟨#[], #[.agg #[.int .i64 0, .slice none 0 0, .slice none 0 0], .int .u16 0, .int .u8 0], []⟩ 8 (by kernel_rfl) (by kernel_rfl) (by kernel_rfl) (by kernel_rfl)) ?_
  intro W base args ds gs before hval0 hW hcnd hsz0 _
  have hval : ∀ (j : Nat) t v, Try.f11.params[j]? = some t → args[j]? = some v → Value.okWide Try.prog W .any base t v := hval0
  have hW' := hW
  obtain ⟨p, q, hA0, hV, rfl, hfz, hnd⟩ := hW
  have hA : DataW.TrodAll enc Try.prog W 0 (fun _ => true) true Try.f11.params.toList args.toList ds p := hA0
  rw [Try.params11] at hA hval
  obtain ⟨v0, vs0, d0, ds0, p0, q0, hargs, rfl, rfl, h0, r0⟩ := trodAll_cons hA
  obtain ⟨v1, vs1, d1, ds1, p1, q1, rfl, rfl, rfl, h1, r1⟩ := trodAll_cons r0
  obtain ⟨v2, vs2, d2, ds2, p2, q2, rfl, rfl, rfl, h2, r2⟩ := trodAll_cons r1
  obtain ⟨rfl, rfl, rfl⟩ := trodAll_nil r2
  obtain rfl : args = #[v0, v1, v2] := by cases args; simp_all
  obtain ⟨rfl, rfl⟩ := trodVars_none hV
  have k0 := h0
  have lt0 : ∀ x ∈ p0, x.block < W.heap.size := by obtain ⟨m, hm⟩ := k0; exact DataW.trod_lt m _ _ _ hm
  obtain ⟨n0, A0a, c0a, l0a, A0b, c0b, l0b, rfl, hr0a, hc0a, hr0b, hc0b, hwf0⟩ := Q.open_slate (hval 0 25 v0 rfl rfl) h0
  obtain ⟨a1, rfl, rfl, rfl, w1⟩ := open_int Try.underlying65 (hval 1 65 v1 rfl rfl) h1
  obtain ⟨a2, rfl, rfl, rfl, w2⟩ := open_int Try.underlying5 (hval 2 5 v2 rfl rfl) h2
  clear hA0 hval0 hsz0
  refine (Q.soapPaid_calls n0 A0a c0a l0a A0b c0b l0b a1 (Q.u16_bd w1).1 (Q.u16_bd w1).2 a2 (Q.u8_bd w2).1 (Q.u8_bd w2).2 W hr0a hc0a hr0b hc0b).mono fun e W' ⟨he, bel⟩ => ?_
  subst he
  exact ⟨_, rfl, _, _, _, [], _, [], hW', trodAll_mk1 (shut_bool Try.underlying4 _), (trodAll_cons_mk (Below.trod laidOut (by kernel_rfl) (of_decide_eq_true (by kernel_rfl)) k0 bel lt0) (trodAll_cons_mk (shut_int Try.underlying65 w1) (trodAll_cons_mk (shut_int Try.underlying5 w2) trodAll_mk0))), rfl, bel.frame _, fun h => by cases h⟩
theorem over : Rows.soapPaidRow.holds Try.pinned (OpenSpec.ofChange Rows.soapPaidSpec) :=
  OpenClaim.holds_of_wide 11 Try.f11 rfl rfl rfl rfl rfl rfl rfl ⟨rfl, rfl, rfl, rfl, rfl⟩ rfl rfl rfl rfl rfl (by kernel_rfl) Try.func11 (by kernel_rfl)
    (of_decide_eq_true (by kernel_rfl)) (by unfold Func.isWrapper; first | (rw [if_pos (by decide +kernel)]; kernel_rfl) | (rw [if_neg (by decide +kernel)]; exact ⟨rfl, rfl⟩))
    (fun os started H enc _ => lifted os started H enc)
end Go.Proofs.Ytncaadckehikpaa.soapPaid
namespace Go.Proofs.Ytncaadckehikpaa
/-- The statement. -/
theorem soapPaid_holds : Rows.SoapPaidSaid := soapPaid.over
end Go.Proofs.Ytncaadckehikpaa
