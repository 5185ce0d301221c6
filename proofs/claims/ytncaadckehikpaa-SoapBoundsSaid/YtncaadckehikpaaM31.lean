/- The last part: the row, by the parts before. No condition. -/
import Derived.Lib.SmallJoins
import Derived.Deep.Slices
import Derived.ChangeSame
import Derived.WideLaws
import Derived.Test.YtncaadckehikpaaRows
import Derived.WalkKit
import Derived.ProofKit
import Derived.OpenShut
import Derived.ChangeOld
import Derived.Below
import Derived.SizedLaws
import Derived.Test.YtncaadckehikpaaM25
import Derived.Test.YtncaadckehikpaaM30
import Derived.Test.YtncaadckehikpaaM3
namespace Go.Proofs.Ytncaadckehikpaa.Q
open Go.RowKit Go.Proofs.YtncaadckehikpaaW.PrintWords Go.Proofs.YtncaadckehikpaaW.PrintLast Go.Proofs.YtncaadckehikpaaW.PrintMore
set_option linter.unusedVariables false
set_option linter.unusedSimpArgs false
/-- The verdict of bounds. -/
def verd (b : S44) : Int := if b.f1 < 0 then 1 else if b.f0 ≥ 0 then 2 else 3
theorem rd44 (xs : List S44) (i : Nat) (h : i < xs.length) : rd_T44 xs (i : Int) = xs[i] := getD_of xs _ i h
theorem rdI (xs : List Int) (i : Nat) (h : i < xs.length) : rd xs (i : Int) = xs[i] := getD_of xs _ i h
theorem Owes_l0 (bs : List S44) (hb : bs.length ≤ 6) : ∀ (d k i : Nat) (acc : List Int), i + d = bs.length → d < k → acc.length = i →
    soap_Owes.l0 k acc bs (bs.length : Int) i = some (acc ++ (bs.drop i).map verd, 0)
  | 0, k + 1, i, acc, hi, hk, ha => by
    rw [soap_Owes.l0, if_neg (by omega), List.drop_of_length_le (by omega)]
    simp
  | d + 1, k + 1, i, acc, hi, hk, ha => by
    have hn : i < bs.length := by omega
    rw [soap_Owes.l0, if_pos (by omega), if_pos (by omega), if_pos (by omega), w1 i (by omega), if_pos (show acc.length < 17592186044416 by omega), if_pos (show acc.length < 17592186044416 by omega), if_pos (show acc.length < 17592186044416 by omega),
      rd44 bs i hn, List.drop_eq_getElem_cons hn, List.map_cons]
    have hv : verd bs[i] = if bs[i].f1 < 0 then 1 else if bs[i].f0 ≥ 0 then 2 else 3 := rfl
    rw [hv]
    by_cases a : bs[i].f1 < 0
    · rw [if_pos a, if_pos a, Owes_l0 bs hb d k (i + 1) _ (by omega) (by omega) (by simp [ha]), List.append_assoc]
      rfl
    · rw [if_neg a, if_neg a]
      by_cases b : bs[i].f0 ≥ 0
      · rw [if_pos b, if_pos b, Owes_l0 bs hb d k (i + 1) _ (by omega) (by omega) (by simp [ha]), List.append_assoc]
        rfl
      · rw [if_neg b, if_neg b, Owes_l0 bs hb d k (i + 1) _ (by omega) (by omega) (by simp [ha]), List.append_assoc]
        rfl
theorem boundsTo_length (vs : List (List Int)) (k : Nat) : (boundsTo vs k).length = k := by simp [boundsTo]
theorem soapOwes_f (k : Nat) (n : Int) (l1 : List S122) (l2 : List S124) (hk : 10 ≤ k) : soap_Owes.f k n l1 l2 = some (if askErr n l1 l2 = 0 then ((boundsTo (truthsL l1 l2) n.toNat).map verd, 0) else ([], askErr n l1 l2)) := by
  unfold soap_Owes.f soap_Bounds.f
  simp only [Option.bind_some]
  by_cases h : askErr n l1 l2 = 0
  · rw [if_pos h, if_pos h, if_pos rfl]
    have hc : checkS n l1 l2 = 0 := by
      by_cases c : checkS n l1 l2 = 0
      · exact c
      · unfold askErr at h
        rw [if_neg c] at h
        exact absurd h c
    have hn := checkS_zero hc
    have hl := boundsTo_length (truthsL l1 l2) n.toNat
    have := Owes_l0 (boundsTo (truthsL l1 l2) n.toNat) (by omega) (boundsTo (truthsL l1 l2) n.toNat).length k 0 [] (by omega) (by omega) rfl
    simpa using this
  · rw [if_neg h, if_neg h, if_neg h]
theorem askErr_R (n : Int) (l1 : List S122) (l2 : List S124) : askErr n l1 l2 = if checkS n l1 l2 = 0 then (if truthsR l1 l2 = [] then 11 else 0) else checkS n l1 l2 := by
  unfold askErr
  have h := truthsL_nil l1 l2
  unfold truthsL at h
  by_cases c : truthsR l1 l2 = []
  · rw [if_pos c, if_pos (h.2 c)]
  · rw [if_neg c, if_neg (fun q => c (h.1 q))]
section
variable (n : Int) (l1 : List S91) (l2 : List S94) (hck : checkS n (l1.map c91) (l2.map c94) = 0) (hne : truthsR (l1.map c91) (l2.map c94) ≠ [])
set_option linter.unusedSectionVars false
include hck hne
/-- What a woman is owed in the program's vectors and in the reference's truths has the same bounds. -/
theorem bnd_same (w : Int) : bndL ((truthsL (l1.map c91) (l2.map c94)).map (fun v => rd v w)) = bndL ((truthsR (l1.map c91) (l2.map c94)).map (fun os => rd (owedL (l1.map c91) os) w)) := by
  refine (bnd_ext _ _ (by simpa using hne) (fun x => ?_)).symm
  simp only [List.mem_map]
  constructor
  · rintro ⟨os, ho, rfl⟩
    exact ⟨_, (mem_truthsL _ _ _).2 ⟨os, ho, rfl⟩, rfl⟩
  · rintro ⟨v, hv, rfl⟩
    obtain ⟨os, ho, rfl⟩ := (mem_truthsL _ _ _).1 hv
    exact ⟨os, ho, rfl⟩
theorem owed_bd (os : List Int) (ho : os ∈ truthsR (l1.map c91) (l2.map c94)) (w : Int) : -1000 ≤ rd (owedL (l1.map c91) os) w ∧ rd (owedL (l1.map c91) os) w ≤ 1000 := by
  have hs := small_truths hck os ho
  have := owedTo_bd (l1.map c91) os hs.2 (l1.map c91).length (Nat.le_refl _) w
  have hl := (checkS_ent hck).2.2.1
  rw [List.length_map] at this
  unfold owedL
  rw [List.length_map]
  omega
theorem truthsR_len : (truthsR (l1.map c91) (l2.map c94)).length ≤ 2000 := by
  unfold truthsR
  refine Nat.le_trans (List.length_filter_le _ _) ?_
  rw [List.length_map, List.length_range]
  exact (prodN_le hck).1
theorem SoapBounds_l0 : ∀ (d k i : Nat), (i : Int) + d = n → d + 3100 < k →
    posserlaw08_SoapBounds.l0 k (boundsTo (truthsL (l1.map c91) (l2.map c94)) n.toNat) ((boundsTo (truthsL (l1.map c91) (l2.map c94)) n.toNat).map verd) (truthsR (l1.map c91) (l2.map c94)) i n l1 l2 = some true
  | 0, k + 1, i, hi, hk => by
    rw [posserlaw08_SoapBounds.l0, if_neg (by omega)]
    rfl
  | d + 1, k + 1, i, hi, hk => by
    obtain ⟨z0, z1, z2, z3, z4, z5⟩ := checkS_ent hck
    have hl := boundsTo_length (truthsL (l1.map c91) (l2.map c94)) n.toNat
    have hin : i < n.toNat := by omega
    have hb : rd_T44 (boundsTo (truthsL (l1.map c91) (l2.map c94)) n.toNat) (i : Int) = ⟨(bndL ((truthsR (l1.map c91) (l2.map c94)).map (fun os => rd (owedL (l1.map c91) os) (i : Int)))).1, (bndL ((truthsR (l1.map c91) (l2.map c94)).map (fun os => rd (owedL (l1.map c91) os) (i : Int)))).2⟩ := by
      rw [rd44 _ i (by omega), ← bnd_same n l1 l2 hck hne]
      simp [boundsTo]
    have hv : rd ((boundsTo (truthsL (l1.map c91) (l2.map c94)) n.toNat).map verd) (i : Int) = verd (rd_T44 (boundsTo (truthsL (l1.map c91) (l2.map c94)) n.toNat) (i : Int)) := by
      rw [rdI _ i (by rw [List.length_map]; omega), rd44 _ i (by omega), List.getElem_map]
    have hvd : ∀ b : S44, verd b = if b.f1 < 0 then 1 else if b.f0 ≥ 0 then 2 else 3 := fun _ => rfl
    have hso := small_truths hck
    have hlen := truthsR_len n l1 l2 hck hne
    rw [posserlaw08_SoapBounds.l0, if_pos (by omega), if_pos (by omega), if_pos (by omega), RBounds_f n l1 l2 _ (i : Int) hck hso hlen (by omega) (by omega) k hne (fun os ho => owed_bd n l1 l2 hck hne os ho _) (by omega), Option.bind_some]
    simp only [posserlaw08_to.f, Option.bind_some]
    rw [hv, hb, if_neg (by simp), if_pos (by rw [List.length_map]; omega), ROwes_f n l1 l2 _ (i : Int) hck hso hlen (by omega) (by omega) k hne (by omega), Option.bind_some, hvd, if_pos rfl, w1 i (by omega)]
    exact SoapBounds_l0 d k (i + 1) (by omega) (by omega)
end
/-- The law holds at every slate. -/
theorem soapBounds_true (n : Int) (l1 : List S91) (l2 : List S94) : posserlaw08_SoapBounds.f 4000 n l1 l2 = some true := by
  unfold posserlaw08_SoapBounds.f
  rw [Thin_f, Option.bind_some]
  by_cases ht : l1.length ≤ 30 ∧ l2.length ≤ 30
  · rw [if_pos (by simpa using ht), Slate_f 4000 n l1 l2 ht.1 ht.2 (by omega)]
    simp only [Option.bind_some]
    rw [soapOwes_f 4000 n _ _ (by omega), sure_f 4000 n l1 l2 (by omega), soap_Bounds.f, askErr_R]
    simp only [Option.bind_some]
    by_cases hc : checkS n (l1.map c91) (l2.map c94) = 0
    · simp only [hc, if_true]
      by_cases hn : truthsR (l1.map c91) (l2.map c94) = []
      · simp only [hn, if_true, show ¬ ((11 : Int) = 0) by decide, if_false]
        kernel_rfl
      · simp only [hn, if_false, if_true]
        have hz := checkS_ent hc
        rw [boundsTo_length, if_pos (by omega), posserlaw08_SoapBounds.j0, if_neg (by simp [boundsTo_length]; omega)]
        exact SoapBounds_l0 n l1 l2 hc hn n.toNat 3999 0 (by omega) (by omega)
    · simp only [hc, if_false, if_true]
      kernel_rfl
  · rw [if_neg (by simpa using ht)]
    rfl
end Go.Proofs.Ytncaadckehikpaa.Q
namespace Go.Proofs.Ytncaadckehikpaa.Q
open Go.RowKit Go.Proofs.YtncaadckehikpaaW.PrintWords Go.Proofs.YtncaadckehikpaaW.PrintLast Go.Proofs.YtncaadckehikpaaW.PrintMore
open Go.ChangeShapes Go.WideShapes Go.Deep Go.Joins
set_option linter.unusedVariables false
set_option linter.unusedSimpArgs false
theorem list2 {α : Type} {l : List α} (h : l.length = 2) : ∃ a b, l = [a, b] := by
  match l, h with
  | [a, b], _ => exact ⟨a, b, rfl⟩
theorem list3 {α : Type} {l : List α} (h : l.length = 3) : ∃ a b c, l = [a, b, c] := by
  match l, h with
  | [a, b, c], _ => exact ⟨a, b, c, rfl⟩
theorem list4 {α : Type} {l : List α} (h : l.length = 4) : ∃ a b c d, l = [a, b, c, d] := by
  match l, h with
  | [a, b, c, d], _ => exact ⟨a, b, c, d, rfl⟩
section
variable {H : Type} {enc : TypeId × Value → H} {w : World} {base : Nat} {spare : Nat → Bool} {held : Bool}
theorem cells_3 : Try.prog.cellsOf 3 = 1 := by kernel_rfl
theorem cells_46 : Try.prog.cellsOf 46 = 2 := by kernel_rfl
theorem cells_91 : Try.prog.cellsOf 91 = 4 := by kernel_rfl
theorem cells_94 : Try.prog.cellsOf 94 = 3 := by kernel_rfl
theorem cells_25 : Try.prog.cellsOf 25 = 3 := by kernel_rfl
theorem one25 : oneCellFields Try.prog #[{ name := "Women", type := 3, offset := 0, embedded := false, tag := "", pkgPath := "", byteOffset := 0 }, { name := "Entries", type := 22, offset := 1, embedded := false, tag := "", pkgPath := "", byteOffset := 8 }, { name := "Sayings", type := 23, offset := 2, embedded := false, tag := "", pkgPath := "", byteOffset := 32 }] = true := by kernel_rfl
/-- A range. -/
theorem open_46 {fuel : Nat} {cs : List Value} {x : DataW H × List MemPlace} (h : DataW.trod enc Try.prog w base spare held fuel 46 cs = some x) :
    ∃ a b : Int, cs = [.int .i64 a, .int .i64 b] := by
  obtain ⟨xs, n, _, _, hl, hlen, hf⟩ := DataW.trod_struct Try.underlying46 h
  rw [cells_46] at hl
  obtain ⟨c0, c1, rfl⟩ := list2 hl
  obtain ⟨y0, y1, rfl⟩ := list2 hlen
  have h0 := hf 0 _ rfl
  change DataW.trod enc Try.prog w base spare held n 3 (([c0, c1].drop 0).take (Try.prog.cellsOf 3)) = some y0 at h0
  rw [cells_3] at h0
  have h1 := hf 1 _ rfl
  change DataW.trod enc Try.prog w base spare held n 3 (([c0, c1].drop 1).take (Try.prog.cellsOf 3)) = some y1 at h1
  rw [cells_3] at h1
  obtain ⟨a, ha, _, _⟩ := DataW.trod_int Try.underlying3 h0
  obtain ⟨b, hb, _, _⟩ := DataW.trod_int Try.underlying3 h1
  have ha' : [c0] = _ := ha
  have hb' : [c1] = _ := hb
  simp only [List.cons.injEq, and_true] at ha' hb'
  exact ⟨a, b, by rw [ha', hb']⟩
/-- An entry. -/
theorem open_91 {fuel : Nat} {cs : List Value} {x : DataW H × List MemPlace} (h : DataW.trod enc Try.prog w base spare held fuel 91 cs = some x) :
    ∃ e : S91, cs = [.int .i64 e.f0, .int .i64 e.f1, .int .i64 e.f2.f0, .int .i64 e.f2.f1] := by
  obtain ⟨xs, n, _, _, hl, hlen, hf⟩ := DataW.trod_struct Try.underlying91 h
  rw [cells_91] at hl
  obtain ⟨c0, c1, c2, c3, rfl⟩ := list4 hl
  obtain ⟨y0, y1, y2, rfl⟩ := list3 hlen
  have h0 := hf 0 _ rfl
  change DataW.trod enc Try.prog w base spare held n 3 (([c0, c1, c2, c3].drop 0).take (Try.prog.cellsOf 3)) = some y0 at h0
  rw [cells_3] at h0
  have h1 := hf 1 _ rfl
  change DataW.trod enc Try.prog w base spare held n 3 (([c0, c1, c2, c3].drop 1).take (Try.prog.cellsOf 3)) = some y1 at h1
  rw [cells_3] at h1
  have h2 := hf 2 _ rfl
  change DataW.trod enc Try.prog w base spare held n 46 (([c0, c1, c2, c3].drop 2).take (Try.prog.cellsOf 46)) = some y2 at h2
  rw [cells_46] at h2
  obtain ⟨a, ha, _, _⟩ := DataW.trod_int Try.underlying3 h0
  obtain ⟨b, hb, _, _⟩ := DataW.trod_int Try.underlying3 h1
  obtain ⟨c, d, hc⟩ := open_46 h2
  have ha' : [c0] = _ := ha
  have hb' : [c1] = _ := hb
  have hc' : [c2, c3] = _ := hc
  simp only [List.cons.injEq, and_true] at ha' hb' hc'
  exact ⟨⟨a, b, ⟨c, d⟩⟩, by rw [ha', hb', hc'.1, hc'.2]⟩
/-- A saying. -/
theorem open_94 {fuel : Nat} {cs : List Value} {x : DataW H × List MemPlace} (h : DataW.trod enc Try.prog w base spare held fuel 94 cs = some x) :
    ∃ e : S94, cs = [.int .i64 e.f0, .int .i64 e.f1.f0, .int .i64 e.f1.f1] := by
  obtain ⟨xs, n, _, _, hl, hlen, hf⟩ := DataW.trod_struct Try.underlying94 h
  rw [cells_94] at hl
  obtain ⟨c0, c1, c2, rfl⟩ := list3 hl
  obtain ⟨y0, y1, rfl⟩ := list2 hlen
  have h0 := hf 0 _ rfl
  change DataW.trod enc Try.prog w base spare held n 3 (([c0, c1, c2].drop 0).take (Try.prog.cellsOf 3)) = some y0 at h0
  rw [cells_3] at h0
  have h1 := hf 1 _ rfl
  change DataW.trod enc Try.prog w base spare held n 46 (([c0, c1, c2].drop 1).take (Try.prog.cellsOf 46)) = some y1 at h1
  rw [cells_46] at h1
  obtain ⟨a, ha, _, _⟩ := DataW.trod_int Try.underlying3 h0
  obtain ⟨c, d, hc⟩ := open_46 h1
  have ha' : [c0] = _ := ha
  have hc' : [c1, c2] = _ := hc
  simp only [List.cons.injEq, and_true] at ha' hc'
  exact ⟨⟨a, ⟨c, d⟩⟩, by rw [ha', hc'.1, hc'.2]⟩
/-- A row whose elements open. -/
theorem open_row {α : Type} (d : Kd α) {t e : TypeId} (ht : Try.prog.underlying t = some (.slice e)) (hC : Try.prog.cellsOf e = d.sz)
    (ho : ∀ (fuel : Nat) (cs : List Value) (x : DataW H × List MemPlace), DataW.trod enc Try.prog w base spare held fuel e cs = some x → ∃ y : α, d.K w y cs)
    {fuel : Nat} {v : Value} {x : DataW H × List MemPlace} (h : DataW.trod enc Try.prog w base spare held fuel t [v] = some x) :
    ∃ (A : Option Addr) (c : Nat) (l : List α), v = .slice A l.length c ∧ Kd.C d w A l.length l ∧ l.length ≤ c := by
  rcases open_slice ht h with ⟨hcs, _⟩ | ⟨a, len, cap, m, n, D, Pl, hcs, hb, hl, hm, hmm, hx, hi⟩
  · simp only [List.cons.injEq, and_true] at hcs
    subst hcs
    exact ⟨none, 0, [], rfl, ⟨rfl, by simp, fun q => absurd q (by simp)⟩, by simp⟩
  · simp only [List.cons.injEq, and_true] at hcs
    subst hcs
    have hlm : len ≤ m := by rw [hmm]; split <;> omega
    have hcell : ∀ i : Nat, i < len → ∃ y : α, ∃ cs', w.cells? base (a.add (i * d.sz)) d.sz = some cs' ∧ d.K w y cs' := fun i hil => by
      obtain ⟨cs', h1, h2⟩ := hi i (by omega)
      rw [hC] at h1
      obtain ⟨y, hy⟩ := ho _ _ _ h2
      exact ⟨y, cs', h1, hy⟩
    have hsel : ∀ j, j ≤ len → ∃ l : List α, l.length = j ∧ ∀ (i : Nat) (y : α), l[i]? = some y → ∃ cs', w.cells? base (a.add (i * d.sz)) d.sz = some cs' ∧ d.K w y cs' := by
      intro j
      induction j with
      | zero => exact fun _ => ⟨[], rfl, fun i y hy => by simp at hy⟩
      | succ j ih =>
        intro hj
        obtain ⟨l, hll, hlr⟩ := ih (by omega)
        obtain ⟨y, cs', h1, h2⟩ := hcell j (by omega)
        refine ⟨l ++ [y], by simp [hll], fun i z hz => ?_⟩
        by_cases hij : i < j
        · rw [List.getElem?_append_left (by omega)] at hz
          exact hlr i z hz
        · rw [List.getElem?_append_right (by omega)] at hz
          have hi0 : i = j := by
            by_cases q : i - l.length = 0
            · omega
            · obtain ⟨q', hq'⟩ : ∃ q', i - l.length = q' + 1 := ⟨i - l.length - 1, by omega⟩
              rw [hq'] at hz
              simp at hz
          subst hi0
          rw [show i - l.length = 0 by omega] at hz
          simp only [List.getElem?_cons_zero, Option.some.injEq] at hz
          subst hz
          exact ⟨cs', h1, h2⟩
    obtain ⟨l, hll, hlr⟩ := hsel len (Nat.le_refl _)
    refine ⟨some a, cap, l, by rw [hll], ⟨rfl, ?_, fun _ => ⟨a, rfl, fun j p hp => ?_⟩⟩, by omega⟩
    · have : cap ≤ 9223372036854775807 := hm
      omega
    · obtain ⟨cs', h1, h2⟩ := hlr j p hp
      obtain ⟨_, hcl, hat⟩ := World.cells?_some h1
      refine ⟨cs', hcl, h2, fun i u hu => ?_⟩
      have hil : i < d.sz := by rw [← hcl]; exact (List.getElem?_eq_some_iff.1 hu).1
      rw [← Go.Deep.add_add, hat i hil, hu]
set_option maxRecDepth 100000 in
theorem open_slate {r : Reach} {b0 : Nat} {v : Value} {d : DataW H} {p : List MemPlace} (hv : Value.okWide Try.prog w r b0 25 v) (h : DataW.Trod enc Try.prog w base spare held 25 v d p) :
    ∃ (n : Int) (A1 : Option Addr) (c1 : Nat) (l1 : List S91) (A2 : Option Addr) (c2 : Nat) (l2 : List S94), v = .agg #[.int .i64 n, .slice A1 l1.length c1, .slice A2 l2.length c2] ∧
      Kd.C k91 w A1 l1.length l1 ∧ l1.length ≤ c1 ∧ Kd.C k94 w A2 l2.length l2 ∧ l2.length ≤ c2 ∧ (Lit.int .i64 n).wf = true := by
  obtain ⟨v0, v1, v2, y0, y1, y2, n, rfl, _, _, h0, h1, h2⟩ := open_agg3 Try.underlying25 one25 cells_25 hv h
  obtain ⟨a, ha, _, hwf⟩ := DataW.trod_int Try.underlying3 h0
  simp only [List.cons.injEq, and_true] at ha
  subst ha
  obtain ⟨A1, c1, l1, rfl, q1, q2⟩ := open_row k91 Try.underlying22 cells_91 (fun fuel cs x hx => by
    obtain ⟨e, rfl⟩ := open_91 hx
    exact ⟨e, k91_mk w e⟩) h1
  obtain ⟨A2, c2, l2, rfl, q3, q4⟩ := open_row k94 Try.underlying23 cells_94 (fun fuel cs x hx => by
    obtain ⟨e, rfl⟩ := open_94 hx
    exact ⟨e, k94_mk w e⟩) h2
  exact ⟨a, A1, c1, l1, A2, c2, l2, rfl, q1, q2, q3, q4, hwf⟩
end
end Go.Proofs.Ytncaadckehikpaa.Q
namespace Go.Proofs.Ytncaadckehikpaa.soapBounds
open Go.ChangeShapes Go.WideShapes Go.ChangeAt Go.RowKit
set_option linter.unusedVariables false
theorem own : ownKnob Try.prog.godebug = none := by kernel_rfl
theorem laidOut : laidOutB Try.prog = true := by kernel_rfl
set_option maxRecDepth 100000 in
theorem lifted (os : Os) (started : os.Started) (H : Type) (enc : TypeId × Value → H) :
    ReturnsInHanded {} Try.checked os 3 .any (Rows.soapBoundsSpec.pre6 enc Try.prog Try.f3 Rows.soapBoundsRow.domain false) (Rows.soapBoundsSpec.post enc Try.prog Try.f3 false true false false) := by
  refine returnsInHanded_of_change_sized (C := Try.checked) own started (by kernel_rfl) Try.func3
    (ChangeSpec.witness6 (enc := enc) (C := Try.checked) false ⟨#[], #[.agg #[.int .i64 0, .slice none 0 0, .slice none 0 0]], []⟩ 8 (by kernel_rfl) (by kernel_rfl) (by kernel_rfl) (by kernel_rfl)) ?_
  intro W base args ds gs before hval0 hW hcnd hsz0 _
  have hval : ∀ (j : Nat) t v, Try.f3.params[j]? = some t → args[j]? = some v → Value.okWide Try.prog W .any base t v := hval0
  have hW' := hW
  obtain ⟨p, q, hA0, hV, rfl, hfz, hnd⟩ := hW
  have hA : DataW.TrodAll enc Try.prog W 0 (fun _ => true) true Try.f3.params.toList args.toList ds p := hA0
  rw [Try.params3] at hA hval
  obtain ⟨v0, vs0, d0, ds0, p0, q0, hargs, rfl, rfl, h0, r0⟩ := trodAll_cons hA
  obtain ⟨rfl, rfl, rfl⟩ := trodAll_nil r0
  obtain rfl : args = #[v0] := by cases args; simp_all
  obtain ⟨rfl, rfl⟩ := trodVars_none hV
  have k0 := h0
  have lt0 : ∀ x ∈ p0, x.block < W.heap.size := by obtain ⟨m, hm⟩ := k0; exact DataW.trod_lt m _ _ _ hm
  obtain ⟨n, A1, c1, l1, A2, c2, l2, rfl, hr1, hc1, hr2, hc2, hwf⟩ := Q.open_slate (hval 0 25 v0 rfl rfl) h0
  clear hA0 hval0 hsz0
  refine (Q.posserlaw08_SoapBounds.calls 4000 n A1 c1 l1 A2 c2 l2 true W hr1 hc1 hr2 hc2 (Q.soapBounds_true n l1 l2)).mono fun e W' ⟨he, bel⟩ => ?_
  subst he
  exact ⟨_, rfl, _, _, _, [], _, [], hW', trodAll_mk1 (shut_bool Try.underlying4 _), (trodAll_cons_mk (Below.trod laidOut (by kernel_rfl) (of_decide_eq_true (by kernel_rfl)) k0 bel lt0) trodAll_mk0), rfl, bel.frame _, fun h => by cases h⟩
theorem over : Rows.soapBoundsRow.holds Try.pinned (OpenSpec.ofChange Rows.soapBoundsSpec) :=
  OpenClaim.holds_of_wide 3 Try.f3 rfl rfl rfl rfl rfl rfl rfl ⟨rfl, rfl, rfl, rfl, rfl⟩ rfl rfl rfl rfl rfl (by kernel_rfl) Try.func3 (by kernel_rfl)
    (of_decide_eq_true (by kernel_rfl)) (by unfold Func.isWrapper; first | (rw [if_pos (by decide +kernel)]; kernel_rfl) | (rw [if_neg (by decide +kernel)]; exact ⟨rfl, rfl⟩))
    (fun os started H enc _ => lifted os started H enc)
end Go.Proofs.Ytncaadckehikpaa.soapBounds
namespace Go.Proofs.Ytncaadckehikpaa
/-- The statement. -/
theorem soapBounds_holds : Rows.SoapBoundsSaid := soapBounds.over
end Go.Proofs.Ytncaadckehikpaa
