/- The last part: the row, by the parts before. No condition. -/
import Derived.Lib.SmallJoins
import Derived.Deep.Slices
import Derived.ChangeSame
import Derived.WideLaws
import Derived.Test.YtncaadckehikpaaRows
import Derived.WalkKit
import Derived.ProofKit
import Derived.OpenShut
import Derived.ChangeOld
import Derived.Below
import Derived.SizedLaws
import Derived.Test.YtncaadckehikpaaM26
import Derived.Test.YtncaadckehikpaaM30
import Derived.Test.YtncaadckehikpaaM3
namespace Go.Proofs.Ytncaadckehikpaa.Q
open Go.RowKit Go.Proofs.YtncaadckehikpaaW.PrintWords Go.Proofs.YtncaadckehikpaaW.PrintLast Go.Proofs.YtncaadckehikpaaW.PrintMore
set_option linter.unusedVariables false
set_option linter.unusedSimpArgs false
set_option linter.unusedSectionVars false
theorem or_bits_all : ∀ n : Fin 6, ∀ a : Fin 64, a.val < 2 ^ n.val → ∀ i : Fin 6, bitN (a.val + 2 ^ n.val) i.val = (bitN a.val i.val || i.val == n.val) := by decide +kernel
theorem openTo_bit (v : List Int) : ∀ n, n ≤ 6 → ∀ i, i < 6 → bitN (openTo v n) i = (decide (i < n) && decide (rd v i ≠ 0))
  | 0, _, i, _ => by simp [openTo, bitN]
  | n + 1, hn, i, hi => by
    have ih := openTo_bit v n (by omega) i hi
    have hlt := z49 v n
    have h64 : (2 : Nat) ^ n ≤ 2 ^ 6 := Nat.pow_le_pow_right (by omega) (by omega)
    simp only [openTo]
    by_cases h : rd v (n : Int) ≠ 0
    · rw [if_pos h, or_bits_all ⟨n, by omega⟩ ⟨openTo v n, by omega⟩ hlt ⟨i, hi⟩, ih]
      by_cases e : i = n
      · subst e; simp [h]
      · have : (decide (i < n + 1)) = decide (i < n) := by
          by_cases q : i < n
          · simp [q, show i < n + 1 by omega]
          · simp [q, show ¬ i < n + 1 by omega]
        rw [this]; simp [e]
    · rw [if_neg h, ih]
      by_cases e : i = n
      · subst e; simp [h]
      · have : (decide (i < n + 1)) = decide (i < n) := by
          by_cases q : i < n
          · simp [q, show i < n + 1 by omega]
          · simp [q, show ¬ i < n + 1 by omega]
        rw [this]
/-- All women together. -/
def tot (v : List Int) : Int := rd v 0 + rd v 1 + rd v 2 + rd v 3 + rd v 4 + rd v 5
theorem sum_open (v : List Int) : sumN v (openN v) = tot v := by
  have h : ∀ i, i < 6 → (if bitN (openN v) i = true then rd v (i : Int) else 0) = rd v (i : Int) := fun i hi => by
    unfold openN
    rw [openTo_bit v 6 (by omega) i hi]
    by_cases q : rd v (i : Int) = 0
    · simp [q]
    · simp [q, hi]
  have hs : ∀ m n, sumTo v m (n + 1) = sumTo v m n + (if bitN m n = true then rd v (n : Int) else 0) := fun m n => by
    simp only [sumTo]
    split <;> omega
  unfold sumN tot
  rw [hs, hs, hs, hs, hs, hs, h 0 (by omega), h 1 (by omega), h 2 (by omega), h 3 (by omega), h 4 (by omega), h 5 (by omega)]
  simp only [sumTo]
  simp
section
variable (n : Int) (l1 : List S91) (l2 : List S94) (os : List Int) (hck : checkS n (l1.map c91) (l2.map c94) = 0) (ho : Small (l1.map c91) os)
include hck ho
theorem owed_out (w : Int) (hw : n ≤ w) (hw6 : w < 6) : ∀ i : Nat, i ≤ l1.length → rd (owedTo (l1.map c91) os i) w = 0
  | 0, _ => by
    obtain ⟨z0, z1, z2, z3, z4, z5⟩ := z35 hck
    obtain ⟨m, rfl⟩ : ∃ m : Nat, w = m := ⟨w.toNat, by omega⟩
    unfold rd owedTo
    rw [Int.toNat_natCast]
    rcases m with _ | _ | _ | _ | _ | _ | m <;> simp [List.getD]
  | i + 1, hi => by
    obtain ⟨z0, z1, z2, z3, z4, z5⟩ := z35 hck
    have he := z50 hck (i : Int) (by omega) (by rw [List.length_map]; omega)
    rw [owedTo_step (l1.map c91) os i w (by omega) (by omega) (by omega) (by omega) he.2.2.2.2.1 (by omega) hw6, if_neg (by omega), if_neg (by omega)]
    exact owed_out w hw hw6 i (by omega)
theorem tot_owed : ∀ i : Nat, i ≤ l1.length → tot (owedTo (l1.map c91) os i) = 0
  | 0, _ => by simp [tot, owedTo, rd, List.getD]
  | i + 1, hi => by
    obtain ⟨z0, z1, z2, z3, z4, z5⟩ := z35 hck
    have he := z50 hck (i : Int) (by omega) (by rw [List.length_map]; omega)
    have ih := tot_owed i (by omega)
    have st := fun (w : Int) (h0 : 0 ≤ w) (h6 : w < 6) => owedTo_step (l1.map c91) os i w (by omega) (by omega) (by omega) (by omega) he.2.2.2.2.1 h0 h6
    unfold tot at ih ⊢
    rw [st 0 (by omega) (by omega), st 1 (by omega) (by omega), st 2 (by omega) (by omega), st 3 (by omega) (by omega), st 4 (by omega) (by omega), st 5 (by omega) (by omega)]
    generalize (rd_T122 (l1.map c91) (i : Int)).f0 = a at he
    generalize (rd_T122 (l1.map c91) (i : Int)).f1 = b at he
    have ha : a = 0 ∨ a = 1 ∨ a = 2 ∨ a = 3 ∨ a = 4 ∨ a = 5 := by omega
    have hb : b = 0 ∨ b = 1 ∨ b = 2 ∨ b = 3 ∨ b = 4 ∨ b = 5 := by omega
    rcases ha with rfl | rfl | rfl | rfl | rfl | rfl <;> rcases hb with rfl | rfl | rfl | rfl | rfl | rfl <;> first | (exfalso; omega) | (simp; omega)
theorem sum_open_owed : sumN (owedL (l1.map c91) os) (openN (owedL (l1.map c91) os)) = 0 := by
  rw [sum_open]
  have := tot_owed n l1 l2 os hck ho l1.length (Nat.le_refl _)
  unfold owedL
  rw [List.length_map]
  exact this
theorem openTo_all : ∀ d : Nat, n.toNat + d ≤ 6 → openTo (owedL (l1.map c91) os) (n.toNat + d) = openTo (owedL (l1.map c91) os) n.toNat
  | 0, _ => rfl
  | d + 1, h => by
    obtain ⟨z0, z1, z2, z3, z4, z5⟩ := z35 hck
    have hz := owed_out n l1 l2 os hck ho ((n.toNat + d : Nat) : Int) (by omega) (by omega) l1.length (Nat.le_refl _)
    rw [show n.toNat + (d + 1) = (n.toNat + d) + 1 by omega, openTo, if_neg, openTo_all d (by omega)]
    unfold owedL
    rw [List.length_map]
    simpa using hz
theorem Open_l0 : ∀ (d k i : Nat), (i : Int) + d = n → d + 10 < k → pr_Open.l0 k os ((openTo (owedL (l1.map c91) os) i : Nat) : Int) i n l1 l2 = some ((openTo (owedL (l1.map c91) os) n.toNat : Nat) : Int)
  | 0, k + 1, i, hi, hk => by
    rw [pr_Open.l0, if_neg (by omega), show n.toNat = i by omega]
  | d + 1, k + 1, i, hi, hk => by
    obtain ⟨z0, z1, z2, z3, z4, z5⟩ := z35 hck
    have hb := z49 (owedL (l1.map c91) os) i
    have ih := Open_l0 d k (i + 1) (by omega) (by omega)
    rw [openTo] at ih
    rw [pr_Open.l0, if_pos (by omega), Owed_f k n l1 l2 os _ hck ho (by omega) (by omega) (by omega), Option.bind_some, w1 i (by omega), u64_small i (by omega), shl_small i (by omega), if_pos (show (0 : Int) ≤ ((i : Nat) : Int) by omega), or_bit _ i (by omega) hb]
    by_cases h : rd (owedL (l1.map c91) os) (i : Int) = 0
    · rw [if_neg (by simpa using h)] at ih
      rw [if_pos h]
      exact ih
    · rw [if_pos h] at ih
      rw [if_neg h]
      exact ih
theorem Open_f (k : Nat) (hk : 20 ≤ k) : pr_Open.f k n l1 l2 os = some ((openN (owedL (l1.map c91) os) : Nat) : Int) := by
  obtain ⟨z0, z1, z2, z3, z4, z5⟩ := z35 hck
  have h := Open_l0 n l1 l2 os hck ho n.toNat k 0 (by omega) (by omega)
  have ha := openTo_all n l1 l2 os hck ho (6 - n.toNat) (by omega)
  rw [show n.toNat + (6 - n.toNat) = 6 by omega] at ha
  unfold openN
  rw [ha]
  exact h
theorem Payments_f (k : Nat) (hk : 6000 ≤ k) : pr_Payments.f k n l1 l2 os = some (payN (owedL (l1.map c91) os)) := by
  have h64 : openN (owedL (l1.map c91) os) < 64 := z49 _ 6
  have hF := F_bd (owedL (l1.map c91) os) (openN (owedL (l1.map c91) os))
  have hl := bitsL_length (openN (owedL (l1.map c91) os))
  unfold pr_Payments.f
  rw [Open_f n l1 l2 os hck ho k (by omega), Option.bind_some, Bits_f k _ h64 (by omega), Option.bind_some, Most_f n l1 l2 os hck ho _ _ (Nat.le_refl _) h64 (sum_open_owed n l1 l2 os hck ho) k (by omega), Option.bind_some, payN]
  refine congrArg some ?_
  unfold wrap64
  omega
end
theorem payN_bd (v : List Int) : -1000 ≤ payN v ∧ payN v ≤ 1000 := by
  have h64 : openN v < 64 := z49 _ 6
  have hF := F_bd v (openN v)
  have hl := bitsL_length (openN v)
  unfold payN
  omega
section
variable (n : Int) (l1 : List S91) (l2 : List S94) (oss : List (List Int)) (hck : checkS n (l1.map c91) (l2.map c94) = 0) (ho : ∀ os ∈ oss, Small (l1.map c91) os) (hl : oss.length ≤ 2000)
include hck ho hl
theorem RFewest_l0 : ∀ (d k i : Nat) (a b : Int), i + d = oss.length → d + 6000 < k →
    pr_Fewest.l0 k oss i n l1 l2 a b = some (((oss.drop i).map (fun os => payN (owedL (l1.map c91) os))).foldl (fun b y => (mn b.1 y, mx b.2 y)) (a, b))
  | 0, k + 1, i, a, b, hi, hk => by
    rw [pr_Fewest.l0, if_neg (by omega), List.drop_of_length_le (by omega)]
    rfl
  | d + 1, k + 1, i, a, b, hi, hk => by
    have hn : i < oss.length := by omega
    rw [pr_Fewest.l0, if_pos (by omega), if_pos (by omega), w1 i (by omega), rdL4 oss i hn, Payments_f n l1 l2 _ hck (ho _ (List.getElem_mem hn)) k (by omega), Option.bind_some, pr_Wider.f, Option.bind_some,
      RFewest_l0 d k (i + 1) _ _ (by omega) (by omega), List.drop_eq_getElem_cons hn, List.map_cons, List.foldl_cons]
theorem RFewest_f (k : Nat) (hne : oss ≠ []) (hk : 9000 ≤ k) : pr_Fewest.f k n l1 l2 oss = some (bndL (oss.map (fun os => payN (owedL (l1.map c91) os)))) := by
  have h1 := RFewest_l0 n l1 l2 oss hck ho hl oss.length k 0 1099511627776 (-1099511627776) (by omega) (by omega)
  rw [List.drop_zero, bnd_empty _ (by simpa using hne) (by intro x hx; obtain ⟨os, h, rfl⟩ := List.mem_map.1 hx; exact payN_bd _)] at h1
  unfold pr_Fewest.f pr_Empty.f
  exact h1
end
/-- The law holds at every slate. -/
theorem soapFewest_true (n : Int) (l1 : List S91) (l2 : List S94) : pl_SoapFewest.f 10000 n l1 l2 = some true := by
  unfold pl_SoapFewest.f
  rw [Thin_f, Option.bind_some]
  by_cases ht : l1.length ≤ 30 ∧ l2.length ≤ 30
  · rw [if_pos (by simpa using ht), Slate_f 10000 n l1 l2 ht.1 ht.2 (by omega), Option.bind_some, soap_Fewest.f, Option.bind_some, sure_f 10000 n l1 l2 (by omega), Option.bind_some]
    simp only []
    have hnil := truthsL_nil (l1.map c91) (l2.map c94)
    have herr : askErr n (l1.map c91) (l2.map c94) = if checkS n (l1.map c91) (l2.map c94) = 0 then (if truthsR (l1.map c91) (l2.map c94) = [] then 11 else 0) else checkS n (l1.map c91) (l2.map c94) := by
      unfold askErr
      unfold truthsL at hnil
      by_cases c : truthsR (l1.map c91) (l2.map c94) = []
      · rw [if_pos c, if_pos (hnil.2 c)]
      · rw [if_neg c, if_neg (fun q => c (hnil.1 q))]
    rw [herr]
    by_cases hc : checkS n (l1.map c91) (l2.map c94) = 0
    · simp only [hc, if_true]
      by_cases hn : truthsR (l1.map c91) (l2.map c94) = []
      · simp only [hn, if_true, show ¬ ((11 : Int) = 0) by decide, if_false]
        rfl
      · simp only [hn, if_false, if_true]
        have hlen : (truthsR (l1.map c91) (l2.map c94)).length ≤ 2000 := by
          unfold truthsR
          refine Nat.le_trans (List.length_filter_le _ _) ?_
          rw [List.length_map, List.length_range]
          exact (prodN_le hc).1
        have he : bndL ((truthsL (l1.map c91) (l2.map c94)).map payN) = bndL ((truthsR (l1.map c91) (l2.map c94)).map (fun os => payN (owedL (l1.map c91) os))) := by
          refine (bnd_ext _ _ (by simpa using hn) (fun x => ?_)).symm
          simp only [List.mem_map]
          constructor
          · rintro ⟨os, h, rfl⟩
            exact ⟨_, (mem_truthsL _ _ _).2 ⟨os, h, rfl⟩, rfl⟩
          · rintro ⟨v, hv, rfl⟩
            obtain ⟨os, h, rfl⟩ := (mem_truthsL _ _ _).1 hv
            exact ⟨os, h, rfl⟩
        rw [RFewest_f n l1 l2 _ hc (small_truths hc) hlen 10000 hn (by omega), Option.bind_some, he]
        simp only [pl_to.f, Option.bind_some, beq_self_eq_true, Bool.and_self, if_true]
        rfl
    · simp only [hc, if_false, if_true]
      rfl
  · rw [if_neg (by simpa using ht)]
    rfl
end Go.Proofs.Ytncaadckehikpaa.Q
namespace Go.Proofs.Ytncaadckehikpaa.Q
open Go.RowKit Go.Proofs.YtncaadckehikpaaW.PrintWords Go.Proofs.YtncaadckehikpaaW.PrintLast Go.Proofs.YtncaadckehikpaaW.PrintMore
open Go.ChangeShapes Go.WideShapes Go.Deep Go.Joins
set_option linter.unusedVariables false
set_option linter.unusedSimpArgs false
theorem list2 {α : Type} {l : List α} (h : l.length = 2) : ∃ a b, l = [a, b] := by
  match l, h with
  | [a, b], _ => exact ⟨a, b, rfl⟩
theorem list3 {α : Type} {l : List α} (h : l.length = 3) : ∃ a b c, l = [a, b, c] := by
  match l, h with
  | [a, b, c], _ => exact ⟨a, b, c, rfl⟩
theorem list4 {α : Type} {l : List α} (h : l.length = 4) : ∃ a b c d, l = [a, b, c, d] := by
  match l, h with
  | [a, b, c, d], _ => exact ⟨a, b, c, d, rfl⟩
section
variable {H : Type} {enc : TypeId × Value → H} {w : World} {base : Nat} {spare : Nat → Bool} {held : Bool}
theorem cells_3 : Try.prog.cellsOf 3 = 1 := by kernel_rfl
theorem cells_46 : Try.prog.cellsOf 46 = 2 := by kernel_rfl
theorem cells_91 : Try.prog.cellsOf 91 = 4 := by kernel_rfl
theorem cells_94 : Try.prog.cellsOf 94 = 3 := by kernel_rfl
theorem cells_25 : Try.prog.cellsOf 25 = 3 := by kernel_rfl
theorem one25 : oneCellFields Try.prog #[{ name := "Women", type := 3, offset := 0, embedded := false, tag := "", pkgPath := "", byteOffset := 0 }, { name := "Entries", type := 22, offset := 1, embedded := false, tag := "", pkgPath := "", byteOffset := 8 }, { name := "Sayings", type := 23, offset := 2, embedded := false, tag := "", pkgPath := "", byteOffset := 32 }] = true := by kernel_rfl
/-- A range. -/
theorem open_46 {fuel : Nat} {cs : List Value} {x : DataW H × List MemPlace} (h : DataW.trod enc Try.prog w base spare held fuel 46 cs = some x) :
    ∃ a b : Int, cs = [.int .i64 a, .int .i64 b] := by
  obtain ⟨xs, n, _, _, hl, hlen, hf⟩ := DataW.trod_struct Try.underlying46 h
  rw [cells_46] at hl
  obtain ⟨c0, c1, rfl⟩ := list2 hl
  obtain ⟨y0, y1, rfl⟩ := list2 hlen
  have h0 := hf 0 _ rfl
  change DataW.trod enc Try.prog w base spare held n 3 (([c0, c1].drop 0).take (Try.prog.cellsOf 3)) = some y0 at h0
  rw [cells_3] at h0
  have h1 := hf 1 _ rfl
  change DataW.trod enc Try.prog w base spare held n 3 (([c0, c1].drop 1).take (Try.prog.cellsOf 3)) = some y1 at h1
  rw [cells_3] at h1
  obtain ⟨a, ha, _, _⟩ := DataW.trod_int Try.underlying3 h0
  obtain ⟨b, hb, _, _⟩ := DataW.trod_int Try.underlying3 h1
  have ha' : [c0] = _ := ha
  have hb' : [c1] = _ := hb
  simp only [List.cons.injEq, and_true] at ha' hb'
  exact ⟨a, b, by rw [ha', hb']⟩
/-- An entry. -/
theorem open_91 {fuel : Nat} {cs : List Value} {x : DataW H × List MemPlace} (h : DataW.trod enc Try.prog w base spare held fuel 91 cs = some x) :
    ∃ e : S91, cs = [.int .i64 e.f0, .int .i64 e.f1, .int .i64 e.f2.f0, .int .i64 e.f2.f1] := by
  obtain ⟨xs, n, _, _, hl, hlen, hf⟩ := DataW.trod_struct Try.underlying91 h
  rw [cells_91] at hl
  obtain ⟨c0, c1, c2, c3, rfl⟩ := list4 hl
  obtain ⟨y0, y1, y2, rfl⟩ := list3 hlen
  have h0 := hf 0 _ rfl
  change DataW.trod enc Try.prog w base spare held n 3 (([c0, c1, c2, c3].drop 0).take (Try.prog.cellsOf 3)) = some y0 at h0
  rw [cells_3] at h0
  have h1 := hf 1 _ rfl
  change DataW.trod enc Try.prog w base spare held n 3 (([c0, c1, c2, c3].drop 1).take (Try.prog.cellsOf 3)) = some y1 at h1
  rw [cells_3] at h1
  have h2 := hf 2 _ rfl
  change DataW.trod enc Try.prog w base spare held n 46 (([c0, c1, c2, c3].drop 2).take (Try.prog.cellsOf 46)) = some y2 at h2
  rw [cells_46] at h2
  obtain ⟨a, ha, _, _⟩ := DataW.trod_int Try.underlying3 h0
  obtain ⟨b, hb, _, _⟩ := DataW.trod_int Try.underlying3 h1
  obtain ⟨c, d, hc⟩ := open_46 h2
  have ha' : [c0] = _ := ha
  have hb' : [c1] = _ := hb
  have hc' : [c2, c3] = _ := hc
  simp only [List.cons.injEq, and_true] at ha' hb' hc'
  exact ⟨⟨a, b, ⟨c, d⟩⟩, by rw [ha', hb', hc'.1, hc'.2]⟩
/-- A saying. -/
theorem open_94 {fuel : Nat} {cs : List Value} {x : DataW H × List MemPlace} (h : DataW.trod enc Try.prog w base spare held fuel 94 cs = some x) :
    ∃ e : S94, cs = [.int .i64 e.f0, .int .i64 e.f1.f0, .int .i64 e.f1.f1] := by
  obtain ⟨xs, n, _, _, hl, hlen, hf⟩ := DataW.trod_struct Try.underlying94 h
  rw [cells_94] at hl
  obtain ⟨c0, c1, c2, rfl⟩ := list3 hl
  obtain ⟨y0, y1, rfl⟩ := list2 hlen
  have h0 := hf 0 _ rfl
  change DataW.trod enc Try.prog w base spare held n 3 (([c0, c1, c2].drop 0).take (Try.prog.cellsOf 3)) = some y0 at h0
  rw [cells_3] at h0
  have h1 := hf 1 _ rfl
  change DataW.trod enc Try.prog w base spare held n 46 (([c0, c1, c2].drop 1).take (Try.prog.cellsOf 46)) = some y1 at h1
  rw [cells_46] at h1
  obtain ⟨a, ha, _, _⟩ := DataW.trod_int Try.underlying3 h0
  obtain ⟨c, d, hc⟩ := open_46 h1
  have ha' : [c0] = _ := ha
  have hc' : [c1, c2] = _ := hc
  simp only [List.cons.injEq, and_true] at ha' hc'
  exact ⟨⟨a, ⟨c, d⟩⟩, by rw [ha', hc'.1, hc'.2]⟩
/-- A row whose elements open. -/
theorem open_row {α : Type} (d : Kd α) {t e : TypeId} (ht : Try.prog.underlying t = some (.slice e)) (hC : Try.prog.cellsOf e = d.sz)
    (ho : ∀ (fuel : Nat) (cs : List Value) (x : DataW H × List MemPlace), DataW.trod enc Try.prog w base spare held fuel e cs = some x → ∃ y : α, d.K w y cs)
    {fuel : Nat} {v : Value} {x : DataW H × List MemPlace} (h : DataW.trod enc Try.prog w base spare held fuel t [v] = some x) :
    ∃ (A : Option Addr) (c : Nat) (l : List α), v = .slice A l.length c ∧ Kd.C d w A l.length l ∧ l.length ≤ c := by
  rcases open_slice ht h with ⟨hcs, _⟩ | ⟨a, len, cap, m, n, D, Pl, hcs, hb, hl, hm, hmm, hx, hi⟩
  · simp only [List.cons.injEq, and_true] at hcs
    subst hcs
    exact ⟨none, 0, [], rfl, ⟨rfl, by simp, fun q => absurd q (by simp)⟩, by simp⟩
  · simp only [List.cons.injEq, and_true] at hcs
    subst hcs
    have hlm : len ≤ m := by rw [hmm]; split <;> omega
    have hcell : ∀ i : Nat, i < len → ∃ y : α, ∃ cs', w.cells? base (a.add (i * d.sz)) d.sz = some cs' ∧ d.K w y cs' := fun i hil => by
      obtain ⟨cs', h1, h2⟩ := hi i (by omega)
      rw [hC] at h1
      obtain ⟨y, hy⟩ := ho _ _ _ h2
      exact ⟨y, cs', h1, hy⟩
    have hsel : ∀ j, j ≤ len → ∃ l : List α, l.length = j ∧ ∀ (i : Nat) (y : α), l[i]? = some y → ∃ cs', w.cells? base (a.add (i * d.sz)) d.sz = some cs' ∧ d.K w y cs' := by
      intro j
      induction j with
      | zero => exact fun _ => ⟨[], rfl, fun i y hy => by simp at hy⟩
      | succ j ih =>
        intro hj
        obtain ⟨l, hll, hlr⟩ := ih (by omega)
        obtain ⟨y, cs', h1, h2⟩ := hcell j (by omega)
        refine ⟨l ++ [y], by simp [hll], fun i z hz => ?_⟩
        by_cases hij : i < j
        · rw [List.getElem?_append_left (by omega)] at hz
          exact hlr i z hz
        · rw [List.getElem?_append_right (by omega)] at hz
          have hi0 : i = j := by
            by_cases q : i - l.length = 0
            · omega
            · obtain ⟨q', hq'⟩ : ∃ q', i - l.length = q' + 1 := ⟨i - l.length - 1, by omega⟩
              rw [hq'] at hz
              simp at hz
          subst hi0
          rw [show i - l.length = 0 by omega] at hz
          simp only [List.getElem?_cons_zero, Option.some.injEq] at hz
          subst hz
          exact ⟨cs', h1, h2⟩
    obtain ⟨l, hll, hlr⟩ := hsel len (Nat.le_refl _)
    refine ⟨some a, cap, l, by rw [hll], ⟨rfl, ?_, fun _ => ⟨a, rfl, fun j p hp => ?_⟩⟩, by omega⟩
    · have : cap ≤ 9223372036854775807 := hm
      omega
    · obtain ⟨cs', h1, h2⟩ := hlr j p hp
      obtain ⟨_, hcl, hat⟩ := World.cells?_some h1
      refine ⟨cs', hcl, h2, fun i u hu => ?_⟩
      have hil : i < d.sz := by rw [← hcl]; exact (List.getElem?_eq_some_iff.1 hu).1
      rw [← Go.Deep.add_add, hat i hil, hu]
set_option maxRecDepth 100000 in
theorem open_slate {r : Reach} {b0 : Nat} {v : Value} {d : DataW H} {p : List MemPlace} (hv : Value.okWide Try.prog w r b0 25 v) (h : DataW.Trod enc Try.prog w base spare held 25 v d p) :
    ∃ (n : Int) (A1 : Option Addr) (c1 : Nat) (l1 : List S91) (A2 : Option Addr) (c2 : Nat) (l2 : List S94), v = .agg #[.int .i64 n, .slice A1 l1.length c1, .slice A2 l2.length c2] ∧
      Kd.C k91 w A1 l1.length l1 ∧ l1.length ≤ c1 ∧ Kd.C k94 w A2 l2.length l2 ∧ l2.length ≤ c2 ∧ (Lit.int .i64 n).wf = true := by
  obtain ⟨v0, v1, v2, y0, y1, y2, n, rfl, _, _, h0, h1, h2⟩ := open_agg3 Try.underlying25 one25 cells_25 hv h
  obtain ⟨a, ha, _, hwf⟩ := DataW.trod_int Try.underlying3 h0
  simp only [List.cons.injEq, and_true] at ha
  subst ha
  obtain ⟨A1, c1, l1, rfl, q1, q2⟩ := open_row k91 Try.underlying22 cells_91 (fun fuel cs x hx => by
    obtain ⟨e, rfl⟩ := open_91 hx
    exact ⟨e, k91_mk w e⟩) h1
  obtain ⟨A2, c2, l2, rfl, q3, q4⟩ := open_row k94 Try.underlying23 cells_94 (fun fuel cs x hx => by
    obtain ⟨e, rfl⟩ := open_94 hx
    exact ⟨e, k94_mk w e⟩) h2
  exact ⟨a, A1, c1, l1, A2, c2, l2, rfl, q1, q2, q3, q4, hwf⟩
end
end Go.Proofs.Ytncaadckehikpaa.Q
namespace Go.Proofs.Ytncaadckehikpaa.soapFewest
open Go.ChangeShapes Go.WideShapes Go.ChangeAt Go.RowKit
set_option linter.unusedVariables false
theorem own : ownKnob Try.prog.godebug = none := by kernel_rfl
theorem laidOut : laidOutB Try.prog = true := by kernel_rfl
set_option maxRecDepth 100000 in
theorem lifted (os : Os) (started : os.Started) (H : Type) (enc : TypeId × Value → H) :
    ReturnsInHanded {} Try.checked os 5 .any (Rows.soapFewestSpec.pre6 enc Try.prog Try.f5 Rows.soapFewestRow.domain false) (Rows.soapFewestSpec.post enc Try.prog Try.f5 false true false false) := by
  refine returnsInHanded_of_change_sized (C := Try.checked) own started (by kernel_rfl) Try.func5
    (ChangeSpec.witness6 (enc := enc) (C := Try.checked) false ⟨#[], #[.agg #[.int .i64 0, .slice none 0 0, .slice none 0 0]], []⟩ 8 (by kernel_rfl) (by kernel_rfl) (by kernel_rfl) (by kernel_rfl)) ?_
  intro W base args ds gs before hval0 hW hcnd hsz0 _
  have hval : ∀ (j : Nat) t v, Try.f5.params[j]? = some t → args[j]? = some v → Value.okWide Try.prog W .any base t v := hval0
  have hW' := hW
  obtain ⟨p, q, hA0, hV, rfl, hfz, hnd⟩ := hW
  have hA : DataW.TrodAll enc Try.prog W 0 (fun _ => true) true Try.f5.params.toList args.toList ds p := hA0
  rw [Try.params5] at hA hval
  obtain ⟨v0, vs0, d0, ds0, p0, q0, hargs, rfl, rfl, h0, r0⟩ := trodAll_cons hA
  obtain ⟨rfl, rfl, rfl⟩ := trodAll_nil r0
  obtain rfl : args = #[v0] := by cases args; simp_all
  obtain ⟨rfl, rfl⟩ := trodVars_none hV
  have k0 := h0
  have lt0 : ∀ x ∈ p0, x.block < W.heap.size := by obtain ⟨m, hm⟩ := k0; exact DataW.trod_lt m _ _ _ hm
  obtain ⟨n0, A0a, c0a, l0a, A0b, c0b, l0b, rfl, hr0a, hc0a, hr0b, hc0b, hwf0⟩ := Q.open_slate (hval 0 25 v0 rfl rfl) h0
  clear hA0 hval0 hsz0
  refine (Q.pl_SoapFewest.calls 10000 n0 A0a c0a l0a A0b c0b l0b true W hr0a hc0a hr0b hc0b (Q.soapFewest_true n0 l0a l0b)).mono fun e W' ⟨he, bel⟩ => ?_
  subst he
  exact ⟨_, rfl, _, _, _, [], _, [], hW', trodAll_mk1 (shut_bool Try.underlying4 _), (trodAll_cons_mk (Below.trod laidOut (by kernel_rfl) (of_decide_eq_true (by kernel_rfl)) k0 bel lt0) trodAll_mk0), rfl, bel.frame _, fun h => by cases h⟩
theorem over : Rows.soapFewestRow.holds Try.pinned (OpenSpec.ofChange Rows.soapFewestSpec) :=
  OpenClaim.holds_of_wide 5 Try.f5 rfl rfl rfl rfl rfl rfl rfl ⟨rfl, rfl, rfl, rfl, rfl⟩ rfl rfl rfl rfl rfl (by kernel_rfl) Try.func5 (by kernel_rfl)
    (of_decide_eq_true (by kernel_rfl)) (by unfold Func.isWrapper; first | (rw [if_pos (by decide +kernel)]; kernel_rfl) | (rw [if_neg (by decide +kernel)]; exact ⟨rfl, rfl⟩))
    (fun os started H enc _ => lifted os started H enc)
end Go.Proofs.Ytncaadckehikpaa.soapFewest
namespace Go.Proofs.Ytncaadckehikpaa
/-- The statement. -/
theorem soapFewest_holds : Rows.SoapFewestSaid := soapFewest.over
end Go.Proofs.Ytncaadckehikpaa
