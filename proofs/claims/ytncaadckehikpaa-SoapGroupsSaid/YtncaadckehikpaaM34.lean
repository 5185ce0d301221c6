/- The last part: the row, by the parts before. No condition. -/
import Derived.Lib.SmallJoins
import Derived.Deep.Slices
import Derived.ChangeSame
import Derived.WideLaws
import Derived.Test.YtncaadckehikpaaRows
import Derived.WalkKit
import Derived.ProofKit
import Derived.OpenShut
import Derived.ChangeOld
import Derived.Below
import Derived.SizedLaws
import Derived.Test.YtncaadckehikpaaM31
import Derived.Test.YtncaadckehikpaaM33
import Derived.Test.YtncaadckehikpaaM3
namespace Go.Proofs.Ytncaadckehikpaa.Q
open Go.RowKit Go.Proofs.YtncaadckehikpaaW.PrintWords Go.Proofs.YtncaadckehikpaaW.PrintLast Go.Proofs.YtncaadckehikpaaW.PrintMore
set_option linter.unusedVariables false
set_option linter.unusedSimpArgs false
set_option linter.unusedSectionVars false
/-- Some women by bits, out of a list. -/
def mskOf (o : List Int) : Nat := o.foldl (fun m i => m + 2 ^ i.toNat) 0
set_option maxRecDepth 100000 in
theorem msk_all : ∀ g : Fin 64, mskOf (bitsL g.val) = g.val ∧ ∀ j : Fin 6, ∀ x, (bitsL g.val)[j.val]? = some x →
    bits .or .i64 ((mskOf ((bitsL g.val).take j.val) : Nat) : Int) (wrap64 (2 ^ x.toNat)) = ((mskOf ((bitsL g.val).take (j.val + 1)) : Nat) : Int) ∧ (j.val ≠ 0 → ¬ x ≤ rd (bitsL g.val) ((j.val : Int) - 1)) := by decide +kernel
set_option maxRecDepth 100000 in
theorem and_bit_all : ∀ L : Fin 64, ∀ w : Fin 6, (bits .and .i64 (L.val : Int) (wrap64 (2 ^ w.val)) = 0 ↔ bitN L.val w.val = false) := by decide +kernel
theorem inGc (g : Nat) (b : List Nat) (i : Nat) : inG (g :: b) i = (if bitN g i = true then 1 else 0) + inG b i := by simp [inG]
section
variable (n : Int) (l1 : List S91) (l2 : List S94) (os : List Int) (hck : checkS n (l1.map c91) (l2.map c94) = 0) (ho : Small (l1.map c91) os)
include hck ho
theorem AreGroups_l1 (gs : List (List Int)) (hgs : gs.length ≤ 64) (i g L : Nat) (hi : i < gs.length) (hat : gs[i]'hi = bitsL g) (hg : g < 64) (hg0 : g ≠ 0) (hL : L < 64) (hsub : SubB g L) (hgn : ∀ w, w < 6 → bitN g w = true → (w : Int) < n) (hsum : sumN (owedL (l1.map c91) os) g = 0) (K : Nat) (hK : 30 ≤ K)
    (hnext : ∀ k, K ≤ k → pr_AreGroups.l0 k os gs ((L - g : Nat) : Int) ((i + 1 : Nat) : Int) n l1 l2 = some true) :
    ∀ (d k j : Nat), j + d = (bitsL g).length → K + d < k → pr_AreGroups.l1 k os gs (L : Int) (i : Int) ((mskOf ((bitsL g).take j) : Nat) : Int) (j : Int) n l1 l2 = some true
  | 0, k + 1, j, hj, hk => by
    have hm := (msk_all ⟨g, hg⟩).1
    simp only [] at hm
    rw [pr_AreGroups.l1, if_pos (by omega), if_pos (by omega), rdL4 gs i hi, hat, if_neg (by omega), List.take_of_length_le (by omega), hm, if_neg (by omega), Together_f n l1 l2 os hck ho k g hg (by omega), Option.bind_some, if_pos hsum, andNot_sub hL hg hsub, w1 i (by omega)]
    exact hnext k (by omega)
  | d + 1, k + 1, j, hj, hk => by
    obtain ⟨z0, z1, z2, z3, z4, z5⟩ := z40 hck
    have hn : j < (bitsL g).length := by omega
    have hb6 := z45 g
    obtain ⟨w, hw⟩ : ∃ w : Nat, (bitsL g)[j] = (w : Int) := ⟨(bitsL g)[j].toNat, by have := (z54 g _).1 (List.getElem_mem hn); omega⟩
    have hmem := (z54 g _).1 (List.getElem_mem hn)
    rw [hw, Int.toNat_natCast] at hmem
    have hwn := hgn w (by omega) hmem.2.2
    obtain ⟨m1, m2⟩ := (msk_all ⟨g, hg⟩).2 ⟨j, by omega⟩ _ (List.getElem?_eq_getElem hn)
    simp only [] at m1 m2
    rw [hw, Int.toNat_natCast] at m1
    rw [hw] at m2
    have hbl := hsub w (by omega) hmem.2.2
    have hand := and_bit_all ⟨L, hL⟩ ⟨w, by omega⟩
    simp only [] at hand
    have hne : ¬ bits .and .i64 (L : Int) (wrap64 (2 ^ w)) = 0 := fun q => by rw [hand.1 q] at hbl; cases hbl
    have hwom : womanB n (w : Int) = true := by simp only [womanB, Bool.and_eq_true, decide_eq_true_eq]; omega
    have ih := AreGroups_l1 gs hgs i g L hi hat hg hg0 hL hsub hgn hsum K hK hnext d k (j + 1) (by omega) (by omega)
    rw [pr_AreGroups.l1, if_pos (by omega), if_pos (by omega), rdL4 gs i hi, hat, if_pos (by omega), if_pos (by omega), rdI' _ j hn, hw, In_f n _ z0 z1, Option.bind_some, if_pos hwom, u64_small w (by omega), shlS6 w (by omega), w1 j (by omega), m1]
    by_cases q : j = 0
    · rw [if_neg (by omega), if_pos (by omega), if_neg hne]
      exact ih
    · rw [if_pos (by omega), show wrap64 ((j : Int) - 1) = (j : Int) - 1 by unfold wrap64; omega, if_pos (by omega), if_pos (by omega), if_neg (m2 q), if_pos (by omega), if_neg hne]
      exact ih
theorem AreGroups_l0 : ∀ (rest pre : List Nat) (k L : Nat), gm (owedL (l1.map c91) os) = pre ++ rest → L < 64 → (∀ i, i < 6 → (bitN L i = true ↔ inG rest i ≠ 0)) → 10 * rest.length + 40 ≤ k →
    pr_AreGroups.l0 k os (groupsL (owedL (l1.map c91) os)) (L : Int) ((pre.length : Nat) : Int) n l1 l2 = some true
  | [], pre, k, L, hg, hL, hb, hk => by
    rw [List.append_nil] at hg
    obtain ⟨k, rfl⟩ : ∃ j, k = j + 1 := ⟨k - 1, by omega⟩
    have hz : L = 0 := by
      obtain ⟨q, _, _⟩ := bit_sub (a := L) (b := 0) hL (by omega) (fun i hi q => absurd rfl ((hb i hi).1 q))
      omega
    rw [pr_AreGroups.l0, if_neg (by rw [groupsL_gm, List.length_map, hg]; omega), hz]
    rfl
  | g :: rest, pre, k, L, hg, hL, hb, hk => by
    obtain ⟨k, rfl⟩ : ∃ j, k = j + 1 := ⟨k - 1, by omega⟩
    obtain ⟨z0, z1, z2, z3, z4, z5⟩ := z40 hck
    have hb6 := z45 g
    rw [List.length_cons] at hk
    obtain ⟨g1, g2, g3, g4⟩ := gm_spec (owedL (l1.map c91) os) (sum_open_owed n l1 l2 os hck ho)
    obtain ⟨q1, q2, q3⟩ := g1 g (by rw [hg]; simp)
    have hlen : pre.length < (groupsL (owedL (l1.map c91) os)).length := by rw [groupsL_gm, hg]; simp
    have hat : (groupsL (owedL (l1.map c91) os))[pre.length] = bitsL g := by
      simp only [groupsL_gm, hg]
      simp
    have hone : ∀ i, i < 6 → inG (g :: rest) i ≤ 1 := fun i hi => by
      have h1 := g2 i hi
      have h2 : inG (pre ++ g :: rest) i = inG pre i + inG (g :: rest) i := by simp [inG]
      rw [hg, h2] at h1
      split at h1 <;> omega
    have hsub : SubB g L := fun i hi q => (hb i hi).2 (by rw [inGc, if_pos q]; omega)
    obtain ⟨c1, c2, c3⟩ := bit_sub q1 hL hsub
    have hgn : ∀ w, w < 6 → bitN g w = true → (w : Int) < n := fun w hw hbw => by
      by_cases a : (w : Int) < n
      · exact a
      · have h1 := g2 w hw
        have h2 : inG (pre ++ g :: rest) w = inG pre w + inG (g :: rest) w := by simp [inG]
        rw [hg, h2, inGc, if_pos hbw] at h1
        have hz : rd (owedL (l1.map c91) os) (w : Int) = 0 := by
          have := owed_out n l1 l2 os hck ho (w : Int) (by omega) (by omega) l1.length (Nat.le_refl _)
          unfold owedL
          rw [List.length_map]
          exact this
        unfold openN at h1
        rw [openTo_bit _ 6 (by omega) w hw, hz] at h1
        simp at h1
    have hgl : (groupsL (owedL (l1.map c91) os)).length ≤ 64 := by rw [groupsL]; exact groups_len _ _ _ _
    rw [pr_AreGroups.l0, if_pos (by omega)]
    exact AreGroups_l1 n l1 l2 os hck ho (groupsL (owedL (l1.map c91) os)) hgl pre.length g L hlen hat q1 q2 hL hsub hgn q3 (10 * rest.length + 40) (by omega) (fun k' hk' => by
      have := AreGroups_l0 rest (pre ++ [g]) k' (L - g) (by rw [hg]; simp) (by omega) (fun i hi => by
        rw [c3 i hi, Bool.and_eq_true, hb i hi]
        have h1 := hone i hi
        rw [inGc] at h1 ⊢
        cases hbi : bitN g i
        · simp
        · rw [hbi, if_pos rfl] at h1
          simp
          omega) hk'
      rw [List.length_append] at this
      exact this) (bitsL g).length k 0 (by omega) (by omega)
theorem AreGroups_f (k : Nat) (hk : 200 ≤ k) : pr_AreGroups.f k n l1 l2 os (groupsL (owedL (l1.map c91) os)) = some true := by
  obtain ⟨g1, g2, g3, g4⟩ := gm_spec (owedL (l1.map c91) os) (sum_open_owed n l1 l2 os hck ho)
  have h64 := z49 (owedL (l1.map c91) os) 6
  have hF := F_bd (owedL (l1.map c91) os) (openN (owedL (l1.map c91) os))
  have hl : (gm (owedL (l1.map c91) os)).length ≤ 6 := by
    have h6 : (owedL (l1.map c91) os).length = 6 := z38 _ _ _
    have hp := all_pays (owedL (l1.map c91) os) h6 1000 (fun i hi => by have := owed_500 n l1 l2 os hck ho (i : Int); omega) (gm (owedL (l1.map c91) os)) g1
    have hb := z45 (openN (owedL (l1.map c91) os))
    have := hp.2.2
    rw [g3] at this
    omega
  unfold pr_AreGroups.f
  rw [Open_f n l1 l2 os hck ho k (by omega), Option.bind_some]
  exact AreGroups_l0 n l1 l2 os hck ho (gm (owedL (l1.map c91) os)) [] k (openN (owedL (l1.map c91) os)) rfl h64 (fun i hi => by
    rw [g2 i hi]
    by_cases q : bitN (openN (owedL (l1.map c91) os)) i = true <;> simp [q]) (by omega)
end
/-- The law holds at every slate and list. -/
theorem soapGroups_true (n : Int) (l1 : List S91) (l2 : List S94) (os : List Int) : pl_SoapGroups.f 7000 n l1 l2 os = some true := by
  unfold pl_SoapGroups.f
  rw [Thin_f, Option.bind_some]
  by_cases ht : l1.length ≤ 30 ∧ l2.length ≤ 30
  · rw [if_pos (by simpa using ht), pl_SoapGroups.j0]
    by_cases hl : (os.length : Int) > 30
    · rw [if_pos (by simpa using hl)]
      rfl
    · rw [if_neg (by simpa using hl), Slate_f 6999 n l1 l2 ht.1 ht.2 (by omega), Option.bind_some, list_f os (by omega), Option.bind_some, soap_Groups.f, Option.bind_some, pl_fault.f, Fault_f 6999 n l1 l2 (by omega), Option.bind_some, Option.bind_some]
      simp only []
      by_cases hc : checkS n (l1.map c91) (l2.map c94) = 0
      · obtain ⟨z0, z1, z2, z3, z4, z5⟩ := z40 hc
        rw [if_pos hc, AreOunces_f 6999 n l1 l2 os (by omega) (by omega), Option.bind_some, pl_SoapGroups.j1]
        by_cases ha : areB (l1.map c91) os = true
        · have ho := areB_small hc ha
          have hp : playE n (l1.map c91) (l2.map c94) os = 0 := by unfold playE; simp [hc, ha]
          have h64 : openN (owedL (l1.map c91) os) < 64 := z49 _ 6
          obtain ⟨g1, g2, g3, g4⟩ := gm_spec (owedL (l1.map c91) os) (sum_open_owed n l1 l2 os hc ho)
          have hl6 : (groupsL (owedL (l1.map c91) os)).length ≤ 6 := by
            have h6 : (owedL (l1.map c91) os).length = 6 := z38 _ _ _
            have hq := all_pays (owedL (l1.map c91) os) h6 1000 (fun i hi => by have := owed_500 n l1 l2 os hc ho (i : Int); omega) (gm (owedL (l1.map c91) os)) g1
            have hb := z45 (openN (owedL (l1.map c91) os))
            have := hq.2.2
            rw [g3] at this
            rw [groupsL_gm, List.length_map]
            omega
          rw [ha, if_neg (by simp), pl_SoapGroups.j2, if_pos hc, hp, if_pos rfl, if_pos rfl, Open_f n l1 l2 os hc ho 6997 (by omega), Option.bind_some, Most_f n l1 l2 os hc ho _ _ (Nat.le_refl _) h64 (sum_open_owed n l1 l2 os hc ho) 6997 (by omega), Option.bind_some]
          simp only []
          rw [if_pos (by rw [← g4, groupsL_gm, List.length_map]), small_f 6997 _ (by omega) (fun g hg => by
              rw [groupsL_gm] at hg
              obtain ⟨x, _, rfl⟩ := List.mem_map.1 hg
              have := z45 x
              omega) (by omega), Option.bind_some, if_pos rfl, AreGroups_f n l1 l2 os hc ho 6997 (by omega), Option.bind_some, if_pos rfl]
          rfl
        · have ha' : areB (l1.map c91) os = false := by simpa using ha
          have hp : playE n (l1.map c91) (l2.map c94) os = 2 := by unfold playE; simp [hc, ha']
          rw [ha', if_pos (by rfl), pl_SoapGroups.j2, if_neg (by decide), hp]
          rfl
      · have hp : playE n (l1.map c91) (l2.map c94) os = checkS n (l1.map c91) (l2.map c94) := by unfold playE; simp [hc]
        rw [if_neg hc, pl_SoapGroups.j1, if_neg (by simp), pl_SoapGroups.j2, if_neg hc, hp, if_neg hc, if_pos rfl]
        rfl
  · rw [if_neg (by simpa using ht), pl_SoapGroups.j0, if_pos rfl]
    rfl
end Go.Proofs.Ytncaadckehikpaa.Q
namespace Go.Proofs.Ytncaadckehikpaa.Q
open Go.RowKit Go.Proofs.YtncaadckehikpaaW.PrintWords Go.Proofs.YtncaadckehikpaaW.PrintLast Go.Proofs.YtncaadckehikpaaW.PrintMore
open Go.ChangeShapes Go.WideShapes Go.Deep Go.Joins
set_option linter.unusedVariables false
set_option linter.unusedSimpArgs false
theorem list2 {α : Type} {l : List α} (h : l.length = 2) : ∃ a b, l = [a, b] := by
  match l, h with
  | [a, b], _ => exact ⟨a, b, rfl⟩
theorem list3 {α : Type} {l : List α} (h : l.length = 3) : ∃ a b c, l = [a, b, c] := by
  match l, h with
  | [a, b, c], _ => exact ⟨a, b, c, rfl⟩
theorem list4 {α : Type} {l : List α} (h : l.length = 4) : ∃ a b c d, l = [a, b, c, d] := by
  match l, h with
  | [a, b, c, d], _ => exact ⟨a, b, c, d, rfl⟩
section
variable {H : Type} {enc : TypeId × Value → H} {w : World} {base : Nat} {spare : Nat → Bool} {held : Bool}
theorem cells_3 : Try.prog.cellsOf 3 = 1 := by kernel_rfl
theorem cells_46 : Try.prog.cellsOf 46 = 2 := by kernel_rfl
theorem cells_91 : Try.prog.cellsOf 91 = 4 := by kernel_rfl
theorem cells_94 : Try.prog.cellsOf 94 = 3 := by kernel_rfl
theorem cells_25 : Try.prog.cellsOf 25 = 3 := by kernel_rfl
theorem one25 : oneCellFields Try.prog #[{ name := "Women", type := 3, offset := 0, embedded := false, tag := "", pkgPath := "", byteOffset := 0 }, { name := "Entries", type := 22, offset := 1, embedded := false, tag := "", pkgPath := "", byteOffset := 8 }, { name := "Sayings", type := 23, offset := 2, embedded := false, tag := "", pkgPath := "", byteOffset := 32 }] = true := by kernel_rfl
/-- A range. -/
theorem open_46 {fuel : Nat} {cs : List Value} {x : DataW H × List MemPlace} (h : DataW.trod enc Try.prog w base spare held fuel 46 cs = some x) :
    ∃ a b : Int, cs = [.int .i64 a, .int .i64 b] := by
  obtain ⟨xs, n, _, _, hl, hlen, hf⟩ := DataW.trod_struct Try.underlying46 h
  rw [cells_46] at hl
  obtain ⟨c0, c1, rfl⟩ := list2 hl
  obtain ⟨y0, y1, rfl⟩ := list2 hlen
  have h0 := hf 0 _ rfl
  change DataW.trod enc Try.prog w base spare held n 3 (([c0, c1].drop 0).take (Try.prog.cellsOf 3)) = some y0 at h0
  rw [cells_3] at h0
  have h1 := hf 1 _ rfl
  change DataW.trod enc Try.prog w base spare held n 3 (([c0, c1].drop 1).take (Try.prog.cellsOf 3)) = some y1 at h1
  rw [cells_3] at h1
  obtain ⟨a, ha, _, _⟩ := DataW.trod_int Try.underlying3 h0
  obtain ⟨b, hb, _, _⟩ := DataW.trod_int Try.underlying3 h1
  have ha' : [c0] = _ := ha
  have hb' : [c1] = _ := hb
  simp only [List.cons.injEq, and_true] at ha' hb'
  exact ⟨a, b, by rw [ha', hb']⟩
/-- An entry. -/
theorem open_91 {fuel : Nat} {cs : List Value} {x : DataW H × List MemPlace} (h : DataW.trod enc Try.prog w base spare held fuel 91 cs = some x) :
    ∃ e : S91, cs = [.int .i64 e.f0, .int .i64 e.f1, .int .i64 e.f2.f0, .int .i64 e.f2.f1] := by
  obtain ⟨xs, n, _, _, hl, hlen, hf⟩ := DataW.trod_struct Try.underlying91 h
  rw [cells_91] at hl
  obtain ⟨c0, c1, c2, c3, rfl⟩ := list4 hl
  obtain ⟨y0, y1, y2, rfl⟩ := list3 hlen
  have h0 := hf 0 _ rfl
  change DataW.trod enc Try.prog w base spare held n 3 (([c0, c1, c2, c3].drop 0).take (Try.prog.cellsOf 3)) = some y0 at h0
  rw [cells_3] at h0
  have h1 := hf 1 _ rfl
  change DataW.trod enc Try.prog w base spare held n 3 (([c0, c1, c2, c3].drop 1).take (Try.prog.cellsOf 3)) = some y1 at h1
  rw [cells_3] at h1
  have h2 := hf 2 _ rfl
  change DataW.trod enc Try.prog w base spare held n 46 (([c0, c1, c2, c3].drop 2).take (Try.prog.cellsOf 46)) = some y2 at h2
  rw [cells_46] at h2
  obtain ⟨a, ha, _, _⟩ := DataW.trod_int Try.underlying3 h0
  obtain ⟨b, hb, _, _⟩ := DataW.trod_int Try.underlying3 h1
  obtain ⟨c, d, hc⟩ := open_46 h2
  have ha' : [c0] = _ := ha
  have hb' : [c1] = _ := hb
  have hc' : [c2, c3] = _ := hc
  simp only [List.cons.injEq, and_true] at ha' hb' hc'
  exact ⟨⟨a, b, ⟨c, d⟩⟩, by rw [ha', hb', hc'.1, hc'.2]⟩
/-- A saying. -/
theorem open_94 {fuel : Nat} {cs : List Value} {x : DataW H × List MemPlace} (h : DataW.trod enc Try.prog w base spare held fuel 94 cs = some x) :
    ∃ e : S94, cs = [.int .i64 e.f0, .int .i64 e.f1.f0, .int .i64 e.f1.f1] := by
  obtain ⟨xs, n, _, _, hl, hlen, hf⟩ := DataW.trod_struct Try.underlying94 h
  rw [cells_94] at hl
  obtain ⟨c0, c1, c2, rfl⟩ := list3 hl
  obtain ⟨y0, y1, rfl⟩ := list2 hlen
  have h0 := hf 0 _ rfl
  change DataW.trod enc Try.prog w base spare held n 3 (([c0, c1, c2].drop 0).take (Try.prog.cellsOf 3)) = some y0 at h0
  rw [cells_3] at h0
  have h1 := hf 1 _ rfl
  change DataW.trod enc Try.prog w base spare held n 46 (([c0, c1, c2].drop 1).take (Try.prog.cellsOf 46)) = some y1 at h1
  rw [cells_46] at h1
  obtain ⟨a, ha, _, _⟩ := DataW.trod_int Try.underlying3 h0
  obtain ⟨c, d, hc⟩ := open_46 h1
  have ha' : [c0] = _ := ha
  have hc' : [c1, c2] = _ := hc
  simp only [List.cons.injEq, and_true] at ha' hc'
  exact ⟨⟨a, ⟨c, d⟩⟩, by rw [ha', hc'.1, hc'.2]⟩
/-- A row whose elements open. -/
theorem open_row {α : Type} (d : Kd α) {t e : TypeId} (ht : Try.prog.underlying t = some (.slice e)) (hC : Try.prog.cellsOf e = d.sz)
    (ho : ∀ (fuel : Nat) (cs : List Value) (x : DataW H × List MemPlace), DataW.trod enc Try.prog w base spare held fuel e cs = some x → ∃ y : α, d.K w y cs)
    {fuel : Nat} {v : Value} {x : DataW H × List MemPlace} (h : DataW.trod enc Try.prog w base spare held fuel t [v] = some x) :
    ∃ (A : Option Addr) (c : Nat) (l : List α), v = .slice A l.length c ∧ Kd.C d w A l.length l ∧ l.length ≤ c := by
  rcases open_slice ht h with ⟨hcs, _⟩ | ⟨a, len, cap, m, n, D, Pl, hcs, hb, hl, hm, hmm, hx, hi⟩
  · simp only [List.cons.injEq, and_true] at hcs
    subst hcs
    exact ⟨none, 0, [], rfl, ⟨rfl, by simp, fun q => absurd q (by simp)⟩, by simp⟩
  · simp only [List.cons.injEq, and_true] at hcs
    subst hcs
    have hlm : len ≤ m := by rw [hmm]; split <;> omega
    have hcell : ∀ i : Nat, i < len → ∃ y : α, ∃ cs', w.cells? base (a.add (i * d.sz)) d.sz = some cs' ∧ d.K w y cs' := fun i hil => by
      obtain ⟨cs', h1, h2⟩ := hi i (by omega)
      rw [hC] at h1
      obtain ⟨y, hy⟩ := ho _ _ _ h2
      exact ⟨y, cs', h1, hy⟩
    have hsel : ∀ j, j ≤ len → ∃ l : List α, l.length = j ∧ ∀ (i : Nat) (y : α), l[i]? = some y → ∃ cs', w.cells? base (a.add (i * d.sz)) d.sz = some cs' ∧ d.K w y cs' := by
      intro j
      induction j with
      | zero => exact fun _ => ⟨[], rfl, fun i y hy => by simp at hy⟩
      | succ j ih =>
        intro hj
        obtain ⟨l, hll, hlr⟩ := ih (by omega)
        obtain ⟨y, cs', h1, h2⟩ := hcell j (by omega)
        refine ⟨l ++ [y], by simp [hll], fun i z hz => ?_⟩
        by_cases hij : i < j
        · rw [List.getElem?_append_left (by omega)] at hz
          exact hlr i z hz
        · rw [List.getElem?_append_right (by omega)] at hz
          have hi0 : i = j := by
            by_cases q : i - l.length = 0
            · omega
            · obtain ⟨q', hq'⟩ : ∃ q', i - l.length = q' + 1 := ⟨i - l.length - 1, by omega⟩
              rw [hq'] at hz
              simp at hz
          subst hi0
          rw [show i - l.length = 0 by omega] at hz
          simp only [List.getElem?_cons_zero, Option.some.injEq] at hz
          subst hz
          exact ⟨cs', h1, h2⟩
    obtain ⟨l, hll, hlr⟩ := hsel len (Nat.le_refl _)
    refine ⟨some a, cap, l, by rw [hll], ⟨rfl, ?_, fun _ => ⟨a, rfl, fun j p hp => ?_⟩⟩, by omega⟩
    · have : cap ≤ 9223372036854775807 := hm
      omega
    · obtain ⟨cs', h1, h2⟩ := hlr j p hp
      obtain ⟨_, hcl, hat⟩ := World.cells?_some h1
      refine ⟨cs', hcl, h2, fun i u hu => ?_⟩
      have hil : i < d.sz := by rw [← hcl]; exact (List.getElem?_eq_some_iff.1 hu).1
      rw [← Go.Deep.add_add, hat i hil, hu]
set_option maxRecDepth 100000 in
theorem open_list {r : Reach} {b0 : Nat} {v : Value} {d : DataW H} {p : List MemPlace} (hv : Value.okWide Try.prog w r b0 37 v) (h : DataW.Trod enc Try.prog w base spare held 37 v d p) :
    ∃ (A : Option Addr) (c : Nat) (l : List Int), v = .slice A l.length c ∧ Kd.C (Kd.int .i64) w A l.length l ∧ l.length ≤ c := by
  obtain ⟨a, len, cap, rfl⟩ := okWide_slice Try.underlying37 hv
  obtain ⟨fuel, hf⟩ := h
  exact open_row (Kd.int .i64) Try.underlying37 cells_3 (fun fuel cs x hx => by
    obtain ⟨a, ha, _, _⟩ := DataW.trod_int Try.underlying3 hx
    exact ⟨a, ha⟩) (show DataW.trod enc Try.prog w base spare held fuel 37 [.slice a len cap] = _ from hf)
set_option maxRecDepth 100000 in
theorem open_slate {r : Reach} {b0 : Nat} {v : Value} {d : DataW H} {p : List MemPlace} (hv : Value.okWide Try.prog w r b0 25 v) (h : DataW.Trod enc Try.prog w base spare held 25 v d p) :
    ∃ (n : Int) (A1 : Option Addr) (c1 : Nat) (l1 : List S91) (A2 : Option Addr) (c2 : Nat) (l2 : List S94), v = .agg #[.int .i64 n, .slice A1 l1.length c1, .slice A2 l2.length c2] ∧
      Kd.C k91 w A1 l1.length l1 ∧ l1.length ≤ c1 ∧ Kd.C k94 w A2 l2.length l2 ∧ l2.length ≤ c2 ∧ (Lit.int .i64 n).wf = true := by
  obtain ⟨v0, v1, v2, y0, y1, y2, n, rfl, _, _, h0, h1, h2⟩ := open_agg3 Try.underlying25 one25 cells_25 hv h
  obtain ⟨a, ha, _, hwf⟩ := DataW.trod_int Try.underlying3 h0
  simp only [List.cons.injEq, and_true] at ha
  subst ha
  obtain ⟨A1, c1, l1, rfl, q1, q2⟩ := open_row k91 Try.underlying22 cells_91 (fun fuel cs x hx => by
    obtain ⟨e, rfl⟩ := open_91 hx
    exact ⟨e, k91_mk w e⟩) h1
  obtain ⟨A2, c2, l2, rfl, q3, q4⟩ := open_row k94 Try.underlying23 cells_94 (fun fuel cs x hx => by
    obtain ⟨e, rfl⟩ := open_94 hx
    exact ⟨e, k94_mk w e⟩) h2
  exact ⟨a, A1, c1, l1, A2, c2, l2, rfl, q1, q2, q3, q4, hwf⟩
end
end Go.Proofs.Ytncaadckehikpaa.Q
namespace Go.Proofs.Ytncaadckehikpaa.soapGroups
open Go.ChangeShapes Go.WideShapes Go.ChangeAt Go.RowKit
set_option linter.unusedVariables false
theorem own : ownKnob Try.prog.godebug = none := by kernel_rfl
theorem laidOut : laidOutB Try.prog = true := by kernel_rfl
set_option maxRecDepth 100000 in
theorem lifted (os : Os) (started : os.Started) (H : Type) (enc : TypeId × Value → H) :
    ReturnsInHanded {} Try.checked os 4 .any (Rows.soapGroupsSpec.pre6 enc Try.prog Try.f4 Rows.soapGroupsRow.domain false) (Rows.soapGroupsSpec.post enc Try.prog Try.f4 false true false false) := by
  refine returnsInHanded_of_change_sized (C := Try.checked) own started (by kernel_rfl) Try.func4
    (ChangeSpec.witness6 (enc := enc) (C := Try.checked) false ⟨#[], #[.agg #[.int .i64 0, .slice none 0 0, .slice none 0 0], .slice none 0 0], []⟩ 8 (by kernel_rfl) (by kernel_rfl) (by kernel_rfl) (by kernel_rfl)) ?_
  intro W base args ds gs before hval0 hW hcnd hsz0 _
  have hval : ∀ (j : Nat) t v, Try.f4.params[j]? = some t → args[j]? = some v → Value.okWide Try.prog W .any base t v := hval0
  have hW' := hW
  obtain ⟨p, q, hA0, hV, rfl, hfz, hnd⟩ := hW
  have hA : DataW.TrodAll enc Try.prog W 0 (fun _ => true) true Try.f4.params.toList args.toList ds p := hA0
  rw [Try.params4] at hA hval
  obtain ⟨v0, vs0, d0, ds0, p0, q0, hargs, rfl, rfl, h0, r0⟩ := trodAll_cons hA
  obtain ⟨v1, vs1, d1, ds1, p1, q1, rfl, rfl, rfl, h1, r1⟩ := trodAll_cons r0
  obtain ⟨rfl, rfl, rfl⟩ := trodAll_nil r1
  obtain rfl : args = #[v0, v1] := by cases args; simp_all
  obtain ⟨rfl, rfl⟩ := trodVars_none hV
  have k0 := h0
  have lt0 : ∀ x ∈ p0, x.block < W.heap.size := by obtain ⟨m, hm⟩ := k0; exact DataW.trod_lt m _ _ _ hm
  obtain ⟨n0, A0a, c0a, l0a, A0b, c0b, l0b, rfl, hr0a, hc0a, hr0b, hc0b, hwf0⟩ := Q.open_slate (hval 0 25 v0 rfl rfl) h0
  have k1 := h1
  have lt1 : ∀ x ∈ p1, x.block < W.heap.size := by obtain ⟨m, hm⟩ := k1; exact DataW.trod_lt m _ _ _ hm
  obtain ⟨A1, c1, l1, rfl, hr1, hc1⟩ := Q.open_list (hval 1 37 v1 rfl rfl) h1
  clear hA0 hval0 hsz0
  refine (Q.pl_SoapGroups.calls 7000 n0 A0a c0a l0a A0b c0b l0b A1 c1 l1 true W hr0a hc0a hr0b hc0b hr1 hc1 (Q.soapGroups_true n0 l0a l0b l1)).mono fun e W' ⟨he, bel⟩ => ?_
  subst he
  exact ⟨_, rfl, _, _, _, [], _, [], hW', trodAll_mk1 (shut_bool Try.underlying4 _), (trodAll_cons_mk (Below.trod laidOut (by kernel_rfl) (of_decide_eq_true (by kernel_rfl)) k0 bel lt0) (trodAll_cons_mk (Below.trod laidOut (by kernel_rfl) (of_decide_eq_true (by kernel_rfl)) k1 bel lt1) trodAll_mk0)), rfl, bel.frame _, fun h => by cases h⟩
theorem over : Rows.soapGroupsRow.holds Try.pinned (OpenSpec.ofChange Rows.soapGroupsSpec) :=
  OpenClaim.holds_of_wide 4 Try.f4 rfl rfl rfl rfl rfl rfl rfl ⟨rfl, rfl, rfl, rfl, rfl⟩ rfl rfl rfl rfl rfl (by kernel_rfl) Try.func4 (by kernel_rfl)
    (of_decide_eq_true (by kernel_rfl)) (by unfold Func.isWrapper; first | (rw [if_pos (by decide +kernel)]; kernel_rfl) | (rw [if_neg (by decide +kernel)]; exact ⟨rfl, rfl⟩))
    (fun os started H enc _ => lifted os started H enc)
end Go.Proofs.Ytncaadckehikpaa.soapGroups
namespace Go.Proofs.Ytncaadckehikpaa
/-- The statement. -/
theorem soapGroups_holds : Rows.SoapGroupsSaid := soapGroups.over
end Go.Proofs.Ytncaadckehikpaa
