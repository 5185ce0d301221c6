/- A part of the proof: contracts of functions and plain facts (HMostRef2, Q17, Q18, Q29, HLLeaves, HMono, HPay0, HPay1, Q28, HLFewest, HPay2, Q12, Q19, HRef4, Q5, Q20, Q21, HPay3, HNth, HLMore0). No condition. -/
import Derived.Test.YtncaadckehikpaaM30
import Derived.Test.YtncaadckehikpaaM3
import Derived.Test.YtncaadckehikpaaM13
import Derived.Test.YtncaadckehikpaaM14
import Derived.Test.YtncaadckehikpaaM17
import Derived.Test.YtncaadckehikpaaM28
import Derived.Test.YtncaadckehikpaaM11
import Derived.Test.YtncaadckehikpaaM12
import Derived.Test.YtncaadckehikpaaM16
import Derived.Test.YtncaadckehikpaaM27
import Derived.Test.YtncaadckehikpaaM25
import Derived.Test.YtncaadckehikpaaM26
import Derived.Test.YtncaadckehikpaaM24
import Derived.Test.YtncaadckehikpaaM20
import Derived.Test.YtncaadckehikpaaM18
import Derived.Test.YtncaadckehikpaaM23
import Derived.Test.YtncaadckehikpaaM10
namespace Go.Proofs.Ytncaadckehikpaa.Q
open Go.RowKit Go.Proofs.YtncaadckehikpaaW.PrintWords Go.Proofs.YtncaadckehikpaaW.PrintLast Go.Proofs.YtncaadckehikpaaW.PrintMore
set_option linter.unusedVariables false
set_option linter.unusedSimpArgs false
set_option linter.unusedSectionVars false
/-- The first of some women. -/
def lowB (m : Nat) : Nat := ((List.range 6).find? (bitN m)).getD 0
set_option maxRecDepth 100000 in
theorem low_all : ∀ m : Fin 64, m.val ≠ 0 → bits .and .i64 (m.val : Int) (wrap64 (-(m.val : Int))) = ((2 ^ lowB m.val : Nat) : Int) ∧ lowB m.val < 6 ∧ bitN m.val (lowB m.val) = true := by decide +kernel
theorem low_spec {m : Nat} (h : m < 64) (h0 : m ≠ 0) : bits .and .i64 (m : Int) (wrap64 (-(m : Int))) = ((2 ^ lowB m : Nat) : Int) ∧ lowB m < 6 ∧ bitN m (lowB m) = true := low_all ⟨m, h⟩ h0
set_option maxRecDepth 100000 in
theorem and_low_all : ∀ g : Fin 64, ∀ f : Fin 6, (bits .and .i64 (g.val : Int) ((2 ^ f.val : Nat) : Int) = 0 ↔ bitN g.val f.val = false) := by decide +kernel
set_option maxRecDepth 100000 in
theorem sub_all : ∀ m : Fin 64, ∀ g : Fin 64, (∀ i : Fin 6, bitN g.val i.val = true → bitN m.val i.val = true) → bits .andNot .i64 (m.val : Int) (g.val : Int) = ((m.val - g.val : Nat) : Int) := by decide +kernel
theorem andNot_sub {m g : Nat} (hm : m < 64) (hg : g < 64) (h : SubB g m) : bits .andNot .i64 (m : Int) (g : Int) = ((m - g : Nat) : Int) := sub_all ⟨m, hm⟩ ⟨g, hg⟩ (fun i q => h i.val i.isLt q)
/-- The next group. -/
def nxt (m g : Nat) : Nat := (g - 1) &&& m
set_option maxRecDepth 100000 in
theorem nxt_all : ∀ m : Fin 64, ∀ g : Fin 64, g.val ≠ 0 → bits .and .i64 (wrap64 ((g.val : Int) - 1)) (m.val : Int) = ((nxt m.val g.val : Nat) : Int) ∧ nxt m.val g.val < g.val ∧ ∀ i : Fin 6, bitN (nxt m.val g.val) i.val = true → bitN m.val i.val = true := by decide +kernel
theorem nxt_spec {m g : Nat} (hm : m < 64) (hg : g < 64) (h0 : g ≠ 0) : bits .and .i64 (wrap64 ((g : Int) - 1)) (m : Int) = ((nxt m g : Nat) : Int) ∧ nxt m g < g ∧ SubB (nxt m g) m := by
  obtain ⟨a, b, c⟩ := nxt_all ⟨m, hm⟩ ⟨g, hg⟩ h0
  exact ⟨a, b, fun i hi q => c ⟨i, hi⟩ q⟩
theorem sub_and_all : ∀ m : Fin 64, ∀ x : Fin 64, (∀ i : Fin 6, bitN x.val i.val = true → bitN m.val i.val = true) → x.val &&& m.val = x.val := by decide +kernel
set_option maxRecDepth 100000 in
theorem nxt_le_all : ((List.range 64).all fun g => (List.range 64).all fun m => !(g &&& m == g) || (List.range g).all fun x => !(x &&& m == x) || decide (x ≤ nxt m g)) = true := by decide +kernel
theorem nxt_max {m g x : Nat} (hm : m < 64) (hg : g < 64) (hgm : SubB g m) (hx : SubB x m) (h : x < g) : x ≤ nxt m g := by
  have e : x &&& m = x := sub_and_all ⟨m, hm⟩ ⟨x, by omega⟩ (fun i q => hx i.val i.isLt q)
  have e2 : g &&& m = g := sub_and_all ⟨m, hm⟩ ⟨g, hg⟩ (fun i q => hgm i.val i.isLt q)
  have h1 := List.all_eq_true.1 nxt_le_all g (List.mem_range.2 hg)
  have h2 := List.all_eq_true.1 h1 m (List.mem_range.2 hm)
  rw [e2, beq_self_eq_true, Bool.not_true, Bool.false_or] at h2
  have h3 := List.all_eq_true.1 h2 x (List.mem_range.2 h)
  rw [e, beq_self_eq_true, Bool.not_true, Bool.false_or, decide_eq_true_eq] at h3
  exact h3
section
variable (n : Int) (l1 : List S91) (l2 : List S94) (os : List Int) (hck : checkS n (l1.map c91) (l2.map c94) = 0) (ho : Small (l1.map c91) os)
include hck ho
/-- A group that is tried: of the women, with the first one, summing to 0. -/
def Tried (v : List Int) (m f g : Nat) : Prop := SubB g m ∧ g ≠ 0 ∧ bitN g f = true ∧ sumN v g = 0
theorem Most_l0 (m : Nat) (hm : m < 64) (f : Nat) (hf : f < 6) (hmost : ∀ g, Tried (owedL (l1.map c91) os) m f g → g < 64 → ∀ k, 80 * m + 20 < k → pr_Most.f k n l1 l2 os ((m - g : Nat) : Int) = some (F (owedL (l1.map c91) os) (m - g))) :
    ∀ (b k g : Nat) (best : Int), g ≤ b → g < 64 → SubB g m → 80 * m + g + 22 < k → 0 ≤ best → best ≤ 64 →
      ∃ r, pr_Most.l0 k os (m : Int) ((2 ^ f : Nat) : Int) best (g : Int) n l1 l2 = some r ∧ best ≤ r ∧ (∀ x, x ≤ g → Tried (owedL (l1.map c91) os) m f x → 1 + F (owedL (l1.map c91) os) (m - x) ≤ r) ∧
        (r = best ∨ ∃ x, x ≤ g ∧ Tried (owedL (l1.map c91) os) m f x ∧ r = 1 + F (owedL (l1.map c91) os) (m - x))
  | b, 0, g, best, hb, hg, hs, hk, h0, h1 => by omega
  | b, k + 1, g, best, hb, hg, hs, hk, h0, h1 => by
    by_cases hz : g = 0
    · subst hz
      rw [pr_Most.l0, if_neg (by omega)]
      refine ⟨best, rfl, Int.le_refl _, fun x hx q => absurd (show x = 0 by omega) q.2.1, Or.inl rfl⟩
    · obtain ⟨b', rfl⟩ : ∃ b', b = b' + 1 := ⟨b - 1, by omega⟩
      obtain ⟨x1, x2, x3⟩ := nxt_spec hm hg hz
      have hcov : ∀ x, x ≤ g → Tried (owedL (l1.map c91) os) m f x → x = g ∨ x ≤ nxt m g := fun x hx q => by
        by_cases e : x = g
        · exact Or.inl e
        · exact Or.inr (nxt_max hm hg hs q.1 (by omega))
      rw [pr_Most.l0, if_pos (by omega), x1]
      have hl := and_low_all ⟨g, hg⟩ ⟨f, hf⟩
      simp only [] at hl
      by_cases hlow : bitN g f = true
      · rw [if_neg (fun q => by have := hl.1 q; rw [hlow] at this; cases this), Together_f n l1 l2 os hck ho k g hg (by omega), Option.bind_some]
        by_cases hsum : sumN (owedL (l1.map c91) os) g = 0
        · have ht : Tried (owedL (l1.map c91) os) m f g := ⟨hs, hz, hlow, hsum⟩
          have hbd := F_bd (owedL (l1.map c91) os) (m - g)
          rw [if_pos hsum, andNot_sub hm hg hs, hmost g ht hg k (by omega), Option.bind_some, show wrap64 (1 + F (owedL (l1.map c91) os) (m - g)) = 1 + F (owedL (l1.map c91) os) (m - g) by unfold wrap64; omega]
          have hmx : best ≤ mx best (1 + F (owedL (l1.map c91) os) (m - g)) ∧ 1 + F (owedL (l1.map c91) os) (m - g) ≤ mx best (1 + F (owedL (l1.map c91) os) (m - g)) ∧ (mx best (1 + F (owedL (l1.map c91) os) (m - g)) = best ∨ mx best (1 + F (owedL (l1.map c91) os) (m - g)) = 1 + F (owedL (l1.map c91) os) (m - g)) := by
            unfold mx; split <;> omega
          have hgm : 0 < g ∧ g ≤ m := ⟨by omega, (bit_sub hg hm hs).1⟩
          obtain ⟨r, r1, r2, r3, r4⟩ := Most_l0 m hm f hf hmost b' k (nxt m g) (mx best (1 + F (owedL (l1.map c91) os) (m - g))) (by omega) (by omega) x3 (by omega) (by omega) (by omega)
          refine ⟨r, r1, by omega, fun x hx q => ?_, ?_⟩
          · rcases hcov x hx q with e | e
            · rw [e]; omega
            · exact r3 x e q
          · rcases r4 with e | ⟨x, e1, e2, e3⟩
            · rcases hmx.2.2 with q | q
              · exact Or.inl (by omega)
              · exact Or.inr ⟨g, Nat.le_refl _, ht, by omega⟩
            · exact Or.inr ⟨x, by omega, e2, e3⟩
        · rw [if_neg hsum]
          obtain ⟨r, r1, r2, r3, r4⟩ := Most_l0 m hm f hf hmost b' k (nxt m g) best (by omega) (by omega) x3 (by omega) h0 h1
          refine ⟨r, r1, r2, fun x hx q => ?_, ?_⟩
          · rcases hcov x hx q with e | e
            · rw [e] at q; exact absurd q.2.2.2 hsum
            · exact r3 x e q
          · exact r4.imp id (fun ⟨x, e1, e2, e3⟩ => ⟨x, by omega, e2, e3⟩)
      · rw [if_pos (hl.2 (by simpa using hlow))]
        obtain ⟨r, r1, r2, r3, r4⟩ := Most_l0 m hm f hf hmost b' k (nxt m g) best (by omega) (by omega) x3 (by omega) h0 h1
        refine ⟨r, r1, r2, fun x hx q => ?_, ?_⟩
        · rcases hcov x hx q with e | e
          · rw [e] at q; exact absurd q.2.2.1 hlow
          · exact r3 x e q
        · exact r4.imp id (fun ⟨x, e1, e2, e3⟩ => ⟨x, by omega, e2, e3⟩)
/-- The reference's greatest number of groups of women who sum to 0. -/
theorem Most_f : ∀ (b m : Nat), m ≤ b → m < 64 → sumN (owedL (l1.map c91) os) m = 0 → ∀ k, 80 * m + 90 < k → pr_Most.f k n l1 l2 os (m : Int) = some (F (owedL (l1.map c91) os) m)
  | b, m, hb, hm, hs, 0, hk => by omega
  | b, m, hb, hm, hs, k + 1, hk => by
    by_cases hz : m = 0
    · subst hz
      rw [pr_Most.f, if_pos (show ((0 : Nat) : Int) = 0 from rfl)]
      rfl
    · obtain ⟨b', rfl⟩ : ∃ b', b = b' + 1 := ⟨b - 1, by omega⟩
      obtain ⟨y1, y2, y3⟩ := low_spec hm hz
      rw [pr_Most.f, if_neg (by omega), y1]
      obtain ⟨r, r1, r2, r3, r4⟩ := Most_l0 n l1 l2 os hck ho m hm (lowB m) y2 (fun g q hg k' hk' => by
        have h1 := bit_sub hg hm q.1
        have h2 := sumN_sub (owedL (l1.map c91) os) hg hm q.1
        have h3 := q.2.1
        have h4 := q.2.2.2
        exact Most_f b' (m - g) (by omega) (by omega) (by omega) k' (by omega)) m k m 0 (Nat.le_refl _) hm (SubB.refl m) (by omega) (Int.le_refl _) (by omega)
      rw [r1]
      refine congrArg some ?_
      obtain ⟨g, g1, g2, g3, g4, g5⟩ := F_with (owedL (l1.map c91) os) m m (lowB m) (Nat.le_refl _) hm y2 y3 hs
      have h1 := r3 g (bit_sub g1 hm g2).1 ⟨g2, ne_zero_of_bit g3, g3, g4⟩
      rcases r4 with e | ⟨x, e1, e2, e3⟩
      · have := F_bd (owedL (l1.map c91) os) (m - g)
        omega
      · have := Ftake6 (owedL (l1.map c91) os) hm (by omega) e2.1 e2.2.1 hs
        omega
end
end Go.Proofs.Ytncaadckehikpaa.Q
namespace Go.Proofs.Ytncaadckehikpaa.Q
open Go.RowKit Go.Proofs.YtncaadckehikpaaW.PrintWords Go.Proofs.YtncaadckehikpaaW.PrintLast Go.Proofs.YtncaadckehikpaaW.PrintMore
attribute [local go_sem] z32 z31 max_two min_two   -- for this text's walks alone
set_option linter.unusedVariables false
set_option linter.unusedSimpArgs false
/-! ### pr_All: function 41 -/
def pr_All.l0 : Nat → List Int → Int → Int → List (S91) → List (S94) → Option (List Int)
 | 0, _, _, _, _, _ => none
 | k + 1, x3, x4, x360000, x360001, x360002 => (pr_Many.f k x360000 x360001 x360002).bind fun t360 => (if x4 < t360 then ((pr_Nth.f k x360000 x360001 x360002 x4).bind fun t361 => ((pr_Right.f k x360000 x360001 x360002 t361).bind fun t364 => (if x3.length < 17592186044416 then (pr_All.l0 k (x3 ++ [t364]) (wrap64 (x4 + 1)) x360000 x360001 x360002) else (none)))) else (some x3))
def pr_All.f (k : Nat) (a0_0 : Int) (l0_1 : List (S91)) (l0_2 : List (S94)) : Option (List Int) := pr_All.l0 k ([] : List Int) 0 a0_0 l0_1 l0_2
/-! ### pr_Can: function 88 -/
def pr_Can.l0 : Nat → List Int → Int → Int → Option (Bool)
 | 0, _, _, _ => none
 | k + 1, x0, x1, x5 => if x5 < (x0.length : Int) then (if 0 ≤ x5 then (if (Go.bits .and .i64 (rd x0 x5) x1) = x1 then (some true) else (pr_Can.l0 k x0 x1 (wrap64 (x5 + 1)))) else (none)) else (some false)
def pr_Can.f (k : Nat) (l0 : List Int) (a1 : Int) : Option (Bool) := pr_Can.l0 k l0 a1 0
end Go.Proofs.Ytncaadckehikpaa.Q
namespace Go.Proofs.Ytncaadckehikpaa.Q
open Go.RowKit Go.Proofs.YtncaadckehikpaaW.PrintWords Go.Proofs.YtncaadckehikpaaW.PrintLast Go.Proofs.YtncaadckehikpaaW.PrintMore
attribute [local go_sem] z32 z31 max_two min_two   -- for this text's walks alone
set_option linter.unusedVariables false
set_option linter.unusedSimpArgs false
/-! ### pr_Before: function 97 -/
mutual
def pr_Before.l0 : Nat → List Int → List Int → Int → Option (Bool)
 | 0, _, _, _ => none
 | k + 1, x0, x1, x5 => if x5 < (x0.length : Int) then (pr_Before.j1 k x0 x1 x5 (decide (x5 < (x1.length : Int)))) else (pr_Before.j1 k x0 x1 x5 false)
def pr_Before.j1 : Nat → List Int → List Int → Int → Bool → Option (Bool)
 | 0, _, _, _, _ => none
 | k + 1, x0, x1, x5, x15 => if x15 = true then (if 0 ≤ x5 then (if x5 < (x0.length : Int) then (if x5 < (x1.length : Int) then (if (rd x0 x5) = (rd x1 x5) then (pr_Before.l0 k x0 x1 (wrap64 (x5 + 1))) else (some (decide ((rd x0 x5) < (rd x1 x5))))) else (none)) else (none)) else (none)) else (some (decide ((x0.length : Int) < (x1.length : Int))))
end
def pr_Before.f (k : Nat) (l0 : List Int) (l1 : List Int) : Option (Bool) := pr_Before.l0 k l0 l1 0
/-! ### pr_Shorter: function 63 -/
def pr_Shorter.f (k : Nat) (l0 : List Int) (l1 : List Int) : Option (Bool) := if (l0.length : Int) < (l1.length : Int) then (some true) else (if (l0.length : Int) = (l1.length : Int) then ((pr_Before.f k l0 l1).bind fun t372 => (some t372)) else (some false))
/-! ### pr_Leave: function 43 -/
def pr_Leave.l0 : Nat → List Int → List Int → Int → Int → List (S91) → List (S94) → Option (List Int)
 | 0, _, _, _, _, _, _ => none
 | k + 1, x1, x5, x6, x375000, x375001, x375002 => (pr_Full.f x375000 x375001 x375002).bind fun t379 => (if x6 ≤ t379 then ((pr_Bits.f k x6).bind fun t380 => ((pr_Shorter.f k t380 x5).bind fun t383 => (if t383 = true then ((pr_Full.f x375000 x375001 x375002).bind fun t384 => ((pr_Can.f k x1 (Go.bits .andNot .i64 t384 x6)).bind fun t385 => (if t385 = true then (pr_Leave.l0 k x1 t380 (wrap64 (x6 + 1)) x375000 x375001 x375002) else (pr_Leave.l0 k x1 x5 (wrap64 (x6 + 1)) x375000 x375001 x375002)))) else (pr_Leave.l0 k x1 x5 (wrap64 (x6 + 1)) x375000 x375001 x375002)))) else (some x5))
def pr_Leave.f (k : Nat) (a0_0 : Int) (l0_1 : List (S91)) (l0_2 : List (S94)) (l1 : List Int) : Option (List Int) := (pr_Full.f a0_0 l0_1 l0_2).bind fun t375 => ((pr_Bits.f k t375).bind fun t376 => (pr_Leave.l0 k l1 t376 0 a0_0 l0_1 l0_2))
/-! ### pr_First: function 44 -/
def pr_First.l0 : Nat → List Int → Int → Int → List (S91) → List (S94) → Option (Int)
 | 0, _, _, _, _, _ => none
 | k + 1, x1, x5, x387000, x387001, x387002 => if x5 < (x387002.length : Int) then (if 0 ≤ (IntKind.u64.wrap (x5)) then ((pr_Can.f k x1 (wrap64 ((shl .i64 2 (IntKind.u64.wrap (x5))) - 1))).bind fun t387 => (if t387 = true then (pr_First.l0 k x1 (wrap64 (x5 + 1)) x387000 x387001 x387002) else (some x5))) else (none)) else (some (-1))
def pr_First.f (k : Nat) (a0_0 : Int) (l0_1 : List (S91)) (l0_2 : List (S94)) (l1 : List Int) : Option (Int) := pr_First.l0 k l1 0 a0_0 l0_1 l0_2
end Go.Proofs.Ytncaadckehikpaa.Q
namespace Go.Proofs.Ytncaadckehikpaa.Q
open Go.RowKit Go.Proofs.YtncaadckehikpaaW.PrintWords Go.Proofs.YtncaadckehikpaaW.PrintLast Go.Proofs.YtncaadckehikpaaW.PrintMore
attribute [local go_sem] z32 z31 max_two min_two   -- for this text's walks alone
set_option linter.unusedVariables false
set_option linter.unusedSimpArgs false
/-! ### pl_SoapLeaves: function 6 -/
def pl_SoapLeaves.j0 : Nat → Int → Int → List Int → Bool → Int → List (S91) → List (S94) → Option (Bool)
 | 0, _, _, _, _, _, _, _ => none
 | k + 1, x3, x4, x8, x61, x389000, x389001, x389002 => if x61 = true then (some false) else ((pr_First.f k x389000 x389001 x389002 x8).bind fun t420 => (if t420 < 0 then (if x4 = 7 then (if x3 = 0 then ((pl_awake.f).bind fun t421 => (some t421)) else (some false)) else (some false)) else (if x4 = 0 then (if x3 = t420 then ((pl_awake.f).bind fun t422 => (some t422)) else (some false)) else (some false))))
def pl_SoapLeaves.f (k : Nat) (a0_0 : Int) (l0_1 : List (S91)) (l0_2 : List (S94)) : Option (Bool) := (pl_Thin.f a0_0 l0_1 l0_2).bind fun t389 => (if t389 = true then ((pl_Slate.f k a0_0 l0_1 l0_2).bind fun bt391 => ((soap_First.f bt391.1 bt391.2.1 bt391.2.2).bind fun bt398 => ((pl_Slate.f k a0_0 l0_1 l0_2).bind fun bt400 => ((soap_Leave.f bt400.1 bt400.2.1 bt400.2.2).bind fun bt407 => ((pl_fault.f k a0_0 l0_1 l0_2).bind fun t411 => (if t411 = 0 then ((pr_All.f k a0_0 l0_1 l0_2).bind fun t413 => (if bt407.2 = 0 then ((pr_Leave.f k a0_0 l0_1 l0_2 t413).bind fun t416 => ((pl_same.f k bt407.1 t416).bind fun t419 => (pl_SoapLeaves.j0 k bt398.1 bt398.2 t413 (!t419) a0_0 l0_1 l0_2))) else (pl_SoapLeaves.j0 k bt398.1 bt398.2 t413 true a0_0 l0_1 l0_2))) else (if bt398.2 = t411 then (if bt398.1 = 0 then (if bt407.2 = t411 then (if (bt407.1.length : Int) = 0 then ((pl_awake.f).bind fun t412 => (some t412)) else (some false)) else (some false)) else (some false)) else (some false)))))))) else ((pl_awake.f).bind fun t390 => (some t390)))
end Go.Proofs.Ytncaadckehikpaa.Q
namespace Go.Proofs.Ytncaadckehikpaa.Q
open Go.RowKit Go.Proofs.YtncaadckehikpaaW.PrintWords Go.Proofs.YtncaadckehikpaaW.PrintLast Go.Proofs.YtncaadckehikpaaW.PrintMore
set_option linter.unusedVariables false
set_option linter.unusedSimpArgs false
set_option linter.unusedSectionVars false
section
variable (l1 : List S122) (l2 : List S124) (hl : l2.length ≤ 5)
include hl
end
/-! All sets in the order of their lists. -/
section
variable (n : Int) (l1 : List S91) (l2 : List S94) (hck : checkS n (l1.map c91) (l2.map c94) = 0)
include hck
end
end Go.Proofs.Ytncaadckehikpaa.Q
namespace Go.Proofs.Ytncaadckehikpaa.Q
open Go.RowKit Go.Proofs.YtncaadckehikpaaW.PrintWords Go.Proofs.YtncaadckehikpaaW.PrintLast Go.Proofs.YtncaadckehikpaaW.PrintMore
set_option linter.unusedVariables false
set_option linter.unusedSimpArgs false
theorem askErr_zero {n : Int} {l1 : List S122} {l2 : List S124} (hck : checkS n l1 l2 = 0) (hne : truthsL l1 l2 ≠ []) : askErr n l1 l2 = 0 := by
  unfold truthsL at hne
  unfold askErr
  rw [if_pos hck, if_neg hne]
theorem askErr_false {n : Int} {l1 : List S122} {l2 : List S124} (hck : checkS n l1 l2 = 0) (hne : truthsL l1 l2 = []) : askErr n l1 l2 = 11 := by
  unfold truthsL at hne
  unfold askErr
  rw [if_pos hck, if_pos hne]
section
variable (n : Int) (l1 : List S91) (l2 : List S94) (hck : checkS n (l1.map c91) (l2.map c94) = 0)
include hck
end
end Go.Proofs.Ytncaadckehikpaa.Q
namespace Go.Proofs.Ytncaadckehikpaa.Q
open Go.RowKit Go.Proofs.YtncaadckehikpaaW.PrintWords Go.Proofs.YtncaadckehikpaaW.PrintLast Go.Proofs.YtncaadckehikpaaW.PrintMore
set_option linter.unusedVariables false
set_option linter.unusedSimpArgs false
end Go.Proofs.Ytncaadckehikpaa.Q
namespace Go.Proofs.Ytncaadckehikpaa.Q
open Go.RowKit Go.Proofs.YtncaadckehikpaaW.PrintWords Go.Proofs.YtncaadckehikpaaW.PrintLast Go.Proofs.YtncaadckehikpaaW.PrintMore
set_option linter.unusedVariables false
set_option linter.unusedSimpArgs false
end Go.Proofs.Ytncaadckehikpaa.Q
namespace Go.Proofs.Ytncaadckehikpaa.Q
open Go.RowKit Go.Proofs.YtncaadckehikpaaW.PrintWords Go.Proofs.YtncaadckehikpaaW.PrintLast Go.Proofs.YtncaadckehikpaaW.PrintMore
attribute [local go_sem] z32 z31 max_two min_two   -- for this text's walks alone
set_option linter.unusedVariables false
set_option linter.unusedSimpArgs false
/-! ### pl_SoapFewest: function 5 -/
def pl_SoapFewest.f (k : Nat) (a0_0 : Int) (l0_1 : List (S91)) (l0_2 : List (S94)) : Option (Bool) := (pl_Thin.f a0_0 l0_1 l0_2).bind fun t336 => (if t336 = true then ((pl_Slate.f k a0_0 l0_1 l0_2).bind fun bt338 => ((soap_Fewest.f bt338.1 bt338.2.1 bt338.2.2).bind fun bt345 => ((pl_sure.f k a0_0 l0_1 l0_2).bind fun bt349 => (if bt349.2 = 0 then (if bt345.2.2 = 0 then ((pr_Fewest.f k a0_0 l0_1 l0_2 bt349.1).bind fun bt353 => ((pl_to.f bt353.1 bt353.2).bind fun bt355 => (if (bt345.1 == bt355.1 && (bt345.2.1 == bt355.2)) = true then ((pl_awake.f).bind fun t357 => (some t357)) else (some false)))) else (some false)) else (if bt345.2.2 = bt349.2 then (if (bt345.1 == 0 && (bt345.2.1 == 0)) = true then ((pl_awake.f).bind fun t358 => (some t358)) else (some false)) else (some false)))))) else ((pl_awake.f).bind fun t337 => (some t337)))
end Go.Proofs.Ytncaadckehikpaa.Q
namespace Go.Proofs.Ytncaadckehikpaa.Q
open Go.RowKit Go.Proofs.YtncaadckehikpaaW.PrintWords Go.Proofs.YtncaadckehikpaaW.PrintLast Go.Proofs.YtncaadckehikpaaW.PrintMore
set_option linter.unusedVariables false
set_option linter.unusedSimpArgs false
set_option linter.unusedSectionVars false
theorem or_bits_all : ∀ n : Fin 6, ∀ a : Fin 64, a.val < 2 ^ n.val → ∀ i : Fin 6, bitN (a.val + 2 ^ n.val) i.val = (bitN a.val i.val || i.val == n.val) := by decide +kernel
theorem openTo_bit (v : List Int) : ∀ n, n ≤ 6 → ∀ i, i < 6 → bitN (openTo v n) i = (decide (i < n) && decide (rd v i ≠ 0))
  | 0, _, i, _ => by simp [openTo, bitN]
  | n + 1, hn, i, hi => by
    have ih := openTo_bit v n (by omega) i hi
    have hlt := z52 v n
    have h64 : (2 : Nat) ^ n ≤ 2 ^ 6 := Nat.pow_le_pow_right (by omega) (by omega)
    simp only [openTo]
    by_cases h : rd v (n : Int) ≠ 0
    · rw [if_pos h, or_bits_all ⟨n, by omega⟩ ⟨openTo v n, by omega⟩ hlt ⟨i, hi⟩, ih]
      by_cases e : i = n
      · subst e; simp [h]
      · have : (decide (i < n + 1)) = decide (i < n) := by
          by_cases q : i < n
          · simp [q, show i < n + 1 by omega]
          · simp [q, show ¬ i < n + 1 by omega]
        rw [this]; simp [e]
    · rw [if_neg h, ih]
      by_cases e : i = n
      · subst e; simp [h]
      · have : (decide (i < n + 1)) = decide (i < n) := by
          by_cases q : i < n
          · simp [q, show i < n + 1 by omega]
          · simp [q, show ¬ i < n + 1 by omega]
        rw [this]
/-- All women together. -/
def tot (v : List Int) : Int := rd v 0 + rd v 1 + rd v 2 + rd v 3 + rd v 4 + rd v 5
theorem sum_open (v : List Int) : sumN v (openN v) = tot v := by
  have h : ∀ i, i < 6 → (if bitN (openN v) i = true then rd v (i : Int) else 0) = rd v (i : Int) := fun i hi => by
    unfold openN
    rw [openTo_bit v 6 (by omega) i hi]
    by_cases q : rd v (i : Int) = 0
    · simp [q]
    · simp [q, hi]
  have hs : ∀ m n, sumTo v m (n + 1) = sumTo v m n + (if bitN m n = true then rd v (n : Int) else 0) := fun m n => by
    simp only [sumTo]
    split <;> omega
  unfold sumN tot
  rw [hs, hs, hs, hs, hs, hs, h 0 (by omega), h 1 (by omega), h 2 (by omega), h 3 (by omega), h 4 (by omega), h 5 (by omega)]
  simp only [sumTo]
  simp
section
variable (n : Int) (l1 : List S91) (l2 : List S94) (os : List Int) (hck : checkS n (l1.map c91) (l2.map c94) = 0) (ho : Small (l1.map c91) os)
include hck ho
theorem owed_out (w : Int) (hw : n ≤ w) (hw6 : w < 6) : ∀ i : Nat, i ≤ l1.length → rd (owedTo (l1.map c91) os i) w = 0
  | 0, _ => by
    obtain ⟨z0, z1, z2, z3, z4, z5⟩ := z34 hck
    obtain ⟨m, rfl⟩ : ∃ m : Nat, w = m := ⟨w.toNat, by omega⟩
    unfold rd owedTo
    rw [Int.toNat_natCast]
    rcases m with _ | _ | _ | _ | _ | _ | m <;> simp [List.getD]
  | i + 1, hi => by
    obtain ⟨z0, z1, z2, z3, z4, z5⟩ := z34 hck
    have he := z49 hck (i : Int) (by omega) (by rw [List.length_map]; omega)
    rw [owedTo_step (l1.map c91) os i w (by omega) (by omega) (by omega) (by omega) he.2.2.2.2.1 (by omega) hw6, if_neg (by omega), if_neg (by omega)]
    exact owed_out w hw hw6 i (by omega)
theorem tot_owed : ∀ i : Nat, i ≤ l1.length → tot (owedTo (l1.map c91) os i) = 0
  | 0, _ => by simp [tot, owedTo, rd, List.getD]
  | i + 1, hi => by
    obtain ⟨z0, z1, z2, z3, z4, z5⟩ := z34 hck
    have he := z49 hck (i : Int) (by omega) (by rw [List.length_map]; omega)
    have ih := tot_owed i (by omega)
    have st := fun (w : Int) (h0 : 0 ≤ w) (h6 : w < 6) => owedTo_step (l1.map c91) os i w (by omega) (by omega) (by omega) (by omega) he.2.2.2.2.1 h0 h6
    unfold tot at ih ⊢
    rw [st 0 (by omega) (by omega), st 1 (by omega) (by omega), st 2 (by omega) (by omega), st 3 (by omega) (by omega), st 4 (by omega) (by omega), st 5 (by omega) (by omega)]
    generalize (rd_T122 (l1.map c91) (i : Int)).f0 = a at he
    generalize (rd_T122 (l1.map c91) (i : Int)).f1 = b at he
    have ha : a = 0 ∨ a = 1 ∨ a = 2 ∨ a = 3 ∨ a = 4 ∨ a = 5 := by omega
    have hb : b = 0 ∨ b = 1 ∨ b = 2 ∨ b = 3 ∨ b = 4 ∨ b = 5 := by omega
    rcases ha with rfl | rfl | rfl | rfl | rfl | rfl <;> rcases hb with rfl | rfl | rfl | rfl | rfl | rfl <;> first | (exfalso; omega) | (simp; omega)
theorem sum_open_owed : sumN (owedL (l1.map c91) os) (openN (owedL (l1.map c91) os)) = 0 := by
  rw [sum_open]
  have := tot_owed n l1 l2 os hck ho l1.length (Nat.le_refl _)
  unfold owedL
  rw [List.length_map]
  exact this
theorem openTo_all : ∀ d : Nat, n.toNat + d ≤ 6 → openTo (owedL (l1.map c91) os) (n.toNat + d) = openTo (owedL (l1.map c91) os) n.toNat
  | 0, _ => rfl
  | d + 1, h => by
    obtain ⟨z0, z1, z2, z3, z4, z5⟩ := z34 hck
    have hz := owed_out n l1 l2 os hck ho ((n.toNat + d : Nat) : Int) (by omega) (by omega) l1.length (Nat.le_refl _)
    rw [show n.toNat + (d + 1) = (n.toNat + d) + 1 by omega, openTo, if_neg, openTo_all d (by omega)]
    unfold owedL
    rw [List.length_map]
    simpa using hz
theorem Open_l0 : ∀ (d k i : Nat), (i : Int) + d = n → d + 10 < k → pr_Open.l0 k os ((openTo (owedL (l1.map c91) os) i : Nat) : Int) i n l1 l2 = some ((openTo (owedL (l1.map c91) os) n.toNat : Nat) : Int)
  | 0, k + 1, i, hi, hk => by
    rw [pr_Open.l0, if_neg (by omega), show n.toNat = i by omega]
  | d + 1, k + 1, i, hi, hk => by
    obtain ⟨z0, z1, z2, z3, z4, z5⟩ := z34 hck
    have hb := z52 (owedL (l1.map c91) os) i
    have ih := Open_l0 d k (i + 1) (by omega) (by omega)
    rw [openTo] at ih
    rw [pr_Open.l0, if_pos (by omega), Owed_f k n l1 l2 os _ hck ho (by omega) (by omega) (by omega), Option.bind_some, w1 i (by omega), u64_small i (by omega), shlS6 i (by omega), if_pos (show (0 : Int) ≤ ((i : Nat) : Int) by omega), or_bit _ i (by omega) hb]
    by_cases h : rd (owedL (l1.map c91) os) (i : Int) = 0
    · rw [if_neg (by simpa using h)] at ih
      rw [if_pos h]
      exact ih
    · rw [if_pos h] at ih
      rw [if_neg h]
      exact ih
theorem Open_f (k : Nat) (hk : 20 ≤ k) : pr_Open.f k n l1 l2 os = some ((openN (owedL (l1.map c91) os) : Nat) : Int) := by
  obtain ⟨z0, z1, z2, z3, z4, z5⟩ := z34 hck
  have h := Open_l0 n l1 l2 os hck ho n.toNat k 0 (by omega) (by omega)
  have ha := openTo_all n l1 l2 os hck ho (6 - n.toNat) (by omega)
  rw [show n.toNat + (6 - n.toNat) = 6 by omega] at ha
  unfold openN
  rw [ha]
  exact h
theorem Payments_f (k : Nat) (hk : 6000 ≤ k) : pr_Payments.f k n l1 l2 os = some (payN (owedL (l1.map c91) os)) := by
  have h64 : openN (owedL (l1.map c91) os) < 64 := z52 _ 6
  have hF := F_bd (owedL (l1.map c91) os) (openN (owedL (l1.map c91) os))
  have hl := bitsL_length (openN (owedL (l1.map c91) os))
  unfold pr_Payments.f
  rw [Open_f n l1 l2 os hck ho k (by omega), Option.bind_some, Bits_f k _ h64 (by omega), Option.bind_some, Most_f n l1 l2 os hck ho _ _ (Nat.le_refl _) h64 (sum_open_owed n l1 l2 os hck ho) k (by omega), Option.bind_some, payN]
  refine congrArg some ?_
  unfold wrap64
  omega
end
section
variable (n : Int) (l1 : List S91) (l2 : List S94) (oss : List (List Int)) (hck : checkS n (l1.map c91) (l2.map c94) = 0) (ho : ∀ os ∈ oss, Small (l1.map c91) os) (hl : oss.length ≤ 2000)
include hck ho hl
end
end Go.Proofs.Ytncaadckehikpaa.Q
namespace Go.Proofs.Ytncaadckehikpaa.Q
open Go.RowKit Go.Proofs.YtncaadckehikpaaW.PrintWords Go.Proofs.YtncaadckehikpaaW.PrintLast Go.Proofs.YtncaadckehikpaaW.PrintMore
set_option linter.unusedVariables false
set_option linter.unusedSimpArgs false
end Go.Proofs.Ytncaadckehikpaa.Q
namespace Go.Proofs.Ytncaadckehikpaa.Q
open Go.RowKit Go.Proofs.YtncaadckehikpaaW.PrintWords Go.Proofs.YtncaadckehikpaaW.PrintLast Go.Proofs.YtncaadckehikpaaW.PrintMore
attribute [local go_sem] z32 z31 max_two min_two   -- for this text's walks alone
set_option linter.unusedVariables false
set_option linter.unusedSimpArgs false
/-! ### pl_list: function 30 -/
def pl_list.f (l0 : List Int) : Option (List Int) := (some (([] : List Int) : List Int)).bind fun y261 => (if y261.length + l0.length < 17592186044416 then (some (y261 ++ l0)) else (none))
/-! ### pr_AreOunces: function 32 -/
def pr_AreOunces.l0 : Nat → List Int → Int → Int → List (S91) → List (S94) → Option (Bool)
 | 0, _, _, _, _, _ => none
 | k + 1, x1, x5, x268000, x268001, x268002 => if x5 < (x1.length : Int) then (if 0 ≤ x5 then (if x5 < (x268001.length : Int) then ((pr_Is.f (rd x1 x5) ((rd_T91 x268001 x5).f2.f0) ((rd_T91 x268001 x5).f2.f1)).bind fun t270 => (if t270 = true then (pr_AreOunces.l0 k x1 (wrap64 (x5 + 1)) x268000 x268001 x268002) else (some false))) else (none)) else (none)) else (some true)
def pr_AreOunces.f (k : Nat) (a0_0 : Int) (l0_1 : List (S91)) (l0_2 : List (S94)) (l1 : List Int) : Option (Bool) := if (l1.length : Int) = (l0_1.length : Int) then (pr_AreOunces.l0 k l1 0 a0_0 l0_1 l0_2) else (some false)
end Go.Proofs.Ytncaadckehikpaa.Q
namespace Go.Proofs.Ytncaadckehikpaa.Q
open Go.RowKit Go.Proofs.YtncaadckehikpaaW.PrintWords Go.Proofs.YtncaadckehikpaaW.PrintLast Go.Proofs.YtncaadckehikpaaW.PrintMore
attribute [local go_sem] z32 z31 max_two min_two   -- for this text's walks alone
set_option linter.unusedVariables false
set_option linter.unusedSimpArgs false
/-! ### pr_IsTruth: function 66 -/
def pr_IsTruth.f (k : Nat) (a0_0 : Int) (l0_1 : List (S91)) (l0_2 : List (S94)) (l1 : List Int) : Option (Bool) := (pr_AreOunces.f k a0_0 l0_1 l0_2 l1).bind fun t1016 => (if t1016 = true then ((pr_Right.f k a0_0 l0_1 l0_2 l1).bind fun t1017 => ((pr_Full.f a0_0 l0_1 l0_2).bind fun t1018 => (some (t1017 == t1018)))) else (some false))
end Go.Proofs.Ytncaadckehikpaa.Q
namespace Go.Proofs.Ytncaadckehikpaa.Q
open Go.RowKit Go.Proofs.YtncaadckehikpaaW.PrintWords Go.Proofs.YtncaadckehikpaaW.PrintLast Go.Proofs.YtncaadckehikpaaW.PrintMore
set_option linter.unusedVariables false
set_option linter.unusedSimpArgs false
end Go.Proofs.Ytncaadckehikpaa.Q
namespace Go.Proofs.Ytncaadckehikpaa.Q
open Go.RowKit Go.Proofs.YtncaadckehikpaaW.PrintWords Go.Proofs.YtncaadckehikpaaW.PrintLast Go.Proofs.YtncaadckehikpaaW.PrintMore
attribute [local go_sem] z32 z31 max_two min_two   -- for this text's walks alone
set_option linter.unusedVariables false
set_option linter.unusedSimpArgs false
/-! ### pl_payments: function 51 -/
def pl_payments.l0 : Nat → List (S76) → List (S140) → Int → Option ((List (S140)))
 | 0, _, _, _ => none
 | k + 1, x0, x3, x4 => if x4 < (x0.length : Int) then (if 0 ≤ x4 then (if x3.length < 5864062014805 then (pl_payments.l0 k x0 (x3 ++ [(⟨(rd_T76 x0 x4).f0, (rd_T76 x0 x4).f1, (rd_T76 x0 x4).f2⟩ : S140)]) (wrap64 (x4 + 1))) else (none)) else (none)) else (some x3)
def pl_payments.f (k : Nat) (l0 : List (S76)) : Option ((List (S140))) := pl_payments.l0 k l0 ([] : List (S140)) 0
/-! ### pl_Payments: function 57 -/
def pl_Payments.l0 : Nat → List (S140) → List (S76) → Int → Option ((List (S76)))
 | 0, _, _, _ => none
 | k + 1, x0, x3, x4 => if x4 < (x0.length : Int) then (if 0 ≤ x4 then (if x3.length < 5864062014805 then (pl_Payments.l0 k x0 (x3 ++ [(⟨(rd_T140 x0 x4).f0, (rd_T140 x0 x4).f1, (rd_T140 x0 x4).f2⟩ : S76)]) (wrap64 (x4 + 1))) else (none)) else (none)) else (some x3)
def pl_Payments.f (k : Nat) (l0 : List (S140)) : Option ((List (S76))) := pl_Payments.l0 k l0 ([] : List (S76)) 0
end Go.Proofs.Ytncaadckehikpaa.Q
namespace Go.Proofs.Ytncaadckehikpaa.Q
open Go.RowKit Go.Proofs.YtncaadckehikpaaW.PrintWords Go.Proofs.YtncaadckehikpaaW.PrintLast Go.Proofs.YtncaadckehikpaaW.PrintMore
attribute [local go_sem] z32 z31 max_two min_two   -- for this text's walks alone
set_option linter.unusedVariables false
set_option linter.unusedSimpArgs false
/-! ### pr_ArePayments: function 50 -/
def pr_ArePayments.l0 : Nat → List (S140) → Int → Int → List (S91) → List (S94) → Option (Bool)
 | 0, _, _, _, _, _ => none
 | k + 1, x1, x5, x427000, x427001, x427002 => if x5 < (x1.length : Int) then (if 0 ≤ x5 then ((pr_ArePair.f x427000 x427001 x427002 ((rd_T140 x1 x5).f0) ((rd_T140 x1 x5).f1)).bind fun t429 => (if t429 = true then ((pr_In.f ((rd_T140 x1 x5).f2) 1 240).bind fun t431 => (if t431 = true then (pr_ArePayments.l0 k x1 (wrap64 (x5 + 1)) x427000 x427001 x427002) else (some false))) else (some false))) else (none)) else (some true)
def pr_ArePayments.f (k : Nat) (a0_0 : Int) (l0_1 : List (S91)) (l0_2 : List (S94)) (l1 : List (S140)) : Option (Bool) := pr_ArePayments.l0 k l1 0 a0_0 l0_1 l0_2
end Go.Proofs.Ytncaadckehikpaa.Q
namespace Go.Proofs.Ytncaadckehikpaa.Q
open Go.RowKit Go.Proofs.YtncaadckehikpaaW.PrintWords Go.Proofs.YtncaadckehikpaaW.PrintLast Go.Proofs.YtncaadckehikpaaW.PrintMore
attribute [local go_sem] z32 z31 max_two min_two   -- for this text's walks alone
set_option linter.unusedVariables false
set_option linter.unusedSimpArgs false
/-! ### pr_Settles: function 69 -/
mutual
def pr_Settles.l0 : Nat → List Int → List (S140) → Int → Int → List (S91) → List (S94) → Option (Bool)
 | 0, _, _, _, _, _, _ => none
 | k + 1, x1, x2, x7, x1081000, x1081001, x1081002 => if x7 < x1081000 then ((pr_Owed.f k x1081000 x1081001 x1081002 x1 x7).bind fun t1081 => (pr_Settles.l1 k x1 x2 x7 t1081 0 x1081000 x1081001 x1081002)) else (some true)
def pr_Settles.l1 : Nat → List Int → List (S140) → Int → Int → Int → Int → List (S91) → List (S94) → Option (Bool)
 | 0, _, _, _, _, _, _, _, _ => none
 | k + 1, x1, x2, x7, x8, x9, x1081000, x1081001, x1081002 => if x9 < (x2.length : Int) then (if 0 ≤ x9 then (if ((rd_T140 x2 x9).f0) = x7 then (if ((rd_T140 x2 x9).f1) = x7 then (pr_Settles.l1 k x1 x2 x7 (wrap64 ((wrap64 (x8 + ((rd_T140 x2 x9).f2))) - ((rd_T140 x2 x9).f2))) (wrap64 (x9 + 1)) x1081000 x1081001 x1081002) else (pr_Settles.l1 k x1 x2 x7 (wrap64 (x8 + ((rd_T140 x2 x9).f2))) (wrap64 (x9 + 1)) x1081000 x1081001 x1081002)) else (if ((rd_T140 x2 x9).f1) = x7 then (pr_Settles.l1 k x1 x2 x7 (wrap64 (x8 - ((rd_T140 x2 x9).f2))) (wrap64 (x9 + 1)) x1081000 x1081001 x1081002) else (pr_Settles.l1 k x1 x2 x7 x8 (wrap64 (x9 + 1)) x1081000 x1081001 x1081002))) else (none)) else (if x8 = 0 then (pr_Settles.l0 k x1 x2 (wrap64 (x7 + 1)) x1081000 x1081001 x1081002) else (some false))
end
def pr_Settles.f (k : Nat) (a0_0 : Int) (l0_1 : List (S91)) (l0_2 : List (S94)) (l1 : List Int) (l2 : List (S140)) : Option (Bool) := pr_Settles.l0 k l1 l2 0 a0_0 l0_1 l0_2
end Go.Proofs.Ytncaadckehikpaa.Q
namespace Go.Proofs.Ytncaadckehikpaa.Q
open Go.RowKit Go.Proofs.YtncaadckehikpaaW.PrintWords Go.Proofs.YtncaadckehikpaaW.PrintLast Go.Proofs.YtncaadckehikpaaW.PrintMore
set_option linter.unusedVariables false
set_option linter.unusedSimpArgs false
set_option linter.unusedSectionVars false
def c140 (p : S140) : S76 := ⟨p.f0, p.f1, p.f2⟩
section
variable (n : Int) (l1 : List S91) (l2 : List S94) (os : List Int) (hck : checkS n (l1.map c91) (l2.map c94) = 0) (ho : Small (l1.map c91) os) (l : List S140) (hl : l.length ≤ 1000) (hp : (l.map c140).all (payB n) = true)
include hck ho hl hp
end
section
variable (n : Int) (l1 : List S91) (l2 : List S94) (os : List Int) (hck : checkS n (l1.map c91) (l2.map c94) = 0) (ho : Small (l1.map c91) os)
include hck ho
end
end Go.Proofs.Ytncaadckehikpaa.Q
namespace Go.Proofs.Ytncaadckehikpaa.Q
open Go.RowKit Go.Proofs.YtncaadckehikpaaW.PrintWords Go.Proofs.YtncaadckehikpaaW.PrintLast Go.Proofs.YtncaadckehikpaaW.PrintMore
set_option linter.unusedVariables false
set_option linter.unusedSimpArgs false
set_option linter.unusedSectionVars false
theorem ready_f (k : Nat) (n : Int) (l1 : List S91) (l2 : List S94) (hk : 40 ≤ k) : pl_ready.f k n l1 l2 = some (decide (l1.length ≤ 30 ∧ l2.length ≤ 30) && decide (checkS n (l1.map c91) (l2.map c94) = 0)) := by
  unfold pl_ready.f
  rw [Thin_f, Option.bind_some]
  by_cases ht : l1.length ≤ 30 ∧ l2.length ≤ 30
  · rw [if_pos (by simpa using ht), pl_fault.f, Fault_f k n l1 l2 hk, Option.bind_some, Option.bind_some, decide_eq_true ht, Bool.true_and]
    by_cases h : checkS n (l1.map c91) (l2.map c94) = 0 <;> simp [h]
  · rw [if_neg (by simpa using ht), decide_eq_false ht, Bool.false_and]
end Go.Proofs.Ytncaadckehikpaa.Q
namespace Go.Proofs.Ytncaadckehikpaa.Q
open Go.RowKit Go.Proofs.YtncaadckehikpaaW.PrintWords Go.Proofs.YtncaadckehikpaaW.PrintLast Go.Proofs.YtncaadckehikpaaW.PrintMore
set_option linter.unusedVariables false
set_option linter.unusedSimpArgs false
theorem ready_split {n : Int} {l1 : List S91} {l2 : List S94} (k : Nat) (hk : 40 ≤ k) : pl_ready.f k n l1 l2 = some (decide (checkS n (l1.map c91) (l2.map c94) = 0)) := by
  rw [ready_f k n l1 l2 hk]
  by_cases h : checkS n (l1.map c91) (l2.map c94) = 0
  · obtain ⟨z0, z1, z2, z3, z4, z5⟩ := z34 h
    rw [decide_eq_true (show l1.length ≤ 30 ∧ l2.length ≤ 30 by omega), decide_eq_true h]
    rfl
  · rw [decide_eq_false h, Bool.and_false]
end Go.Proofs.Ytncaadckehikpaa.Q
