/- A part of the proof: contracts of functions and plain facts (HRound, HHead). No condition. -/
import Derived.RangeFuncNested
import Derived.RangeFuncBound
import Derived.RangeFuncCalls
import Derived.RangeFuncLeaves
import Derived.WalkKit
import Derived.OwnWalkIn
import Derived.TacticsInMore
import Derived.LoopNIn
import Derived.LoopIn
import Derived.StillTailTactics
import Derived.BigQuiet
import Derived.BigRegion
import Derived.BigRegionIn
import Derived.Deep.RegionHeld3
namespace Go.Proofs.Ytncaadckehikpaa.Q
open Go Go.RowKit
variable {P : Program} {ops : Array Oper} {n l : Nat}
/-- What stands behind a region: its end in the ordinary way alone. -/
def EndsBy (K : Act → World → Prop) : Exit → Act → World → Prop
  | .normal, a, w => K a w
  | _, _, _ => False
theorem not_lets (K : Act → World → Prop) : ¬ LetsOut (EndsBy K) := fun ⟨_, _, h⟩ => h
theorem EndsBy.mk {K : Act → World → Prop} {a : Act} {w : World} (h : K a w) : EndsBy K .normal a w := h
theorem calls_in_round {f : FuncId} {args : Array Value} {w : World} {R : Ending → World → Prop} (h : Calls P f args w R) : CallsIn (Fence.wide.inRound l) n P f args w R :=
  CallsIn.inRound l (callsIn_wide.2 h)
theorem rows_in_round {row : String} {args : Array Value} {w : World} {R : Value → World → Prop} (h : Rows P row args w R) : RowsIn (Fence.wide.inRound l) n P row args w R :=
  fun c cs _ => let ⟨v, w', r, s⟩ := h c cs; ⟨v, w', r, StepsIn.of_steps s |>.mono fun m _ => fenced_wide P m⟩
theorem wpIn_of_wp {o : Oper} (hd : ∀ c, o.op ≠ .defer c) {a : Act} {w : World} {K K' : Act → World → Prop} {Q : Exit → Act → World → Prop} (hK : ∀ a w, K a w → K' a w) 
    (h : o.wp P a w K Q) : o.wpIn (Fence.wide.inRound l) n P a w K' Q := by
  unfold Oper.wpIn
  refine ⟨fun _ _ => trivial, ?_⟩
  unfold Oper.wp at h
  rw [show (Fence.wide.inRound l).round = some l from rfl, Oper.semAt_some l _ _ hd]
  generalize (execOp a.eval o).run P w = r at h ⊢
  have hdep : (Fence.wide.inRound l).depth.isSome = true → 1 ≤ n := fun h => by cases h
  cases r with
  | ok x w' =>
    cases x <;> simp only [Oper.upon, Oper.uponIn] at h ⊢ <;>
      first
        | exact hK _ _ h
        | exact ⟨hdep, CallsIn.mono (calls_in_round h) (fun e w'' he => by cases e <;> first | exact hK _ _ he | exact he)⟩
        | exact ⟨hdep, RowsIn.mono (rows_in_round h) (fun _ _ he => hK _ _ he)⟩
        | exact h.elim
  | halt x w' => cases x <;> simp only [Oper.upon, Oper.uponIn] at h ⊢ <;> exact h
/-- No operation of a region is a defer statement. -/
def noDefer (ops : Array Oper) : Bool := ops.all fun o => match o.op with | .defer _ => false | _ => true
theorem noDefer_spec (h : noDefer ops = true) {i : Nat} {o : Oper} (hi : ops[i]? = some o) : ∀ c, o.op ≠ .defer c := by
  intro c hc
  unfold noDefer at h
  rw [Array.all_eq_true] at h
  obtain ⟨hl, he⟩ := Array.getElem?_eq_some_iff.1 hi
  have := h i hl
  rw [he, hc] at this
  cases this
theorem wpAnyIn_of {K : Act → World → Prop} (hd : noDefer ops = true) : ∀ (fuel : Nat) (listed : Array Bool) (a : Act) (w : World), wpAny P .any ops (EndsBy K) fuel listed a w → wpAnyIn (Fence.wide.inRound l) n P .any ops (EndsBy K) fuel listed a w := by
  intro fuel
  induction fuel with
  | zero => exact fun _ _ _ h => h
  | succ fuel ih =>
    intro listed a w h
    refine ⟨h.1, fun i hi => ?_⟩
    have h1 := h.2 i hi
    unfold wpOp at h1
    unfold wpOpIn
    split
    · rename_i ho
      simp only [ho] at h1
      exact ih _ _ _ h1
    · rename_i o ho
      simp only [ho] at h1
      split
      · rename_i hw
        rw [if_pos hw] at h1
        rcases h1 with h1 | h1
        · exact wpIn_of_wp (noDefer_spec hd ho) (fun a w => ih _ a w) h1
        · exact absurd h1.2 (not_lets K)
      · rename_i hw
        rw [if_neg hw] at h1
        exact ⟨fun _ _ => trivial, ih _ _ _ h1⟩
theorem region_in_round {id : Nat} {Q : Exit → Act → World → Prop} {a : Act} {w : World} {K : Act → World → Prop} (hm : P.follows .mixedOrders = true) (hd : noDefer ops = true) (hK : ∀ a w, K a w → Q .normal a w)
    (h : wpAny P .any ops (EndsBy K) ops.size (Array.replicate ops.size false) a { w with drawn := w.drawn + 1 }) : (Code.region id ops true).wpIn (Fence.wide.inRound l) n P Q a w :=
  wpIn_mono (wpIn_region_any hm (wpAnyIn_of hd _ _ _ _ h)) (fun e a w hq => by cases e <;> first | exact hK a w hq | exact hq.elim)
theorem round_region_held_drew {id : Nat} {Q : Exit → Act → World → Prop} {S : World → Prop} {a : Act} {w : World} (hm : P.follows .mixedOrders = true) (hd : noDefer ops = true) (hS : S w.drew)
    (h : S w.drew → wpAnyH P .any ops (EndsBy (Q .normal)) S ops.size (Array.replicate ops.size false) a w.drew) : (Code.region id ops true).wpIn (Fence.wide.inRound l) n P Q a w :=
  region_in_round (K := Q .normal) hm hd (fun _ _ h => h) (wpAny_of_held _ _ _ _ (h hS))
end Go.Proofs.Ytncaadckehikpaa.Q
namespace Go.Proofs.Ytncaadckehikpaa.Q
open Go Go.RowKit
set_option linter.unusedVariables false
set_option linter.unusedSimpArgs false
variable {P : Program} {md : Region.Mode} {Q : Exit → Act → World → Prop}
/-- The head's operations wait for earlier ones alone; each of the tail's waits for all of the head's. -/
def headB (md : Region.Mode) (ops : List Oper) (n : Nat) : Bool :=
  decide (n ≤ ops.length) && ((List.range n).all fun i => match ops[i]? with | none => false | some o => o.guard.isNone && o.after.all fun e => !Region.binds md e || decide (e.on < i)) &&
  ((List.range ops.length).all fun t => decide (t < n) || (List.range n).all fun i => Region.waitsFor md ops.toArray t i) &&
  Region.seqB md ops.toArray (ops.length - n) n (List.replicate n true ++ List.replicate (ops.length - n) false).toArray
theorem wpOp_head {ops : List Oper} {n i : Nat} (hi : i < n) (hn : n ≤ ops.length) (hg : ∀ o, ops[i]? = some o → o.guard = none) {K : Act → World → Prop} {K1 K2 : Act → World → Prop} {a : Act} {w : World} (h12 : ∀ a w, K1 a w → K2 a w)
    (h : wpOp P (ops.take n).toArray (EndsBy K) i K1 a w) : wpOp P ops.toArray Q i K2 a w := by
  unfold wpOp at h ⊢
  have he : (ops.take n).toArray[i]? = ops.toArray[i]? := by simp [List.getElem?_take, hi]
  rw [he] at h
  have hl : i < ops.length := by omega
  simp only [List.getElem?_toArray, List.getElem?_eq_getElem hl] at h ⊢
  have hgn := hg ops[i] (List.getElem?_eq_getElem hl)
  simp only [Region.wanted, hgn, if_true] at h ⊢
  rcases h with h | h
  · refine .inl ?_
    unfold Oper.wp at h ⊢
    generalize (execOp a.eval ops[i]).run P w = r at h ⊢
    cases r with
    | ok x w' =>
      cases x <;> simp only [Oper.upon] at h ⊢ <;>
        first
          | exact h12 _ _ h
          | exact Calls.mono h (fun e w'' he => by cases e <;> first | exact h12 _ _ he | exact he.elim | exact absurd he (not_lets K))
          | exact Rows.mono h (fun _ _ he => h12 _ _ he)
    | halt x w' => cases x <;> simp only [Oper.upon] at h ⊢ <;> exact h.elim
  · exact absurd h.2 (not_lets K)
theorem wpAny_head_tail {ops : List Oper} {n : Nat} (hB : headB md ops n = true) {K : Act → World → Prop} (hK : ∀ a w, K a w → wpList P ops.toArray Q (ops.drop n) a w) :
    ∀ (fuel : Nat) (L : List Bool) (a : Act) (w : World), L.length = n → L.count false = fuel → wpAny P md (ops.take n).toArray (EndsBy K) fuel L.toArray a w →
      wpAny P md ops.toArray Q (fuel + (ops.length - n)) (L ++ List.replicate (ops.length - n) false).toArray a w := by
  unfold headB at hB
  simp only [Bool.and_eq_true, decide_eq_true_eq, List.all_eq_true, List.mem_range, Bool.or_eq_true] at hB
  obtain ⟨⟨⟨hn, hfw⟩, htl⟩, hsq⟩ := hB
  have hgd : ∀ (L : List Bool), L.length = n → ∀ k, ((L ++ List.replicate (ops.length - n) false).toArray).getD k false = (L.toArray).getD k false := by
    intro L hL k
    simp only [Array.getD_eq_getD_getElem?, List.getElem?_toArray]
    rcases Nat.lt_or_ge k n with hk | hk
    · rw [List.getElem?_append_left (by omega)]
    · rw [List.getElem?_append_right (by omega), List.getElem?_eq_none (l := L) (by omega)]
      simp only [List.getElem?_replicate, Option.getD_none]
      split <;> rfl
  have hgt : ∀ (L : List Bool), L.length = n → ∀ k, k < n → ((L ++ List.replicate (ops.length - n) false).toArray).getD k true = (L.toArray).getD k true := by
    intro L hL k hk
    simp only [Array.getD_eq_getD_getElem?, List.getElem?_toArray]
    rw [List.getElem?_append_left (by omega)]
  have hready : ∀ (L : List Bool), L.length = n → ∀ j, j < n → (j ∈ Region.ready md ops.toArray (L ++ List.replicate (ops.length - n) false).toArray ↔ j ∈ Region.ready md (ops.take n).toArray L.toArray) := by
    intro L hL j hj
    rw [mem_ready, mem_ready, hgt L hL j hj]
    have he : (ops.take n).toArray[j]? = ops.toArray[j]? := by simp [List.getElem?_take, hj]
    rw [he]
    simp only [hgd L hL]
  have hsome : ∀ (L : List Bool), L.length = n → ∀ i, i < n → L[i]? = some false → ∃ j, j < n ∧ j ∈ Region.ready md (ops.take n).toArray L.toArray := by
    intro L hL i
    induction i using Nat.strongRecOn with
    | _ i ih =>
      intro hi hLi
      have hf := hfw i hi
      have hil : i < ops.length := by omega
      simp only [List.getElem?_eq_getElem hil] at hf
      rw [Bool.and_eq_true, Array.all_eq_true'] at hf
      by_cases hall : ∀ k, k < i → L[k]? = some true
      · refine ⟨i, hi, mem_ready.2 ⟨?_, ops[i], by simp [List.getElem?_take, hi, hil], ?_⟩⟩
        · simp [Array.getD_eq_getD_getElem?, hLi]
        · intro e he hb
          have := hf.2 e he
          rw [hb] at this
          simp at this
          simp [Array.getD_eq_getD_getElem?, hall e.on this]
      · have hex : ∃ k, k < i ∧ L[k]? ≠ some true := by
          by_cases hc : ∃ k, k < i ∧ L[k]? ≠ some true
          · exact hc
          · exact absurd (fun k hk => by
              by_cases h1 : L[k]? = some true
              · exact h1
              · exact absurd ⟨k, hk, h1⟩ hc) hall
        obtain ⟨k, hk, hkn⟩ := hex
        have hkl : k < L.length := by omega
        refine ih k hk (by omega) ?_
        rw [List.getElem?_eq_getElem hkl] at hkn ⊢
        cases hv : L[k] with
        | true => rw [hv] at hkn; exact absurd rfl hkn
        | false => rfl
  have htail : ∀ (L : List Bool), L.length = n → ∀ j, n ≤ j → j ∈ Region.ready md ops.toArray (L ++ List.replicate (ops.length - n) false).toArray → ∀ i, i < n → L[i]? = some true := by
    intro L hL j hj hr i hi
    obtain ⟨_, oj, hoj, hall⟩ := mem_ready.1 hr
    have hjl : j < ops.length := by
      have := (Array.getElem?_eq_some_iff.1 hoj).1
      simpa using this
    rcases htl j hjl with hlt | hw
    · omega
    · obtain ⟨o', ho', e, he, hb, hon⟩ := Region.waitsFor_spec (hw i hi)
      rw [hoj] at ho'
      obtain rfl := Option.some.inj ho'
      have := hall e he hb
      rw [hgd L hL, hon] at this
      have hil : i < L.length := by omega
      simp only [Array.getD_eq_getD_getElem?, List.getElem?_toArray, List.getElem?_eq_getElem hil] at this
      rw [List.getElem?_eq_getElem hil]
      simpa using this
  intro fuel
  induction fuel with
  | zero =>
    intro L a w hL hc h
    have hLt : L = List.replicate n true := by
      refine List.ext_getElem (by simp [hL]) (fun i h1 h2 => ?_)
      rw [List.getElem_replicate]
      cases hv : L[i] with
      | true => rfl
      | false =>
        have hm : false ∈ L := by rw [← hv]; exact List.getElem_mem h1
        have := List.count_pos_iff.2 hm
        omega
    have := wpAny_of_seq (P := P) (md := md) (Q' := Q) (ops := ops.toArray) (ops.drop n) n (L ++ List.replicate (ops.length - n) false).toArray a w (fun j => by simp [List.getElem?_drop]) (by rw [hLt, List.length_drop]; exact hsq) (hK a w h.2)
    rw [List.length_drop] at this
    simpa using this
  | succ fuel ih =>
    intro L a w hL hc h
    have hex : ∃ i, i < n ∧ L[i]? = some false := by
      have hm := List.count_pos_iff.1 (show 0 < L.count false by omega)
      obtain ⟨i, hi, he⟩ := List.getElem_of_mem hm
      exact ⟨i, by omega, by rw [List.getElem?_eq_getElem hi, he]⟩
    obtain ⟨i, hi, hLi⟩ := hex
    obtain ⟨j, hj, hjr⟩ := hsome L hL i hi hLi
    rw [show fuel + 1 + (ops.length - n) = (fuel + (ops.length - n)) + 1 by omega]
    refine ⟨fun h0 => ?_, fun k hk => ?_⟩
    · have := (hready L hL j hj).2 hjr
      rw [h0] at this
      cases this
    · have hkn : k < n := by
        rcases Nat.lt_or_ge k n with h1 | h1
        · exact h1
        · have := htail L hL k h1 hk i hi
          rw [hLi] at this
          cases this
      have hk1 := (hready L hL k hkn).1 hk
      have h2 := h.2 k hk1
      refine wpOp_head hkn hn (fun o ho => ?_) (fun a' w' h3 => ?_) h2
      · have hf := hfw k hkn
        rw [ho] at hf
        simp only [Bool.and_eq_true, Option.isNone_iff_eq_none] at hf
        exact hf.1
      · have hkl : k < L.length := by omega
        have hLk : L[k] = false := by
          have := (mem_ready.1 hk1).1
          simpa [Array.getD_eq_getD_getElem?, hkl] using this
        have h4 := ih (L.set k true) a' w' (by simp [hL]) (by rw [List.count_set hkl, hLk]; simp; omega) (by simpa using h3)
        have e5 : ((L ++ List.replicate (ops.length - n) false).toArray.setIfInBounds k true) = (L.set k true ++ List.replicate (ops.length - n) false).toArray := by
          rw [List.setIfInBounds_toArray, List.set_append_left _ _ hkl]
        rw [e5]
        exact h4
theorem wpAny_of_head_held {ops : List Oper} {n : Nat} {S : World → Prop} {a : Act} {w : World} (hB : headB .any ops n = true)
    (h : wpAnyH P .any (ops.take n).toArray (EndsBy (fun a w => wpList P ops.toArray Q (ops.drop n) a w)) S n (Array.replicate n false) a w) : wpAny P .any ops.toArray Q ops.toArray.size (Array.replicate ops.toArray.size false) a w := by
  have hn : n ≤ ops.length := by
    unfold headB at hB
    simp only [Bool.and_eq_true, decide_eq_true_eq] at hB
    exact hB.1.1.1
  have := wpAny_head_tail (Q := Q) (P := P) hB (K := fun a w => wpList P ops.toArray Q (ops.drop n) a w) (fun _ _ h => h) n (List.replicate n false) a w (by simp) (by simp) (by simpa using wpAny_of_held _ _ _ _ h)
  rw [show n + (ops.length - n) = ops.toArray.size by simp; omega, show List.replicate n false ++ List.replicate (ops.length - n) false = List.replicate ops.toArray.size false by rw [List.replicate_append_replicate]; congr 1; simp; omega] at this
  simpa using this
theorem round_region_head {l m : Nat} {id : Nat} {S : World → Prop} {ops : List Oper} {a : Act} {w : World} (n : Nat) (hm : P.follows .mixedOrders = true) (hd : noDefer ops.toArray = true) (hB : headB .any ops n = true) (hS : S w.drew)
    (h : S w.drew → wpAnyH P .any (ops.take n).toArray (EndsBy (fun a w => wpList P ops.toArray (EndsBy (Q .normal)) (ops.drop n) a w)) S n (Array.replicate n false) a w.drew) : (Code.region id ops.toArray true).wpIn (Fence.wide.inRound l) m P Q a w :=
  region_in_round (K := Q .normal) hm hd (fun _ _ h => h) (wpAny_of_head_held hB (h hS))
theorem plain_region_head {id : Nat} {S : World → Prop} {ops : List Oper} {a : Act} {w : World} (n : Nat) (hm : P.follows .mixedOrders = true) (hB : headB .any ops n = true) (hS : S w.drew)
    (h : S w.drew → wpAnyH P .any (ops.take n).toArray (EndsBy (fun a w => wpList P ops.toArray Q (ops.drop n) a w)) S n (Array.replicate n false) a w.drew) : (Code.region id ops.toArray true).wp P Q a w :=
  wp_region_any hm (wpAny_of_head_held hB (h hS))
theorem at_of_drop {α : Type} {xs : Array α} {i : Nat} {x : α} (h : (xs.toList.drop i).head? = some x) : xs[i]? = some x := by
  rw [List.head?_drop] at h
  simpa using h
/-- One operation of a held region, taken first. -/
theorem tk {ops : Array Oper} {S : World → Prop} {oi : Oper} {v : Value} {fuel : Nat} {listed : Array Bool} {a : Act} {w : World} (i : Nat) (hS : S w) (hi : (ops.toList.drop i).head? = some oi)
    (hb : (Region.noSelect ops && (Region.free md ops listed i && (Region.ready md ops listed).contains i)) = true) (hQ : ∀ c a w, Q (.panic c) (a.put oi.dst v) w → Q (.panic c) a w) (hy : YieldsIf P ops S oi v a)
    (h : wpAnyH P md ops Q S fuel (listed.setIfInBounds i true) (a.put oi.dst v) w) : wpAnyH P md ops Q S (fuel + 1) listed a w := by
  simp only [Bool.and_eq_true] at hb
  exact wpAnyH_take (at_of_drop hi) hb.1 hb.2.1 hb.2.2 hQ hy hS h
/-- One operation of a held region that may come up. -/
theorem cs {ops : Array Oper} {S : World → Prop} {fuel : Nat} {listed : Array Bool} {a : Act} {w : World} {i : Nat} {o : Oper} {rs : List Nat} (ho : (ops.toList.drop i).head? = some o)
    (h : ∀ K' : Act → World → Prop, Shut (∀ a w, S w → (S w → wpAnyH P md ops Q S fuel (listed.setIfInBounds i true) a w) → K' a w) → if Region.wanted o (yielded ops a.tmps) = true then Oper.wp P o a w K' Q else K' (a.put o.dst undef) w)
    (hs : AllReadyH P md ops Q S fuel listed a w rs) : AllReadyH P md ops Q S fuel listed a w (i :: rs) := AllReadyH.cons (at_of_drop ho) h hs
end Go.Proofs.Ytncaadckehikpaa.Q
