/- A part of the proof: contracts of functions and plain facts (HRange, HOunces, HBits, HSpot, HOpen, HGroups0, HEq). No condition. -/
import Derived.Shelf.Abstract
import Derived.Test.YtncaadckehikpaaM7
import Derived.Test.YtncaadckehikpaaM6
import Derived.Test.YtncaadckehikpaaM5
namespace Go.Proofs.Ytncaadckehikpaa.Q
open Go Go.RowKit Go.Proofs.YtncaadckehikpaaW.PrintWords Go.Proofs.YtncaadckehikpaaW.PrintLast Go.Proofs.YtncaadckehikpaaW.PrintMore
set_option linter.unusedVariables false
set_option linter.unusedSimpArgs false
/-- But for the loop's six blocks, and new ones, a world stays. -/
structure Zone6 (B : Nat) (W W' : World) : Prop where
  os : W'.os = W.os
  tape : W'.tape = W.tape
  output : W'.output = W.output
  size : W.heap.size ≤ W'.heap.size
  block : ∀ k, k < W.heap.size → ¬ (B ≤ k ∧ k < B + 6) → W'.heap[k]? = W.heap[k]?
theorem Zone6.of_below {B : Nat} {W W' : World} (h : Below W.heap.size W W') : Zone6 B W W' := ⟨h.os, h.tape, h.output, h.size, fun k hk _ => h.block k hk⟩
theorem Zone6.of_zone {B : Nat} {W W' : World} (h : Zone (B + 2) W W') : Zone6 B W W' := ⟨h.os, h.tape, h.output, h.size, fun k hk hn => h.block k hk (by omega)⟩
theorem Zone6.put {B l : Nat} (W : World) (o : Obj) (h : B ≤ l ∧ l < B + 6) : Zone6 B W (W.putObj l o) :=
  ⟨rfl, rfl, rfl, by simp, fun k _ hn => World.putObj_heap_other (fun e => hn (by rw [e]; exact h))⟩
theorem Zone6.trans {B : Nat} {X Y Z : World} (h : Zone6 B X Y) (k : Zone6 B Y Z) : Zone6 B X Z :=
  ⟨k.os.trans h.os, k.tape.trans h.tape, k.output.trans h.output, Nat.le_trans h.size k.size, fun i hi hn => (k.block i (by have := h.size; omega) hn).trans (h.block i hi hn)⟩
/-- What a round must keep: the loop's six blocks, and the slate's box. -/
structure KeepZ (B bs : Nat) (W W' : World) : Prop where
  size : W.heap.size ≤ W'.heap.size
  block : ∀ k, k < W.heap.size → (B ≤ k ∧ k < B + 6) ∨ k = bs → W'.heap[k]? = W.heap[k]?
/-- How the body of a round may be left. -/
def zonePost (w0 : World) (B bs : Nat) (I : List (List Int) → World → Prop) (Ix : Code → List (List Int) → World → Prop) (xs : List (List Int)) (W : World) : Exit → Act → World → Prop
  | .normal, _, W' => KeepZ B bs W W' ∧ Below w0.heap.size w0 W' ∧ I xs W'
  | .ret, _, W' => KeepZ B bs W W' ∧ Ix .ret xs W'
  | .exit id, _, W' => KeepZ B bs W W' ∧ Ix (.exit id) xs W'
  | .goto t, _, W' => KeepZ B bs W W' ∧ Ix (.goto t) xs W'
  | .panic _, _, _ => False
  | .outgrown, _, _ => False
/-- The activation behind the assignment to the loop's variable. -/
def roundAct (tmps : Array Value) (p q : Tmp) (v : Value) (bx : Nat) : Act := { tmps := (tmps.setIfInBounds p v).setIfInBounds q (.pointer (some ⟨bx, 0, none⟩)), defers := [] }
theorem range_ounces {g : Operand} {p : Tmp} {assign body : Code} {Q : Exit → Act → World → Prop} {a : Act} {w : World}
    (w0 : World) (bs : Nat) (n : Int) (A1 : Option Addr) (c1 : Nat) (l1 : List S122) (A2 : Option Addr) (c2 : Nat) (l2 : List S124) (hck : checkS n l1 l2 = 0)
    (hr1 : Kd.C k122 w0 A1 l1.length l1) (hc1 : l1.length ≤ c1) (hg : a.eval g = .func (.func 129) #[] #[.pointer (some ⟨bs, 0, none⟩)]) (hb0 : Below w0.heap.size w0 w)
    (hs : w.heap[bs]? = some (.cells #[.int .i64 n, .slice A1 l1.length c1, .slice A2 l2.length c2] 35 (0, 0)))
    (I : List (List Int) → World → Prop) (Ix : Code → List (List Int) → World → Prop) (hI : ∀ pre V V', I pre V → Zone6 w.heap.size V V' → I pre V') (hIx : ∀ c pre V V', Ix c pre V → Zone6 w.heap.size V V' → Ix c pre V')
    (h0 : I [] w) (q : Tmp)
    (hassign : ∀ (l : Nat) (os : List Int) (W : World) (K : Act → World → Prop), K (roundAct a.tmps p q (aggV (owedL l1 os)) W.heap.size) (W.alloc (.cells #[.int .i64 (rd (owedL l1 os) 0), .int .i64 (rd (owedL l1 os) 1), .int .i64 (rd (owedL l1 os) 2), .int .i64 (rd (owedL l1 os) 3), .int .i64 (rd (owedL l1 os) 4), .int .i64 (rd (owedL l1 os) 5)] 128)) →
      assign.wpIn (Fence.wide.inRound l) 2 Try.prog (Exit.then K (fun _ _ _ => False)) { tmps := a.tmps.setIfInBounds p (aggV (owedL l1 os)), defers := [] } W)
    (hbody : ∀ (l : Nat) (pre : List (List Int)) (os : List Int) (bx : Nat) (W : World), I pre W → Below w0.heap.size w0 W → os.length = l1.length → FitTo l1 os l1.length → pre ++ [os] <+: enumO [] l1 → w.heap.size + 6 ≤ bx →
      W.heap[bx]? = some (.cells #[.int .i64 (rd (owedL l1 os) 0), .int .i64 (rd (owedL l1 os) 1), .int .i64 (rd (owedL l1 os) 2), .int .i64 (rd (owedL l1 os) 3), .int .i64 (rd (owedL l1 os) 4), .int .i64 (rd (owedL l1 os) 5)] 128 (0, 0)) →
      body.wpIn (Fence.wide.inRound l) 2 Try.prog (zonePost w0 w.heap.size bs I Ix (pre ++ [os]) W) (roundAct a.tmps p q (aggV (owedL l1 os)) bx) W)
    (hdone : ∀ (W : World), I (enumO [] l1) W → W.heap[w.heap.size]? = some (.deferred (some [])) → Q .normal { a with defers := { target := .collected w.heap.size, args := #[] } :: a.defers } W)
    (hstop : ∀ (c : Code) (pre : List (List Int)) (W : World), pre <+: enumO [] l1 → Ix c pre W → W.heap[w.heap.size]? = some (.deferred (some [])) → c.wpIn Fence.wide 4 Try.prog Q { a with defers := { target := .collected w.heap.size, args := #[] } :: a.defers } W) :
    (Code.rangeFunc g #[p] assign body).wpIn Fence.wide 4 Try.prog Q a w := by
  refine wpIn_rangeFunc ?_
  intro fn hfn
  have hbs := z22 hs
  obtain ⟨rec, hrec⟩ : ∃ rec : LoopState → Option Code → Loop, rec = fun st pe => { state := st, pending := pe, fn, tmps := a.tmps, params := #[p], assign, body, defers := w.heap.size } := ⟨_, rfl⟩
  obtain ⟨W1, hW1⟩ : ∃ W1, (w.alloc (.deferred (some []))).alloc (.loop (rec .ready none)) = W1 := ⟨_, rfl⟩
  have hL1 : W1.heap[w.heap.size + 1]? = some (.loop (rec .ready none)) := by
    rw [← hW1]; have := World.alloc_heap_new (w.alloc (.deferred (some []))) (.loop (rec .ready none)); rwa [World.size_alloc] at this
  have hK1 : W1.heap[w.heap.size]? = some (.deferred (some [])) := by
    rw [← hW1]; exact (Below.heap_alloc _ _ _ (by simp)).trans (World.alloc_heap_new w _)
  have hsz : W1.heap.size = w.heap.size + 2 := by rw [← hW1]; simp
  have hbw : Below w.heap.size w W1 := by rw [← hW1]; exact z10 (z10 (Below.refl _ _) _) _
  have hI1 : I [] W1 := hI _ _ _ h0 (Zone6.of_below hbw)
  have hb1 : Below w0.heap.size w0 W1 := z16 hb0 hbw
  refine ⟨w.heap.size + 1, [{ target := .collected w.heap.size, args := #[] }], W1, { target := .fn (.func 129) #[.pointer (some ⟨bs, 0, none⟩)], args := #[.func (.yield (w.heap.size + 1)) #[] #[]] }, W1, 129,
    #[.func (.yield (w.heap.size + 1)) #[] #[]] ++ #[.pointer (some ⟨bs, 0, none⟩)], W1, ?_, ?_, ?_, ?_, (fun h => by cases h), ?_⟩
  · rw [← hW1, hrec]; exact run_enterLoop_outer _ _ _ _ _
  · simp only [resolve, hg]
    simp [go_sem]
  · intro f' hf'; exact trivial
  · have eg := Go.Proofs.enters_of (P := Try.prog) Try.func129 (by kernel_rfl) rfl
    simp [invoke, go_sem, eg]
  · refine (each_calls w0 W1 (w.heap.size + 1) bs n A1 c1 l1 A2 c2 l2 hck hr1 hc1 hb1 (blk_below hs hbw)
      (fun pre W => I pre W ∧ W.heap[w.heap.size + 1]? = some (.loop (rec .ready none)) ∧ W.heap[w.heap.size]? = some (.deferred (some [])))
      (fun pre W => ∃ c, Ix c pre W ∧ W.heap[w.heap.size + 1]? = some (.loop (rec .done (some c))) ∧ W.heap[w.heap.size]? = some (.deferred (some [])))
      (fun pre V V' h hz => by
        rw [hsz] at hz
        exact ⟨hI _ _ _ h.1 (Zone6.of_zone hz), (hz.block _ (z22 h.2.1) (by omega)).trans h.2.1, (hz.block _ (z22 h.2.2) (by omega)).trans h.2.2⟩)
      ?_ ⟨hI1, hL1, hK1⟩).mono ?_
    · rintro pre os W ⟨hi, hl, hk⟩ hit hol hfit hpre
      rw [hsz] at hit
      have hlt : w.heap.size + 1 < W.heap.size := z22 hl
      have hz6 : w.heap.size + 5 < W.heap.size := z22 hit.choose
      have hy := run_yield (P := Try.prog) (args := #[aggV (owedL l1 os)]) hl (by rw [hrec]; rfl)
      rw [hrec] at hy
      refine ⟨fn, _, assign, body, hy, roundIn_of_wpIn hfn ?_⟩
      obtain ⟨Wb, hWb⟩ : ∃ Wb, W.alloc (.cells #[.int .i64 (rd (owedL l1 os) 0), .int .i64 (rd (owedL l1 os) 1), .int .i64 (rd (owedL l1 os) 2), .int .i64 (rd (owedL l1 os) 3), .int .i64 (rd (owedL l1 os) 4), .int .i64 (rd (owedL l1 os) 5)] 128) = Wb := ⟨_, rfl⟩
      have hbb : Below W.heap.size W Wb := by rw [← hWb]; exact z10 (Below.refl _ _) _
      have hbx : Wb.heap[W.heap.size]? = some (.cells #[.int .i64 (rd (owedL l1 os) 0), .int .i64 (rd (owedL l1 os) 1), .int .i64 (rd (owedL l1 os) 2), .int .i64 (rd (owedL l1 os) 3), .int .i64 (rd (owedL l1 os) 4), .int .i64 (rd (owedL l1 os) 5)] 128 (0, 0)) := by rw [← hWb]; exact z19 W _
      have hl1 := blk_below hl hbb
      have hk1 := blk_below hk hbb
      have hit1 := hit.belowW hbb
      have hi1 := hI _ _ _ hi (Zone6.of_below hbb)
      have hlb : w.heap.size + 1 < Wb.heap.size := z22 hl1
      have hzip : ((#[p] : Array Tmp).zip #[aggV (owedL l1 os)]).foldl (fun (ts : Array Value) (pv : Tmp × Value) => ts.setIfInBounds pv.1 pv.2) a.tmps = a.tmps.setIfInBounds p (aggV (owedL l1 os)) := by simp
      have has := fun K => hassign (w.heap.size + 1) os W K
      rw [← hzip] at has
      refine has _ ?_
      rw [hWb]
      obtain ⟨W2, hW2⟩ : ∃ W2, Wb.putObj (w.heap.size + 1) (.loop { rec .ready none with state := .busy }) = W2 := ⟨_, rfl⟩
      refine ⟨W2, by rw [← hW2]; exact run_beginRound hl1 (by rw [hrec]), ?_⟩
      have o2 : ∀ k, k ≠ w.heap.size + 1 → W2.heap[k]? = Wb.heap[k]? := fun k hk => by rw [← hW2]; exact World.putObj_heap_other hk
      have sz2 : W2.heap.size = Wb.heap.size := by rw [← hW2]; simp
      have hl2 : W2.heap[w.heap.size + 1]? = some (.loop { rec .ready none with state := .busy }) := by rw [← hW2]; exact World.putObj_heap_same hlb
      have hk2 : W2.heap[w.heap.size]? = some (.deferred (some [])) := (o2 _ (by omega)).trans hk1
      have hi2 : I pre W2 := by rw [← hW2]; exact hI _ _ _ hi1 (Zone6.put _ _ ⟨by omega, by omega⟩)
      have hbw2 : Below w0.heap.size w0 W2 := by
        have h1 := hit1.below
        refine ⟨by rw [← hW2]; exact h1.os, by rw [← hW2]; exact h1.tape, by rw [← hW2]; exact h1.output, by rw [sz2]; exact h1.size, fun k hk => (o2 k (by have := hb0.size; omega)).trans (h1.block k hk)⟩
      have fin : ∀ (jump : Option Code) (W3 : World), KeepZ w.heap.size bs W2 W3 →
          (Instr.endRound (w.heap.size + 1) jump).run Try.prog W3 = .ok (.bool jump.isNone) (W3.putObj (w.heap.size + 1) (.loop (rec (if jump.isNone then .ready else .done) jump))) ∧
          w.heap.size + 1 < W3.heap.size ∧ W3.heap[w.heap.size]? = some (.deferred (some [])) := fun jump W3 hk3 => by
        have hl3 : W3.heap[w.heap.size + 1]? = _ := (hk3.block _ (by omega) (.inl ⟨by omega, by omega⟩)).trans hl2
        have := run_endRound (P := Try.prog) jump hl3
        rw [hrec] at this ⊢
        exact ⟨this, z22 hl3, (hk3.block _ (by omega) (.inl ⟨by omega, by omega⟩)).trans hk2⟩
      refine wpIn_mono (hbody (w.heap.size + 1) pre os W.heap.size W2 hi2 hbw2 hol hfit hpre (by omega) ((o2 _ (by omega)).trans hbx)) ?_
      rintro e a3 W3 hp
      cases e with
      | normal =>
        obtain ⟨hk3, hb3, hi3⟩ := hp
        obtain ⟨hr, hl3, hk4⟩ := fin none W3 hk3
        refine ⟨_, _, hr, true, rfl, fun _ => ⟨⟨hI _ _ _ hi3 (Zone6.put _ _ ⟨by omega, by omega⟩), World.putObj_heap_same hl3, (World.putObj_heap_other (by omega)).trans hk4⟩, ?_⟩, (fun h => by cases h)⟩
        rw [hsz]
        have hkk : ∀ k, k < Wb.heap.size → (w.heap.size ≤ k ∧ k < w.heap.size + 6) ∨ k = bs → k ≠ w.heap.size + 1 → ∀ o', (W3.putObj (w.heap.size + 1) o').heap[k]? = Wb.heap[k]? := fun k q1 q2 q3 o' =>
          (World.putObj_heap_other q3).trans ((hk3.block k (by omega) q2).trans (o2 k q3))
        have t1 := hit1.below
        have u1 := z22 hit1.slate
        have u2 := z22 hit1.yield
        have u3 := z22 hit1.row
        have u4 := z22 hit1.now
        have u5 := z22 hit1.choose
        refine ⟨⟨hb3.os, hb3.tape, hb3.output, by simpa using hb3.size, fun k hk => (World.putObj_heap_other (by have := hb0.size; omega)).trans (hb3.block k hk)⟩, ?_, ?_, ?_, ?_, ?_⟩
        · exact (hkk _ u1 (.inr rfl) (by omega) _).trans hit1.slate
        · exact (hkk _ u2 (.inl ⟨by omega, by omega⟩) (by omega) _).trans hit1.yield
        · exact (hkk _ u3 (.inl ⟨by omega, by omega⟩) (by omega) _).trans hit1.row
        · exact (hkk _ u4 (.inl ⟨by omega, by omega⟩) (by omega) _).trans hit1.now
        · exact (hkk _ u5 (.inl ⟨by omega, by omega⟩) (by omega) _).trans hit1.choose
      | ret =>
        obtain ⟨hk3, hi3⟩ := hp
        obtain ⟨hr, hl3, hk4⟩ := fin (some .ret) W3 hk3
        exact ⟨_, _, hr, false, rfl, (fun h => by cases h), fun _ => ⟨.ret, hIx _ _ _ _ hi3 (Zone6.put _ _ ⟨by omega, by omega⟩), World.putObj_heap_same hl3, (World.putObj_heap_other (by omega)).trans hk4⟩⟩
      | exit id =>
        obtain ⟨hk3, hi3⟩ := hp
        obtain ⟨hr, hl3, hk4⟩ := fin (some (.exit id)) W3 hk3
        exact ⟨_, _, hr, false, rfl, (fun h => by cases h), fun _ => ⟨.exit id, hIx _ _ _ _ hi3 (Zone6.put _ _ ⟨by omega, by omega⟩), World.putObj_heap_same hl3, (World.putObj_heap_other (by omega)).trans hk4⟩⟩
      | goto t =>
        obtain ⟨hk3, hi3⟩ := hp
        obtain ⟨hr, hl3, hk4⟩ := fin (some (.goto t)) W3 hk3
        exact ⟨_, _, hr, false, rfl, (fun h => by cases h), fun _ => ⟨.goto t, hIx _ _ _ _ hi3 (Zone6.put _ _ ⟨by omega, by omega⟩), World.putObj_heap_same hl3, (World.putObj_heap_other (by omega)).trans hk4⟩⟩
      | panic ch => exact hp.elim
      | outgrown => exact hp.elim
    · rintro e W2 ⟨⟨v, rfl⟩, (⟨hi, hl, hk⟩ | ⟨pre, hSp, c, hi, hl, hk⟩)⟩
      · refine ⟨none, _, by have := run_endLoop (P := Try.prog) hl (by rw [hrec]; simp); rw [hrec] at this; exact this, ?_⟩
        exact hdone _ (hI _ _ _ hi (Zone6.put _ _ ⟨by omega, by omega⟩)) ((World.putObj_heap_other (by omega)).trans hk)
      · refine ⟨some c, _, by have := run_endLoop (P := Try.prog) hl (by rw [hrec]; simp); rw [hrec] at this; exact this, ?_⟩
        exact hstop c pre _ hSp (hIx c _ _ _ hi (Zone6.put _ _ ⟨by omega, by omega⟩)) ((World.putObj_heap_other (by omega)).trans hk)
end Go.Proofs.Ytncaadckehikpaa.Q
namespace Go.Proofs.Ytncaadckehikpaa.Q
open Go.RowKit Go.Proofs.YtncaadckehikpaaW.PrintWords Go.Proofs.YtncaadckehikpaaW.PrintLast Go.Proofs.YtncaadckehikpaaW.PrintMore
set_option linter.unusedVariables false
set_option linter.unusedSimpArgs false
set_option maxRecDepth 100000 in
theorem ounces_calls (n : Int) (A1 : Option Addr) (c1 m1 : Nat) (A2 : Option Addr) (c2 m2 : Nat) (w : World) :
    Calls Try.prog 105 #[.agg #[.int .i64 n, .slice A1 m1 c1, .slice A2 m2 c2]] w fun e w' => e = .returned (.func (.func 129) #[] #[.pointer (some ⟨w.heap.size, 0, none⟩)]) ∧ w' = w.alloc (.cells #[.int .i64 n, .slice A1 m1 c1, .slice A2 m2 c2] 35) := by
  have hu35 := Try.underlying35
  go_enter Try.func105, Try.ntmps105
  go_wp2
  go_ret
  exact ⟨rfl, rfl⟩
end Go.Proofs.Ytncaadckehikpaa.Q
namespace Go.Proofs.Ytncaadckehikpaa.Q
open Go.RowKit Go.Proofs.YtncaadckehikpaaW.PrintWords Go.Proofs.YtncaadckehikpaaW.PrintLast Go.Proofs.YtncaadckehikpaaW.PrintMore
/-- Whether bit i of m is set; m without it; what the women of m are owed in sum. -/
def bitN (m i : Nat) : Bool := m / 2 ^ i % 2 == 1
def clr (m i : Nat) : Nat := if bitN m i then m - 2 ^ i else m
def sumTo (v : List Int) (m : Nat) : Nat → Int
  | 0 => 0
  | i + 1 => if bitN m i then sumTo v m i + rd v i else sumTo v m i
def sumN (v : List Int) (m : Nat) : Int := sumTo v m 6
/-- The greatest number of groups: the step, with what is known of fewer women. -/
def bestTo (f : Nat → Int) (m : Nat) : Nat → Int
  | 0 => 0
  | i + 1 => if bitN m i then mx (bestTo f m i) (f (clr m i)) else bestTo f m i
def Fk (v : List Int) : Nat → Nat → Int
  | 0, _ => 0
  | k + 1, m => if m = 0 then 0 else bestTo (Fk v k) m 6 + if sumN v m = 0 then 1 else 0
/-- The greatest number of groups of some women, one of whom after the other is left out. -/
def F (v : List Int) (m : Nat) : Int := Fk v m m
theorem bitN_le {m i : Nat} (h : bitN m i = true) : 2 ^ i ≤ m := by
  unfold bitN at h
  rcases Nat.lt_or_ge m (2 ^ i) with hl | hl
  · rw [Nat.div_eq_of_lt hl] at h; cases h
  · exact hl
theorem clr_lt {m i : Nat} (h : bitN m i = true) : clr m i < m := by
  have := bitN_le h
  have h2 : 0 < 2 ^ i := Nat.two_pow_pos i
  unfold clr
  rw [if_pos h]
  omega
theorem bestTo_congr {f g : Nat → Int} {m : Nat} (h : ∀ i, bitN m i = true → f (clr m i) = g (clr m i)) : ∀ n, bestTo f m n = bestTo g m n
  | 0 => rfl
  | n + 1 => by
    simp only [bestTo]
    rw [bestTo_congr h n]
    by_cases hb : bitN m n = true
    · rw [if_pos hb, if_pos hb, h n hb]
    · rw [if_neg hb, if_neg hb]
theorem Fk_stable (v : List Int) : ∀ k m, m ≤ k → Fk v k m = F v m := by
  intro k
  induction k using Nat.strongRecOn with
  | _ k ih =>
    intro m hm
    unfold F
    cases m with
    | zero => cases k <;> simp [Fk]
    | succ m =>
      cases k with
      | zero => omega
      | succ k =>
        simp only [Fk]
        rw [bestTo_congr (f := Fk v k) (g := Fk v m) (fun i hb => ?_)]
        have h1 := clr_lt hb
        rw [ih k (by omega) _ (by omega)]
        by_cases h2 : m = k
        · subst h2; rw [ih m (by omega) _ (by omega)]
        · rw [ih m (by omega) _ (by omega)]
theorem F_zero (v : List Int) : F v 0 = 0 := rfl
theorem F_step (v : List Int) (m : Nat) (h : m ≠ 0) : F v m = bestTo (F v) m 6 + if sumN v m = 0 then 1 else 0 := by
  obtain ⟨k, rfl⟩ := Nat.exists_eq_succ_of_ne_zero h
  show Fk v (k + 1) (k + 1) = _
  simp only [Fk, if_neg h]
  rw [bestTo_congr (f := Fk v k) (g := F v) (fun i hb => Fk_stable v k _ (by have := clr_lt hb; omega))]
theorem bestTo_bd {f : Nat → Int} {m : Nat} {b : Int} (hb : 0 ≤ b) (h : ∀ i, bitN m i = true → 0 ≤ f (clr m i) ∧ f (clr m i) ≤ b) : ∀ n, 0 ≤ bestTo f m n ∧ bestTo f m n ≤ b
  | 0 => ⟨by simp [bestTo], by simp [bestTo]; exact hb⟩
  | n + 1 => by
    have ih := bestTo_bd hb h n
    simp only [bestTo]
    split
    · rename_i hbit
      have := h n hbit
      unfold mx
      split <;> omega
    · exact ih
theorem F_bd (v : List Int) : ∀ m, 0 ≤ F v m ∧ F v m ≤ m := by
  intro m
  induction m using Nat.strongRecOn with
  | _ m ih =>
    by_cases h : m = 0
    · subst h; rw [F_zero]; omega
    · rw [F_step v m h]
      have := bestTo_bd (f := F v) (m := m) (b := (m : Int) - 1) (by omega) (fun i hb => by
        have h1 := clr_lt hb
        have h2 := ih _ h1
        omega) 6
      split <;> omega
theorem sumTo_bd (v : List Int) (b : Int) (hv : ∀ j, -b ≤ rd v j ∧ rd v j ≤ b) (m : Nat) : ∀ n : Nat, -(b * n) ≤ sumTo v m n ∧ sumTo v m n ≤ b * n
  | 0 => by simp [sumTo]
  | n + 1 => by
    have ih := sumTo_bd v b hv m n
    have h := hv n
    have hb : b * ((n + 1 : Nat) : Int) = b * n + b := by rw [Int.natCast_succ, Int.mul_add, Int.mul_one]
    rw [hb]
    simp only [sumTo]
    split <;> omega
/-- The test of a bit, as the walk spells it. -/
theorem bit_test (m : Nat) (k : Nat) : (((m : Int) / 2 ^ k).tmod 2 == 1) = bitN m k := by
  have h1 : ((m : Int) / 2 ^ k) = ((m / 2 ^ k : Nat) : Int) := by simp
  rw [h1]
  unfold bitN
  generalize m / 2 ^ k = p
  have h2 : (p : Int).tmod 2 = ((p % 2 : Nat) : Int) := by
    rw [Int.tmod_eq_emod_of_nonneg (Int.natCast_nonneg p)]; omega
  rw [h2]
  generalize p % 2 = q
  rw [Bool.eq_iff_iff]
  simp only [beq_iff_eq]
  omega
set_option maxRecDepth 100000 in
theorem or_bit_all : ∀ k : Fin 6, ∀ a : Fin 64, a.val < 2 ^ k.val → bits BinOp.or IntKind.i64 (a.val : Int) (wrap64 (2 ^ k.val)) = ((a.val + 2 ^ k.val : Nat) : Int) := by decide +kernel
set_option maxRecDepth 100000 in
theorem andNot_bit_all : ∀ k : Fin 6, ∀ a : Fin 64, bits BinOp.andNot IntKind.i64 (a.val : Int) (wrap64 (2 ^ k.val)) = ((clr a.val k.val : Nat) : Int) := by decide +kernel
theorem pow_lt_64 {k : Nat} (h : k < 6) : 2 ^ k ≤ 32 := by
  have : k = 0 ∨ k = 1 ∨ k = 2 ∨ k = 3 ∨ k = 4 ∨ k = 5 := by omega
  rcases this with rfl | rfl | rfl | rfl | rfl | rfl <;> decide
theorem or_bit (a k : Nat) (hk : k < 6) (h : a < 2 ^ k) : bits BinOp.or IntKind.i64 (a : Int) (wrap64 (2 ^ k)) = ((a + 2 ^ k : Nat) : Int) :=
  or_bit_all ⟨k, hk⟩ ⟨a, by have := pow_lt_64 hk; omega⟩ h
theorem andNot_bit (a k : Nat) (hk : k < 6) (h : a < 64) : bits BinOp.andNot IntKind.i64 (a : Int) (wrap64 (2 ^ k)) = ((clr a k : Nat) : Int) := andNot_bit_all ⟨k, hk⟩ ⟨a, h⟩
end Go.Proofs.Ytncaadckehikpaa.Q
namespace Go.Proofs.Ytncaadckehikpaa.Q
open Go.RowKit Go.Proofs.YtncaadckehikpaaW.PrintWords Go.Proofs.YtncaadckehikpaaW.PrintLast Go.Proofs.YtncaadckehikpaaW.PrintMore
set_option linter.unusedVariables false
set_option linter.unusedSimpArgs false
/-- A purse's block: what all women are owed, and the map's block. -/
def PurseAt (W : World) (g mb : Nat) (v : List Int) : Prop :=
  W.heap[g]? = some (.cells #[.int .i64 (rd v 0), .int .i64 (rd v 1), .int .i64 (rd v 2), .int .i64 (rd v 3), .int .i64 (rd v 4), .int .i64 (rd v 5), .map (some mb)] 157 (0, 0))
theorem PurseAt.cells {W : World} {g mb : Nat} {v : List Int} (h : PurseAt W g mb v) :
    W.cell? ⟨g, 0, none⟩ = some (.int .i64 (rd v 0)) ∧ W.cell? ⟨g, 1, none⟩ = some (.int .i64 (rd v 1)) ∧ W.cell? ⟨g, 2, none⟩ = some (.int .i64 (rd v 2)) ∧ W.cell? ⟨g, 3, none⟩ = some (.int .i64 (rd v 3)) ∧ W.cell? ⟨g, 4, none⟩ = some (.int .i64 (rd v 4)) ∧ W.cell? ⟨g, 5, none⟩ = some (.int .i64 (rd v 5)) ∧ W.cell? ⟨g, 6, none⟩ = some (.map (some mb)) :=
  ⟨(z12 h 0).trans rfl, (z12 h 1).trans rfl, (z12 h 2).trans rfl, (z12 h 3).trans rfl, (z12 h 4).trans rfl, (z12 h 5).trans rfl, (z12 h 6).trans rfl⟩
theorem six_cases {k : Int} (h0 : 0 ≤ k) (h : k < 6) : k = 0 ∨ k = 1 ∨ k = 2 ∨ k = 3 ∨ k = 4 ∨ k = 5 := by omega
theorem PurseAt.cellAt {W : World} {g mb : Nat} {v : List Int} (h : PurseAt W g mb v) (k : Int) (h0 : 0 ≤ k) (h6 : k < 6) : W.cell? ⟨g, k.toNat, none⟩ = some (.int .i64 (rd v k)) := by
  obtain ⟨x0, x1, x2, x3, x4, x5, _⟩ := h.cells
  rcases six_cases h0 h6 with rfl | rfl | rfl | rfl | rfl | rfl
  · exact x0
  · exact x1
  · exact x2
  · exact x3
  · exact x4
  · exact x5
/-- An element of an array of six. -/
theorem index6 (v : List Int) (k : Int) (h0 : 0 ≤ k) (h6 : k < 6) (W : World) : (Instr.index 128 (.agg #[.int .i64 (rd v 0), .int .i64 (rd v 1), .int .i64 (rd v 2), .int .i64 (rd v 3), .int .i64 (rd v 4), .int .i64 (rd v 5)]) (.int .i64 k)).run Try.prog W = .ok (.int .i64 (rd v k)) W := by
  rcases six_cases h0 h6 with rfl | rfl | rfl | rfl | rfl | rfl <;> kernel_rfl
set_option maxHeartbeats 1000000 in
set_option maxRecDepth 100000 in
theorem of_calls (g mb : Nat) (v : List Int) (k : Int) (w : World) (hp : PurseAt w g mb v) (h0 : 0 ≤ k) (h6 : k < 6) :
    Calls Try.prog 73 #[.pointer (some ⟨g, 0, none⟩), .int .i64 k] w fun e w' => e = .returned (.int .i64 (rd v k)) ∧ w = w' := by
  have hc := hp.cellAt k h0 h6
  have hu157 := Try.underlying157
  clear hp
  go_enter Try.func73, Try.ntmps73
  go_wp2
  go_ret
  exact ⟨rfl, rfl⟩
set_option maxHeartbeats 2000000 in
set_option maxRecDepth 100000 in
theorem spot_calls (g mb : Nat) (v : List Int) (m : Nat) (w : World) (hp : PurseAt w g mb v) (hm : m < 64) (hv : ∀ j, -1000000000 ≤ rd v j ∧ rd v j ≤ 1000000000) :
    Calls Try.prog 110 #[.pointer (some ⟨g, 0, none⟩), .int .i64 (m : Int)] w fun e w' => e = .returned (.agg #[.int .i64 (m : Int), .int .i64 (sumN v m)]) ∧ Below w.heap.size w w' := by
  have hu157 := Try.underlying157
  have hu161 := Try.underlying161
  have hu128 := Try.underlying128
  have HP := mkA hp
  have HV := mkA hv
  have hlt := z22 hp
  obtain ⟨x0, x1, x2, x3, x4, x5, x6⟩ := hp.cells
  clear hp hv
  go_enter Try.func110, Try.ntmps110
  go_wp2
  have hb0 : Below w.heap.size w ((w.alloc (.cells #[.int .i64 0, .int .i64 0] 161)).alloc (.cells #[.int .i64 (m : Int), .int .i64 0] 161)) := z10 (z10 (Below.refl _ _) _) _
  have hk0 : ((w.alloc (.cells #[.int .i64 0, .int .i64 0] 161)).alloc (.cells #[.int .i64 (m : Int), .int .i64 0] 161)).heap[w.heap.size + 1]? = some (.cells #[.int .i64 (m : Int), .int .i64 0] 161 (0, 0)) := by
    have := z19 (w.alloc (.cells #[.int .i64 0, .int .i64 0] 161)) (.cells #[.int .i64 (m : Int), .int .i64 0] 161)
    simpa using this
  have hk1 : ((w.alloc (.cells #[.int .i64 0, .int .i64 0] 161)).alloc (.cells #[.int .i64 (m : Int), .int .i64 0] 161)).heap[w.heap.size]? = some (.cells #[.int .i64 0, .int .i64 0] 161 (0, 0)) := blk_below (z19 w _) (z10 (Below.refl _ _) _)
  have HB0 := mkA hb0
  have HK0 := mkA hk0
  have HK1 := mkA hk1
  clear hb0 hk0 hk1 x0 x1 x2 x3 x4 x5 x6
  go_loopw [14] (fun i wr => ∃ k : Int, 0 ≤ k ∧ k ≤ 6 ∧ i = .int .i64 k ∧ Aside0 (wr.heap[w.heap.size + 1]? = some (.cells #[.int .i64 (m : Int), .int .i64 (sumTo v m k.toNat)] 161 (0, 0))) ∧ Aside0 (wr.heap[w.heap.size]? = some (.cells #[.int .i64 0, .int .i64 0] 161 (0, 0))) ∧ Below w.heap.size w wr) (fun i _ => 6 - (intOf i).toNat)
  case atStart => exact ⟨0, by omega, by omega, rfl, HK0, HK1, HB0.out⟩
  case round =>
    clear HB0 HK0 HK1
    obtain ⟨k, hk1, hk2, rfl, HK, HK1, hb⟩ := hrel
    have HB := mkA hb
    clear hb
    by_cases hlt : k < 6
    · have c3b0 : decide (k < 6) = true := decide_eq_true hlt
      have hix := index6 v k hk1 hlt
      have y0 : wr.cell? ⟨w.heap.size + 1, 1, none⟩ = some (.int .i64 (sumTo v m k.toNat)) := (z12 HK.out 1).trans rfl
      have y1 : wr.frozen? ⟨w.heap.size + 1, 1, none⟩ = false := z14 HK.out 1
      have hs := sumTo_bd v 1000000000 HV.out m k.toNat
      have s1 : -6000000000 ≤ sumTo v m k.toNat := by omega
      have s2 : sumTo v m k.toNat ≤ 6000000000 := by omega
      have s3 := (HV.out k).1
      have s4 := (HV.out k).2
      clear hs
      have ht := bit_test m k.toNat
      cases hbit : bitN m k.toNat with
      | true =>
        rw [hbit] at ht
        have HS := mkA (show sumTo v m (k + 1).toNat = sumTo v m k.toNat + rd v k by
          rw [show (k + 1).toNat = k.toNat + 1 by omega]; simp only [sumTo]; rw [if_pos hbit, show ((k.toNat : Nat) : Int) = k by omega])
        clear hbit
        go_wp2
        go_roundw
        case rel =>
          refine ⟨k + 1, by omega, by omega, by go_num, ⟨?_⟩, ⟨?_⟩, z15 HB.out (by omega)⟩
          · rw [HS.out]
            simp [World.setCell, Array.getElem?_modify, HK.out]
          · rw [Below.heap_setCell _ _ _ _ (by show w.heap.size ≠ w.heap.size + 1; omega)]; exact HK1.out
        case measure => simp [intOf]; omega
      | false =>
        rw [hbit] at ht
        have HS := mkA (show sumTo v m (k + 1).toNat = sumTo v m k.toNat by
          rw [show (k + 1).toNat = k.toNat + 1 by omega]; simp only [sumTo]; rw [if_neg (by rw [hbit]; simp)])
        clear hbit
        go_wp2
        go_roundw
        case rel => exact ⟨k + 1, by omega, by omega, by go_num, ⟨by rw [HS.out]; exact HK.out⟩, HK1, HB.out⟩
        case measure => simp [intOf]; omega
    · have c3b0 : decide (k < 6) = false := decide_eq_false hlt
      obtain rfl : k = 6 := by omega
      have y0 : wr.cell? ⟨w.heap.size + 1, 0, none⟩ = some (.int .i64 (m : Int)) := (z12 HK.out 0).trans rfl
      have y1 : wr.cell? ⟨w.heap.size + 1, 1, none⟩ = some (.int .i64 (sumN v m)) := (z12 HK.out 1).trans rfl
      have y2 : wr.cell? ⟨w.heap.size, 0, none⟩ = some (.int .i64 0) := (z12 HK1.out 0).trans rfl
      have y3 : wr.cell? ⟨w.heap.size, 1, none⟩ = some (.int .i64 0) := (z12 HK1.out 1).trans rfl
      have y4 := fun i => z14 HK1.out i
      go_wp2
      exact bodyPost_ret (v := .agg #[.int .i64 (m : Int), .int .i64 (sumN v m)]) (by simp [results, Try.results110, go_sem, y0, y1, y2, y3]) rfl ⟨rfl, by repeat (first | exact HB.out | refine z15 ?_ (by omega))⟩
end Go.Proofs.Ytncaadckehikpaa.Q
namespace Go.Proofs.Ytncaadckehikpaa.Q
open Go.RowKit Go.Proofs.YtncaadckehikpaaW.PrintWords Go.Proofs.YtncaadckehikpaaW.PrintLast Go.Proofs.YtncaadckehikpaaW.PrintMore
set_option linter.unusedVariables false
set_option linter.unusedSimpArgs false
/-- The women who are not owed 0, by bits. -/
def openTo (v : List Int) : Nat → Nat
  | 0 => 0
  | i + 1 => if rd v i ≠ 0 then openTo v i + 2 ^ i else openTo v i
def openN (v : List Int) : Nat := openTo v 6
theorem openTo_lt (v : List Int) : ∀ n, openTo v n < 2 ^ n
  | 0 => by simp [openTo]
  | n + 1 => by
    have := openTo_lt v n
    simp only [openTo]
    rw [Nat.pow_succ]
    split <;> omega
set_option maxHeartbeats 2000000 in
set_option maxRecDepth 100000 in
theorem open_calls (g mb : Nat) (v : List Int) (w : World) (hp : PurseAt w g mb v) :
    Calls Try.prog 109 #[.pointer (some ⟨g, 0, none⟩)] w fun e w' => e = .returned (.int .i64 (openN v : Nat)) ∧ w = w' := by
  have hu157 := Try.underlying157
  have hu128 := Try.underlying128
  obtain ⟨x0, x1, x2, x3, x4, x5, x6⟩ := hp.cells
  clear hp
  go_enter Try.func109, Try.ntmps109
  go_wp2
  clear x0 x1 x2 x3 x4 x5 x6
  go_loop [2, 9] (fun m i => ∃ k : Int, 0 ≤ k ∧ k ≤ 6 ∧ i = .int .i64 k ∧ m = .int .i64 (openTo v k.toNat : Nat)) (fun _ i => 6 - (intOf i).toNat)
  case atStart => exact ⟨0, by omega, by omega, rfl, rfl⟩
  case round =>
    obtain ⟨k, hk1, hk2, rfl, rfl⟩ := hrel
    by_cases hlt : k < 6
    · have c3b0 : decide (k < 6) = true := decide_eq_true hlt
      have hix := index6 v k hk1 hlt
      cases ht : rd v k != 0 with
      | true =>
        have HO := or_bit (openTo v k.toNat) k.toNat (by omega) (openTo_lt v k.toNat)
        have HS := mkA (show openTo v (k + 1).toNat = openTo v k.toNat + 2 ^ k.toNat by
          rw [show (k + 1).toNat = k.toNat + 1 by omega]; simp only [openTo]; rw [if_pos]; rw [show ((k.toNat : Nat) : Int) = k by omega]; simpa using ht)
        go_wp2
        go_round
        case rel => exact ⟨k + 1, by omega, by omega, by go_num, by rw [HS.out]; simp⟩
        case measure => simp [intOf]; omega
      | false =>
        have HS := mkA (show openTo v (k + 1).toNat = openTo v k.toNat by
          rw [show (k + 1).toNat = k.toNat + 1 by omega]; simp only [openTo]; rw [if_neg]; rw [show ((k.toNat : Nat) : Int) = k by omega]; simpa using ht)
        go_wp2
        go_round
        case rel => exact ⟨k + 1, by omega, by omega, by go_num, by rw [HS.out]⟩
        case measure => simp [intOf]; omega
    · have c3b0 : decide (k < 6) = false := decide_eq_false hlt
      obtain rfl : k = 6 := by omega
      go_wp2
      go_ret
      exact ⟨rfl, rfl⟩
end Go.Proofs.Ytncaadckehikpaa.Q
namespace Go.Proofs.Ytncaadckehikpaa.Q
open Go.RowKit Go.Proofs.YtncaadckehikpaaW.PrintWords Go.Proofs.YtncaadckehikpaaW.PrintLast Go.Proofs.YtncaadckehikpaaW.PrintMore
/-- The numbers of bits. -/
def bitsL (m : Nat) : List Int := ((List.range 6).filter (bitN m)).map Int.ofNat
set_option maxRecDepth 100000 in
theorem listed_all : ∀ m : Fin 64, soap_listed.f 8 (m.val : Int) = some (bitsL m.val) := by decide +kernel
theorem listed_f (m : Nat) (h : m < 64) : soap_listed.f 8 (m : Int) = some (bitsL m) := listed_all ⟨m, h⟩
/-- What is left of the number of groups when a woman is left out. -/
def leftOf (v : List Int) (m : Nat) : Int := F v m - if sumN v m = 0 then 1 else 0
/-- The test of a woman who is left out. -/
def goesB (v : List Int) (m : Nat) (i : Nat) : Bool := bitN m i && F v (clr m i) == leftOf v m
/-- The first woman who is left out. -/
def pickOf (v : List Int) (m : Nat) : Option Nat := (List.range 6).find? (goesB v m)
def z31 (v : List Int) : Nat → Nat → Nat → List (List Int)
  | 0, _, _ => []
  | k + 1, m, gr => if m = 0 then [] else
    match pickOf v m with
    | none => []
    | some i => if sumN v (clr m i) = 0 then bitsL (gr + 2 ^ i) :: z31 v k (clr m i) 0 else z31 v k (clr m i) (gr + 2 ^ i)
def groupsL (v : List Int) : List (List Int) := z31 v 64 (openN v) 0
set_option maxRecDepth 100000 in
theorem apart_all : ∀ gr : Fin 64, ∀ m : Fin 64, gr.val &&& m.val = 0 → ∀ i : Fin 6, bitN m.val i.val = true → (gr.val + 2 ^ i.val) &&& (clr m.val i.val) = 0 ∧ bitN gr.val i.val = false ∧ gr.val + 2 ^ i.val < 64 := by decide +kernel
set_option maxRecDepth 100000 in
theorem or_free_all : ∀ gr : Fin 64, ∀ i : Fin 6, bitN gr.val i.val = false → bits BinOp.or IntKind.i64 (gr.val : Int) (wrap64 (2 ^ i.val)) = ((gr.val + 2 ^ i.val : Nat) : Int) := by decide +kernel
theorem apart_step (gr m i : Nat) (hg : gr < 64) (hm : m < 64) (hi : i < 6) (h : gr &&& m = 0) (hb : bitN m i = true) : (gr + 2 ^ i) &&& (clr m i) = 0 ∧ bitN gr i = false ∧ gr + 2 ^ i < 64 := apart_all ⟨gr, hg⟩ ⟨m, hm⟩ h ⟨i, hi⟩ hb
theorem or_free (gr i : Nat) (hg : gr < 64) (hi : i < 6) (hb : bitN gr i = false) : bits BinOp.or IntKind.i64 (gr : Int) (wrap64 (2 ^ i)) = ((gr + 2 ^ i : Nat) : Int) := or_free_all ⟨gr, hg⟩ ⟨i, hi⟩ hb
theorem clr_ne (m i : Nat) : (((clr m i : Nat) : Int) != (m : Int)) = bitN m i := by
  cases h : bitN m i with
  | true => have := clr_lt h; simp; omega
  | false => simp [clr, h]
theorem bestTo_hit {f : Nat → Int} {m : Nat} (h : ∀ i, bitN m i = true → 0 ≤ f (clr m i)) : ∀ n, (∃ i, i < n ∧ bitN m i = true) → ∃ i, i < n ∧ bitN m i = true ∧ f (clr m i) = bestTo f m n
  | 0, ⟨i, hi, _⟩ => by omega
  | n + 1, hex => by
    simp only [bestTo]
    by_cases hb : bitN m n = true
    · rw [if_pos hb]
      by_cases hlt : bestTo f m n < f (clr m n)
      · exact ⟨n, by omega, hb, by unfold mx; rw [if_pos hlt]⟩
      · have hm : mx (bestTo f m n) (f (clr m n)) = bestTo f m n := by unfold mx; rw [if_neg hlt]
        rw [hm]
        by_cases hex2 : ∃ i, i < n ∧ bitN m i = true
        · obtain ⟨i, hi, h1, h2⟩ := bestTo_hit h n hex2
          exact ⟨i, by omega, h1, h2⟩
        · have hz : bestTo f m n = 0 := by
            have : ∀ j, j ≤ n → bestTo f m j = 0 := by
              intro j
              induction j with
              | zero => intro _; rfl
              | succ j ih =>
                intro hj
                simp only [bestTo]
                rw [if_neg (fun hc => hex2 ⟨j, by omega, hc⟩)]
                exact ih (by omega)
            exact this n (Nat.le_refl n)
          have := h n hb
          exact ⟨n, by omega, hb, by omega⟩
    · rw [if_neg hb]
      obtain ⟨i, hi, h1⟩ := hex
      obtain ⟨j, hj, h2, h3⟩ := bestTo_hit h n ⟨i, by
        rcases Nat.lt_or_ge i n with hl | hl
        · exact hl
        · obtain rfl : i = n := by omega
          exact absurd h1 hb, h1⟩
      exact ⟨j, by omega, h2, h3⟩
set_option maxRecDepth 100000 in
theorem has_bit_all : ∀ m : Fin 64, m.val ≠ 0 → ∃ i : Fin 6, bitN m.val i.val = true := by decide +kernel
theorem pick_some (v : List Int) (m : Nat) (hm : m < 64) (h0 : m ≠ 0) : ∃ i, pickOf v m = some i ∧ i < 6 ∧ goesB v m i = true ∧ ∀ j, j < i → goesB v m j = false := by
  obtain ⟨i, hi⟩ := has_bit_all ⟨m, hm⟩ h0
  obtain ⟨j, hj, h1, h2⟩ := bestTo_hit (f := F v) (m := m) (fun i _ => (F_bd v _).1) 6 ⟨i.val, i.isLt, hi⟩
  have hgo : goesB v m j = true := by
    unfold goesB leftOf
    rw [h1, Bool.true_and, beq_iff_eq, h2, F_step v m h0]
    omega
  have hs : (List.range 6).find? (goesB v m) ≠ none := by
    rw [ne_eq, List.find?_eq_none]
    exact fun h => h j (List.mem_range.2 hj) hgo
  obtain ⟨q, hq⟩ := Option.ne_none_iff_exists'.1 hs
  refine ⟨q, hq, ?_⟩
  rw [List.find?_eq_some_iff_getElem] at hq
  obtain ⟨h3, p, hp, h4, h5⟩ := hq
  simp only [List.length_range] at hp
  rw [List.getElem_range] at h4
  subst h4
  refine ⟨hp, h3, fun j hj => ?_⟩
  have := h5 j hj
  rw [List.getElem_range] at this
  simpa using this
theorem groups_len (v : List Int) : ∀ k m gr, (z31 v k m gr).length ≤ k
  | 0, _, _ => by simp [z31]
  | k + 1, m, gr => by
    simp only [z31]
    split
    · simp
    · split
      · simp
      · split
        · simp; exact groups_len v k _ _
        · exact Nat.le_succ_of_le (groups_len v k _ _)
end Go.Proofs.Ytncaadckehikpaa.Q
namespace Go.Proofs.Ytncaadckehikpaa.Q
open Go.RowKit Go.Proofs.YtncaadckehikpaaW.PrintWords Go.Proofs.YtncaadckehikpaaW.PrintLast Go.Proofs.YtncaadckehikpaaW.PrintMore
set_option linter.unusedVariables false
set_option linter.unusedSimpArgs false
theorem eqi (d : Nat) (w : World) (x y : Int) : (Op.equalIn (d + 1) 3 (.int .i64 x) (.int .i64 y)).run Try.prog w = .ok (x == y) w := by
  go_simp
theorem size3 (w : World) : (sizeOf 3).run Try.prog w = .ok 1 w := by
  obtain ⟨i0, hi, hzz⟩ := Option.map_eq_some_iff.1 info3
  simp only [Prod.mk.injEq] at hzz
  simp [sizeOf, typeInfo, hi, hzz.2.1]
theorem part3 (w : World) (xs : Array Value) (i : Nat) (v : Int) (h : xs[i]? = some (.int .i64 v)) : (part 3 xs i).run Try.prog w = .ok (.int .i64 v) w := by
  unfold part
  simp [h]
theorem eqA128 (d : Nat) (w : World) (x0 x1 x2 x3 x4 x5 y0 y1 y2 y3 y4 y5 : Int) :
    (Op.equalIn (d + 2) 128 (.agg #[.int .i64 x0, .int .i64 x1, .int .i64 x2, .int .i64 x3, .int .i64 x4, .int .i64 x5]) (.agg #[.int .i64 y0, .int .i64 y1, .int .i64 y2, .int .i64 y3, .int .i64 y4, .int .i64 y5])).run Try.prog w = .ok (x0 == y0 && x1 == y1 && x2 == y2 && x3 == y3 && x4 == y4 && x5 == y5) w := by
  have hs := size3
  have he := eqi
  generalize hX : (#[.int .i64 x0, .int .i64 x1, .int .i64 x2, .int .i64 x3, .int .i64 x4, .int .i64 x5] : Array Value) = X
  generalize hY : (#[.int .i64 y0, .int .i64 y1, .int .i64 y2, .int .i64 y3, .int .i64 y4, .int .i64 y5] : Array Value) = Y
  have a0 := fun W => part3 W X 0 x0 (by subst hX; rfl)
  have a1 := fun W => part3 W X 1 x1 (by subst hX; rfl)
  have a2 := fun W => part3 W X 2 x2 (by subst hX; rfl)
  have a3 := fun W => part3 W X 3 x3 (by subst hX; rfl)
  have a4 := fun W => part3 W X 4 x4 (by subst hX; rfl)
  have a5 := fun W => part3 W X 5 x5 (by subst hX; rfl)
  have b0 := fun W => part3 W Y 0 y0 (by subst hY; rfl)
  have b1 := fun W => part3 W Y 1 y1 (by subst hY; rfl)
  have b2 := fun W => part3 W Y 2 y2 (by subst hY; rfl)
  have b3 := fun W => part3 W Y 3 y3 (by subst hY; rfl)
  have b4 := fun W => part3 W Y 4 y4 (by subst hY; rfl)
  have b5 := fun W => part3 W Y 5 y5 (by subst hY; rfl)
  unfold Op.equalIn
  simp only [Sem.run_bind, run_underlying Try.underlying128, Result.andThen]
  simp [Std.Legacy.Range.forIn_eq_forIn_range', List.range', hs, he, a0, a1, a2, a3, a4, a5, b0, b1, b2, b3, b4, b5]
  by_cases h0 : x0 = y0 <;> simp [h0]
  by_cases h1 : x1 = y1 <;> simp [h1]
  by_cases h2 : x2 = y2 <;> simp [h2]
  by_cases h3 : x3 = y3 <;> simp [h3]
  by_cases h4 : x4 = y4 <;> simp [h4]
  by_cases h5 : x5 = y5 <;> simp [h5]
end Go.Proofs.Ytncaadckehikpaa.Q
