/- A part of the proof: contracts of functions and plain facts (HAsked). No condition. -/
import Derived.Test.YtncaadckehikpaaM10
namespace Go.Proofs.Ytncaadckehikpaa.Q
open Go.RowKit Go.Proofs.YtncaadckehikpaaW.PrintWords Go.Proofs.YtncaadckehikpaaW.PrintLast Go.Proofs.YtncaadckehikpaaW.PrintMore
set_option linter.unusedVariables false
set_option linter.unusedSimpArgs false
attribute [local go_sem] Oper.semAt_some
/-- What asked comes to. -/
def AskedPost (n : Int) (A1 : Option Addr) (c1 : Nat) (l1 : List S122) (A2 : Option Addr) (c2 : Nat) (l2 : List S124) (w : World) (e : Ending) (w' : World) : Prop :=
  Below w.heap.size w w' ∧
  ((checkS n l1 l2 ≠ 0 ∧ e = .returned (.tuple #[.pointer none, .int .i64 (checkS n l1 l2)])) ∨
   (checkS n l1 l2 = 0 ∧ askedL l1 l2 (enumO [] l1) = [] ∧ e = .returned (.tuple #[.pointer none, .int .i64 11])) ∨
   (checkS n l1 l2 = 0 ∧ askedL l1 l2 (enumO [] l1) ≠ [] ∧ ∃ qb v gs mbs, e = .returned (.tuple #[.pointer (some ⟨qb, 0, none⟩), .int .i64 0]) ∧
      w'.heap[qb]? = some (.cells #[.int .i64 n, .slice A1 l1.length c1, .slice A2 l2.length c2, v] 114 (0, 0)) ∧ kP.R 117 w' w.heap.size (fun _ => True) v gs ∧ Purses w' w.heap.size gs mbs (askedL l1 l2 (enumO [] l1))))
theorem askedL_mem (l1 : List S122) (l2 : List S124) (oss : List (List Int)) : ∀ v ∈ askedL l1 l2 oss, ∃ os, v = owedL l1 os := by
  have h : ∀ (oss : List (List Int)) (acc : List (List Int)), (∀ v ∈ acc, ∃ os, v = owedL l1 os) → ∀ v ∈ oss.foldl (askStep l1 l2) acc, ∃ os, v = owedL l1 os := by
    intro oss
    induction oss with
    | nil => exact fun acc h => h
    | cons o r ih =>
      intro acc ha
      refine ih _ ?_
      unfold askStep
      split
      · intro v hv
        rcases List.mem_append.1 hv with h1 | h1
        · exact ha v h1
        · simp at h1
          exact ⟨o, h1⟩
      · exact ha
  exact h oss [] (by simp)
theorem Purses.lower {W : World} {base b2 : Nat} {gs mbs : List Nat} {vs : List (List Int)} (h : Purses W base gs mbs vs) (hb : b2 ≤ base) : Purses W b2 gs mbs vs :=
  ⟨h.lg, h.lm, h.nodup, fun i hi => by
    obtain ⟨h1, h2, h3, h4⟩ := h.at_ i hi
    exact ⟨h1, h2, by omega, by omega⟩⟩
/-- What holds between two rounds. -/
structure AskI (w0 : World) (tb qb qx B : Nat) (n : Int) (A1 : Option Addr) (c1 : Nat) (l1 : List S122) (A2 : Option Addr) (c2 : Nat) (l2 : List S124) (pre : List (List Int)) (v : Value) (gs mbs : List Nat) (W : World) : Prop where
  below : Below w0.heap.size w0 W
  tb : W.heap[tb]? = some (.cells #[.int .i64 n, .slice A1 l1.length c1, .slice A2 l2.length c2] 35 (0, 0))
  qx : W.heap[qx]? = some (.cells #[.pointer (some ⟨qb, 0, none⟩)] 109 (0, 0))
  qb : W.heap[qb]? = some (.cells #[.int .i64 n, .slice A1 l1.length c1, .slice A2 l2.length c2, v] 114 (0, 0))
  row : kP.R 117 W (B + 6) (fun _ => True) v gs
  ps : Purses W (B + 6) gs mbs (askedL l1 l2 pre)
theorem AskI.zone {w0 : World} {tb qb qx B : Nat} {n : Int} {A1 : Option Addr} {c1 : Nat} {l1 : List S122} {A2 : Option Addr} {c2 : Nat} {l2 : List S124} {pre : List (List Int)} {v : Value} {gs mbs : List Nat} {W W' : World}
    (h : AskI w0 tb qb qx B n A1 c1 l1 A2 c2 l2 pre v gs mbs W) (hz : Zone6 B W W') (h0 : w0.heap.size ≤ B) (h1 : tb < B) (h2 : qb < B) (h3 : qx < B) : AskI w0 tb qb qx B n A1 c1 l1 A2 c2 l2 pre v gs mbs W' :=
  ⟨⟨hz.os.trans h.below.os, hz.tape.trans h.below.tape, hz.output.trans h.below.output, Nat.le_trans h.below.size hz.size, fun k hk => (hz.block k (by have := h.below.size; omega) (by omega)).trans (h.below.block k hk)⟩,
   (hz.block _ (z22 h.tb) (by omega)).trans h.tb, (hz.block _ (z22 h.qx) (by omega)).trans h.qx, (hz.block _ (z22 h.qb) (by omega)).trans h.qb,
   Kd.R_mono (Kd.R_move (Kd.R_bound h.row) (fun k hk => hz.block k hk.2.2.1 (by have := hk.2.1; omega))) (fun _ hk => hk.1),
   h.ps.move (fun k q1 q2 _ => hz.block k q2 (by omega))⟩
theorem KeepZ.of_below {B bs : Nat} {W W' : World} (h : Below W.heap.size W W') : KeepZ B bs W W' := ⟨h.size, fun k hk _ => h.block k hk⟩
/-- A purse more. -/
theorem AskI.next {w0 : World} {tb qb qx B bs : Nat} {n : Int} {A1 : Option Addr} {c1 : Nat} {l1 : List S122} {A2 : Option Addr} {c2 : Nat} {l2 : List S124} {pre pre2 : List (List Int)} {v v9 : Value} {gs mbs : List Nat} {W w4 w5 : World} {g mb : Nat} {u : List Int}
    (h : AskI w0 tb qb qx B n A1 c1 l1 A2 c2 l2 pre v gs mbs W) (hb4 : Below W.heap.size W w4) (hp : PurseAt w4 g mb u) (hm : Memo w4 mb u) (h1 : W.heap.size ≤ mb) (h2 : W.heap.size ≤ g) (h6 : B + 6 ≤ W.heap.size)
    (ho : kP.R 117 w5 (B + 6) (fun _ => True) v9 (gs ++ [g])) (hbb : Below (B + 6) w4 w5) (hg : w4.grownBy w5 v.ownBlock) (hst : askedL l1 l2 pre2 = askedL l1 l2 pre ++ [u])
    (hw : w0.heap.size ≤ tb) (htq : tb < qb) (hqx : qb < qx) (hbs : qx < bs) (hB : bs < B) :
    KeepZ B bs W (w5.setCell ⟨qb, 3, none⟩ v9) ∧ Below w0.heap.size w0 (w5.setCell ⟨qb, 3, none⟩ v9) ∧ ∃ v gs mbs, AskI w0 tb qb qx B n A1 c1 l1 A2 c2 l2 pre2 v gs mbs (w5.setCell ⟨qb, 3, none⟩ v9) := by
  have hR4 := Kd.R_below h.row hb4
  have hk5 : ∀ k, k < B + 6 → w5.heap[k]? = W.heap[k]? := fun k hk => (hbb.block k hk).trans (hb4.block k (by omega))
  have hq5 : w5.heap[qb]? = some (.cells #[.int .i64 n, .slice A1 l1.length c1, .slice A2 l2.length c2, v] 114 (0, 0)) := (hk5 qb (by omega)).trans h.qb
  have hk6 : ∀ k, k < B + 6 → k ≠ qb → (w5.setCell ⟨qb, 3, none⟩ v9).heap[k]? = W.heap[k]? := fun k hk hn => (Below.heap_setCell _ _ _ _ (by exact hn)).trans (hk5 k hk)
  have hb5 : Below w0.heap.size w0 w5 := (z16 h.below hb4).trans (hbb.mono (by omega))
  have hz5 := hbb.size
  have hz4 := hb4.size
  have hset : (w5.setCell ⟨qb, 3, none⟩ v9).heap.size = w5.heap.size := by simp [World.setCell]
  refine ⟨⟨by omega, fun k hk hz => hk6 k (by omega) (by omega)⟩, z15 hb5 (show w0.heap.size ≤ qb by omega), v9, gs ++ [g], mbs ++ [mb], ⟨z15 hb5 (show w0.heap.size ≤ qb by omega), ?_, ?_, ?_, ?_, ?_⟩⟩
  · exact (hk6 tb (by omega) (by omega)).trans h.tb
  · exact (hk6 qx (by omega) (by omega)).trans h.qx
  · simp [World.setCell, Array.getElem?_modify, hq5]
  · exact Kd.R_set ho hq5 (by decide) 3 v9
  · rw [hst]
    refine ((((h.ps.below hb4).add hp hm (fun x hx => Nat.lt_of_lt_of_le (h.ps.memos x hx) h1) (by omega) (by omega)).grown hR4 hg)).move (fun k q1 q2 _ => Below.heap_setCell _ _ _ _ (show k ≠ qb by omega))
set_option maxHeartbeats 4000000 in
set_option maxRecDepth 100000 in
theorem asked_calls (n : Int) (A1 : Option Addr) (c1 : Nat) (l1 : List S122) (A2 : Option Addr) (c2 : Nat) (l2 : List S124) (w : World)
    (hr1 : Kd.C k122 w A1 l1.length l1) (hc1 : l1.length ≤ c1) (hr2 : Kd.C k124 w A2 l2.length l2) (hc2 : l2.length ≤ c2) :
    Calls Try.prog 72 #[.agg #[.int .i64 n, .slice A1 l1.length c1, .slice A2 l2.length c2]] w (AskedPost n A1 c1 l1 A2 c2 l2 w) := by
  have hu35 := Try.underlying35
  have hu114 := Try.underlying114
  have hu128 := Try.underlying128
  have hbw : Below w.heap.size w (w.alloc (.cells #[.int .i64 n, .slice A1 l1.length c1, .slice A2 l2.length c2] 35)) := z10 (Below.refl _ _) _
  have HCK := mkA (soap_CheckSlate.calls n A1 c1 l1 A2 c2 l2 _ _ (Kd.C_below hr1 hbw) hc1 (Kd.C_below hr2 hbw) hc2 rfl)
  have HR1 := mkA hr1
  have HR2 := mkA hr2
  have HBW := mkA hbw
  have HS0 := mkA (z19 w (.cells #[.int .i64 n, .slice A1 l1.length c1, .slice A2 l2.length c2] 35))
  clear hr1 hr2 hbw
  refine (callsIn_wide (n := 4)).1 ?_
  refine callsIn_of_wp_marks Try.func72 rfl trivial ?_ rfl
  simp only [Try.ntmps72, List.size_toArray, List.length_cons, List.length_nil, Nat.reduceAdd, Nat.reduceSub, Array.replicate_succ, Array.replicate_zero, List.push_toArray, List.append_toArray, List.nil_append, List.cons_append]
  gi_wp2_with fail
  refine ⟨trivial, ?_⟩
  refine (callsIn_wide.2 HCK.out).mono ?_
  rintro e w1 ⟨rfl, hb⟩
  have HB1 := mkA (z16 HBW.out hb)
  have HS1 := mkA (blk_below HS0.out hb)
  clear hb HCK HBW HS0
  by_cases hck : checkS n l1 l2 = 0
  · have hsl0 : w1.cell? ⟨w.heap.size, 0, none⟩ = some (.int .i64 n) := (z12 HS1.out 0).trans rfl
    have hsl1 : w1.cell? ⟨w.heap.size, 1, none⟩ = some (.slice A1 l1.length c1) := (z12 HS1.out 1).trans rfl
    have hsl2 : w1.cell? ⟨w.heap.size, 2, none⟩ = some (.slice A2 l2.length c2) := (z12 HS1.out 2).trans rfl
    have hlt : w.heap.size < w1.heap.size := z22 HS1.out
    have HZ := mkA hck
    rw [hck]
    clear hck
    gi_wp2_with fail
    refine ⟨trivial, ?_⟩
    refine (callsIn_wide.2 (ounces_calls _ _ _ _ _ _ _ _)).mono ?_
    rintro e w2 ⟨rfl, hw2⟩
    have HW2 := mkA hw2
    clear hw2
    gi_wp2_with fail
    have hw2 := HW2.out
    have hz2 : w2.heap.size = w1.heap.size + 3 := by rw [hw2]; simp
    have HB2 := mkA (show Below w.heap.size w w2 by rw [hw2]; exact z10 (z10 (z10 HB1.out _) _) _)
    have HI0 := mkA (show AskI w w.heap.size w1.heap.size (w1.heap.size + 1) w2.heap.size n A1 c1 l1 A2 c2 l2 [] (.slice none 0 0) [] [] w2 from by
      refine ⟨HB2.out, ?_, ?_, ?_, Kd.R_nil _ _ _ _ _, Purses.nil _ _⟩
      · rw [hw2]; exact blk_below HS1.out (z10 (z10 (z10 (Below.refl _ _) _) _) _)
      · rw [hw2]; exact blk_below (by simpa using z19 (w1.alloc _) (.cells #[.pointer (some ⟨w1.heap.size, 0, none⟩)] 109)) (z10 (Below.refl _ _) _)
      · rw [hw2]; exact blk_below (z19 w1 _) (z10 (z10 (Below.refl _ _) _) _))
    have HBS := mkA (show w2.heap[w1.heap.size + 1 + 1]? = some (.cells #[.int .i64 n, .slice A1 l1.length c1, .slice A2 l2.length c2] 35 (0, 0)) from by
      rw [hw2]; simpa using z19 ((w1.alloc _).alloc _) (.cells #[.int .i64 n, .slice A1 l1.length c1, .slice A2 l2.length c2] 35))
    clear hw2 HW2 HS1 hsl0 hsl1 hsl2
    have hww := HB1.out.size
    refine range_ounces w _ n A1 c1 l1 A2 c2 l2 HZ.out HR1.out hc1 rfl HB2.out (by simpa using HBS.out)
      (fun pre W => ∃ v gs mbs, AskI w w.heap.size w1.heap.size (w1.heap.size + 1) w2.heap.size n A1 c1 l1 A2 c2 l2 pre v gs mbs W) (fun _ _ _ => False)
      (fun pre V V' h hz => by
        obtain ⟨v, gs, mbs, h⟩ := h
        exact ⟨v, gs, mbs, h.zone hz (by omega) (by omega) (by omega) (by omega)⟩) (fun _ _ _ _ h _ => h) ⟨_, _, _, HI0.out⟩ 6 ?assign ?body ?done ?stop
    case assign =>
      intro l os W K hK
      unfold aggV roundAct at *
      gi_wp2
      trace_state
      exact hK
    case body =>
      rintro l pre os bx W ⟨v, gs, mbs, hi⟩ hbW hol hfit hpre hbx hbox
      have HI := mkA hi
      have HBX := mkA hbox
      clear hi hbox hfit HI0 HBS
      unfold aggV roundAct
      simp only [xq1, xq2, xq3]
      gi_wp2
      generalize hu : owedL l1 os = u at HBX ⊢
      have HU := mkA hu
      have hul : u.length = 6 := by rw [← hu]; exact z38 _ _ _
      clear hu
      have HKA := mkA (fun (W' : World) (hb : Below W.heap.size W W') => show W'.cell? ⟨w.heap.size, 0, none⟩ = some (.int .i64 n) ∧ W'.cell? ⟨w.heap.size, 1, none⟩ = some (.slice A1 l1.length c1) ∧ W'.cell? ⟨w.heap.size, 2, none⟩ = some (.slice A2 l2.length c2) ∧ W'.cell? ⟨bx, 0, none⟩ = some (.int .i64 (rd u 0)) ∧ W'.cell? ⟨bx, 1, none⟩ = some (.int .i64 (rd u 1)) ∧ W'.cell? ⟨bx, 2, none⟩ = some (.int .i64 (rd u 2)) ∧ W'.cell? ⟨bx, 3, none⟩ = some (.int .i64 (rd u 3)) ∧ W'.cell? ⟨bx, 4, none⟩ = some (.int .i64 (rd u 4)) ∧ W'.cell? ⟨bx, 5, none⟩ = some (.int .i64 (rd u 5)) from
        ⟨(z12 (blk_below HI.out.tb hb) 0).trans rfl, (z12 (blk_below HI.out.tb hb) 1).trans rfl, (z12 (blk_below HI.out.tb hb) 2).trans rfl, (z12 (blk_below HBX.out hb) 0).trans rfl, (z12 (blk_below HBX.out hb) 1).trans rfl, (z12 (blk_below HBX.out hb) 2).trans rfl, (z12 (blk_below HBX.out hb) 3).trans rfl, (z12 (blk_below HBX.out hb) 4).trans rfl, (z12 (blk_below HBX.out hb) 5).trans rfl⟩)
      have HRC := mkA (show Calls Try.prog 98 #[.agg #[.int .i64 n, .slice A1 l1.length c1, .slice A2 l2.length c2], .agg #[.int .i64 (rd u 0), .int .i64 (rd u 1), .int .i64 (rd u 2), .int .i64 (rd u 3), .int .i64 (rd u 4), .int .i64 (rd u 5)], .slice none 0 0] W.drew (fun e w' => e = .returned (.bool (rightB l2 u [])) ∧ Below W.drew.heap.size W.drew w') from right_calls n A1 c1 l1 A2 c2 l2 u none 0 [] W.drew (Kd.C_below HR2.out (z13 hbW)) hc2 (Kd.C_nil _ _) (Nat.le_refl _) hul (by simp) (by obtain ⟨z0, z1, z2, z3, _⟩ := z28 HZ.out; exact z3) (fun i q0 q1 => by
        have := saying_in HZ.out i q0 q1
        obtain ⟨z0, z1, z2, z3, _⟩ := z28 HZ.out
        omega))
      have HBW2 := mkA hbW
      clear hbW
      by_cases hr : rightB l2 u [] = true
      · rw [hr] at HRC
        obtain ⟨A, c, rfl, hlc, hCP⟩ := Kd.R_reads HI.out.row
        have HKB := mkA (fun (W' : World) (hb : Below W.heap.size W W') => show W'.cell? ⟨w.heap.size, 0, none⟩ = some (.int .i64 n) ∧ W'.cell? ⟨w.heap.size, 1, none⟩ = some (.slice A1 l1.length c1) ∧ W'.cell? ⟨w.heap.size, 2, none⟩ = some (.slice A2 l2.length c2) ∧ W'.cell? ⟨bx, 0, none⟩ = some (.int .i64 (rd u 0)) ∧ W'.cell? ⟨bx, 1, none⟩ = some (.int .i64 (rd u 1)) ∧ W'.cell? ⟨bx, 2, none⟩ = some (.int .i64 (rd u 2)) ∧ W'.cell? ⟨bx, 3, none⟩ = some (.int .i64 (rd u 3)) ∧ W'.cell? ⟨bx, 4, none⟩ = some (.int .i64 (rd u 4)) ∧ W'.cell? ⟨bx, 5, none⟩ = some (.int .i64 (rd u 5)) ∧ W'.cell? ⟨w1.heap.size + 1, 0, none⟩ = some (.pointer (some ⟨w1.heap.size, 0, none⟩)) ∧ W'.cell? ⟨w1.heap.size, 3, none⟩ = some (.slice A gs.length c) from by
          obtain ⟨q1, q2, q3, q4, q5, q6, q7, q8, q9⟩ := HKA.out W' hb
          exact ⟨q1, q2, q3, q4, q5, q6, q7, q8, q9, (z12 (blk_below HI.out.qx hb) 0).trans rfl, (z12 (blk_below HI.out.qb hb) 3).trans rfl⟩)
        have HK8 := mkA (fun (W' : World) (h1 : W'.heap[bx]? = W.heap[bx]?) (h2 : W'.heap[w1.heap.size + 1]? = W.heap[w1.heap.size + 1]?) (h3 : W'.heap[w1.heap.size]? = W.heap[w1.heap.size]?) => show W'.cell? ⟨bx, 0, none⟩ = some (.int .i64 (rd u 0)) ∧ W'.cell? ⟨bx, 1, none⟩ = some (.int .i64 (rd u 1)) ∧ W'.cell? ⟨bx, 2, none⟩ = some (.int .i64 (rd u 2)) ∧ W'.cell? ⟨bx, 3, none⟩ = some (.int .i64 (rd u 3)) ∧ W'.cell? ⟨bx, 4, none⟩ = some (.int .i64 (rd u 4)) ∧ W'.cell? ⟨bx, 5, none⟩ = some (.int .i64 (rd u 5)) ∧ W'.cell? ⟨w1.heap.size + 1, 0, none⟩ = some (.pointer (some ⟨w1.heap.size, 0, none⟩)) ∧ W'.cell? ⟨w1.heap.size, 3, none⟩ = some (.slice A gs.length c) from by
          have b1 := h1.trans HBX.out
          exact ⟨(z12 b1 0).trans rfl, (z12 b1 1).trans rfl, (z12 b1 2).trans rfl, (z12 b1 3).trans rfl, (z12 b1 4).trans rfl, (z12 b1 5).trans rfl, (z12 (h2.trans HI.out.qx) 0).trans rfl, (z12 (h3.trans HI.out.qb) 3).trans rfl⟩)
        have HKD := mkA (fun (W' : World) (hb : Below W.heap.size W W') => HK8.out W' (hb.block _ (z22 HBX.out)) (hb.block _ (z22 HI.out.qx)) (hb.block _ (z22 HI.out.qb)))
        have hgb : gs.length ≤ 4750104241 := by
          have t1 := askedL_len l1 l2 pre []
          have t2 := HI.out.ps.lg
          have t3 := hpre.length_le
          have t4 := enumO_bound HZ.out
          unfold askedL at t2
          simp at t1 t3
          omega
        by_cases he : askedL l1 l2 pre = []
        · have hgl : gs.length = 0 := by rw [HI.out.ps.lg, he]; rfl
          have hgs : gs = [] := List.eq_nil_of_length_eq_zero hgl
          subst hgs
          simp only [List.length_nil] at HKB HK8 HKD
          have HST := mkA (show askedL l1 l2 (pre ++ [os]) = askedL l1 l2 pre ++ [u] by rw [askedL_snoc]; unfold askStep; rw [if_pos ⟨by rw [HU.out]; exact hr, by rw [he]; simp⟩, HU.out])
          clear he hr
          focus
            refine round_region_held_drew (S := (fun W' => W'.cell? ⟨w.heap.size, 0, none⟩ = some (.int .i64 n) ∧ W'.cell? ⟨w.heap.size, 1, none⟩ = some (.slice A1 l1.length c1) ∧ W'.cell? ⟨w.heap.size, 2, none⟩ = some (.slice A2 l2.length c2) ∧ W'.cell? ⟨bx, 0, none⟩ = some (.int .i64 (rd u 0)) ∧ W'.cell? ⟨bx, 1, none⟩ = some (.int .i64 (rd u 1)) ∧ W'.cell? ⟨bx, 2, none⟩ = some (.int .i64 (rd u 2)) ∧ W'.cell? ⟨bx, 3, none⟩ = some (.int .i64 (rd u 3)) ∧ W'.cell? ⟨bx, 4, none⟩ = some (.int .i64 (rd u 4)) ∧ W'.cell? ⟨bx, 5, none⟩ = some (.int .i64 (rd u 5)) ∧ W'.cell? ⟨w1.heap.size + 1, 0, none⟩ = some (.pointer (some ⟨w1.heap.size, 0, none⟩)) ∧ W'.cell? ⟨w1.heap.size, 3, none⟩ = some (.slice A 0 c))) (by kernel_rfl) (by kernel_rfl) ?_ (fun hHeld => ?_)
            · (try dsimp only); exact HKB.out _ (z13 (Below.refl _ _))
            try simp only [List.take_succ_cons, List.take_zero, List.drop_succ_cons, List.drop_zero]
            refine tk (v := ?_) 0 hHeld rfl (by kernel_rfl) (fun _ _ _ h => h) (Or.inl ⟨?tkh, ?tky⟩) ?_
            case tkh => rfl
            case tky => intro w hSw; (try dsimp only at hSw); go_simp; (try with_reducible rfl)
            try simp only [Act.put, xq1, xq2, xq3]
            refine tk (v := ?_) 1 hHeld rfl (by kernel_rfl) (fun _ _ _ h => h) (Or.inl ⟨?tkh, ?tky⟩) ?_
            case tkh => rfl
            case tky => intro w hSw; (try dsimp only at hSw); go_simp; (try with_reducible rfl)
            try simp only [Act.put, xq1, xq2, xq3]
            refine wpAnyH_ready (rs := [2]) (by kernel_rfl) (by simp) (cs rfl (fun K hK => ?_) AllReadyH.nil)
            go_simp
            ((go_at_call 98; refine HRC.out.mono ?_; rintro e w3 ⟨rfl, hb⟩; have HBL := mkA (z16 (z13 (Below.refl _ W)) hb); clear hb; dsimp only))
            try simp only [Act.put, xq1, xq2, xq3]
            refine hK.out _ _ ?_ (fun hHeld2 => ?_)
            · (try dsimp only); exact HKB.out _ HBL.out
            clear hK K hHeld; have hHeld := hHeld2; clear hHeld2
            refine tk (v := ?_) 3 hHeld rfl (by kernel_rfl) (fun _ _ _ h => h) (Or.inl ⟨?tkh, ?tky⟩) ?_
            case tkh => rfl
            case tky => intro w hSw; (try dsimp only at hSw); go_simp; (try with_reducible rfl)
            try simp only [Act.put, xq1, xq2, xq3]
            refine tk (v := ?_) 4 hHeld rfl (by kernel_rfl) (fun _ _ _ h => h) (Or.inl ⟨?tkh, ?tky⟩) ?_
            case tkh => rfl
            case tky => intro w hSw; (try dsimp only at hSw); go_simp; (try with_reducible rfl)
            try simp only [Act.put, xq1, xq2, xq3]
            refine tk (v := ?_) 5 hHeld rfl (by kernel_rfl) (fun _ _ _ h => h) (Or.inl ⟨?tkh, ?tky⟩) ?_
            case tkh => rfl
            case tky => intro w hSw; (try dsimp only at hSw); go_simp; (try with_reducible rfl)
            try simp only [Act.put, xq1, xq2, xq3]
            refine tk (v := ?_) 6 hHeld rfl (by kernel_rfl) (fun _ _ _ h => h) (Or.inl ⟨?tkh, ?tky⟩) ?_
            case tkh => rfl
            case tky => intro w hSw; (try dsimp only at hSw); go_simp; (try with_reducible rfl)
            try simp only [Act.put, xq1, xq2, xq3]
            refine tk (v := ?_) 7 hHeld rfl (by kernel_rfl) (fun _ _ _ h => h) (Or.inl ⟨?tkh, ?tky⟩) ?_
            case tkh => rfl
            case tky => intro w hSw; (try dsimp only at hSw); go_simp; (try with_reducible rfl)
            try simp only [Act.put, xq1, xq2, xq3]
            refine tk (v := ?_) 8 hHeld rfl (by kernel_rfl) (fun _ _ _ h => h) (Or.inl ⟨?tkh, ?tky⟩) ?_
            case tkh => rfl
            case tky => intro w hSw; (try dsimp only at hSw); go_simp; (try with_reducible rfl)
            try simp only [Act.put, xq1, xq2, xq3]
            refine tk (v := ?_) 9 hHeld rfl (by kernel_rfl) (fun _ _ _ h => h) (Or.inl ⟨?tkh, ?tky⟩) ?_
            case tkh => rfl
            case tky => intro w hSw; (try dsimp only at hSw); go_simp; (try with_reducible rfl)
            try simp only [Act.put, xq1, xq2, xq3]
            refine tk (v := ?_) 10 hHeld rfl (by kernel_rfl) (fun _ _ _ h => h) (Or.inl ⟨?tkh, ?tky⟩) ?_
            case tkh => rfl
            case tky => intro w hSw; (try dsimp only at hSw); go_simp; (try with_reducible rfl)
            try simp only [Act.put, xq1, xq2, xq3]
            refine tk (v := undef) 11 hHeld rfl (by kernel_rfl) (fun _ _ _ h => h) (Or.inr ⟨?tkh, rfl⟩) ?_
            case tkh => rfl
            try simp only [Act.put, xq1, xq2, xq3]
            refine tk (v := undef) 12 hHeld rfl (by kernel_rfl) (fun _ _ _ h => h) (Or.inr ⟨?tkh, rfl⟩) ?_
            case tkh => rfl
            try simp only [Act.put, xq1, xq2, xq3]
            refine tk (v := undef) 13 hHeld rfl (by kernel_rfl) (fun _ _ _ h => h) (Or.inr ⟨?tkh, rfl⟩) ?_
            case tkh => rfl
            try simp only [Act.put, xq1, xq2, xq3]
            refine tk (v := undef) 14 hHeld rfl (by kernel_rfl) (fun _ _ _ h => h) (Or.inr ⟨?tkh, rfl⟩) ?_
            case tkh => rfl
            try simp only [Act.put, xq1, xq2, xq3]
            refine tk (v := undef) 15 hHeld rfl (by kernel_rfl) (fun _ _ _ h => h) (Or.inr ⟨?tkh, rfl⟩) ?_
            case tkh => rfl
            try simp only [Act.put, xq1, xq2, xq3]
            refine tk (v := undef) 16 hHeld rfl (by kernel_rfl) (fun _ _ _ h => h) (Or.inr ⟨?tkh, rfl⟩) ?_
            case tkh => rfl
            try simp only [Act.put, xq1, xq2, xq3]
            refine tk (v := undef) 17 hHeld rfl (by kernel_rfl) (fun _ _ _ h => h) (Or.inr ⟨?tkh, rfl⟩) ?_
            case tkh => rfl
            try simp only [Act.put, xq1, xq2, xq3]
            refine tk (v := undef) 18 hHeld rfl (by kernel_rfl) (fun _ _ _ h => h) (Or.inr ⟨?tkh, rfl⟩) ?_
            case tkh => rfl
            try simp only [Act.put, xq1, xq2, xq3]
            refine tk (v := undef) 19 hHeld rfl (by kernel_rfl) (fun _ _ _ h => h) (Or.inr ⟨?tkh, rfl⟩) ?_
            case tkh => rfl
            try simp only [Act.put, xq1, xq2, xq3]
            refine tk (v := undef) 20 hHeld rfl (by kernel_rfl) (fun _ _ _ h => h) (Or.inr ⟨?tkh, rfl⟩) ?_
            case tkh => rfl
            try simp only [Act.put, xq1, xq2, xq3]
            refine tk (v := undef) 21 hHeld rfl (by kernel_rfl) (fun _ _ _ h => h) (Or.inr ⟨?tkh, rfl⟩) ?_
            case tkh => rfl
            try simp only [Act.put, xq1, xq2, xq3]
            refine tk (v := undef) 22 hHeld rfl (by kernel_rfl) (fun _ _ _ h => h) (Or.inr ⟨?tkh, rfl⟩) ?_
            case tkh => rfl
            try simp only [Act.put, xq1, xq2, xq3]
            refine tk (v := undef) 23 hHeld rfl (by kernel_rfl) (fun _ _ _ h => h) (Or.inr ⟨?tkh, rfl⟩) ?_
            case tkh => rfl
            try simp only [Act.put, xq1, xq2, xq3]
            refine tk (v := undef) 24 hHeld rfl (by kernel_rfl) (fun _ _ _ h => h) (Or.inr ⟨?tkh, rfl⟩) ?_
            case tkh => rfl
            try simp only [Act.put, xq1, xq2, xq3]
            refine tk (v := undef) 25 hHeld rfl (by kernel_rfl) (fun _ _ _ h => h) (Or.inr ⟨?tkh, rfl⟩) ?_
            case tkh => rfl
            try simp only [Act.put, xq1, xq2, xq3]
            refine tk (v := undef) 26 hHeld rfl (by kernel_rfl) (fun _ _ _ h => h) (Or.inr ⟨?tkh, rfl⟩) ?_
            case tkh => rfl
            try simp only [Act.put, xq1, xq2, xq3]
            refine tk (v := undef) 27 hHeld rfl (by kernel_rfl) (fun _ _ _ h => h) (Or.inr ⟨?tkh, rfl⟩) ?_
            case tkh => rfl
            try simp only [Act.put, xq1, xq2, xq3]
            refine tk (v := ?_) 28 hHeld rfl (by kernel_rfl) (fun _ _ _ h => h) (Or.inl ⟨?tkh, ?tky⟩) ?_
            case tkh => rfl
            case tky => intro w hSw; (try dsimp only at hSw); go_simp; (try with_reducible rfl)
            try simp only [Act.put, xq1, xq2, xq3]
            refine tk (v := ?_) 29 hHeld rfl (by kernel_rfl) (fun _ _ _ h => h) (Or.inl ⟨?tkh, ?tky⟩) ?_
            case tkh => rfl
            case tky => intro w hSw; (try dsimp only at hSw); go_simp; (try with_reducible rfl)
            try simp only [Act.put, xq1, xq2, xq3]
            refine wpAnyH_done (by kernel_rfl) ?_ _
            all_goals (refine EndsBy.mk ?_)
          gi_wp2
          have HPC := mkA (purse_calls u w3.drew)
          unfold aggV at HPC
          have HROW := mkA (fun (W' : World) (hb : Below W.heap.size W W') => Kd.R_below HI.out.row hb)
          have hB6 : w2.heap.size + 6 ≤ W.heap.size := by have := z22 HBX.out; omega
          focus
            refine round_region_head (S := (fun W' => W'.cell? ⟨bx, 0, none⟩ = some (.int .i64 (rd u 0)) ∧ W'.cell? ⟨bx, 1, none⟩ = some (.int .i64 (rd u 1)) ∧ W'.cell? ⟨bx, 2, none⟩ = some (.int .i64 (rd u 2)) ∧ W'.cell? ⟨bx, 3, none⟩ = some (.int .i64 (rd u 3)) ∧ W'.cell? ⟨bx, 4, none⟩ = some (.int .i64 (rd u 4)) ∧ W'.cell? ⟨bx, 5, none⟩ = some (.int .i64 (rd u 5)) ∧ W'.cell? ⟨w1.heap.size + 1, 0, none⟩ = some (.pointer (some ⟨w1.heap.size, 0, none⟩)) ∧ W'.cell? ⟨w1.heap.size, 3, none⟩ = some (.slice A 0 c))) 9 (by kernel_rfl) (by kernel_rfl) (by kernel_rfl) ?_ (fun hHeld => ?_)
            · (try dsimp only); exact HKD.out _ (z13 HBL.out)
            try simp only [List.take_succ_cons, List.take_zero, List.drop_succ_cons, List.drop_zero]
            refine tk (v := ?_) 0 hHeld rfl (by kernel_rfl) (fun _ _ _ h => h) (Or.inl ⟨?tkh, ?tky⟩) ?_
            case tkh => rfl
            case tky => intro w hSw; (try dsimp only at hSw); go_simp; (try with_reducible rfl)
            try simp only [Act.put, xq1, xq2, xq3]
            refine tk (v := ?_) 1 hHeld rfl (by kernel_rfl) (fun _ _ _ h => h) (Or.inl ⟨?tkh, ?tky⟩) ?_
            case tkh => rfl
            case tky => intro w hSw; (try dsimp only at hSw); go_simp; (try with_reducible rfl)
            try simp only [Act.put, xq1, xq2, xq3]
            refine tk (v := ?_) 2 hHeld rfl (by kernel_rfl) (fun _ _ _ h => h) (Or.inl ⟨?tkh, ?tky⟩) ?_
            case tkh => rfl
            case tky => intro w hSw; (try dsimp only at hSw); go_simp; (try with_reducible rfl)
            try simp only [Act.put, xq1, xq2, xq3]
            refine tk (v := ?_) 3 hHeld rfl (by kernel_rfl) (fun _ _ _ h => h) (Or.inl ⟨?tkh, ?tky⟩) ?_
            case tkh => rfl
            case tky => intro w hSw; (try dsimp only at hSw); go_simp; (try with_reducible rfl)
            try simp only [Act.put, xq1, xq2, xq3]
            refine tk (v := ?_) 4 hHeld rfl (by kernel_rfl) (fun _ _ _ h => h) (Or.inl ⟨?tkh, ?tky⟩) ?_
            case tkh => rfl
            case tky => intro w hSw; (try dsimp only at hSw); go_simp; (try with_reducible rfl)
            try simp only [Act.put, xq1, xq2, xq3]
            refine tk (v := ?_) 5 hHeld rfl (by kernel_rfl) (fun _ _ _ h => h) (Or.inl ⟨?tkh, ?tky⟩) ?_
            case tkh => rfl
            case tky => intro w hSw; (try dsimp only at hSw); go_simp; (try with_reducible rfl)
            try simp only [Act.put, xq1, xq2, xq3]
            refine wpAnyH_ready (rs := [6]) (by kernel_rfl) (by simp) (cs rfl (fun K hK => ?_) AllReadyH.nil)
            go_simp
            ((go_at_call 78; refine HPC.out.mono ?_; rintro e w4 ⟨g, mb, rfl, hp1, hp2, hp3, hp4, hp5, hb⟩; have HP1 := mkA hp1; have HP2 := mkA hp2; have HP45 := mkA (And.intro hp4 hp5); have HB4 := mkA (z16 (z13 HBL.out) hb); clear hp1 hp2 hp3 hp4 hp5 hb; dsimp only))
            try simp only [Act.put, xq1, xq2, xq3]
            refine hK.out _ _ ?_ (fun hHeld2 => ?_)
            · (try dsimp only); exact HKD.out _ HB4.out
            clear hK K hHeld; have hHeld := hHeld2; clear hHeld2
            refine wpAnyH_ready (rs := [7]) (by kernel_rfl) (by simp) (cs rfl (fun K hK => ?_) AllReadyH.nil)
            go_simp
            try simp only [Act.put, xq1, xq2, xq3]
            refine hK.out _ _ ?_ (fun hHeld2 => ?_)
            · (try dsimp only); exact HKD.out _ (z10 HB4.out _)
            clear hK K hHeld; have hHeld := hHeld2; clear hHeld2
            refine wpAnyH_ready (rs := [8]) (by kernel_rfl) (by simp) (cs rfl (fun K hK => ?_) AllReadyH.nil)
            ((refine Kd.R_append_step kP (w0 := w4) (w2.heap.size + 6) (by rfl) (.tmp 52) (.tmp 55) 112 117 (.pointer none) 8 rfl Try.underlying112 info117 rfl (by decide) (by omega) (.slice A 0 c) [] g [.pointer (some ⟨g, 0, none⟩)] (fun _ => True) (fun _ => False) ?r1 ?r2 ?r3 ?r4 ?r5 ?r6 ?r7 ?r8 ?r9 ?_; (case r1 => rfl); (case r2 => rfl); (case r3 => exact kP_mkM _ _ _ _); (case r4 => exact (fun _ hk => hk.elim)); (case r5 => exact (fun _ _ => trivial)); (case r6 => exact (HROW.out _ HB4.out)); (case r7 => exact (Below.refl _ _)); (case r8 => exact (Nat.le_trans hB6 HB4.out.size)); (case r9 => omega); intro v9 w5 ho hb hg hat; have HO5 := mkA ho; have HBB5 := mkA hb; have HG5 := mkA hg; have HK5 := mkA (HK8.out w5 ((hg.block _ (Nat.lt_of_lt_of_le (z22 HBX.out) HB4.out.size) (Kd.R_ne (HROW.out _ HB4.out) (blk_below HBX.out HB4.out) (by decide))).trans (HB4.out.block _ (z22 HBX.out))) ((hg.block _ (Nat.lt_of_lt_of_le (z22 HI.out.qx) HB4.out.size) (Kd.R_ne (HROW.out _ HB4.out) (blk_below HI.out.qx HB4.out) (by decide))).trans (HB4.out.block _ (z22 HI.out.qx))) ((hg.block _ (Nat.lt_of_lt_of_le (z22 HI.out.qb) HB4.out.size) (Kd.R_ne (HROW.out _ HB4.out) (blk_below HI.out.qb HB4.out) (by decide))).trans (HB4.out.block _ (z22 HI.out.qb)))); clear ho hb hg hat))
            try simp only [Act.put, xq1, xq2, xq3]
            refine hK.out _ _ ?_ (fun hHeld2 => ?_)
            · (try dsimp only); exact HK5.out
            clear hK K hHeld; have hHeld := hHeld2; clear hHeld2
            refine wpAnyH_done (by kernel_rfl) ?_ _
            all_goals (refine EndsBy.mk ?_)
          have HQ5 := (HBB5.out.block w1.heap.size (by omega)).trans (blk_below HI.out.qb HB4.out)
          have hf5 : w5.frozen? ⟨w1.heap.size, 3, none⟩ = false := z14 HQ5 _
          have hc5 : w5.cell? ⟨w1.heap.size, 3, none⟩ = some (.slice A 0 c) := (z12 HQ5 3).trans rfl
          clear HQ5
          obtain ⟨A9, c9, rfl⟩ := Kd.R_slice HO5.out
          go_wp2
          have hs3 := HBL.out.size
          exact HI.out.next HB4.out HP1.out HP2.out (Nat.le_trans hs3 HP45.out.1) (Nat.le_trans hs3 HP45.out.2) hB6 HO5.out HBB5.out HG5.out HST.out (Nat.le_refl _) (by omega) (by omega) (by omega) (by omega)
        · have hgl : gs.length = (askedL l1 l2 pre).length := HI.out.ps.lg
          have hpos : 0 < gs.length := by
            rw [hgl]
            exact List.length_pos_iff.2 he
          obtain ⟨vl, hvl⟩ : ∃ vl, (askedL l1 l2 pre).getD (gs.length - 1) [] = vl := ⟨_, rfl⟩
          obtain ⟨gl, hgg⟩ : ∃ gl, gs.getD (gs.length - 1) 0 = gl := ⟨_, rfl⟩
          have hlast : (askedL l1 l2 pre).getLast? = some vl := by
            rw [List.getLast?_eq_getElem?, ← hvl, ← hgl]
            simp [List.getD, show gs.length - 1 < (askedL l1 l2 pre).length by omega]
          have hvm : vl ∈ askedL l1 l2 pre := List.mem_of_getLast? hlast
          have hvl6 : vl.length = 6 := by
            obtain ⟨os', h'⟩ := askedL_mem l1 l2 pre vl hvm
            rw [h']
            exact z38 _ _ _
          have HPA := mkA (show PurseAt W gl (mbs.getD (gs.length - 1) 0) vl from by
            have := (HI.out.ps.at_ (gs.length - 1) (by omega)).1
            rw [hvl, hgg] at this
            exact this)
          obtain ⟨ad, hA, _⟩ := at_P hCP ((gs.length : Int) - 1) (by omega) (by omega)
          subst hA
          obtain ⟨m, hm⟩ : ∃ m : Int, (gs.length : Int) - 1 = m := ⟨_, rfl⟩
          have hnt : m.toNat = gs.length - 1 := by omega
          have HKC := mkA (fun (W' : World) (hb : Below W.heap.size W W') => show W'.cell? ⟨w.heap.size, 0, none⟩ = some (.int .i64 n) ∧ W'.cell? ⟨w.heap.size, 1, none⟩ = some (.slice A1 l1.length c1) ∧ W'.cell? ⟨w.heap.size, 2, none⟩ = some (.slice A2 l2.length c2) ∧ W'.cell? ⟨bx, 0, none⟩ = some (.int .i64 (rd u 0)) ∧ W'.cell? ⟨bx, 1, none⟩ = some (.int .i64 (rd u 1)) ∧ W'.cell? ⟨bx, 2, none⟩ = some (.int .i64 (rd u 2)) ∧ W'.cell? ⟨bx, 3, none⟩ = some (.int .i64 (rd u 3)) ∧ W'.cell? ⟨bx, 4, none⟩ = some (.int .i64 (rd u 4)) ∧ W'.cell? ⟨bx, 5, none⟩ = some (.int .i64 (rd u 5)) ∧ W'.cell? ⟨w1.heap.size + 1, 0, none⟩ = some (.pointer (some ⟨w1.heap.size, 0, none⟩)) ∧ W'.cell? ⟨w1.heap.size, 3, none⟩ = some (.slice (some ad) gs.length c) ∧ W'.cell? (ad.add m.toNat) = some (.pointer (some ⟨gl, 0, none⟩)) ∧ W'.cell? ⟨gl, 0, none⟩ = some (.int .i64 (rd vl 0)) ∧ W'.cell? ⟨gl, 1, none⟩ = some (.int .i64 (rd vl 1)) ∧ W'.cell? ⟨gl, 2, none⟩ = some (.int .i64 (rd vl 2)) ∧ W'.cell? ⟨gl, 3, none⟩ = some (.int .i64 (rd vl 3)) ∧ W'.cell? ⟨gl, 4, none⟩ = some (.int .i64 (rd vl 4)) ∧ W'.cell? ⟨gl, 5, none⟩ = some (.int .i64 (rd vl 5)) from by
            obtain ⟨q1, q2, q3, q4, q5, q6, q7, q8, q9, q10, q11⟩ := HKB.out W' hb
            obtain ⟨ad', h1, h2⟩ := at_P (Kd.C_below hCP hb) m (by omega) (by omega)
            obtain rfl := Option.some.inj h1
            rw [hnt, hgg] at h2
            obtain ⟨x0, x1, x2, x3, x4, x5, x6⟩ := PurseAt.cells (show PurseAt W' gl _ vl from blk_below HPA.out hb)
            exact ⟨q1, q2, q3, q4, q5, q6, q7, q8, q9, q10, q11, by rw [hnt]; exact h2, x0, x1, x2, x3, x4, x5⟩)
          have g0 : ((gs.length : Int) == 0) = false := beq_eq_false_iff_ne.2 (by omega)
          have g3 : (0 : Int) ≤ m := by omega
          have g4 : m < (gs.length : Int) := by omega
          have hwr : wrap64 ((gs.length : Int) - 1) = m := by unfold wrap64; omega
          have hwr2 : IntKind.i64.wrap ((gs.length : Int) - 1) = m := (i64_w _).trans hwr
          clear hm hnt
          have heq := fun W => eqA128 9998 W (rd vl 0) (rd vl 1) (rd vl 2) (rd vl 3) (rd vl 4) (rd vl 5) (rd u 0) (rd u 1) (rd u 2) (rd u 3) (rd u 4) (rd u 5)
          clear hvl hgg hgl hvm
          by_cases hvu : vl = u
          · have hbb : (rd vl 0 == rd u 0 && rd vl 1 == rd u 1 && rd vl 2 == rd u 2 && rd vl 3 == rd u 3 && rd vl 4 == rd u 4 && rd vl 5 == rd u 5) = true := by rw [hvu]; simp
            have HST := mkA (show askedL l1 l2 (pre ++ [os]) = askedL l1 l2 pre by rw [askedL_snoc]; unfold askStep; rw [if_neg (by rw [HU.out, hlast, hvu]; exact fun h => h.2 rfl)])
            rw [hbb] at heq
            clear he hr hlast hvu hbb
            focus
              refine round_region_held_drew (S := (fun W' => W'.cell? ⟨w.heap.size, 0, none⟩ = some (.int .i64 n) ∧ W'.cell? ⟨w.heap.size, 1, none⟩ = some (.slice A1 l1.length c1) ∧ W'.cell? ⟨w.heap.size, 2, none⟩ = some (.slice A2 l2.length c2) ∧ W'.cell? ⟨bx, 0, none⟩ = some (.int .i64 (rd u 0)) ∧ W'.cell? ⟨bx, 1, none⟩ = some (.int .i64 (rd u 1)) ∧ W'.cell? ⟨bx, 2, none⟩ = some (.int .i64 (rd u 2)) ∧ W'.cell? ⟨bx, 3, none⟩ = some (.int .i64 (rd u 3)) ∧ W'.cell? ⟨bx, 4, none⟩ = some (.int .i64 (rd u 4)) ∧ W'.cell? ⟨bx, 5, none⟩ = some (.int .i64 (rd u 5)) ∧ W'.cell? ⟨w1.heap.size + 1, 0, none⟩ = some (.pointer (some ⟨w1.heap.size, 0, none⟩)) ∧ W'.cell? ⟨w1.heap.size, 3, none⟩ = some (.slice (some ad) gs.length c) ∧ W'.cell? (ad.add m.toNat) = some (.pointer (some ⟨gl, 0, none⟩)) ∧ W'.cell? ⟨gl, 0, none⟩ = some (.int .i64 (rd vl 0)) ∧ W'.cell? ⟨gl, 1, none⟩ = some (.int .i64 (rd vl 1)) ∧ W'.cell? ⟨gl, 2, none⟩ = some (.int .i64 (rd vl 2)) ∧ W'.cell? ⟨gl, 3, none⟩ = some (.int .i64 (rd vl 3)) ∧ W'.cell? ⟨gl, 4, none⟩ = some (.int .i64 (rd vl 4)) ∧ W'.cell? ⟨gl, 5, none⟩ = some (.int .i64 (rd vl 5)))) (by kernel_rfl) (by kernel_rfl) ?_ (fun hHeld => ?_)
              · (try dsimp only); exact HKC.out _ (z13 (Below.refl _ _))
              try simp only [List.take_succ_cons, List.take_zero, List.drop_succ_cons, List.drop_zero]
              refine tk (v := ?_) 0 hHeld rfl (by kernel_rfl) (fun _ _ _ h => h) (Or.inl ⟨?tkh, ?tky⟩) ?_
              case tkh => rfl
              case tky => intro w hSw; (try dsimp only at hSw); go_simp; (try with_reducible rfl)
              try simp only [Act.put, xq1, xq2, xq3]
              refine tk (v := ?_) 1 hHeld rfl (by kernel_rfl) (fun _ _ _ h => h) (Or.inl ⟨?tkh, ?tky⟩) ?_
              case tkh => rfl
              case tky => intro w hSw; (try dsimp only at hSw); go_simp; (try with_reducible rfl)
              try simp only [Act.put, xq1, xq2, xq3]
              refine wpAnyH_ready (rs := [2]) (by kernel_rfl) (by simp) (cs rfl (fun K hK => ?_) AllReadyH.nil)
              go_simp
              ((go_at_call 98; refine HRC.out.mono ?_; rintro e w3 ⟨rfl, hb⟩; have HBL := mkA (z16 (z13 (Below.refl _ W)) hb); clear hb; dsimp only))
              try simp only [Act.put, xq1, xq2, xq3]
              refine hK.out _ _ ?_ (fun hHeld2 => ?_)
              · (try dsimp only); exact HKC.out _ HBL.out
              clear hK K hHeld; have hHeld := hHeld2; clear hHeld2
              refine tk (v := ?_) 3 hHeld rfl (by kernel_rfl) (fun _ _ _ h => h) (Or.inl ⟨?tkh, ?tky⟩) ?_
              case tkh => rfl
              case tky => intro w hSw; (try dsimp only at hSw); go_simp; (try with_reducible rfl)
              try simp only [Act.put, xq1, xq2, xq3]
              refine tk (v := ?_) 4 hHeld rfl (by kernel_rfl) (fun _ _ _ h => h) (Or.inl ⟨?tkh, ?tky⟩) ?_
              case tkh => rfl
              case tky => intro w hSw; (try dsimp only at hSw); go_simp; (try with_reducible rfl)
              try simp only [Act.put, xq1, xq2, xq3]
              refine tk (v := ?_) 5 hHeld rfl (by kernel_rfl) (fun _ _ _ h => h) (Or.inl ⟨?tkh, ?tky⟩) ?_
              case tkh => rfl
              case tky => intro w hSw; (try dsimp only at hSw); go_simp; (try with_reducible rfl)
              try simp only [Act.put, xq1, xq2, xq3]
              refine tk (v := ?_) 6 hHeld rfl (by kernel_rfl) (fun _ _ _ h => h) (Or.inl ⟨?tkh, ?tky⟩) ?_
              case tkh => rfl
              case tky => intro w hSw; (try dsimp only at hSw); go_simp; (try with_reducible rfl)
              try simp only [Act.put, xq1, xq2, xq3]
              refine tk (v := ?_) 7 hHeld rfl (by kernel_rfl) (fun _ _ _ h => h) (Or.inl ⟨?tkh, ?tky⟩) ?_
              case tkh => rfl
              case tky => intro w hSw; (try dsimp only at hSw); go_simp; (try with_reducible rfl)
              try simp only [Act.put, xq1, xq2, xq3]
              refine tk (v := ?_) 8 hHeld rfl (by kernel_rfl) (fun _ _ _ h => h) (Or.inl ⟨?tkh, ?tky⟩) ?_
              case tkh => rfl
              case tky => intro w hSw; (try dsimp only at hSw); go_simp; (try with_reducible rfl)
              try simp only [Act.put, xq1, xq2, xq3]
              refine tk (v := ?_) 9 hHeld rfl (by kernel_rfl) (fun _ _ _ h => h) (Or.inl ⟨?tkh, ?tky⟩) ?_
              case tkh => rfl
              case tky => intro w hSw; (try dsimp only at hSw); go_simp; (try with_reducible rfl)
              try simp only [Act.put, xq1, xq2, xq3]
              refine tk (v := ?_) 10 hHeld rfl (by kernel_rfl) (fun _ _ _ h => h) (Or.inl ⟨?tkh, ?tky⟩) ?_
              case tkh => rfl
              case tky => intro w hSw; (try dsimp only at hSw); go_simp; (try with_reducible rfl)
              try simp only [Act.put, xq1, xq2, xq3]
              refine tk (v := ?_) 11 hHeld rfl (by kernel_rfl) (fun _ _ _ h => h) (Or.inl ⟨?tkh, ?tky⟩) ?_
              case tkh => rfl
              case tky => intro w hSw; (try dsimp only at hSw); go_simp; (try with_reducible rfl)
              try simp only [Act.put, xq1, xq2, xq3]
              refine tk (v := ?_) 12 hHeld rfl (by kernel_rfl) (fun _ _ _ h => h) (Or.inl ⟨?tkh, ?tky⟩) ?_
              case tkh => rfl
              case tky => intro w hSw; (try dsimp only at hSw); go_simp; (try with_reducible rfl)
              try simp only [Act.put, xq1, xq2, xq3]
              refine tk (v := ?_) 13 hHeld rfl (by kernel_rfl) (fun _ _ _ h => h) (Or.inl ⟨?tkh, ?tky⟩) ?_
              case tkh => rfl
              case tky => intro w hSw; (try dsimp only at hSw); go_simp; (try with_reducible rfl)
              try simp only [Act.put, xq1, xq2, xq3]
              refine tk (v := ?_) 14 hHeld rfl (by kernel_rfl) (fun _ _ _ h => h) (Or.inl ⟨?tkh, ?tky⟩) ?_
              case tkh => rfl
              case tky => intro w hSw; (try dsimp only at hSw); go_simp; (try with_reducible rfl)
              try simp only [Act.put, xq1, xq2, xq3]
              refine tk (v := ?_) 15 hHeld rfl (by kernel_rfl) (fun _ _ _ h => h) (Or.inl ⟨?tkh, ?tky⟩) ?_
              case tkh => rfl
              case tky => intro w hSw; (try dsimp only at hSw); go_simp; (try with_reducible rfl)
              try simp only [Act.put, xq1, xq2, xq3]
              refine tk (v := ?_) 16 hHeld rfl (by kernel_rfl) (fun _ _ _ h => h) (Or.inl ⟨?tkh, ?tky⟩) ?_
              case tkh => rfl
              case tky => intro w hSw; (try dsimp only at hSw); go_simp; (try with_reducible rfl)
              try simp only [Act.put, xq1, xq2, xq3]
              refine tk (v := ?_) 17 hHeld rfl (by kernel_rfl) (fun _ _ _ h => h) (Or.inl ⟨?tkh, ?tky⟩) ?_
              case tkh => rfl
              case tky => intro w hSw; (try dsimp only at hSw); go_simp; (try with_reducible rfl)
              try simp only [Act.put, xq1, xq2, xq3]
              refine tk (v := ?_) 18 hHeld rfl (by kernel_rfl) (fun _ _ _ h => h) (Or.inl ⟨?tkh, ?tky⟩) ?_
              case tkh => rfl
              case tky => intro w hSw; (try dsimp only at hSw); go_simp; (try with_reducible rfl)
              try simp only [Act.put, xq1, xq2, xq3]
              refine tk (v := ?_) 19 hHeld rfl (by kernel_rfl) (fun _ _ _ h => h) (Or.inl ⟨?tkh, ?tky⟩) ?_
              case tkh => rfl
              case tky => intro w hSw; (try dsimp only at hSw); go_simp; (try with_reducible rfl)
              try simp only [Act.put, xq1, xq2, xq3]
              refine tk (v := ?_) 20 hHeld rfl (by kernel_rfl) (fun _ _ _ h => h) (Or.inl ⟨?tkh, ?tky⟩) ?_
              case tkh => rfl
              case tky => intro w hSw; (try dsimp only at hSw); go_simp; (try with_reducible rfl)
              try simp only [Act.put, xq1, xq2, xq3]
              refine tk (v := ?_) 21 hHeld rfl (by kernel_rfl) (fun _ _ _ h => h) (Or.inl ⟨?tkh, ?tky⟩) ?_
              case tkh => rfl
              case tky => intro w hSw; (try dsimp only at hSw); go_simp; (try with_reducible rfl)
              try simp only [Act.put, xq1, xq2, xq3]
              refine tk (v := ?_) 22 hHeld rfl (by kernel_rfl) (fun _ _ _ h => h) (Or.inl ⟨?tkh, ?tky⟩) ?_
              case tkh => rfl
              case tky => intro w hSw; (try dsimp only at hSw); go_simp; (try with_reducible rfl)
              try simp only [Act.put, xq1, xq2, xq3]
              refine tk (v := ?_) 23 hHeld rfl (by kernel_rfl) (fun _ _ _ h => h) (Or.inl ⟨?tkh, ?tky⟩) ?_
              case tkh => rfl
              case tky => intro w hSw; (try dsimp only at hSw); go_simp; (try with_reducible rfl)
              try simp only [Act.put, xq1, xq2, xq3]
              refine tk (v := ?_) 24 hHeld rfl (by kernel_rfl) (fun _ _ _ h => h) (Or.inl ⟨?tkh, ?tky⟩) ?_
              case tkh => rfl
              case tky => intro w hSw; (try dsimp only at hSw); go_simp; (try with_reducible rfl)
              try simp only [Act.put, xq1, xq2, xq3]
              refine tk (v := ?_) 25 hHeld rfl (by kernel_rfl) (fun _ _ _ h => h) (Or.inl ⟨?tkh, ?tky⟩) ?_
              case tkh => rfl
              case tky => intro w hSw; (try dsimp only at hSw); go_simp; (try with_reducible rfl)
              try simp only [Act.put, xq1, xq2, xq3]
              refine tk (v := ?_) 26 hHeld rfl (by kernel_rfl) (fun _ _ _ h => h) (Or.inl ⟨?tkh, ?tky⟩) ?_
              case tkh => rfl
              case tky => intro w hSw; (try dsimp only at hSw); go_simp; (try with_reducible rfl)
              try simp only [Act.put, xq1, xq2, xq3]
              refine tk (v := ?_) 27 hHeld rfl (by kernel_rfl) (fun _ _ _ h => h) (Or.inl ⟨?tkh, ?tky⟩) ?_
              case tkh => rfl
              case tky => intro w hSw; (try dsimp only at hSw); go_simp; (try with_reducible rfl)
              try simp only [Act.put, xq1, xq2, xq3]
              refine tk (v := ?_) 28 hHeld rfl (by kernel_rfl) (fun _ _ _ h => h) (Or.inl ⟨?tkh, ?tky⟩) ?_
              case tkh => rfl
              case tky => intro w hSw; (try dsimp only at hSw); go_simp; (try with_reducible rfl)
              try simp only [Act.put, xq1, xq2, xq3]
              refine tk (v := ?_) 29 hHeld rfl (by kernel_rfl) (fun _ _ _ h => h) (Or.inl ⟨?tkh, ?tky⟩) ?_
              case tkh => rfl
              case tky => intro w hSw; (try dsimp only at hSw); go_simp; (try with_reducible rfl)
              try simp only [Act.put, xq1, xq2, xq3]
              refine wpAnyH_done (by kernel_rfl) ?_ _
              all_goals (refine EndsBy.mk ?_)
            gi_wp2
            exact ⟨KeepZ.of_below HBL.out, z16 HBW2.out HBL.out, _, gs, mbs, by
              have hz := HI.out.zone (Zone6.of_below HBL.out) (by omega) (by omega) (by omega) (by omega)
              exact ⟨hz.below, hz.tb, hz.qx, hz.qb, hz.row, by rw [HST.out]; exact hz.ps⟩⟩
          · have hbb : (rd vl 0 == rd u 0 && rd vl 1 == rd u 1 && rd vl 2 == rd u 2 && rd vl 3 == rd u 3 && rd vl 4 == rd u 4 && rd vl 5 == rd u 5) = false := by
              rw [Bool.eq_false_iff]
              intro h
              simp only [Bool.and_eq_true, beq_iff_eq] at h
              obtain ⟨⟨⟨⟨⟨t0, t1⟩, t2⟩, t3⟩, t4⟩, t5⟩ := h
              exact hvu (by rw [six hvl6, six hul, t0, t1, t2, t3, t4, t5])
            have HST := mkA (show askedL l1 l2 (pre ++ [os]) = askedL l1 l2 pre ++ [u] by rw [askedL_snoc]; unfold askStep; rw [if_pos ⟨by rw [HU.out]; exact hr, by rw [HU.out, hlast]; simpa using hvu⟩, HU.out])
            rw [hbb] at heq
            clear he hr hlast hvu hbb
            focus
              refine round_region_held_drew (S := (fun W' => W'.cell? ⟨w.heap.size, 0, none⟩ = some (.int .i64 n) ∧ W'.cell? ⟨w.heap.size, 1, none⟩ = some (.slice A1 l1.length c1) ∧ W'.cell? ⟨w.heap.size, 2, none⟩ = some (.slice A2 l2.length c2) ∧ W'.cell? ⟨bx, 0, none⟩ = some (.int .i64 (rd u 0)) ∧ W'.cell? ⟨bx, 1, none⟩ = some (.int .i64 (rd u 1)) ∧ W'.cell? ⟨bx, 2, none⟩ = some (.int .i64 (rd u 2)) ∧ W'.cell? ⟨bx, 3, none⟩ = some (.int .i64 (rd u 3)) ∧ W'.cell? ⟨bx, 4, none⟩ = some (.int .i64 (rd u 4)) ∧ W'.cell? ⟨bx, 5, none⟩ = some (.int .i64 (rd u 5)) ∧ W'.cell? ⟨w1.heap.size + 1, 0, none⟩ = some (.pointer (some ⟨w1.heap.size, 0, none⟩)) ∧ W'.cell? ⟨w1.heap.size, 3, none⟩ = some (.slice (some ad) gs.length c) ∧ W'.cell? (ad.add m.toNat) = some (.pointer (some ⟨gl, 0, none⟩)) ∧ W'.cell? ⟨gl, 0, none⟩ = some (.int .i64 (rd vl 0)) ∧ W'.cell? ⟨gl, 1, none⟩ = some (.int .i64 (rd vl 1)) ∧ W'.cell? ⟨gl, 2, none⟩ = some (.int .i64 (rd vl 2)) ∧ W'.cell? ⟨gl, 3, none⟩ = some (.int .i64 (rd vl 3)) ∧ W'.cell? ⟨gl, 4, none⟩ = some (.int .i64 (rd vl 4)) ∧ W'.cell? ⟨gl, 5, none⟩ = some (.int .i64 (rd vl 5)))) (by kernel_rfl) (by kernel_rfl) ?_ (fun hHeld => ?_)
              · (try dsimp only); exact HKC.out _ (z13 (Below.refl _ _))
              try simp only [List.take_succ_cons, List.take_zero, List.drop_succ_cons, List.drop_zero]
              refine tk (v := ?_) 0 hHeld rfl (by kernel_rfl) (fun _ _ _ h => h) (Or.inl ⟨?tkh, ?tky⟩) ?_
              case tkh => rfl
              case tky => intro w hSw; (try dsimp only at hSw); go_simp; (try with_reducible rfl)
              try simp only [Act.put, xq1, xq2, xq3]
              refine tk (v := ?_) 1 hHeld rfl (by kernel_rfl) (fun _ _ _ h => h) (Or.inl ⟨?tkh, ?tky⟩) ?_
              case tkh => rfl
              case tky => intro w hSw; (try dsimp only at hSw); go_simp; (try with_reducible rfl)
              try simp only [Act.put, xq1, xq2, xq3]
              refine wpAnyH_ready (rs := [2]) (by kernel_rfl) (by simp) (cs rfl (fun K hK => ?_) AllReadyH.nil)
              go_simp
              ((go_at_call 98; refine HRC.out.mono ?_; rintro e w3 ⟨rfl, hb⟩; have HBL := mkA (z16 (z13 (Below.refl _ W)) hb); clear hb; dsimp only))
              try simp only [Act.put, xq1, xq2, xq3]
              refine hK.out _ _ ?_ (fun hHeld2 => ?_)
              · (try dsimp only); exact HKC.out _ HBL.out
              clear hK K hHeld; have hHeld := hHeld2; clear hHeld2
              refine tk (v := ?_) 3 hHeld rfl (by kernel_rfl) (fun _ _ _ h => h) (Or.inl ⟨?tkh, ?tky⟩) ?_
              case tkh => rfl
              case tky => intro w hSw; (try dsimp only at hSw); go_simp; (try with_reducible rfl)
              try simp only [Act.put, xq1, xq2, xq3]
              refine tk (v := ?_) 4 hHeld rfl (by kernel_rfl) (fun _ _ _ h => h) (Or.inl ⟨?tkh, ?tky⟩) ?_
              case tkh => rfl
              case tky => intro w hSw; (try dsimp only at hSw); go_simp; (try with_reducible rfl)
              try simp only [Act.put, xq1, xq2, xq3]
              refine tk (v := ?_) 5 hHeld rfl (by kernel_rfl) (fun _ _ _ h => h) (Or.inl ⟨?tkh, ?tky⟩) ?_
              case tkh => rfl
              case tky => intro w hSw; (try dsimp only at hSw); go_simp; (try with_reducible rfl)
              try simp only [Act.put, xq1, xq2, xq3]
              refine tk (v := ?_) 6 hHeld rfl (by kernel_rfl) (fun _ _ _ h => h) (Or.inl ⟨?tkh, ?tky⟩) ?_
              case tkh => rfl
              case tky => intro w hSw; (try dsimp only at hSw); go_simp; (try with_reducible rfl)
              try simp only [Act.put, xq1, xq2, xq3]
              refine tk (v := ?_) 7 hHeld rfl (by kernel_rfl) (fun _ _ _ h => h) (Or.inl ⟨?tkh, ?tky⟩) ?_
              case tkh => rfl
              case tky => intro w hSw; (try dsimp only at hSw); go_simp; (try with_reducible rfl)
              try simp only [Act.put, xq1, xq2, xq3]
              refine tk (v := ?_) 8 hHeld rfl (by kernel_rfl) (fun _ _ _ h => h) (Or.inl ⟨?tkh, ?tky⟩) ?_
              case tkh => rfl
              case tky => intro w hSw; (try dsimp only at hSw); go_simp; (try with_reducible rfl)
              try simp only [Act.put, xq1, xq2, xq3]
              refine tk (v := ?_) 9 hHeld rfl (by kernel_rfl) (fun _ _ _ h => h) (Or.inl ⟨?tkh, ?tky⟩) ?_
              case tkh => rfl
              case tky => intro w hSw; (try dsimp only at hSw); go_simp; (try with_reducible rfl)
              try simp only [Act.put, xq1, xq2, xq3]
              refine tk (v := ?_) 10 hHeld rfl (by kernel_rfl) (fun _ _ _ h => h) (Or.inl ⟨?tkh, ?tky⟩) ?_
              case tkh => rfl
              case tky => intro w hSw; (try dsimp only at hSw); go_simp; (try with_reducible rfl)
              try simp only [Act.put, xq1, xq2, xq3]
              refine tk (v := ?_) 11 hHeld rfl (by kernel_rfl) (fun _ _ _ h => h) (Or.inl ⟨?tkh, ?tky⟩) ?_
              case tkh => rfl
              case tky => intro w hSw; (try dsimp only at hSw); go_simp; (try with_reducible rfl)
              try simp only [Act.put, xq1, xq2, xq3]
              refine tk (v := ?_) 12 hHeld rfl (by kernel_rfl) (fun _ _ _ h => h) (Or.inl ⟨?tkh, ?tky⟩) ?_
              case tkh => rfl
              case tky => intro w hSw; (try dsimp only at hSw); go_simp; (try with_reducible rfl)
              try simp only [Act.put, xq1, xq2, xq3]
              refine tk (v := ?_) 13 hHeld rfl (by kernel_rfl) (fun _ _ _ h => h) (Or.inl ⟨?tkh, ?tky⟩) ?_
              case tkh => rfl
              case tky => intro w hSw; (try dsimp only at hSw); go_simp; (try with_reducible rfl)
              try simp only [Act.put, xq1, xq2, xq3]
              refine tk (v := ?_) 14 hHeld rfl (by kernel_rfl) (fun _ _ _ h => h) (Or.inl ⟨?tkh, ?tky⟩) ?_
              case tkh => rfl
              case tky => intro w hSw; (try dsimp only at hSw); go_simp; (try with_reducible rfl)
              try simp only [Act.put, xq1, xq2, xq3]
              refine tk (v := ?_) 15 hHeld rfl (by kernel_rfl) (fun _ _ _ h => h) (Or.inl ⟨?tkh, ?tky⟩) ?_
              case tkh => rfl
              case tky => intro w hSw; (try dsimp only at hSw); go_simp; (try with_reducible rfl)
              try simp only [Act.put, xq1, xq2, xq3]
              refine tk (v := ?_) 16 hHeld rfl (by kernel_rfl) (fun _ _ _ h => h) (Or.inl ⟨?tkh, ?tky⟩) ?_
              case tkh => rfl
              case tky => intro w hSw; (try dsimp only at hSw); go_simp; (try with_reducible rfl)
              try simp only [Act.put, xq1, xq2, xq3]
              refine tk (v := ?_) 17 hHeld rfl (by kernel_rfl) (fun _ _ _ h => h) (Or.inl ⟨?tkh, ?tky⟩) ?_
              case tkh => rfl
              case tky => intro w hSw; (try dsimp only at hSw); go_simp; (try with_reducible rfl)
              try simp only [Act.put, xq1, xq2, xq3]
              refine tk (v := ?_) 18 hHeld rfl (by kernel_rfl) (fun _ _ _ h => h) (Or.inl ⟨?tkh, ?tky⟩) ?_
              case tkh => rfl
              case tky => intro w hSw; (try dsimp only at hSw); go_simp; (try with_reducible rfl)
              try simp only [Act.put, xq1, xq2, xq3]
              refine tk (v := ?_) 19 hHeld rfl (by kernel_rfl) (fun _ _ _ h => h) (Or.inl ⟨?tkh, ?tky⟩) ?_
              case tkh => rfl
              case tky => intro w hSw; (try dsimp only at hSw); go_simp; (try with_reducible rfl)
              try simp only [Act.put, xq1, xq2, xq3]
              refine tk (v := ?_) 20 hHeld rfl (by kernel_rfl) (fun _ _ _ h => h) (Or.inl ⟨?tkh, ?tky⟩) ?_
              case tkh => rfl
              case tky => intro w hSw; (try dsimp only at hSw); go_simp; (try with_reducible rfl)
              try simp only [Act.put, xq1, xq2, xq3]
              refine tk (v := ?_) 21 hHeld rfl (by kernel_rfl) (fun _ _ _ h => h) (Or.inl ⟨?tkh, ?tky⟩) ?_
              case tkh => rfl
              case tky => intro w hSw; (try dsimp only at hSw); go_simp; (try with_reducible rfl)
              try simp only [Act.put, xq1, xq2, xq3]
              refine tk (v := ?_) 22 hHeld rfl (by kernel_rfl) (fun _ _ _ h => h) (Or.inl ⟨?tkh, ?tky⟩) ?_
              case tkh => rfl
              case tky => intro w hSw; (try dsimp only at hSw); go_simp; (try with_reducible rfl)
              try simp only [Act.put, xq1, xq2, xq3]
              refine tk (v := ?_) 23 hHeld rfl (by kernel_rfl) (fun _ _ _ h => h) (Or.inl ⟨?tkh, ?tky⟩) ?_
              case tkh => rfl
              case tky => intro w hSw; (try dsimp only at hSw); go_simp; (try with_reducible rfl)
              try simp only [Act.put, xq1, xq2, xq3]
              refine tk (v := ?_) 24 hHeld rfl (by kernel_rfl) (fun _ _ _ h => h) (Or.inl ⟨?tkh, ?tky⟩) ?_
              case tkh => rfl
              case tky => intro w hSw; (try dsimp only at hSw); go_simp; (try with_reducible rfl)
              try simp only [Act.put, xq1, xq2, xq3]
              refine tk (v := ?_) 25 hHeld rfl (by kernel_rfl) (fun _ _ _ h => h) (Or.inl ⟨?tkh, ?tky⟩) ?_
              case tkh => rfl
              case tky => intro w hSw; (try dsimp only at hSw); go_simp; (try with_reducible rfl)
              try simp only [Act.put, xq1, xq2, xq3]
              refine tk (v := ?_) 26 hHeld rfl (by kernel_rfl) (fun _ _ _ h => h) (Or.inl ⟨?tkh, ?tky⟩) ?_
              case tkh => rfl
              case tky => intro w hSw; (try dsimp only at hSw); go_simp; (try with_reducible rfl)
              try simp only [Act.put, xq1, xq2, xq3]
              refine tk (v := ?_) 27 hHeld rfl (by kernel_rfl) (fun _ _ _ h => h) (Or.inl ⟨?tkh, ?tky⟩) ?_
              case tkh => rfl
              case tky => intro w hSw; (try dsimp only at hSw); go_simp; (try with_reducible rfl)
              try simp only [Act.put, xq1, xq2, xq3]
              refine tk (v := ?_) 28 hHeld rfl (by kernel_rfl) (fun _ _ _ h => h) (Or.inl ⟨?tkh, ?tky⟩) ?_
              case tkh => rfl
              case tky => intro w hSw; (try dsimp only at hSw); go_simp; (try with_reducible rfl)
              try simp only [Act.put, xq1, xq2, xq3]
              refine tk (v := ?_) 29 hHeld rfl (by kernel_rfl) (fun _ _ _ h => h) (Or.inl ⟨?tkh, ?tky⟩) ?_
              case tkh => rfl
              case tky => intro w hSw; (try dsimp only at hSw); go_simp; (try with_reducible rfl)
              try simp only [Act.put, xq1, xq2, xq3]
              refine wpAnyH_done (by kernel_rfl) ?_ _
              all_goals (refine EndsBy.mk ?_)
            clear heq
            gi_wp2
            have HPC := mkA (purse_calls u w3.drew)
            unfold aggV at HPC
            have HROW := mkA (fun (W' : World) (hb : Below W.heap.size W W') => Kd.R_below HI.out.row hb)
            have hB6 : w2.heap.size + 6 ≤ W.heap.size := by have := z22 HBX.out; omega
            focus
              refine round_region_head (S := (fun W' => W'.cell? ⟨bx, 0, none⟩ = some (.int .i64 (rd u 0)) ∧ W'.cell? ⟨bx, 1, none⟩ = some (.int .i64 (rd u 1)) ∧ W'.cell? ⟨bx, 2, none⟩ = some (.int .i64 (rd u 2)) ∧ W'.cell? ⟨bx, 3, none⟩ = some (.int .i64 (rd u 3)) ∧ W'.cell? ⟨bx, 4, none⟩ = some (.int .i64 (rd u 4)) ∧ W'.cell? ⟨bx, 5, none⟩ = some (.int .i64 (rd u 5)) ∧ W'.cell? ⟨w1.heap.size + 1, 0, none⟩ = some (.pointer (some ⟨w1.heap.size, 0, none⟩)) ∧ W'.cell? ⟨w1.heap.size, 3, none⟩ = some (.slice (some ad) gs.length c))) 9 (by kernel_rfl) (by kernel_rfl) (by kernel_rfl) ?_ (fun hHeld => ?_)
              · (try dsimp only); exact HKD.out _ (z13 HBL.out)
              try simp only [List.take_succ_cons, List.take_zero, List.drop_succ_cons, List.drop_zero]
              refine tk (v := ?_) 0 hHeld rfl (by kernel_rfl) (fun _ _ _ h => h) (Or.inl ⟨?tkh, ?tky⟩) ?_
              case tkh => rfl
              case tky => intro w hSw; (try dsimp only at hSw); go_simp; (try with_reducible rfl)
              try simp only [Act.put, xq1, xq2, xq3]
              refine tk (v := ?_) 1 hHeld rfl (by kernel_rfl) (fun _ _ _ h => h) (Or.inl ⟨?tkh, ?tky⟩) ?_
              case tkh => rfl
              case tky => intro w hSw; (try dsimp only at hSw); go_simp; (try with_reducible rfl)
              try simp only [Act.put, xq1, xq2, xq3]
              refine tk (v := ?_) 2 hHeld rfl (by kernel_rfl) (fun _ _ _ h => h) (Or.inl ⟨?tkh, ?tky⟩) ?_
              case tkh => rfl
              case tky => intro w hSw; (try dsimp only at hSw); go_simp; (try with_reducible rfl)
              try simp only [Act.put, xq1, xq2, xq3]
              refine tk (v := ?_) 3 hHeld rfl (by kernel_rfl) (fun _ _ _ h => h) (Or.inl ⟨?tkh, ?tky⟩) ?_
              case tkh => rfl
              case tky => intro w hSw; (try dsimp only at hSw); go_simp; (try with_reducible rfl)
              try simp only [Act.put, xq1, xq2, xq3]
              refine tk (v := ?_) 4 hHeld rfl (by kernel_rfl) (fun _ _ _ h => h) (Or.inl ⟨?tkh, ?tky⟩) ?_
              case tkh => rfl
              case tky => intro w hSw; (try dsimp only at hSw); go_simp; (try with_reducible rfl)
              try simp only [Act.put, xq1, xq2, xq3]
              refine tk (v := ?_) 5 hHeld rfl (by kernel_rfl) (fun _ _ _ h => h) (Or.inl ⟨?tkh, ?tky⟩) ?_
              case tkh => rfl
              case tky => intro w hSw; (try dsimp only at hSw); go_simp; (try with_reducible rfl)
              try simp only [Act.put, xq1, xq2, xq3]
              refine wpAnyH_ready (rs := [6]) (by kernel_rfl) (by simp) (cs rfl (fun K hK => ?_) AllReadyH.nil)
              go_simp
              ((go_at_call 78; refine HPC.out.mono ?_; rintro e w4 ⟨g, mb, rfl, hp1, hp2, hp3, hp4, hp5, hb⟩; have HP1 := mkA hp1; have HP2 := mkA hp2; have HP45 := mkA (And.intro hp4 hp5); have HB4 := mkA (z16 (z13 HBL.out) hb); clear hp1 hp2 hp3 hp4 hp5 hb; dsimp only))
              try simp only [Act.put, xq1, xq2, xq3]
              refine hK.out _ _ ?_ (fun hHeld2 => ?_)
              · (try dsimp only); exact HKD.out _ HB4.out
              clear hK K hHeld; have hHeld := hHeld2; clear hHeld2
              refine wpAnyH_ready (rs := [7]) (by kernel_rfl) (by simp) (cs rfl (fun K hK => ?_) AllReadyH.nil)
              go_simp
              try simp only [Act.put, xq1, xq2, xq3]
              refine hK.out _ _ ?_ (fun hHeld2 => ?_)
              · (try dsimp only); exact HKD.out _ (z10 HB4.out _)
              clear hK K hHeld; have hHeld := hHeld2; clear hHeld2
              refine wpAnyH_ready (rs := [8]) (by kernel_rfl) (by simp) (cs rfl (fun K hK => ?_) AllReadyH.nil)
              ((refine Kd.R_append_step kP (w0 := w4) (w2.heap.size + 6) (by rfl) (.tmp 52) (.tmp 55) 112 117 (.pointer none) 8 rfl Try.underlying112 info117 rfl (by decide) (by omega) (.slice (some ad) gs.length c) gs g [.pointer (some ⟨g, 0, none⟩)] (fun _ => True) (fun _ => False) ?r1 ?r2 ?r3 ?r4 ?r5 ?r6 ?r7 ?r8 ?r9 ?_; (case r1 => rfl); (case r2 => rfl); (case r3 => exact kP_mkM _ _ _ _); (case r4 => exact (fun _ hk => hk.elim)); (case r5 => exact (fun _ _ => trivial)); (case r6 => exact (HROW.out _ HB4.out)); (case r7 => exact (Below.refl _ _)); (case r8 => exact (Nat.le_trans hB6 HB4.out.size)); (case r9 => omega); intro v9 w5 ho hb hg hat; have HO5 := mkA ho; have HBB5 := mkA hb; have HG5 := mkA hg; have HK5 := mkA (HK8.out w5 ((hg.block _ (Nat.lt_of_lt_of_le (z22 HBX.out) HB4.out.size) (Kd.R_ne (HROW.out _ HB4.out) (blk_below HBX.out HB4.out) (by decide))).trans (HB4.out.block _ (z22 HBX.out))) ((hg.block _ (Nat.lt_of_lt_of_le (z22 HI.out.qx) HB4.out.size) (Kd.R_ne (HROW.out _ HB4.out) (blk_below HI.out.qx HB4.out) (by decide))).trans (HB4.out.block _ (z22 HI.out.qx))) ((hg.block _ (Nat.lt_of_lt_of_le (z22 HI.out.qb) HB4.out.size) (Kd.R_ne (HROW.out _ HB4.out) (blk_below HI.out.qb HB4.out) (by decide))).trans (HB4.out.block _ (z22 HI.out.qb)))); clear ho hb hg hat))
              try simp only [Act.put, xq1, xq2, xq3]
              refine hK.out _ _ ?_ (fun hHeld2 => ?_)
              · (try dsimp only); exact HK5.out
              clear hK K hHeld; have hHeld := hHeld2; clear hHeld2
              refine wpAnyH_done (by kernel_rfl) ?_ _
              all_goals (refine EndsBy.mk ?_)
            have HQ5 := (HBB5.out.block w1.heap.size (by omega)).trans (blk_below HI.out.qb HB4.out)
            have hf5 : w5.frozen? ⟨w1.heap.size, 3, none⟩ = false := z14 HQ5 _
            have hc5 : w5.cell? ⟨w1.heap.size, 3, none⟩ = some (.slice (some ad) gs.length c) := (z12 HQ5 3).trans rfl
            clear HQ5
            obtain ⟨A9, c9, rfl⟩ := Kd.R_slice HO5.out
            simp only [List.length_append, List.length_singleton] at HO5
            go_wp2
            have hs3 := HBL.out.size
            exact HI.out.next HB4.out HP1.out HP2.out (Nat.le_trans hs3 HP45.out.1) (Nat.le_trans hs3 HP45.out.2) hB6 HO5.out HBB5.out HG5.out HST.out (Nat.le_refl _) (by omega) (by omega) (by omega) (by omega)
      · have hr2 : rightB l2 u [] = false := by simpa using hr
        have HST := mkA (show askedL l1 l2 (pre ++ [os]) = askedL l1 l2 pre by rw [askedL_snoc]; unfold askStep; rw [if_neg (by rw [HU.out]; exact fun h => hr h.1)])
        rw [hr2] at HRC
        clear hr hr2
        focus
          refine round_region_held_drew (S := (fun W' => W'.cell? ⟨w.heap.size, 0, none⟩ = some (.int .i64 n) ∧ W'.cell? ⟨w.heap.size, 1, none⟩ = some (.slice A1 l1.length c1) ∧ W'.cell? ⟨w.heap.size, 2, none⟩ = some (.slice A2 l2.length c2) ∧ W'.cell? ⟨bx, 0, none⟩ = some (.int .i64 (rd u 0)) ∧ W'.cell? ⟨bx, 1, none⟩ = some (.int .i64 (rd u 1)) ∧ W'.cell? ⟨bx, 2, none⟩ = some (.int .i64 (rd u 2)) ∧ W'.cell? ⟨bx, 3, none⟩ = some (.int .i64 (rd u 3)) ∧ W'.cell? ⟨bx, 4, none⟩ = some (.int .i64 (rd u 4)) ∧ W'.cell? ⟨bx, 5, none⟩ = some (.int .i64 (rd u 5)))) (by kernel_rfl) (by kernel_rfl) ?_ (fun hHeld => ?_)
          · (try dsimp only); exact HKA.out _ (z13 (Below.refl _ _))
          try simp only [List.take_succ_cons, List.take_zero, List.drop_succ_cons, List.drop_zero]
          refine tk (v := ?_) 0 hHeld rfl (by kernel_rfl) (fun _ _ _ h => h) (Or.inl ⟨?tkh, ?tky⟩) ?_
          case tkh => rfl
          case tky => intro w hSw; (try dsimp only at hSw); go_simp; (try with_reducible rfl)
          try simp only [Act.put, xq1, xq2, xq3]
          refine tk (v := ?_) 1 hHeld rfl (by kernel_rfl) (fun _ _ _ h => h) (Or.inl ⟨?tkh, ?tky⟩) ?_
          case tkh => rfl
          case tky => intro w hSw; (try dsimp only at hSw); go_simp; (try with_reducible rfl)
          try simp only [Act.put, xq1, xq2, xq3]
          refine wpAnyH_ready (rs := [2]) (by kernel_rfl) (by simp) (cs rfl (fun K hK => ?_) AllReadyH.nil)
          go_simp
          ((go_at_call 98; refine HRC.out.mono ?_; rintro e w3 ⟨rfl, hb⟩; have HBL := mkA (z16 (z13 (Below.refl _ W)) hb); clear hb; dsimp only))
          try simp only [Act.put, xq1, xq2, xq3]
          refine hK.out _ _ ?_ (fun hHeld2 => ?_)
          · (try dsimp only); exact HKA.out _ HBL.out
          clear hK K hHeld; have hHeld := hHeld2; clear hHeld2
          refine tk (v := ?_) 3 hHeld rfl (by kernel_rfl) (fun _ _ _ h => h) (Or.inl ⟨?tkh, ?tky⟩) ?_
          case tkh => rfl
          case tky => intro w hSw; (try dsimp only at hSw); go_simp; (try with_reducible rfl)
          try simp only [Act.put, xq1, xq2, xq3]
          refine tk (v := undef) 4 hHeld rfl (by kernel_rfl) (fun _ _ _ h => h) (Or.inr ⟨?tkh, rfl⟩) ?_
          case tkh => rfl
          try simp only [Act.put, xq1, xq2, xq3]
          refine tk (v := undef) 5 hHeld rfl (by kernel_rfl) (fun _ _ _ h => h) (Or.inr ⟨?tkh, rfl⟩) ?_
          case tkh => rfl
          try simp only [Act.put, xq1, xq2, xq3]
          refine tk (v := undef) 6 hHeld rfl (by kernel_rfl) (fun _ _ _ h => h) (Or.inr ⟨?tkh, rfl⟩) ?_
          case tkh => rfl
          try simp only [Act.put, xq1, xq2, xq3]
          refine tk (v := undef) 7 hHeld rfl (by kernel_rfl) (fun _ _ _ h => h) (Or.inr ⟨?tkh, rfl⟩) ?_
          case tkh => rfl
          try simp only [Act.put, xq1, xq2, xq3]
          refine tk (v := undef) 8 hHeld rfl (by kernel_rfl) (fun _ _ _ h => h) (Or.inr ⟨?tkh, rfl⟩) ?_
          case tkh => rfl
          try simp only [Act.put, xq1, xq2, xq3]
          refine tk (v := undef) 9 hHeld rfl (by kernel_rfl) (fun _ _ _ h => h) (Or.inr ⟨?tkh, rfl⟩) ?_
          case tkh => rfl
          try simp only [Act.put, xq1, xq2, xq3]
          refine tk (v := undef) 10 hHeld rfl (by kernel_rfl) (fun _ _ _ h => h) (Or.inr ⟨?tkh, rfl⟩) ?_
          case tkh => rfl
          try simp only [Act.put, xq1, xq2, xq3]
          refine tk (v := undef) 11 hHeld rfl (by kernel_rfl) (fun _ _ _ h => h) (Or.inr ⟨?tkh, rfl⟩) ?_
          case tkh => rfl
          try simp only [Act.put, xq1, xq2, xq3]
          refine tk (v := undef) 12 hHeld rfl (by kernel_rfl) (fun _ _ _ h => h) (Or.inr ⟨?tkh, rfl⟩) ?_
          case tkh => rfl
          try simp only [Act.put, xq1, xq2, xq3]
          refine tk (v := undef) 13 hHeld rfl (by kernel_rfl) (fun _ _ _ h => h) (Or.inr ⟨?tkh, rfl⟩) ?_
          case tkh => rfl
          try simp only [Act.put, xq1, xq2, xq3]
          refine tk (v := undef) 14 hHeld rfl (by kernel_rfl) (fun _ _ _ h => h) (Or.inr ⟨?tkh, rfl⟩) ?_
          case tkh => rfl
          try simp only [Act.put, xq1, xq2, xq3]
          refine tk (v := undef) 15 hHeld rfl (by kernel_rfl) (fun _ _ _ h => h) (Or.inr ⟨?tkh, rfl⟩) ?_
          case tkh => rfl
          try simp only [Act.put, xq1, xq2, xq3]
          refine tk (v := undef) 16 hHeld rfl (by kernel_rfl) (fun _ _ _ h => h) (Or.inr ⟨?tkh, rfl⟩) ?_
          case tkh => rfl
          try simp only [Act.put, xq1, xq2, xq3]
          refine tk (v := undef) 17 hHeld rfl (by kernel_rfl) (fun _ _ _ h => h) (Or.inr ⟨?tkh, rfl⟩) ?_
          case tkh => rfl
          try simp only [Act.put, xq1, xq2, xq3]
          refine tk (v := undef) 18 hHeld rfl (by kernel_rfl) (fun _ _ _ h => h) (Or.inr ⟨?tkh, rfl⟩) ?_
          case tkh => rfl
          try simp only [Act.put, xq1, xq2, xq3]
          refine tk (v := undef) 19 hHeld rfl (by kernel_rfl) (fun _ _ _ h => h) (Or.inr ⟨?tkh, rfl⟩) ?_
          case tkh => rfl
          try simp only [Act.put, xq1, xq2, xq3]
          refine tk (v := undef) 20 hHeld rfl (by kernel_rfl) (fun _ _ _ h => h) (Or.inr ⟨?tkh, rfl⟩) ?_
          case tkh => rfl
          try simp only [Act.put, xq1, xq2, xq3]
          refine tk (v := undef) 21 hHeld rfl (by kernel_rfl) (fun _ _ _ h => h) (Or.inr ⟨?tkh, rfl⟩) ?_
          case tkh => rfl
          try simp only [Act.put, xq1, xq2, xq3]
          refine tk (v := undef) 22 hHeld rfl (by kernel_rfl) (fun _ _ _ h => h) (Or.inr ⟨?tkh, rfl⟩) ?_
          case tkh => rfl
          try simp only [Act.put, xq1, xq2, xq3]
          refine tk (v := undef) 23 hHeld rfl (by kernel_rfl) (fun _ _ _ h => h) (Or.inr ⟨?tkh, rfl⟩) ?_
          case tkh => rfl
          try simp only [Act.put, xq1, xq2, xq3]
          refine tk (v := undef) 24 hHeld rfl (by kernel_rfl) (fun _ _ _ h => h) (Or.inr ⟨?tkh, rfl⟩) ?_
          case tkh => rfl
          try simp only [Act.put, xq1, xq2, xq3]
          refine tk (v := undef) 25 hHeld rfl (by kernel_rfl) (fun _ _ _ h => h) (Or.inr ⟨?tkh, rfl⟩) ?_
          case tkh => rfl
          try simp only [Act.put, xq1, xq2, xq3]
          refine tk (v := undef) 26 hHeld rfl (by kernel_rfl) (fun _ _ _ h => h) (Or.inr ⟨?tkh, rfl⟩) ?_
          case tkh => rfl
          try simp only [Act.put, xq1, xq2, xq3]
          refine tk (v := undef) 27 hHeld rfl (by kernel_rfl) (fun _ _ _ h => h) (Or.inr ⟨?tkh, rfl⟩) ?_
          case tkh => rfl
          try simp only [Act.put, xq1, xq2, xq3]
          refine tk (v := undef) 28 hHeld rfl (by kernel_rfl) (fun _ _ _ h => h) (Or.inr ⟨?tkh, rfl⟩) ?_
          case tkh => rfl
          try simp only [Act.put, xq1, xq2, xq3]
          refine tk (v := ?_) 29 hHeld rfl (by kernel_rfl) (fun _ _ _ h => h) (Or.inl ⟨?tkh, ?tky⟩) ?_
          case tkh => rfl
          case tky => intro w hSw; (try dsimp only at hSw); go_simp; (try with_reducible rfl)
          try simp only [Act.put, xq1, xq2, xq3]
          refine wpAnyH_done (by kernel_rfl) ?_ _
          all_goals (refine EndsBy.mk ?_)
        gi_wp2
        exact ⟨KeepZ.of_below HBL.out, z16 HBW2.out HBL.out, v, gs, mbs, by
          have hz := HI.out.zone (Zone6.of_below HBL.out) (by omega) (by omega) (by omega) (by omega)
          exact ⟨hz.below, hz.tb, hz.qx, hz.qb, hz.row, by rw [HST.out]; exact hz.ps⟩⟩
    case done =>
      rintro W ⟨v, gs, mbs, hi⟩ hK
      have HI := mkA hi
      have HKK := mkA hK
      clear hi hK
      obtain ⟨A, c, rfl, hlc, hCP⟩ := Kd.R_reads HI.out.row
      have hq0 : W.cell? ⟨w1.heap.size + 1, 0, none⟩ = some (.pointer (some ⟨w1.heap.size, 0, none⟩)) := (z12 HI.out.qx 0).trans rfl
      have hq3 : W.cell? ⟨w1.heap.size, 3, none⟩ = some (.slice A gs.length c) := (z12 HI.out.qb 3).trans rfl
      have hgl := HI.out.ps.lg
      by_cases he : askedL l1 l2 (enumO [] l1) = []
      · have hg0 : gs = [] := List.eq_nil_of_length_eq_zero (by rw [hgl, he]; rfl)
        subst hg0
        simp only [List.length_nil] at hq3
        have HE := mkA he
        clear he hgl
        gi_wp2
        refine ⟨by simp, .inl ⟨_, _, rfl, run_takeDeferred HKK.out, ?_⟩⟩
        have hz := HI.out.zone (Zone6.put W (.deferred none) ⟨Nat.le_refl w2.heap.size, by omega⟩) (by omega) (by omega) (by omega) (by omega)
        refine ⟨.tuple #[.pointer none, .int .i64 11], by simp [results, Try.results72, go_sem], hz.below, .inr (.inl ⟨HZ.out, HE.out, rfl⟩)⟩
      · have hg0 : 0 < gs.length := by rw [hgl]; exact List.length_pos_iff.2 he
        have g0 : ((gs.length : Int) == 0) = false := beq_eq_false_iff_ne.2 (by omega)
        have HE := mkA he
        clear he hgl
        gi_wp2
        refine ⟨by simp, .inl ⟨_, _, rfl, run_takeDeferred HKK.out, ?_⟩⟩
        have hz := HI.out.zone (Zone6.put W (.deferred none) ⟨Nat.le_refl w2.heap.size, by omega⟩) (by omega) (by omega) (by omega) (by omega)
        refine ⟨.tuple #[.pointer (some ⟨w1.heap.size, 0, none⟩), .int .i64 0], by simp [results, Try.results72, go_sem], hz.below, .inr (.inr ⟨HZ.out, HE.out, w1.heap.size, _, gs, mbs, rfl, hz.qb, Kd.R_lower hz.row (by omega), hz.ps.lower (by omega)⟩)⟩
    case stop => exact fun c pre W _ h => h.elim
  · generalize hq : checkS n l1 l2 = q at hck ⊢
    have g1 : (q != 0) = true := bne_iff_ne.2 hck
    have HQ := mkA hq
    have HN := mkA hck
    clear hq hck
    gi_wp2_with fail
    exact ⟨.tuple #[.pointer none, .int .i64 q], by simp [results, Try.results72, go_sem], HB1.out, .inl ⟨by rw [HQ.out]; exact HN.out, by rw [HQ.out]⟩⟩
end Go.Proofs.Ytncaadckehikpaa.Q
