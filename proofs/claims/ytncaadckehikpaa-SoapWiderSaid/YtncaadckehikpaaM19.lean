/- A part of the proof: contracts of functions and plain facts (HBounds0, HBounds). No condition. -/
import Derived.Test.YtncaadckehikpaaM16
import Derived.Test.YtncaadckehikpaaM18
namespace Go.Proofs.Ytncaadckehikpaa.Q
open Go.RowKit Go.Proofs.YtncaadckehikpaaW.PrintWords Go.Proofs.YtncaadckehikpaaW.PrintLast Go.Proofs.YtncaadckehikpaaW.PrintMore
set_option linter.unusedVariables false
set_option linter.unusedSimpArgs false
/-- But for the memos, and new blocks, a world stays. -/
structure Mems (mbs : List Nat) (w w' : World) : Prop where
  os : w'.os = w.os
  tape : w'.tape = w.tape
  output : w'.output = w.output
  size : w.heap.size ≤ w'.heap.size
  block : ∀ k, k < w.heap.size → k ∉ mbs → w'.heap[k]? = w.heap[k]?
theorem Mems.trans {mbs : List Nat} {a b c : World} (h : Mems mbs a b) (k : Mems mbs b c) : Mems mbs a c :=
  ⟨k.os.trans h.os, k.tape.trans h.tape, k.output.trans h.output, Nat.le_trans h.size k.size, fun i hi hn => (k.block i (by have := h.size; omega) hn).trans (h.block i hi hn)⟩
theorem Mems.of_below {mbs : List Nat} {w w' : World} (h : Below w.heap.size w w') : Mems mbs w w' := ⟨h.os, h.tape, h.output, h.size, fun k hk _ => h.block k hk⟩
theorem Mems.of_but {mbs : List Nat} {mb : Nat} {w w' : World} (h : But mb w w') (hm : mb ∈ mbs) : Mems mbs w w' := ⟨h.os, h.tape, h.output, h.size, fun k hk hn => h.block k hk (fun e => hn (e ▸ hm))⟩
theorem Mems.below {mbs : List Nat} {w w' : World} {base : Nat} (h : Mems mbs w w') (hb : base ≤ w.heap.size) (hm : ∀ m ∈ mbs, base ≤ m) : Below base w w' := ⟨h.os, h.tape, h.output, h.size, fun k hk => h.block k (by omega) (fun hc => by have := hm k hc; omega)⟩
theorem Mems.set {mbs : List Nat} {w W : World} {g j : Nat} {v : Value} (h : Mems mbs w W) (hg : w.heap.size ≤ g) : Mems mbs w (W.setCell ⟨g, j, none⟩ v) :=
  ⟨h.os, h.tape, h.output, by have := h.size; simp [World.setCell]; exact this, fun k hk hn => (Below.heap_setCell _ _ _ _ (show k ≠ g by omega)).trans (h.block k hk hn)⟩
theorem Purses.mems {W : World} {base : Nat} {gs mbs : List Nat} {vs : List (List Int)} (h : Purses W base gs mbs vs) : ∀ m ∈ mbs, base ≤ m := by
  intro x hx
  obtain ⟨i, hi, rfl⟩ := List.getElem_of_mem hx
  have := (h.at_ i (by rw [← h.lm]; exact hi)).2.2.1
  simpa [List.getD, hi] using this
/-- A purse has been asked: its memo alone has changed. -/
theorem Purses.but {W W' : World} {base : Nat} {gs mbs : List Nat} {vs : List (List Int)} (h : Purses W base gs mbs vs) (i : Nat) (hi : i < vs.length) (hb : But (mbs.getD i 0) W W') (hm : Memo W' (mbs.getD i 0) (vs.getD i [])) : Purses W' base gs mbs vs :=
  ⟨h.lg, h.lm, h.nodup, fun j hj => by
    obtain ⟨h1, h2, h3, h4⟩ := h.at_ j hj
    obtain ⟨es, cl, h5, h6⟩ := (h.at_ i hi).2.1
    refine ⟨hb.keeps h1 (fun e => ?_), ?_, h3, h4⟩
    · rw [e] at h1
      rw [show W.heap[mbs.getD i 0]? = _ from h1] at h5
      cases h5
    · by_cases hij : j = i
      · subst hij; exact hm
      · obtain ⟨es', cl', h7, h8⟩ := h2
        refine ⟨es', cl', hb.keeps h7 (fun e => hij ?_), h8⟩
        have hjl : j < mbs.length := by rw [h.lm]; exact hj
        have hil : i < mbs.length := by rw [h.lm]; exact hi
        simp only [List.getD, List.getElem?_eq_getElem hjl, List.getElem?_eq_getElem hil, Option.getD_some] at e
        exact (List.getElem_inj h.nodup).1 e⟩
theorem Purses.set44 {W : World} {base g : Nat} {gs mbs : List Nat} {vs : List (List Int)} {cs : Array Value} (h : Purses W base gs mbs vs) (hg : W.heap[g]? = some (.cells cs 44 (0, 0))) (j : Nat) (v : Value) : Purses (W.setCell ⟨g, j, none⟩ v) base gs mbs vs :=
  ⟨h.lg, h.lm, h.nodup, fun i hi => by
    obtain ⟨h1, ⟨es, cl, h5, h6⟩, h3, h4⟩ := h.at_ i hi
    refine ⟨(Below.heap_setCell _ _ _ _ (fun e => ?_)).trans h1, ⟨es, cl, (Below.heap_setCell _ _ _ _ (fun e => ?_)).trans h5, h6⟩, h3, h4⟩
    · have e2 : gs.getD i 0 = g := e
      rw [← e2, show W.heap[gs.getD i 0]? = _ from h1] at hg
      injection hg with hg
      injection hg with _ hg
      cases hg
    · have e2 : mbs.getD i 0 = g := e
      rw [← e2, h5] at hg
      cases hg⟩
theorem Purses.set44_two {W : World} {base g : Nat} {gs mbs : List Nat} {vs : List (List Int)} {a b : Value} (h : Purses W base gs mbs vs) (hg : W.heap[g]? = some (.cells #[a, b] 44 (0, 0))) (u v : Value) : Purses ((W.setCell ⟨g, 0, none⟩ u).setCell ⟨g, 1, none⟩ v) base gs mbs vs :=
  (h.set44 hg 0 u).set44 (cs := #[u, b]) (by simp [World.setCell, Array.getElem?_modify, hg]) 1 v
/-- The bounds of numbers. -/
def bndL : List Int → Int × Int
  | [] => (0, 0)
  | x :: r => r.foldl (fun b y => (mn b.1 y, mx b.2 y)) (x, x)
theorem bndL_snoc (xs : List Int) (y : Int) (h : xs ≠ []) : bndL (xs ++ [y]) = (mn (bndL xs).1 y, mx (bndL xs).2 y) := by
  cases xs with
  | nil => exact absurd rfl h
  | cons x r => simp [bndL]
set_option maxHeartbeats 4000000 in
set_option maxRecDepth 100000 in
theorem bounds73_calls (val : List Int → Int) (p : Int) (base qb : Nat) (c0 c1 c2 : Value) (v : Value) (gs mbs : List Nat) (vs : List (List Int)) (w : World)
    (hfn : ∀ (g mb : Nat) (u : List Int) (W : World), u ∈ vs → PurseAt W g mb u → Memo W mb u → Calls Try.prog 73 #[.pointer (some ⟨g, 0, none⟩), .int .i64 p] W fun e W' => e = .returned (.int .i64 (val u)) ∧ But mb W W' ∧ Memo W' mb u)
    (hq : w.heap[qb]? = some (.cells #[c0, c1, c2, v] 114 (0, 0))) (hR : kP.R 117 w base (fun _ => True) v gs) (hP : Purses w base gs mbs vs) (hvs : (vs.length : Int) ≤ 140737488355328) (hbase : base ≤ w.heap.size) :
    Calls Try.prog 74 #[.agg #[.func (.func 73) #[] #[]], .pointer (some ⟨qb, 0, none⟩), .int .i64 p] w fun e w' => e = .returned (.agg #[.int .i64 (bndL (vs.map val)).1, .int .i64 (bndL (vs.map val)).2]) ∧ Mems mbs w w' ∧ Purses w' base gs mbs vs := by
  have hu119 := Try.underlying119
  have hu114 := Try.underlying114
  have hu44 := Try.underlying44
  obtain ⟨A, c, rfl, hlc, hC⟩ := Kd.R_reads hR
  have H73 := mkA hfn
  have HQ := mkA hq
  have HC := mkA hC
  have HP := mkA hP
  have hgl := hP.lg
  have hlt := z22 hq
  have hq3 : w.cell? ⟨qb, 3, none⟩ = some (.slice A gs.length c) := (z12 hq 3).trans rfl
  have HRT := mkA (fun k (hk : k ∈ mbs) (cs : Array Value) (t : TypeId) (hc : w.heap[k]? = some (.cells cs t (0, 0))) => show False from by
    obtain ⟨i, hi, rfl⟩ := List.getElem_of_mem hk
    obtain ⟨_, ⟨es, cl, h5, _⟩, _⟩ := hP.at_ i (by rw [← hP.lm]; exact hi)
    have : mbs.getD i 0 = mbs[i] := by simp [List.getD, hi]
    rw [this, hc] at h5
    cases h5)
  have HR := mkA hR
  clear hfn hq hC hR hP
  go_enter Try.func74, Try.ntmps74
  go_wp2_with fail
  obtain ⟨w2, hw2⟩ : ∃ w2, (w.alloc (.cells #[.func (.func 73) #[] #[]] 119)).alloc (.cells #[.int .i64 0, .int .i64 0] 44) = w2 := ⟨_, rfl⟩
  have HB := mkA (show Below w.heap.size w w2 from by rw [← hw2]; exact z10 (z10 (Below.refl _ _) _) _)
  have H0 := mkA (show w2.heap[w.heap.size]? = some (.cells #[.func (.func 73) #[] #[]] 119 (0, 0)) from by rw [← hw2]; exact blk_below (z19 w _) (z10 (Below.refl _ _) _))
  have H1 := mkA (show w2.heap[w.heap.size + 1]? = some (.cells #[.int .i64 0, .int .i64 0] 44 (0, 0)) from by rw [← hw2]; simpa using z19 (w.alloc _) (.cells #[.int .i64 0, .int .i64 0] 44))
  rw [hw2]
  clear hw2 hq3
  go_wp2
  have hgs : gs.length = vs.length := hgl
  go_loopw [15] (fun i wr => ∃ (k a b : Int), 0 ≤ k ∧ k ≤ (gs.length : Int) ∧ i = .int .i64 k ∧ Aside0 ((a, b) = bndL ((vs.map val).take k.toNat)) ∧ Aside0 (wr.heap[w.heap.size + 1]? = some (.cells #[.int .i64 a, .int .i64 b] 44 (0, 0))) ∧ Aside0 (wr.heap[w.heap.size]? = some (.cells #[.func (.func 73) #[] #[]] 119 (0, 0))) ∧ Aside0 (Purses wr base gs mbs vs) ∧ Aside0 (Mems mbs w wr)) (fun i _ => gs.length - (intOf i).toNat)
  case atStart => exact ⟨0, 0, 0, by omega, by omega, rfl, ⟨by simp [bndL]⟩, H1, H0, ⟨HP.out.below HB.out⟩, ⟨Mems.of_below HB.out⟩⟩
  case round =>
    obtain ⟨k, a, b, hk0, hk1, rfl, HAB, HK, HF, HPr, HM⟩ := hrel
    have hfc : wr.cell? ⟨w.heap.size, 0, none⟩ = some (.func (.func 73) #[] #[]) := (z12 HF.out 0).trans rfl
    have hsw := HM.out.size
    have hs1 := z22 HK.out
    by_cases hlt2 : k < (gs.length : Int)
    · have g1 : decide (k < (gs.length : Int)) = true := decide_eq_true hlt2
      have hRw := Kd.R_mono (Kd.R_move (Kd.R_bound HR.out) (fun j hj => HM.out.block j hj.2.2.1 (fun hc => by
        obtain ⟨_, _, _, q, _, cells, hc'⟩ := hj
        exact HRT.out j hc cells q hc'))) (fun _ hk => hk.1)
      obtain ⟨_, _, hCw⟩ := Kd.R_reads' hRw
      obtain ⟨ad, hA, y1⟩ := at_P hCw k hk0 hlt2
      subst hA
      have HRR := mkA hRw
      clear hRw hCw
      have hkl : k.toNat < vs.length := by omega
      obtain ⟨p1, p2, p3, p4⟩ := HPr.out.at_ k.toNat hkl
      have hum : vs.getD k.toNat [] ∈ vs := by simp [List.getD, hkl]
      have HCL := mkA (H73.out _ _ _ wr hum p1 p2)
      have hmm : mbs.getD k.toNat 0 ∈ mbs := by have := HPr.out.lm; simp [List.getD, show k.toNat < mbs.length by omega]
      have hgf : HEq 0 0 := HEq.rfl
      obtain ⟨gk_, hgk⟩ : ∃ g, gs.getD k.toNat 0 = g := ⟨_, rfl⟩
      rw [hgk] at y1 HCL
      have hsn : bndL ((vs.map val).take (k + 1).toNat) = if k = 0 then (val (vs.getD k.toNat []), val (vs.getD k.toNat [])) else (mn a (val (vs.getD k.toNat [])), mx b (val (vs.getD k.toNat []))) := by
        have ht : (vs.map val).take (k + 1).toNat = (vs.map val).take k.toNat ++ [val (vs.getD k.toNat [])] := by
          rw [show (k + 1).toNat = k.toNat + 1 by omega, List.take_add_one]
          simp [List.getD, hkl]
        rw [ht]
        split
        · rename_i h0; subst h0; rfl
        · rename_i h0
          have hne : (vs.map val).take k.toNat ≠ [] := by
            intro hc
            have := congrArg List.length hc
            rw [List.length_take, List.length_map, List.length_nil] at this
            omega
          rw [bndL_snoc _ _ hne, ← HAB.out]
      generalize val (vs.getD k.toNat []) = x at *
      have HSN := mkA hsn
      have HMM := mkA hmm
      clear hsn p1 p2 p3 p4 hum hgf hgk hmm
      go_wp2_with fail
      refine HCL.out.mono ?_
      rintro e w4 ⟨rfl, hb, hm⟩
      have HP4 := mkA (HPr.out.but k.toNat hkl hb hm)
      have hno : ∀ (j : Nat) (cs : Array Value) (t : TypeId), wr.heap[j]? = some (Obj.cells cs t (0, 0)) → w4.heap[j]? = some (Obj.cells cs t (0, 0)) := fun j cs t hc => hb.keeps hc (fun e => by
        obtain ⟨_, ⟨es, cl, h5, _⟩, _⟩ := HPr.out.at_ k.toNat hkl
        rw [← e, hc] at h5
        cases h5)
      have hK4 := hno _ _ _ HK.out
      have HF4 := mkA (hno _ _ _ HF.out)
      have HM4 := mkA (HM.out.trans (Mems.of_but hb HMM.out))
      clear hb hm hno HCL
      have hc0 : w4.cell? ⟨w.heap.size + 1, 0, none⟩ = some (.int .i64 a) := (z12 hK4 0).trans rfl
      have hc1 : w4.cell? ⟨w.heap.size + 1, 1, none⟩ = some (.int .i64 b) := (z12 hK4 1).trans rfl
      have hf0 : w4.frozen? ⟨w.heap.size + 1, 0, none⟩ = false := z14 hK4 _
      have hf1 : w4.frozen? ⟨w.heap.size + 1, 1, none⟩ = false := z14 hK4 _
      have HK4 := mkA hK4
      clear hK4
      by_cases hz : k = 0
      · subst hz
        obtain ⟨w6, hw6⟩ : ∃ w6, (w4.setCell ⟨w.heap.size + 1, 0, none⟩ (.int .i64 x)).setCell ⟨w.heap.size + 1, 1, none⟩ (.int .i64 x) = w6 := ⟨_, rfl⟩
        have HK6 := mkA (show w6.heap[w.heap.size + 1]? = some (.cells #[.int .i64 x, .int .i64 x] 44 (0, 0)) from by rw [← hw6]; simp [World.setCell, Array.getElem?_modify, HK4.out])
        have HF6 := mkA (show w6.heap[w.heap.size]? = some (.cells #[.func (.func 73) #[] #[]] 119 (0, 0)) from by rw [← hw6]; exact (Below.heap_setCell _ _ _ _ (by simp)).trans ((Below.heap_setCell _ _ _ _ (by simp)).trans HF4.out))
        have hp6 : Purses w6 base gs mbs vs := by
          rw [← hw6]
          exact HP4.out.set44_two HK4.out _ _
        have HP6 := mkA hp6
        clear hp6
        have HM6 := mkA (show Mems mbs w w6 from by rw [← hw6]; exact (HM4.out.set (by omega)).set (by omega))
        have hd0 : (w4.setCell ⟨w.heap.size + 1, 0, none⟩ (.int .i64 x)).cell? ⟨w.heap.size + 1, 0, none⟩ = some (.int .i64 x) := World.cell?_setCell_same' _ _ _ (by rw [hc0]; rfl)
        have hd1 : ((w4.setCell ⟨w.heap.size + 1, 0, none⟩ (.int .i64 x)).setCell ⟨w.heap.size + 1, 1, none⟩ (.int .i64 x)).cell? ⟨w.heap.size + 1, 1, none⟩ = some (.int .i64 x) := by
          rw [hw6]; exact (z12 HK6.out 1).trans rfl
        have HW := mkA (wider_calls x x x w6)
        rw [← hw6] at HW
        have HW6 := mkA hw6
        clear hw6
        go_wp2_with (go_at_call 106; refine HW.out.mono ?_; rintro e w5 ⟨rfl, hb⟩; rw [HW6.out] at hb; have HBB := mkA hb; have hK5 := blk_below HK6.out hb; have hc50 : w5.cell? ⟨w.heap.size + 1, 0, none⟩ = some (.int .i64 x) := (z12 hK5 0).trans rfl; have hc51 : w5.cell? ⟨w.heap.size + 1, 1, none⟩ = some (.int .i64 x) := (z12 hK5 1).trans rfl; have hf50 : w5.frozen? ⟨w.heap.size + 1, 0, none⟩ = false := z14 hK5 _; have hf51 : w5.frozen? ⟨w.heap.size + 1, 1, none⟩ = false := z14 hK5 _; have HK5 := mkA hK5; clear hb hK5)
        have HF5 := mkA (blk_below HF6.out HBB.out)
        have HP5 := mkA (HP6.out.below HBB.out)
        have HM5 := mkA (HM6.out.trans (Mems.of_below HBB.out))
        go_round
        case measure => simp [intOf]; omega
        case rel =>
          refine ⟨1, mn x x, mx x x, by omega, by omega, by go_num, ⟨by have := HSN.out; rw [if_pos trivial] at this; rw [show mn x x = x by unfold mn; split <;> rfl, show mx x x = x by unfold mx; split <;> rfl]; exact this.symm⟩, ⟨?_⟩, ⟨?_⟩, ⟨?_⟩, ⟨(HM5.out.set (by omega)).set (by omega)⟩⟩
          · simp [World.setCell, Array.getElem?_modify, HK5.out]
          · exact (Below.heap_setCell _ _ _ _ (by simp)).trans ((Below.heap_setCell _ _ _ _ (by simp)).trans HF5.out)
          · exact HP5.out.set44_two HK5.out _ _
      · have g2 : (k == 0) = false := beq_eq_false_iff_ne.2 hz
        have HW := mkA (wider_calls a b x w4)
        go_wp2_with fail
        go_at_call 106
        refine HW.out.mono ?_
        rintro e w5 ⟨rfl, hb⟩
        have hK5 := blk_below HK4.out hb
        have hc50 : w5.cell? ⟨w.heap.size + 1, 0, none⟩ = some (.int .i64 a) := (z12 hK5 0).trans rfl
        have hc51 : w5.cell? ⟨w.heap.size + 1, 1, none⟩ = some (.int .i64 b) := (z12 hK5 1).trans rfl
        have hf50 : w5.frozen? ⟨w.heap.size + 1, 0, none⟩ = false := z14 hK5 _
        have hf51 : w5.frozen? ⟨w.heap.size + 1, 1, none⟩ = false := z14 hK5 _
        have HK5 := mkA hK5
        have HF5 := mkA (blk_below HF4.out hb)
        have HP5 := mkA (HP4.out.below hb)
        have HM5 := mkA (HM4.out.trans (Mems.of_below hb))
        clear hK5 hb HW hc0 hc1 hf0 hf1
        go_wp2
        go_round
        case measure => simp [intOf]; omega
        case rel =>
          refine ⟨k + 1, mn a x, mx b x, by omega, by omega, by go_num, ⟨by have := HSN.out; rw [if_neg hz] at this; exact this.symm⟩, ⟨?_⟩, ⟨?_⟩, ⟨?_⟩, ⟨(HM5.out.set (by omega)).set (by omega)⟩⟩
          · simp [World.setCell, Array.getElem?_modify, HK5.out]
          · exact (Below.heap_setCell _ _ _ _ (by simp)).trans ((Below.heap_setCell _ _ _ _ (by simp)).trans HF5.out)
          · exact HP5.out.set44_two HK5.out _ _
    · have g1 : decide (k < (gs.length : Int)) = false := decide_eq_false hlt2
      obtain rfl : k = gs.length := by omega
      have hc0 : wr.cell? ⟨w.heap.size + 1, 0, none⟩ = some (.int .i64 a) := (z12 HK.out 0).trans rfl
      have hc1 : wr.cell? ⟨w.heap.size + 1, 1, none⟩ = some (.int .i64 b) := (z12 HK.out 1).trans rfl
      have hf0 : wr.frozen? ⟨w.heap.size + 1, 0, none⟩ = false := z14 HK.out _
      have hf1 : wr.frozen? ⟨w.heap.size + 1, 1, none⟩ = false := z14 HK.out _
      have hab := HAB.out
      rw [show ((gs.length : Int)).toNat = (vs.map val).length by simp; omega, List.take_length] at hab
      have HAB2 := mkA hab
      clear hab HAB
      go_wp2
      rw [z26 hc0, z26 hc1, ← HAB2.out]
      exact bodyPost_ret (v := .agg #[.int .i64 a, .int .i64 b]) (by simp [results, Try.results74, go_sem, hc0, hc1]) rfl ⟨rfl, HM.out, HPr.out⟩
set_option maxHeartbeats 4000000 in
set_option maxRecDepth 100000 in
theorem bounds83_calls (val : List Int → Int) (p : Int) (base qb : Nat) (c0 c1 c2 : Value) (v : Value) (gs mbs : List Nat) (vs : List (List Int)) (w : World)
    (hfn : ∀ (g mb : Nat) (u : List Int) (W : World), u ∈ vs → PurseAt W g mb u → Memo W mb u → Calls Try.prog 83 #[.pointer (some ⟨g, 0, none⟩), .int .i64 p] W fun e W' => e = .returned (.int .i64 (val u)) ∧ But mb W W' ∧ Memo W' mb u)
    (hq : w.heap[qb]? = some (.cells #[c0, c1, c2, v] 114 (0, 0))) (hR : kP.R 117 w base (fun _ => True) v gs) (hP : Purses w base gs mbs vs) (hvs : (vs.length : Int) ≤ 140737488355328) (hbase : base ≤ w.heap.size) :
    Calls Try.prog 74 #[.agg #[.func (.func 83) #[] #[]], .pointer (some ⟨qb, 0, none⟩), .int .i64 p] w fun e w' => e = .returned (.agg #[.int .i64 (bndL (vs.map val)).1, .int .i64 (bndL (vs.map val)).2]) ∧ Mems mbs w w' ∧ Purses w' base gs mbs vs := by
  have hu119 := Try.underlying119
  have hu114 := Try.underlying114
  have hu44 := Try.underlying44
  obtain ⟨A, c, rfl, hlc, hC⟩ := Kd.R_reads hR
  have H83 := mkA hfn
  have HQ := mkA hq
  have HC := mkA hC
  have HP := mkA hP
  have hgl := hP.lg
  have hlt := z22 hq
  have hq3 : w.cell? ⟨qb, 3, none⟩ = some (.slice A gs.length c) := (z12 hq 3).trans rfl
  have HRT := mkA (fun k (hk : k ∈ mbs) (cs : Array Value) (t : TypeId) (hc : w.heap[k]? = some (.cells cs t (0, 0))) => show False from by
    obtain ⟨i, hi, rfl⟩ := List.getElem_of_mem hk
    obtain ⟨_, ⟨es, cl, h5, _⟩, _⟩ := hP.at_ i (by rw [← hP.lm]; exact hi)
    have : mbs.getD i 0 = mbs[i] := by simp [List.getD, hi]
    rw [this, hc] at h5
    cases h5)
  have HR := mkA hR
  clear hfn hq hC hR hP
  go_enter Try.func74, Try.ntmps74
  go_wp2_with fail
  obtain ⟨w2, hw2⟩ : ∃ w2, (w.alloc (.cells #[.func (.func 83) #[] #[]] 119)).alloc (.cells #[.int .i64 0, .int .i64 0] 44) = w2 := ⟨_, rfl⟩
  have HB := mkA (show Below w.heap.size w w2 from by rw [← hw2]; exact z10 (z10 (Below.refl _ _) _) _)
  have H0 := mkA (show w2.heap[w.heap.size]? = some (.cells #[.func (.func 83) #[] #[]] 119 (0, 0)) from by rw [← hw2]; exact blk_below (z19 w _) (z10 (Below.refl _ _) _))
  have H1 := mkA (show w2.heap[w.heap.size + 1]? = some (.cells #[.int .i64 0, .int .i64 0] 44 (0, 0)) from by rw [← hw2]; simpa using z19 (w.alloc _) (.cells #[.int .i64 0, .int .i64 0] 44))
  rw [hw2]
  clear hw2 hq3
  go_wp2
  have hgs : gs.length = vs.length := hgl
  go_loopw [15] (fun i wr => ∃ (k a b : Int), 0 ≤ k ∧ k ≤ (gs.length : Int) ∧ i = .int .i64 k ∧ Aside0 ((a, b) = bndL ((vs.map val).take k.toNat)) ∧ Aside0 (wr.heap[w.heap.size + 1]? = some (.cells #[.int .i64 a, .int .i64 b] 44 (0, 0))) ∧ Aside0 (wr.heap[w.heap.size]? = some (.cells #[.func (.func 83) #[] #[]] 119 (0, 0))) ∧ Aside0 (Purses wr base gs mbs vs) ∧ Aside0 (Mems mbs w wr)) (fun i _ => gs.length - (intOf i).toNat)
  case atStart => exact ⟨0, 0, 0, by omega, by omega, rfl, ⟨by simp [bndL]⟩, H1, H0, ⟨HP.out.below HB.out⟩, ⟨Mems.of_below HB.out⟩⟩
  case round =>
    obtain ⟨k, a, b, hk0, hk1, rfl, HAB, HK, HF, HPr, HM⟩ := hrel
    have hfc : wr.cell? ⟨w.heap.size, 0, none⟩ = some (.func (.func 83) #[] #[]) := (z12 HF.out 0).trans rfl
    have hsw := HM.out.size
    have hs1 := z22 HK.out
    by_cases hlt2 : k < (gs.length : Int)
    · have g1 : decide (k < (gs.length : Int)) = true := decide_eq_true hlt2
      have hRw := Kd.R_mono (Kd.R_move (Kd.R_bound HR.out) (fun j hj => HM.out.block j hj.2.2.1 (fun hc => by
        obtain ⟨_, _, _, q, _, cells, hc'⟩ := hj
        exact HRT.out j hc cells q hc'))) (fun _ hk => hk.1)
      obtain ⟨_, _, hCw⟩ := Kd.R_reads' hRw
      obtain ⟨ad, hA, y1⟩ := at_P hCw k hk0 hlt2
      subst hA
      have HRR := mkA hRw
      clear hRw hCw
      have hkl : k.toNat < vs.length := by omega
      obtain ⟨p1, p2, p3, p4⟩ := HPr.out.at_ k.toNat hkl
      have hum : vs.getD k.toNat [] ∈ vs := by simp [List.getD, hkl]
      have HCL := mkA (H83.out _ _ _ wr hum p1 p2)
      have hmm : mbs.getD k.toNat 0 ∈ mbs := by have := HPr.out.lm; simp [List.getD, show k.toNat < mbs.length by omega]
      have hgf : HEq 0 0 := HEq.rfl
      obtain ⟨gk_, hgk⟩ : ∃ g, gs.getD k.toNat 0 = g := ⟨_, rfl⟩
      rw [hgk] at y1 HCL
      have hsn : bndL ((vs.map val).take (k + 1).toNat) = if k = 0 then (val (vs.getD k.toNat []), val (vs.getD k.toNat [])) else (mn a (val (vs.getD k.toNat [])), mx b (val (vs.getD k.toNat []))) := by
        have ht : (vs.map val).take (k + 1).toNat = (vs.map val).take k.toNat ++ [val (vs.getD k.toNat [])] := by
          rw [show (k + 1).toNat = k.toNat + 1 by omega, List.take_add_one]
          simp [List.getD, hkl]
        rw [ht]
        split
        · rename_i h0; subst h0; rfl
        · rename_i h0
          have hne : (vs.map val).take k.toNat ≠ [] := by
            intro hc
            have := congrArg List.length hc
            rw [List.length_take, List.length_map, List.length_nil] at this
            omega
          rw [bndL_snoc _ _ hne, ← HAB.out]
      generalize val (vs.getD k.toNat []) = x at *
      have HSN := mkA hsn
      have HMM := mkA hmm
      clear hsn p1 p2 p3 p4 hum hgf hgk hmm
      go_wp2_with fail
      refine HCL.out.mono ?_
      rintro e w4 ⟨rfl, hb, hm⟩
      have HP4 := mkA (HPr.out.but k.toNat hkl hb hm)
      have hno : ∀ (j : Nat) (cs : Array Value) (t : TypeId), wr.heap[j]? = some (Obj.cells cs t (0, 0)) → w4.heap[j]? = some (Obj.cells cs t (0, 0)) := fun j cs t hc => hb.keeps hc (fun e => by
        obtain ⟨_, ⟨es, cl, h5, _⟩, _⟩ := HPr.out.at_ k.toNat hkl
        rw [← e, hc] at h5
        cases h5)
      have hK4 := hno _ _ _ HK.out
      have HF4 := mkA (hno _ _ _ HF.out)
      have HM4 := mkA (HM.out.trans (Mems.of_but hb HMM.out))
      clear hb hm hno HCL
      have hc0 : w4.cell? ⟨w.heap.size + 1, 0, none⟩ = some (.int .i64 a) := (z12 hK4 0).trans rfl
      have hc1 : w4.cell? ⟨w.heap.size + 1, 1, none⟩ = some (.int .i64 b) := (z12 hK4 1).trans rfl
      have hf0 : w4.frozen? ⟨w.heap.size + 1, 0, none⟩ = false := z14 hK4 _
      have hf1 : w4.frozen? ⟨w.heap.size + 1, 1, none⟩ = false := z14 hK4 _
      have HK4 := mkA hK4
      clear hK4
      by_cases hz : k = 0
      · subst hz
        obtain ⟨w6, hw6⟩ : ∃ w6, (w4.setCell ⟨w.heap.size + 1, 0, none⟩ (.int .i64 x)).setCell ⟨w.heap.size + 1, 1, none⟩ (.int .i64 x) = w6 := ⟨_, rfl⟩
        have HK6 := mkA (show w6.heap[w.heap.size + 1]? = some (.cells #[.int .i64 x, .int .i64 x] 44 (0, 0)) from by rw [← hw6]; simp [World.setCell, Array.getElem?_modify, HK4.out])
        have HF6 := mkA (show w6.heap[w.heap.size]? = some (.cells #[.func (.func 83) #[] #[]] 119 (0, 0)) from by rw [← hw6]; exact (Below.heap_setCell _ _ _ _ (by simp)).trans ((Below.heap_setCell _ _ _ _ (by simp)).trans HF4.out))
        have hp6 : Purses w6 base gs mbs vs := by
          rw [← hw6]
          exact HP4.out.set44_two HK4.out _ _
        have HP6 := mkA hp6
        clear hp6
        have HM6 := mkA (show Mems mbs w w6 from by rw [← hw6]; exact (HM4.out.set (by omega)).set (by omega))
        have hd0 : (w4.setCell ⟨w.heap.size + 1, 0, none⟩ (.int .i64 x)).cell? ⟨w.heap.size + 1, 0, none⟩ = some (.int .i64 x) := World.cell?_setCell_same' _ _ _ (by rw [hc0]; rfl)
        have hd1 : ((w4.setCell ⟨w.heap.size + 1, 0, none⟩ (.int .i64 x)).setCell ⟨w.heap.size + 1, 1, none⟩ (.int .i64 x)).cell? ⟨w.heap.size + 1, 1, none⟩ = some (.int .i64 x) := by
          rw [hw6]; exact (z12 HK6.out 1).trans rfl
        have HW := mkA (wider_calls x x x w6)
        rw [← hw6] at HW
        have HW6 := mkA hw6
        clear hw6
        go_wp2_with (go_at_call 106; refine HW.out.mono ?_; rintro e w5 ⟨rfl, hb⟩; rw [HW6.out] at hb; have HBB := mkA hb; have hK5 := blk_below HK6.out hb; have hc50 : w5.cell? ⟨w.heap.size + 1, 0, none⟩ = some (.int .i64 x) := (z12 hK5 0).trans rfl; have hc51 : w5.cell? ⟨w.heap.size + 1, 1, none⟩ = some (.int .i64 x) := (z12 hK5 1).trans rfl; have hf50 : w5.frozen? ⟨w.heap.size + 1, 0, none⟩ = false := z14 hK5 _; have hf51 : w5.frozen? ⟨w.heap.size + 1, 1, none⟩ = false := z14 hK5 _; have HK5 := mkA hK5; clear hb hK5)
        have HF5 := mkA (blk_below HF6.out HBB.out)
        have HP5 := mkA (HP6.out.below HBB.out)
        have HM5 := mkA (HM6.out.trans (Mems.of_below HBB.out))
        go_round
        case measure => simp [intOf]; omega
        case rel =>
          refine ⟨1, mn x x, mx x x, by omega, by omega, by go_num, ⟨by have := HSN.out; rw [if_pos trivial] at this; rw [show mn x x = x by unfold mn; split <;> rfl, show mx x x = x by unfold mx; split <;> rfl]; exact this.symm⟩, ⟨?_⟩, ⟨?_⟩, ⟨?_⟩, ⟨(HM5.out.set (by omega)).set (by omega)⟩⟩
          · simp [World.setCell, Array.getElem?_modify, HK5.out]
          · exact (Below.heap_setCell _ _ _ _ (by simp)).trans ((Below.heap_setCell _ _ _ _ (by simp)).trans HF5.out)
          · exact HP5.out.set44_two HK5.out _ _
      · have g2 : (k == 0) = false := beq_eq_false_iff_ne.2 hz
        have HW := mkA (wider_calls a b x w4)
        go_wp2_with fail
        go_at_call 106
        refine HW.out.mono ?_
        rintro e w5 ⟨rfl, hb⟩
        have hK5 := blk_below HK4.out hb
        have hc50 : w5.cell? ⟨w.heap.size + 1, 0, none⟩ = some (.int .i64 a) := (z12 hK5 0).trans rfl
        have hc51 : w5.cell? ⟨w.heap.size + 1, 1, none⟩ = some (.int .i64 b) := (z12 hK5 1).trans rfl
        have hf50 : w5.frozen? ⟨w.heap.size + 1, 0, none⟩ = false := z14 hK5 _
        have hf51 : w5.frozen? ⟨w.heap.size + 1, 1, none⟩ = false := z14 hK5 _
        have HK5 := mkA hK5
        have HF5 := mkA (blk_below HF4.out hb)
        have HP5 := mkA (HP4.out.below hb)
        have HM5 := mkA (HM4.out.trans (Mems.of_below hb))
        clear hK5 hb HW hc0 hc1 hf0 hf1
        go_wp2
        go_round
        case measure => simp [intOf]; omega
        case rel =>
          refine ⟨k + 1, mn a x, mx b x, by omega, by omega, by go_num, ⟨by have := HSN.out; rw [if_neg hz] at this; exact this.symm⟩, ⟨?_⟩, ⟨?_⟩, ⟨?_⟩, ⟨(HM5.out.set (by omega)).set (by omega)⟩⟩
          · simp [World.setCell, Array.getElem?_modify, HK5.out]
          · exact (Below.heap_setCell _ _ _ _ (by simp)).trans ((Below.heap_setCell _ _ _ _ (by simp)).trans HF5.out)
          · exact HP5.out.set44_two HK5.out _ _
    · have g1 : decide (k < (gs.length : Int)) = false := decide_eq_false hlt2
      obtain rfl : k = gs.length := by omega
      have hc0 : wr.cell? ⟨w.heap.size + 1, 0, none⟩ = some (.int .i64 a) := (z12 HK.out 0).trans rfl
      have hc1 : wr.cell? ⟨w.heap.size + 1, 1, none⟩ = some (.int .i64 b) := (z12 HK.out 1).trans rfl
      have hf0 : wr.frozen? ⟨w.heap.size + 1, 0, none⟩ = false := z14 HK.out _
      have hf1 : wr.frozen? ⟨w.heap.size + 1, 1, none⟩ = false := z14 HK.out _
      have hab := HAB.out
      rw [show ((gs.length : Int)).toNat = (vs.map val).length by simp; omega, List.take_length] at hab
      have HAB2 := mkA hab
      clear hab HAB
      go_wp2
      rw [z26 hc0, z26 hc1, ← HAB2.out]
      exact bodyPost_ret (v := .agg #[.int .i64 a, .int .i64 b]) (by simp [results, Try.results74, go_sem, hc0, hc1]) rfl ⟨rfl, HM.out, HPr.out⟩
end Go.Proofs.Ytncaadckehikpaa.Q
namespace Go.Proofs.Ytncaadckehikpaa.Q
open Go.RowKit Go.Proofs.YtncaadckehikpaaW.PrintWords Go.Proofs.YtncaadckehikpaaW.PrintLast Go.Proofs.YtncaadckehikpaaW.PrintMore
set_option linter.unusedVariables false
set_option linter.unusedSimpArgs false
theorem Purses.keep {W W' : World} {base : Nat} {gs mbs : List Nat} {vs : List (List Int)} (h : Purses W base gs mbs vs) (hm : ∀ k, k < W.heap.size → (∀ cs t, W.heap[k]? = some (Obj.cells cs t (0, 0)) → t = 157) → W'.heap[k]? = W.heap[k]?) : Purses W' base gs mbs vs :=
  ⟨h.lg, h.lm, h.nodup, fun i hi => by
    obtain ⟨h1, ⟨es, cl, h5, h6⟩, h3, h4⟩ := h.at_ i hi
    refine ⟨(hm _ (z22 h1) (fun cs t hc => ?_)).trans h1, ⟨es, cl, (hm _ (z22 h5) (fun cs t hc => ?_)).trans h5, h6⟩, h3, h4⟩
    · rw [show W.heap[gs.getD i 0]? = _ from h1] at hc
      injection hc with hc
      injection hc with _ hc
      exact hc.symm
    · rw [h5] at hc
      cases hc⟩
theorem Purses.notcells {W : World} {base : Nat} {gs mbs : List Nat} {vs : List (List Int)} (h : Purses W base gs mbs vs) {k : Nat} (hk : k ∈ mbs) {cs : Array Value} {t : TypeId} (hc : W.heap[k]? = some (.cells cs t (0, 0))) : False := by
  obtain ⟨i, hi, rfl⟩ := List.getElem_of_mem hk
  obtain ⟨_, ⟨es, cl, h5, _⟩, _⟩ := h.at_ i (by rw [← h.lm]; exact hi)
  have : mbs.getD i 0 = mbs[i] := by simp [List.getD, hi]
  rw [this, hc] at h5
  cases h5
theorem Purses.grownT {α : Type} {d : Kd α} {W W' : World} {base b2 e : Nat} {gs mbs : List Nat} {vs : List (List Int)} {ok : Nat → Prop} {v : Value} {xs : List α} (h : Purses W base gs mbs vs) (hR : d.R e W b2 ok v xs) (he : e ≠ 157) (hg : W.grownBy W' v.ownBlock) : Purses W' base gs mbs vs :=
  h.keep (fun k hk hn => hg.block k hk (fun e' => by
    obtain ⟨cells, hc⟩ := Kd.R_typed hR k e'.symm
    exact he (hn _ _ hc)))
/-- A row of one's own is no memo. -/
theorem R_mems {α : Type} {d : Kd α} {W W' : World} {base b2 e : Nat} {gs mbs : List Nat} {vs : List (List Int)} {ok : Nat → Prop} {v : Value} {xs : List α} (hR : d.R e W b2 ok v xs) (h : Purses W base gs mbs vs) (hm : Mems mbs W W') : d.R e W' b2 ok v xs :=
  Kd.R_mono (Kd.R_move (Kd.R_bound hR) (fun j hj => hm.block j hj.2.2.1 (fun hc => by
    obtain ⟨_, _, _, q, _, cells, hc'⟩ := hj
    exact h.notcells hc hc'))) (fun _ hk => hk.1)
theorem cells_mems {W W' : World} {base g : Nat} {gs mbs : List Nat} {vs : List (List Int)} {cs : Array Value} {t : TypeId} (hb : W.heap[g]? = some (.cells cs t (0, 0))) (h : Purses W base gs mbs vs) (hm : Mems mbs W W') : W'.heap[g]? = some (.cells cs t (0, 0)) :=
  (hm.block g (z22 hb) (fun hc => h.notcells hc hb)).trans hb
/-- What a question's error is. -/
def askErr (n : Int) (l1 : List S122) (l2 : List S124) : Int := if checkS n l1 l2 = 0 then (if askedL l1 l2 (enumO [] l1) = [] then 11 else 0) else checkS n l1 l2
/-- The vectors of all truths. -/
def truthsL (l1 : List S122) (l2 : List S124) : List (List Int) := askedL l1 l2 (enumO [] l1)
/-- The bounds of the first women. -/
def z39 (vs : List (List Int)) (k : Nat) : List S44 := (List.range k).map (fun j : Nat => ⟨(bndL (vs.map (fun v => rd v (j : Int)))).1, (bndL (vs.map (fun v => rd v (j : Int)))).2⟩)
theorem boundsTo_succ (vs : List (List Int)) (k : Nat) : z39 vs (k + 1) = z39 vs k ++ [⟨(bndL (vs.map (fun v => rd v (k : Int)))).1, (bndL (vs.map (fun v => rd v (k : Int)))).2⟩] := by simp [z39, List.range_succ]
def soap_Bounds.f (a0_0 : Int) (l0_1 : List (S122)) (l0_2 : List (S124)) : Option (List S44 × Int) :=
  some (if askErr a0_0 l0_1 l0_2 = 0 then (z39 (truthsL l0_1 l0_2) a0_0.toNat, 0) else ([], askErr a0_0 l0_1 l0_2))
set_option maxHeartbeats 4000000 in
set_option maxRecDepth 100000 in
theorem soap_Bounds.calls (a0_0 : Int) (A0_1 : Option Addr) (c0_1 : Nat) (l0_1 : List (S122)) (A0_2 : Option Addr) (c0_2 : Nat) (l0_2 : List (S124)) (r1 : List S44) (r2 : Int) (w : World) (hr0_1 : Kd.C k122 w A0_1 l0_1.length l0_1) (hc0_1 : l0_1.length ≤ c0_1) (hr0_2 : Kd.C k124 w A0_2 l0_2.length l0_2) (hc0_2 : l0_2.length ≤ c0_2) (h : soap_Bounds.f a0_0 l0_1 l0_2 = some (r1, r2)) :
    Calls Try.prog 22 #[.agg #[.int .i64 a0_0, .slice A0_1 l0_1.length c0_1, .slice A0_2 l0_2.length c0_2]] w fun e w' => ∃ v0_ : Value, e = .returned (.tuple #[v0_, .int .i64 r2]) ∧ Kd.R k44 44 w' w.heap.size (fun _ => True) v0_ r1 ∧ Below w.heap.size w w' := by
  have hu35 := Try.underlying35
  have hu114 := Try.underlying114
  have hu44 := Try.underlying44
  have h2 := Option.some.inj h
  clear h
  have hbw : Below w.heap.size w (w.alloc (.cells #[.int .i64 a0_0, .slice A0_1 l0_1.length c0_1, .slice A0_2 l0_2.length c0_2] 35)) := z10 (Below.refl _ _) _
  have HAS := mkA (asked_calls a0_0 A0_1 c0_1 l0_1 A0_2 c0_2 l0_2 _ (Kd.C_below hr0_1 hbw) hc0_1 (Kd.C_below hr0_2 hbw) hc0_2)
  have HBW := mkA hbw
  clear hbw hr0_1 hr0_2
  go_enter Try.func22, Try.ntmps22
  go_wp2_with fail
  refine HAS.out.mono ?_
  rintro e w1 ⟨hb, hcase⟩
  have HB1 := mkA (z16 HBW.out hb)
  have HBA := mkA hb
  clear hb HAS
  rcases hcase with ⟨hck, rfl⟩ | ⟨hck, hem, rfl⟩ | ⟨hck, hne, qb, v, gs, mbs, rfl, hq, hR, hP⟩
  · have hE : askErr a0_0 l0_1 l0_2 = checkS a0_0 l0_1 l0_2 := by unfold askErr; rw [if_neg hck]
    rw [hE, if_neg hck] at h2
    obtain ⟨rfl, rfl⟩ := Prod.mk.inj h2
    generalize hqq : checkS a0_0 l0_1 l0_2 = q at hck ⊢
    have HQQ := mkA hqq
    have g1 : (q != 0) = true := bne_iff_ne.2 hck
    clear h2 hck hE hqq
    go_wp2
    go_ret2
    exact ⟨_, by rw [HQQ.out]; rfl, Kd.R_nil _ _ _ _ _, HB1.out⟩
  · have hE : askErr a0_0 l0_1 l0_2 = 11 := by unfold askErr; rw [if_pos hck, if_pos hem]
    rw [hE, if_neg (by decide)] at h2
    obtain ⟨rfl, rfl⟩ := Prod.mk.inj h2
    clear h2 hck hE hem
    go_wp2
    go_ret2
    exact ⟨_, rfl, Kd.R_nil _ _ _ _ _, HB1.out⟩
  · have hE : askErr a0_0 l0_1 l0_2 = 0 := by unfold askErr; rw [if_pos hck, if_neg hne]
    rw [hE, if_pos rfl] at h2
    obtain ⟨rfl, rfl⟩ := Prod.mk.inj h2
    obtain ⟨z0, z1, z2, z3, z4, z5, z6⟩ := z28 hck
    have hvl : ((askedL l0_1 l0_2 (enumO [] l0_1)).length : Int) ≤ 140737488355328 := by
      have t1 := askedL_len l0_1 l0_2 (enumO [] l0_1) []
      have t2 := enumO_bound hck
      unfold askedL
      simp only [List.length_nil, Nat.zero_add] at t1
      omega
    generalize hvv : askedL l0_1 l0_2 (enumO [] l0_1) = vs at hP hvl ⊢
    have HVV := mkA hvv
    have HQ1 := mkA hq
    have HR1 := mkA hR
    have HP1 := mkA hP
    have hq0 : w1.cell? ⟨qb, 0, none⟩ = some (.int .i64 a0_0) := (z12 hq 0).trans rfl
    have hsa := HBA.out.size
    clear h2 hck hE hne hq hR hP z2 z3 z4 z5 z6 hvv
    go_wp2
    go_loopw [6, 21] (fun v6 i wr => ∃ (k : Int), 0 ≤ k ∧ k ≤ a0_0 ∧ i = .int .i64 k ∧ Aside0 (Kd.R k44 44 wr w1.heap.size (fun _ => True) v6 (z39 vs k.toNat)) ∧ Aside0 (wr.heap[qb]? = some (.cells #[.int .i64 a0_0, .slice A0_1 l0_1.length c0_1, .slice A0_2 l0_2.length c0_2, v] 114 (0, 0))) ∧ Aside0 (kP.R 117 wr (w.heap.size + 1) (fun _ => True) v gs) ∧ Aside0 (Purses wr (w.heap.size + 1) gs mbs vs) ∧ Aside0 (Below w.heap.size w wr) ∧ w1.heap.size ≤ wr.heap.size) (fun _ i _ => a0_0.toNat - (intOf i).toNat)
    case atStart => exact ⟨0, by omega, by omega, rfl, ⟨Kd.R_nil _ _ _ _ _⟩, HQ1, ⟨by simpa using HR1.out⟩, ⟨by simpa using HP1.out⟩, HB1, Nat.le_refl _⟩
    case round =>
      obtain ⟨k, hk0, hk1, rfl, HRO, HQ, HR, HP, HB, hsw⟩ := hrel
      by_cases hlt : k < a0_0
      · have g1 : decide (k < a0_0) = true := decide_eq_true hlt
        have HBC := mkA (bounds73_calls (fun u => rd u k) k (w.heap.size + 1) qb _ _ _ v gs mbs vs wr (fun g mb u W hu hp hm => (of_calls g mb u k W hp hk0 (by omega)).mono (fun e W' h => by
          obtain ⟨rfl, rfl⟩ := h
          exact ⟨rfl, But.refl _ _, hm⟩)) HQ.out HR.out HP.out hvl (by simp at hsa; omega))
        have hol : (z39 vs k.toNat).length ≤ 6 := by simp [z39]; omega
        have HBS := mkA (boundsTo_succ vs k.toNat)
        rw [show ((k.toNat : Nat) : Int) = k by omega] at HBS
        generalize z39 vs k.toNat = outs at HRO hol HBS
        generalize (bndL (vs.map (fun u => rd u k))).1 = lo at HBS HBC
        generalize (bndL (vs.map (fun u => rd u k))).2 = hi at HBS HBC
        go_wp2_with fail
        refine HBC.out.mono ?_
        rintro e w4 ⟨rfl, hm, hp4⟩
        have HRO4 := mkA (R_mems HRO.out HP.out hm)
        have HQ4 := mkA (cells_mems HQ.out HP.out hm)
        have HR4 := mkA (R_mems HR.out HP.out hm)
        have HP4 := mkA hp4
        have hb4 : Below (w.heap.size + 1) wr w4 := hm.below (by simp at hsa; omega) HP.out.mems
        have HB4 := mkA (HB.out.trans (hb4.mono (by omega)))
        have hs4 : w1.heap.size ≤ w4.heap.size := Nat.le_trans hsw hm.size
        clear hm hp4 hb4 HBC HRO HQ HR HP HB
        go_wp2_with ((with_reducible refine z35 (b := .append) (xs := #[.tmp 24, .tmp 29]) rfl ?_); at_builtin; refine Kd.R_append k44 (w0 := w4) w1.heap.size rfl (.tmp 24) (.tmp 29) 28 44 (.agg #[(.int .i64 0), (.int .i64 0)]) 16 rfl Try.underlying28 info44 rfl (by decide) (by omega) u6 outs ⟨lo, hi⟩ [.int .i64 lo, .int .i64 hi] (fun _ => True) (fun _ => False) rfl rfl ?aP (fun _ hk => hk.elim) ?aF ?aO ?aB ?aS ?aL ?_; (case aP => exact k44_mkM _ _ _ _); (case aB => exact (Below.refl _ _)); (case aF => exact (fun _ _ => trivial)); (case aO => exact HRO4.out); (case aS => exact hs4); (case aL => omega); intro v9 w9 ho hb hg hat; have n0_ := mkA ho; have n1_ := mkA hb; have n2_ := mkA hg; clear ho hb hg hat)
        go_round
        case measure => simp [intOf]; omega
        case rel =>
          refine ⟨k + 1, by omega, by omega, by go_num, ⟨by rw [show (k + 1).toNat = k.toNat + 1 by omega, HBS.out]; exact n0_.out⟩, ⟨(n2_.out.block qb (z22 HQ4.out) (Kd.R_ne HRO4.out HQ4.out (by decide))).trans HQ4.out⟩, ⟨Kd.R_over' HR4.out (Kd.R_typed HRO4.out) (by decide) n2_.out⟩, ⟨HP4.out.grownT HRO4.out (by decide) n2_.out⟩, ⟨HB4.out.trans (n1_.out.mono (by simp at hsa; omega))⟩, Nat.le_trans hs4 n1_.out.size⟩
      · have g1 : decide (k < a0_0) = false := decide_eq_false hlt
        obtain rfl : k = a0_0 := by omega
        have HS := mkA (Kd.R_lower HRO.out (show w.heap.size ≤ w1.heap.size by simp at hsa; omega))
        go_wp2
        go_ret2
        exact ⟨u6, rfl, by unfold truthsL; rw [HVV.out]; exact HS.out, HB.out⟩
end Go.Proofs.Ytncaadckehikpaa.Q
