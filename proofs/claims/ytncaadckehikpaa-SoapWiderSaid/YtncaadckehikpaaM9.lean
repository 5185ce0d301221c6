/- A part of the proof: contracts of functions and plain facts (HMap, HMost, HGroups1, HClone, HPlay). No condition. -/
import Derived.BigRegion
import Derived.WalkSpells
import Derived.Test.YtncaadckehikpaaM8
import Derived.Test.YtncaadckehikpaaM5
import Derived.Test.YtncaadckehikpaaM6
namespace Go.Proofs.Ytncaadckehikpaa.Q
open Go.RowKit Go.Proofs.YtncaadckehikpaaW.PrintWords Go.Proofs.YtncaadckehikpaaW.PrintLast Go.Proofs.YtncaadckehikpaaW.PrintMore
set_option linter.unusedVariables false
set_option linter.unusedSimpArgs false
abbrev skey (a b : Int) : Value := .agg #[.int .i64 a, .int .i64 b]
theorem eqA161 (d : Nat) (w : World) (x0 x1 y0 y1 : Int) :
    (Op.equalIn (d + 2) 161 (skey x0 x1) (skey y0 y1)).run Try.prog w = .ok (x0 == y0 && (x1 == y1)) w := by
  refine eqA_of Try.underlying161 (by kernel_rfl) ?_
  refine eqf_cons (by rfl) (by go_simp; rfl) (by go_simp; rfl) (by go_simp) ?_
  exact eqf_last (by rfl) (by go_simp; rfl) (by go_simp; rfl) (by go_simp)
/-- What is known is right. -/
def MemoOk (v : List Int) (es : List MapEntry) : Prop := ∀ e ∈ es, ∃ m : Nat, m < 64 ∧ e.key = skey m (sumN v m) ∧ e.val = .int .i64 (F v m)
theorem run_asking (v : List Int) (m : Nat) : ∀ (es : List MapEntry) (i : Nat), MemoOk v es →
    ∃ r, (∀ w, (Instr.findAsking 161 (skey m (sumN v m)) es i).run Try.prog w = .ok r w) ∧ (r = none ∨ ∃ j, r = some (j, .int .i64 (F v m)) ∧ i ≤ j ∧ ∃ e, es[j - i]? = some e ∧ e.key = skey m (sumN v m)) := by
  intro es
  induction es with
  | nil => intro i _; exact ⟨none, fun _ => rfl, .inl rfl⟩
  | cons e t ih =>
    intro i h
    obtain ⟨m', hm', hk, hv⟩ := h e (by simp)
    have heq : ∀ w, (Op.equal 161 (skey m (sumN v m)) e.key).run Try.prog w = .ok ((m : Int) == m' && (sumN v m == sumN v m')) w := by
      intro w; rw [hk]; exact eqA161 9998 w _ _ _ _
    simp only [Instr.findAsking, Sem.run_bind, heq, Result.andThen]
    by_cases e1 : m = m'
    · subst e1
      rw [show ((m : Int) == m && (sumN v m == sumN v m)) = true by simp]
      exact ⟨some (i, e.val), fun _ => rfl, .inr ⟨i, by rw [hv], Nat.le_refl _, e, by simp, hk⟩⟩
    · have : ((m : Int) == (m' : Int)) = false := by simp; omega
      simp only [this, Bool.false_and, Bool.false_eq_true, if_false]
      obtain ⟨r, hr, hrr⟩ := ih (i + 1) (fun e he => h e (by simp [he]))
      refine ⟨r, hr, hrr.imp id ?_⟩
      rintro ⟨j, h1, h2, e2, h3, h4⟩
      refine ⟨j, h1, by omega, e2, ?_, h4⟩
      rw [show j - i = (j - (i + 1)) + 1 by omega]
      simpa using h3
theorem run_find (v : List Int) (m : Nat) (es : List MapEntry) (h : MemoOk v es) :
    ∃ r, (∀ w, (Instr.findKey 161 (skey m (sumN v m)) es).run Try.prog w = .ok r w) ∧ (r = none ∨ ∃ j, r = some (j, .int .i64 (F v m)) ∧ ∃ e, es[j]? = some e ∧ e.key = skey m (sumN v m)) := by
  unfold Instr.findKey
  simp only [Sem.run_bind, run_underlying Try.underlying161, Result.andThen]
  cases es with
  | nil => exact ⟨none, fun _ => rfl, .inl rfl⟩
  | cons e t =>
    obtain ⟨m', hm', hk, hv⟩ := h e (by simp)
    have hn : Instr.findNow (.struct #[⟨"women", 3, 0, false, "", "posser/soap", 0⟩, ⟨"sum", 3, 1, false, "", "posser/soap", 8⟩]) (skey m (sumN v m)) (e :: t) 0 = none := by
      simp [Instr.findNow, Instr.sameNow]
    rw [show (Instr.findNow _ (skey m (sumN v m)) (e :: t) 0) = none from hn]
    obtain ⟨r, hr, hrr⟩ := run_asking v m (e :: t) 0 h
    exact ⟨r, hr, hrr.imp id (fun ⟨j, h1, _, h2⟩ => ⟨j, h1, h2⟩)⟩
theorem run_check (e : Bool) (a b : Int) (w : World) : (Instr.checkKey e 10000 161 (skey a b)).run Try.prog w = .ok () w := by
  cases e <;> kernel_rfl
/-- A map is written. -/
def putMap (w : World) (r : Nat) (o : Obj) : World := { w with heap := w.heap.setIfInBounds r o }
theorem lookup_memo (v : List Int) (m : Nat) (mb cl : Nat) (es : Array MapEntry) (h : MemoOk v es.toList) :
    ∃ n b, (∀ w : World, w.heap[mb]? = some (.map es cl) → (Instr.lookup 155 (.map (some mb)) (skey m (sumN v m)) true).run Try.prog w = .ok (.tuple #[.int .i64 n, .bool b]) w) ∧ (b = true → n = F v m) ∧ (b = false → n = 0) := by
  obtain ⟨r, hr, hrr⟩ := run_find v m es.toList h
  have hz : ∀ w, (zeroValue 3).run Try.prog w = .ok (.int .i64 0) w := fun w => by kernel_rfl
  rcases hrr with rfl | ⟨j, rfl, _⟩
  · refine ⟨0, false, fun w hb => ?_, by simp, by simp⟩
    unfold Instr.lookup
    simp only [Sem.run_bind, run_underlying Try.underlying155, Result.andThen, MapKept.run_getObj_map hb, run_check, hr, Sem.run_pure, hz]
    simp
  · refine ⟨F v m, true, fun w hb => ?_, by simp, by simp⟩
    unfold Instr.lookup
    simp only [Sem.run_bind, run_underlying Try.underlying155, Result.andThen, MapKept.run_getObj_map hb, run_check, hr, Sem.run_pure, hz]
    simp
theorem sameBits_skey (a b : Int) : Instr.sameBits 10000 (skey a b) (skey a b) = true := by
  simp [Instr.sameBits, skey]
theorem update_memo (v : List Int) (m : Nat) (hm : m < 64) (w : World) (mb cl : Nat) (es : Array MapEntry) (hb : w.heap[mb]? = some (.map es cl)) (h : MemoOk v es.toList) :
    ∃ es' cl', (Instr.mapUpdate 155 (.map (some mb)) (skey m (sumN v m)) (.int .i64 (F v m))).run Try.prog w = .ok () (putMap w mb (.map es' cl')) ∧ MemoOk v es'.toList := by
  obtain ⟨r, hr, hrr⟩ := run_find v m es.toList h
  unfold Instr.mapUpdate
  simp only [Sem.run_bind, run_underlying Try.underlying155, Result.andThen, MapKept.run_getObj_map hb, run_check, hr]
  rcases hrr with rfl | ⟨j, rfl, e, he, hk⟩
  · refine ⟨es.push { key := skey m (sumN v m), val := .int .i64 (F v m), born := cl }, cl + 1, ?_, ?_⟩
    · rw [MapKept.run_setObj_map _ hb]; rfl
    · intro e he
      rw [Array.toList_push, List.mem_append] at he
      rcases he with he | he
      · exact h e he
      · rw [List.mem_singleton.1 he]
        exact ⟨m, hm, rfl, rfl⟩
  · have he' : es[j]? = some e := by simpa using he
    have hst : (Instr.keyThatStays (((es[j]?).map (·.key)).getD (skey m (sumN v m))) (skey m (sumN v m))).run Try.prog w = .ok (skey m (sumN v m)) w := by
      unfold Instr.keyThatStays
      rw [he']
      simp only [Option.map_some, Option.getD_some, hk, sameBits_skey, if_true]
      rfl
    refine ⟨es.modify j fun e => { e with key := skey m (sumN v m), val := .int .i64 (F v m) }, cl, ?_, ?_⟩
    · simp only [Sem.run_bind, hst, Result.andThen]
      rw [MapKept.run_setObj_map _ hb]; rfl
    · intro e2 he2
      obtain ⟨q, hq, hq2⟩ := List.getElem_of_mem he2
      have hq3 : (es.modify j fun e => { e with key := skey m (sumN v m), val := .int .i64 (F v m) })[q]? = some e2 := by
        rw [← Array.getElem?_toList, List.getElem?_eq_getElem hq, hq2]
      rw [Array.getElem?_modify] at hq3
      split at hq3
      · cases h4 : es[q]? with
        | none => rw [h4] at hq3; cases hq3
        | some e4 =>
          rw [h4] at hq3
          simp only [Option.map_some, Option.some.injEq] at hq3
          subst hq3
          exact ⟨m, hm, rfl, rfl⟩
      · exact h e2 (by
          have : es.toList[q]? = some e2 := by rw [Array.getElem?_toList]; exact hq3
          exact List.mem_of_getElem? this)
/-- The map of what is known, at a block. -/
def Memo (w : World) (mb : Nat) (v : List Int) : Prop := ∃ es cl, w.heap[mb]? = some (.map es cl) ∧ MemoOk v es.toList
/-- But for block mb, and new ones, a world stays. -/
structure But (mb : Nat) (w w' : World) : Prop where
  os : w'.os = w.os
  tape : w'.tape = w.tape
  output : w'.output = w.output
  size : w.heap.size ≤ w'.heap.size
  block : ∀ k, k < w.heap.size → k ≠ mb → w'.heap[k]? = w.heap[k]?
theorem But.refl (mb : Nat) (w : World) : But mb w w := ⟨rfl, rfl, rfl, Nat.le_refl _, fun _ _ _ => rfl⟩
theorem But.trans {mb : Nat} {a b c : World} (h : But mb a b) (k : But mb b c) : But mb a c :=
  ⟨k.os.trans h.os, k.tape.trans h.tape, k.output.trans h.output, Nat.le_trans h.size k.size, fun i hi hn => (k.block i (Nat.lt_of_lt_of_le hi h.size) hn).trans (h.block i hi hn)⟩
theorem But.of_below {mb : Nat} {w w' : World} (h : Below w.heap.size w w') : But mb w w' := ⟨h.os, h.tape, h.output, h.size, fun k hk _ => h.block k hk⟩
theorem But.drew {mb : Nat} {w w' : World} (h : But mb w w') : But mb w w'.drew := ⟨h.os, h.tape, h.output, h.size, h.block⟩
theorem But.drewN {mb : Nat} {w w' : World} (h : But mb w w') (n : Nat) : But mb w (w'.drewN n) := ⟨h.os, h.tape, h.output, h.size, h.block⟩
theorem But.alloc {mb : Nat} {w w' : World} (h : But mb w w') (o : Obj) : But mb w (w'.alloc o) := h.trans (But.of_below (z10 (Below.refl _ _) _))
theorem But.putMap {mb : Nat} {w w' : World} (h : But mb w w') (o : Obj) : But mb w (putMap w' mb o) :=
  h.trans ⟨rfl, rfl, rfl, by simp [Q.putMap], fun k hk hn => by simp [Q.putMap, Array.getElem?_setIfInBounds, Ne.symm hn]⟩
theorem But.below {mb : Nat} {w w' : World} (h : But mb w w') (hm : w.heap.size ≤ mb) : Below w.heap.size w w' := ⟨h.os, h.tape, h.output, h.size, fun k hk => h.block k hk (by omega)⟩
/-- What a But keeps. -/
theorem But.keeps {mb g : Nat} {w w' : World} {o : Obj} (h : But mb w w') (hg : w.heap[g]? = some o) (hne : g ≠ mb) : w'.heap[g]? = some o := (h.block g (z22 hg) hne).trans hg
theorem Memo.below {mb : Nat} {w w' : World} {v : List Int} (h : Memo w mb v) (hb : Below w.heap.size w w') : Memo w' mb v := by
  obtain ⟨es, cl, h1, h2⟩ := h
  exact ⟨es, cl, blk_below h1 hb, h2⟩
end Go.Proofs.Ytncaadckehikpaa.Q
namespace Go.Proofs.Ytncaadckehikpaa.Q
open Go.RowKit Go.Proofs.YtncaadckehikpaaW.PrintWords Go.Proofs.YtncaadckehikpaaW.PrintLast Go.Proofs.YtncaadckehikpaaW.PrintMore
attribute [local go_sem] z30 z29 max_two min_two
set_option linter.unusedVariables false
set_option linter.unusedSimpArgs false
set_option maxHeartbeats 4000000 in
set_option maxRecDepth 100000 in
theorem most_calls (g mb : Nat) (v : List Int) (hv : ∀ j, -1000000000 ≤ rd v j ∧ rd v j ≤ 1000000000) (hne : g ≠ mb) : ∀ (m : Nat) (w : World), m < 64 → PurseAt w g mb v → Memo w mb v →
    Calls Try.prog 111 #[.pointer (some ⟨g, 0, none⟩), .int .i64 (m : Int)] w fun e w' => e = .returned (.int .i64 (F v m)) ∧ But mb w w' ∧ Memo w' mb v := by
  intro m
  induction m using Nat.strongRecOn with
  | _ m ih =>
  intro w hm hp hmemo
  have hu157 := Try.underlying157
  have hu161 := Try.underlying161
  have HSP := mkA (spot_calls g mb v m w hp hm hv)
  have HP := mkA hp
  have HM := mkA hmemo
  have IH := mkA ih
  have HNE := mkA hne
  have hlt := z22 hp
  clear hp hmemo ih hv hne
  go_enter Try.func111, Try.ntmps111
  go_wp2_with fail
  refine HSP.out.mono ?_
  rintro e w1 ⟨rfl, hb⟩
  have HB1 := mkA hb
  have HP1 := mkA (show PurseAt (w1.alloc (.cells #[.int .i64 (m : Int), .int .i64 (sumN v m)] 161)) g mb v from blk_below (blk_below HP.out hb) (z10 (Below.refl _ _) _))
  have HM1 := mkA ((HM.out.below hb).below (z10 (Below.refl _ _) (.cells #[.int .i64 (m : Int), .int .i64 (sumN v m)] 161)))
  have HX := mkA (z19 w1 (.cells #[.int .i64 (m : Int), .int .i64 (sumN v m)] 161))
  have HBUT := mkA (But.of_below (mb := mb) (z10 hb (.cells #[.int .i64 (m : Int), .int .i64 (sumN v m)] 161)))
  clear hb HSP
  by_cases h0 : m = 0
  · subst h0
    go_wp2
    go_ret
    exact ⟨rfl, HBUT.out, HM1.out⟩
  have g0 : ((m : Int) == 0) = false := by simp; omega
  have hw1 := HB1.out.size
  have hgx : g < w1.heap.size := by omega
  go_wp2
  generalize hW : w1.alloc (.cells #[.int .i64 (m : Int), .int .i64 (sumN v m)] 161) = w2 at HP1 HM1 HX HBUT ⊢
  clear hW
  obtain ⟨es, cl, hes, hok⟩ := HM1.out
  obtain ⟨n, b, hl, hbt, hbf⟩ := lookup_memo v m mb cl es hok
  have hl2 := fun q : Nat => hl (w2.drewN q) hes
  obtain ⟨_, _, _, _, _, _, x6⟩ := HP1.out.cells
  have y0 : w2.cell? ⟨w1.heap.size, 0, none⟩ = some (.int .i64 (m : Int)) := (z12 HX.out 0).trans rfl
  have y1 : w2.cell? ⟨w1.heap.size, 1, none⟩ = some (.int .i64 (sumN v m)) := (z12 HX.out 1).trans rfl
  have HBT := mkA hbt
  have HBF := mkA hbf
  clear hl hes hok hbt hbf
  go_quiet (fail)
  have HBUT2 := mkA (HBUT.out.drewN nq)
  have HP2 := mkA (show PurseAt (w2.drewN nq) g mb v from HP1.out)
  have HM2 := mkA (show Memo (w2.drewN nq) mb v from HM1.out)
  have HX2 := mkA (show (w2.drewN nq).heap[w1.heap.size]? = some (.cells #[.int .i64 (m : Int), .int .i64 (sumN v m)] 161 (0, 0)) from HX.out)
  clear hl2 y0 y1 x6
  generalize w2.drewN nq = w3 at HBUT2 HP2 HM2 HX2 ⊢
  clear HBUT HP1 HM1 HX
  cases b with
  | true =>
    have HN := mkA (HBT.out rfl)
    clear HBT HBF
    go_wp2
    go_ret
    exact ⟨by rw [← HN.out]; rfl, HBUT2.out, HM2.out⟩
  | false =>
    have hn := HBF.out rfl
    subst hn
    clear HBT HBF
    go_wp2
    go_loopw [6, 25] (fun nn i wr => ∃ k : Int, 0 ≤ k ∧ k ≤ 6 ∧ i = .int .i64 k ∧ nn = .int .i64 (bestTo (F v) m k.toNat) ∧ Aside0 (PurseAt wr g mb v) ∧ Aside0 (Memo wr mb v) ∧ Aside0 (wr.heap[w1.heap.size]? = some (.cells #[.int .i64 (m : Int), .int .i64 (sumN v m)] 161 (0, 0))) ∧ But mb w wr) (fun _ i _ => 6 - (intOf i).toNat)
    case atStart => exact ⟨0, by omega, by omega, rfl, rfl, HP2, HM2, HX2, HBUT2.out⟩
    case round =>
      clear HBUT2 HP2 HM2 HX2
      obtain ⟨k, hk1, hk2, rfl, rfl, HPr, HMr, HXr, hbut⟩ := hrel
      have HBr := mkA hbut
      clear hbut
      by_cases hlt : k < 6
      · have c3b0 : decide (k < 6) = true := decide_eq_true hlt
        have ht := bit_test m k.toNat
        cases hbit : bitN m k.toNat with
        | true =>
          rw [hbit] at ht
          have han := andNot_bit m k.toNat (by omega) hm
          have HC := mkA (IH.out (clr m k.toNat) (clr_lt hbit) wr (by have := clr_lt hbit; omega) HPr.out HMr.out)
          have HS := mkA (show bestTo (F v) m (k + 1).toNat = mx (bestTo (F v) m k.toNat) (F v (clr m k.toNat)) by
            rw [show (k + 1).toNat = k.toNat + 1 by omega]; simp only [bestTo]; rw [if_pos hbit])
          clear hbit
          go_wp2_with fail
          refine HC.out.mono ?_
          rintro e w4 ⟨rfl, hbut, hmm⟩
          have HB4 := mkA (HBr.out.trans hbut)
          have HM4 := mkA hmm
          have HP4 := mkA (show PurseAt w4 g mb v from hbut.keeps HPr.out HNE.out)
          have HX4 := mkA (hbut.keeps HXr.out (by obtain ⟨es, cl, h1, _⟩ := HMr.out; intro e; rw [e, h1] at HXr; cases HXr.out))
          clear hbut hmm HC HBr HMr HPr HXr
          go_wp2
          go_roundw
          case rel => exact ⟨k + 1, by omega, by omega, by go_num, by rw [HS.out]; rfl, HP4, HM4, HX4, HB4.out⟩
          case measure => simp [intOf]; omega
        | false =>
          rw [hbit] at ht
          have HS := mkA (show bestTo (F v) m (k + 1).toNat = bestTo (F v) m k.toNat by
            rw [show (k + 1).toNat = k.toNat + 1 by omega]; simp only [bestTo]; rw [if_neg (by rw [hbit]; simp)])
          clear hbit
          go_wp2
          go_roundw
          case rel => exact ⟨k + 1, by omega, by omega, by go_num, by rw [HS.out], HPr, HMr, HXr, HBr.out⟩
          case measure => simp [intOf]; omega
      · have c3b0 : decide (k < 6) = false := decide_eq_false hlt
        obtain rfl : k = 6 := by omega
        have hbd := bestTo_bd (f := F v) (m := m) (b := 64) (by omega) (fun i hb => by have := F_bd v (clr m i); have := clr_lt hb; omega) 6
        obtain ⟨b1, b2⟩ := hbd
        have HFS := mkA (F_step v m h0)
        rw [show ((6 : Int).toNat) = 6 from rfl]
        generalize bestTo (F v) m 6 = best at b1 b2 HFS ⊢
        obtain ⟨es, cl, hes, hok⟩ := HMr.out
        have y1 : wr.cell? ⟨w1.heap.size, 1, none⟩ = some (.int .i64 (sumN v m)) := (z12 HXr.out 1).trans rfl
        have y0 : wr.cell? ⟨w1.heap.size, 0, none⟩ = some (.int .i64 (m : Int)) := (z12 HXr.out 0).trans rfl
        obtain ⟨_, _, _, _, _, _, x6⟩ := HPr.out.cells
        obtain ⟨es', cl', hup, hok'⟩ := update_memo v m hm wr.drew mb cl es hes hok
        have HO := mkA hok'
        have HES := mkA hes
        clear hok hok' hes
        cases hs : (sumN v m == 0) with
        | true =>
          have hf : F v m = best + 1 := by rw [HFS.out, if_pos (by simpa using hs)]
          rw [hf] at hup
          have HF := mkA hf
          clear hf
          go_wp2
          go_region
          go_wp2
          go_ret
          exact ⟨by rw [HF.out]; rfl, HBr.out.drew.putMap _, es', cl', by simp [putMap, z22 HES.out], HO.out⟩
        | false =>
          have hf : F v m = best := by rw [HFS.out, if_neg (by simpa using hs)]; omega
          rw [hf] at hup
          have HF := mkA hf
          clear hf
          go_wp2
          go_region
          go_wp2
          go_ret
          exact ⟨by rw [HF.out]; rfl, HBr.out.drew.putMap _, es', cl', by simp [putMap, z22 HES.out], HO.out⟩
end Go.Proofs.Ytncaadckehikpaa.Q
namespace Go.Proofs.Ytncaadckehikpaa.Q
open Go.RowKit Go.Proofs.YtncaadckehikpaaW.PrintWords Go.Proofs.YtncaadckehikpaaW.PrintLast Go.Proofs.YtncaadckehikpaaW.PrintMore
set_option linter.unusedVariables false
set_option linter.unusedSimpArgs false
theorem But.belowB {mb B : Nat} {w W w1 : World} (h : But mb w W) (hb : Below B W w1) (hB : w.heap.size ≤ B) : But mb w w1 :=
  ⟨hb.os.trans h.os, hb.tape.trans h.tape, hb.output.trans h.output, Nat.le_trans h.size hb.size, fun k hk hn => (hb.block k (by omega)).trans (h.block k hk hn)⟩
theorem S_but {α : Type} {d : Kd α} {e mb base : Nat} {ok : Nat → Prop} {w w1 : World} {v : Value} {xs : List α} (h : Kd.S d e w base ok v xs) (hb : But mb w w1) (hm : mb < base) : Kd.S d e w1 base ok v xs :=
  Kd.S_mono (Kd.S_move (Kd.S_bound h) (fun k hk => hb.block k hk.2.2.1 (by have := hk.2.1; omega))) (fun _ hk => hk.1)
set_option maxHeartbeats 4000000 in
set_option maxRecDepth 100000 in
theorem groups_calls (g mb : Nat) (v : List Int) (w : World) (hv : ∀ j, -1000000000 ≤ rd v j ∧ rd v j ≤ 1000000000) (hne : g ≠ mb) (hp : PurseAt w g mb v) (hmemo : Memo w mb v) :
    Calls Try.prog 79 #[.pointer (some ⟨g, 0, none⟩)] w fun e w' => ∃ v0, e = .returned v0 ∧ Kd.S (Kd.slice 3 (Kd.int .i64)) 37 w' w.heap.size (fun _ => True) v0 (groupsL v) ∧ But mb w w' ∧ Memo w' mb v := by
  have hu157 := Try.underlying157
  have hu161 := Try.underlying161
  have HV := mkA hv
  have HP := mkA hp
  have HM := mkA hmemo
  have HNE := mkA hne
  have HG := mkA (z22 hp)
  have HMB := mkA (show mb < w.heap.size by obtain ⟨es, cl, h, _⟩ := hmemo; exact z22 h)
  have HOP := mkA (open_calls g mb v w hp)
  clear hv hp hmemo hne
  go_enter Try.func79, Try.ntmps79
  go_wp2_with fail
  refine HOP.out.mono ?_
  rintro e w1 ⟨rfl, hw⟩
  subst hw
  clear HOP
  go_wp2_with fail
  have hopen : openN v < 64 := openTo_lt v 6
  go_loopg [2, 3, 4] 64 (fun kq v2 v3 v4 wr => ∃ (outs : List (List Int)) (m gr : Nat), v3 = .int .i64 (m : Int) ∧ v4 = .int .i64 (gr : Int) ∧ m < 64 ∧ gr < 64 ∧ gr &&& m = 0 ∧ m ≤ kq ∧ outs.length + kq ≤ 64 ∧ Aside0 (groupsL v = outs ++ z31 v kq m gr) ∧ Aside0 (Kd.S (Kd.slice 3 (Kd.int .i64)) 37 wr w.heap.size (fun _ => True) v2 outs) ∧ Aside0 (PurseAt wr g mb v) ∧ Aside0 (Memo wr mb v) ∧ But mb w wr)
  case atStart => exact ⟨[], openN v, 0, rfl, rfl, hopen, by omega, by simp, by omega, by simp, ⟨rfl⟩, ⟨Kd.S_nil _ _ _ _ _⟩, HP, HM, But.refl _ _⟩
  case round =>
    obtain ⟨outs, m, gr, rfl, rfl, hm, hgr, hand, hmk, hok, HGL, HS, HPr, HMr, hbut⟩ := hrel
    have HBr := mkA hbut
    clear hbut HP HM
    by_cases h0 : m = 0
    · subst h0
      have HG2 := mkA (show groupsL v = outs by rw [HGL.out]; cases gk <;> simp [z31])
      go_wp2
      go_ret
      exact ⟨_, rfl, by rw [HG2.out]; exact HS.out, HBr.out, HMr.out⟩
    have g0 : decide (0 < (m : Int)) = true := decide_eq_true (by omega)
    obtain ⟨gq, rfl⟩ : ∃ q, gk = q + 1 := ⟨gk - 1, by omega⟩
    have HSP := mkA (spot_calls g mb v m wr HPr.out hm HV.out)
    go_wp2_with fail
    go_step3
    go_wp2_with fail
    refine HSP.out.mono ?_
    rintro e w2 ⟨rfl, hb⟩
    have HB2 := mkA ((HBr.out.trans (But.of_below hb)).alloc (.cells #[.int .i64 (m : Int), .int .i64 (sumN v m)] 161))
    have HP2 := mkA (show PurseAt (w2.alloc (.cells #[.int .i64 (m : Int), .int .i64 (sumN v m)] 161)) g mb v from blk_below (blk_below HPr.out hb) (z10 (Below.refl _ _) _))
    have HM2 := mkA ((HMr.out.below hb).below (z10 (Below.refl _ _) (.cells #[.int .i64 (m : Int), .int .i64 (sumN v m)] 161)))
    have HS2 := mkA (Kd.S_alloc (Kd.S_below HS.out hb) (.cells #[.int .i64 (m : Int), .int .i64 (sumN v m)] 161))
    have HX2 := mkA (z19 w2 (.cells #[.int .i64 (m : Int), .int .i64 (sumN v m)] 161))
    have HMC := mkA (most_calls g mb v HV.out HNE.out m _ hm HP2.out HM2.out)
    have hw2 := hb.size
    have HG2 := mkA (show w2.heap.size ≠ mb by have := HMB.out; have := HBr.out.size; omega)
    clear hb HSP HPr HMr HBr HS hw2
    go_wp2_with fail
    refine HMC.out.mono ?_
    rintro e w3 ⟨rfl, hbut, hmm⟩
    have HB3 := mkA (HB2.out.trans hbut)
    have HM3 := mkA hmm
    have HP3 := mkA (show PurseAt w3 g mb v from hbut.keeps HP2.out HNE.out)
    have HS3 := mkA (S_but HS2.out hbut HMB.out)
    have HX3 := mkA (hbut.keeps HX2.out HG2.out)
    clear hbut hmm HMC HB2 HP2 HM2 HS2 HX2
    have hF := F_bd v m
    obtain ⟨f1, f2⟩ := hF
    have y1 : w3.cell? ⟨w2.heap.size, 1, none⟩ = some (.int .i64 (sumN v m)) := (z12 HX3.out 1).trans rfl
    obtain ⟨i, hpick, hi6, hgoi, hgoj⟩ := pick_some v m hm h0
    have HPK := mkA hpick
    have HGI := mkA hgoi
    have HGJ := mkA hgoj
    clear hpick hgoi hgoj
    have HLF := mkA (show leftOf v m = F v m - if sumN v m = 0 then 1 else 0 from rfl)
    cases hs : (sumN v m == 0)
    all_goals
      first | rw [if_pos (by simpa using hs)] at HLF | rw [if_neg (by simpa using hs), Int.sub_zero] at HLF
      go_wp2
      rw [← HLF.out]
      clear f1 f2 y1 hs
      go_step3
      go_wp2
      go_loopg [3, 4, 24] 6 (fun kq v3 v4 v24 wr => ∃ k : Nat, k + kq = 6 ∧ v24 = .int .i64 (k : Int) ∧ v3 = .int .i64 (m : Int) ∧ v4 = .int .i64 (gr : Int) ∧ k ≤ i ∧ Aside0 (Kd.S (Kd.slice 3 (Kd.int .i64)) 37 wr w.heap.size (fun _ => True) u2 outs) ∧ Aside0 (PurseAt wr g mb v) ∧ Aside0 (Memo wr mb v) ∧ But mb w wr)
      case atStart => exact ⟨0, by omega, rfl, rfl, rfl, by omega, HS3, HP3, HM3, HB3.out⟩
      case round =>
        clear HS3 HP3 HM3 HB3 HX3
        obtain ⟨k, hk1, rfl, rfl, rfl, hki, HSi, HPi, HMi, hbut⟩ := hrel
        have HBi := mkA hbut
        clear hbut
        have c3b0 : decide ((k : Int) < 6) = true := decide_eq_true (by omega)
        have hk6 : k < 6 := by omega
        obtain ⟨gk2, rfl⟩ : ∃ q, gk = q + 1 := ⟨gk - 1, by omega⟩
        have han := andNot_bit m k hk6 hm
        have hnb := clr_ne m k
        cases hbit : bitN m k with
        | false =>
          rw [hbit] at hnb
          have hki2 : k + 1 ≤ i := by
            rcases Nat.lt_or_ge k i with hl | hl
            · exact hl
            · obtain rfl : k = i := by omega
              have := HGI.out
              unfold goesB at this
              rw [hbit] at this
              cases this
          clear hbit
          go_wp2
          go_roundg gk2
          case measure => omega
          case rel => exact ⟨k + 1, by omega, by go_num, rfl, rfl, hki2, HSi, HPi, HMi, HBi.out⟩
        | true =>
          rw [hbit] at hnb
          have HC := mkA (most_calls g mb v HV.out HNE.out (clr m k) wr (by have := clr_lt hbit; omega) HPi.out HMi.out)
          go_wp2_with fail
          refine HC.out.mono ?_
          rintro e w4 ⟨rfl, hbut, hmm⟩
          have HB4 := mkA (HBi.out.trans hbut)
          have HM4 := mkA hmm
          have HP4 := mkA (show PurseAt w4 g mb v from hbut.keeps HPi.out HNE.out)
          have HS4 := mkA (S_but HSi.out hbut HMB.out)
          clear hbut hmm HC HBi HPi HMi HSi
          cases hF : (F v (clr m k) == leftOf v m) with
          | false =>
            have hki2 : k + 1 ≤ i := by
              rcases Nat.lt_or_ge k i with hl | hl
              · exact hl
              · obtain rfl : k = i := by omega
                have := HGI.out
                unfold goesB at this
                rw [hF, Bool.and_false] at this
                cases this
            clear hbit
            go_wp2
            go_roundg gk2
            case measure => omega
            case rel => exact ⟨k + 1, by omega, by go_num, rfl, rfl, hki2, HS4, HP4, HM4, HB4.out⟩
          | true =>
            have hki2 : k = i := by
              rcases Nat.lt_or_ge k i with hl | hl
              · have := HGJ.out k hl
                unfold goesB at this
                rw [hbit, hF] at this
                cases this
              · omega
            subst hki2
            have hap := apart_step gr m k hgr hm hk6 hand hbit
            obtain ⟨ap1, ap2, ap3⟩ := hap
            have hor := or_free gr k hgr hk6 ap2
            have hcl := clr_lt hbit
            have HSP := mkA (spot_calls g mb v (clr m k) w4 HP4.out (by omega) HV.out)
            clear hbit ap2
            go_wp2_with fail
            refine HSP.out.mono ?_
            rintro e w5 ⟨rfl, hb⟩
            have HB5 := mkA (HB4.out.trans (But.of_below hb))
            have HP5 := mkA (show PurseAt w5 g mb v from blk_below HP4.out hb)
            have HM5 := mkA (HM4.out.below hb)
            have HS5 := mkA (Kd.S_below HS4.out hb)
            clear hb HSP HB4 HP4 HM4 HS4
            have HGS := mkA (show z31 v (gq + 1) m gr = if sumN v (clr m k) = 0 then bitsL (gr + 2 ^ k) :: z31 v gq (clr m k) 0 else z31 v gq (clr m k) (gr + 2 ^ k) by
              simp only [z31]; rw [if_neg h0, HPK.out])
            have hfl : ∀ W, (Instr.field 161 (.agg #[.int .i64 ((clr m k : Nat) : Int), .int .i64 (sumN v (clr m k))]) 1).run Try.prog W = .ok (.int .i64 (sumN v (clr m k))) W := fun W => by kernel_rfl
            cases hz : (sumN v (clr m k) == 0) with
            | false =>
              rw [if_neg (by simpa using hz)] at HGS
              go_wp2
              rw [Exit.noGoto_normal]
              go_wp2
              go_roundg gq
              case measure => omega
              case rel => exact ⟨outs, clr m k, gr + 2 ^ k, by go_num, by simp, by omega, ap3, ap1, by omega, by omega, ⟨by rw [HGL.out, HGS.out]⟩, HS5, HP5, HM5, HB5.out⟩
            | true =>
              rw [if_pos (by simpa using hz)] at HGS
              go_wp2_with fail
              have HLI := mkA (soap_listed.calls 8 ((gr : Int) + 2 ^ k) (bitsL (gr + 2 ^ k)) w5 (by have := listed_f (gr + 2 ^ k) ap3; simpa using this))
              refine HLI.out.mono ?_
              rintro e w6 ⟨v6, rfl, hr6, hb⟩
              have HB6 := mkA (HB5.out.trans (But.of_below hb))
              have HP6 := mkA (show PurseAt w6 g mb v from blk_below HP5.out hb)
              have HM6 := mkA (HM5.out.below hb)
              have hS6 := Kd.S_elder' HS5.out (Kd.R_base hr6) hb
              have hR6 := Kd.R_lower hr6 HB5.out.size
              have hty := Kd.S_typed hS6
              have hR7 := Kd.R_apart' hR6 hty (by decide)
              obtain ⟨Ao, co, rfl⟩ := Kd.R_slice hr6
              have hls : w.heap.size ≤ w6.heap.size := HB6.out.size
              clear hb HLI HB5 HP5 HM5 HS5
              have HS6 := mkA hS6
              have HR6 := mkA hR6
              have HR7 := mkA hR7
              have HLS := mkA hls
              clear hS6 hR6 hty hR7 hls hr6
              go_wp2_with ((with_reducible refine z35 (b := .append) (xs := #[.tmp 52, .tmp 55]) rfl ?_); at_builtin; refine Kd.S_append (Kd.slice 3 (Kd.int .i64)) (w0 := w6) w.heap.size rfl (.tmp 52) (.tmp 55) 40 37 (.slice none 0 0) 24 rfl Try.underlying40 info37 rfl (by decide) (by omega) u2 outs (bitsL (gr + 2 ^ k)) [.slice Ao (bitsL (gr + 2 ^ k)).length co] (fun _ => True) (fun k_ => some k_ = (.slice Ao (bitsL (gr + 2 ^ k)).length co : Value).ownBlock) rfl rfl ?aP ?aK ?aF ?aO ?aB ?aS ?aL ?_; (case aP => exact Kd.M_row (Kd.R_tight rfl HR7.out)); (case aK => exact fun k_ hk_ => ⟨trivial, (HR7.out.1 k_ hk_.symm).2⟩); (case aB => exact Below.refl _ _); (case aF => exact (fun _ _ => trivial)); (case aO => exact Kd.S_mono HS6.out (fun k_ hk => ⟨trivial, fun e_ => hk.2 e_⟩)); (case aS => exact HLS.out); (case aL => omega); intro v8 w8 ho hb hg hat; have n0_ := mkA ho; have n1_ := mkA (HB6.out.belowB hb (Nat.le_refl _)); have n2_ := mkA (show PurseAt w8 g mb v from (hb.block g HG.out).trans HP6.out); have n3_ := mkA hb; clear ho hb hg hat)
              rw [Exit.noGoto_normal]
              go_wp2
              have HM8 := mkA (show Memo w8 mb v by obtain ⟨es, cl, h1, h2⟩ := HM6.out; exact ⟨es, cl, (n3_.out.block mb HMB.out).trans h1, h2⟩)
              go_roundg gq
              case measure => omega
              case rel => exact ⟨outs ++ [bitsL (gr + 2 ^ k)], clr m k, 0, rfl, rfl, by omega, by omega, by simp, by omega, by simp; omega, ⟨by rw [HGL.out, HGS.out]; simp⟩, n0_, n2_, HM8, n1_.out⟩
end Go.Proofs.Ytncaadckehikpaa.Q
namespace Go.Proofs.Ytncaadckehikpaa.Q
open Go.RowKit Go.Proofs.YtncaadckehikpaaW.PrintWords Go.Proofs.YtncaadckehikpaaW.PrintLast Go.Proofs.YtncaadckehikpaaW.PrintMore
set_option linter.unusedVariables false
set_option linter.unusedSimpArgs false
set_option maxHeartbeats 2000000 in
set_option maxRecDepth 100000 in
theorem clone_some (ad : Addr) (c0 : Nat) (l0 : List Int) (w : World) (hr0 : Kd.C (Kd.int .i64) w (some ad) l0.length l0) (hc0 : l0.length ≤ c0) (hlen : l0.length < 17592186044416) :
    Calls Try.prog 86 #[.slice (some ad) l0.length c0] w fun e w' => ∃ v0_ : Value, e = .returned (v0_) ∧ Kd.R (Kd.int .i64) 3 w' w.heap.size (fun _ => True) v0_ l0 ∧ Below w.heap.size w w' := by
  have HR0 := mkA hr0
  have HC0 := mkA hc0
  have HLEN := mkA hlen
  clear hr0 hc0 hlen
  have HB := mkA (Below.refl w.heap.size w)
  have hnil := fun (W : World) => (Lib.run_eql_slice_nil (P := Try.prog) W 37 3 (some ad) l0.length c0 0 0 Try.underlying37 : _)
  go_enter Try.func86, Try.ntmps86
  go_wp2_with (first | ((with_reducible refine z24 (N := 5) rfl ?_); refine Kd.R_lit (Kd.int .i64) _ 3 ?hg (N := 5) ?hd (xs := ([] : List Int)) (inner := []) (ok := fun _ => True) (okp := fun _ => True) ?hr ?hp (fun _ hk => hk) trivial (Below.refl _ _) (Nat.le_refl _) (by simp) ?_; (case hd => rfl); (case hg => rfl); (case hr => first | (go_simp; done) | (go_simp; rfl)); (case hp => exact (Reps.none _ _)); intro v262 w3 ho4 hb hg_ hnew_; clear hg_ hnew_; have n0_ := mkA (Kd.R_lower ho4 (z18 HB.out)); have n1_ := mkA (z16 HB.out hb); clear HB; have HO263 := n0_; have HB := n1_; clear n0_ n1_; clear hb ho4) | ((with_reducible refine z35 (b := .append) (xs := #[.tmp 5, .tmp 6]) rfl ?_); at_builtin; refine Kd.R_append_rows (Kd.int .i64) (w0 := w) w.heap.size rfl (.tmp 5) (.tmp 6) 37 3 (.int .i64 0) 8 rfl Try.underlying37 info3 rfl (by decide) (by omega) v262 ([] : List Int) l0 _ _ _ (fun _ => True) (fun _ => False) rfl rfl ?aO ?aR (fun _ _ h => h) (fun _ h => h.elim) ?aF ?aB ?aS ?aL ?_; (case aR => exact (Kd.C_below HR0.out HB.out)); (case aB => exact HB.out); (case aF => exact (fun _ _ => trivial)); (case aO => exact HO263.out); (case aS => exact (z18 HB.out)); (case aL => have := HLEN.out; simp; omega); intro v265 w5 ho hb hg hat; have n0_ := mkA (hb); have n1_ := mkA (ho); clear HB; clear HO263; have HB := n0_; have HO266 := n1_; clear n0_ n1_; clear ho hb hg hat))
  go_ret
  exact ⟨_, rfl, HO266.out, HB.out⟩
set_option maxHeartbeats 2000000 in
set_option maxRecDepth 100000 in
theorem clone_none (n0 c0 : Nat) (w : World) :
    Calls Try.prog 86 #[.slice none n0 c0] w fun e w' => e = .returned (.slice none 0 0) ∧ w = w' := by
  have hnil := fun (W : World) => (Lib.run_eql_slice_nil (P := Try.prog) W 37 3 none n0 c0 0 0 Try.underlying37 : _)
  go_enter Try.func86, Try.ntmps86
  go_wp2
  go_ret
  exact ⟨rfl, rfl⟩
theorem clone_calls (A0 : Option Addr) (c0 : Nat) (l0 : List Int) (w : World) (hr0 : Kd.C (Kd.int .i64) w A0 l0.length l0) (hc0 : l0.length ≤ c0) (hlen : l0.length < 17592186044416) :
    Calls Try.prog 86 #[.slice A0 l0.length c0] w fun e w' => ∃ v0_ : Value, e = .returned (v0_) ∧ Kd.R (Kd.int .i64) 3 w' w.heap.size (fun _ => True) v0_ l0 ∧ Below w.heap.size w w' := by
  cases A0 with
  | some ad => exact clone_some ad c0 l0 w hr0 hc0 hlen
  | none =>
    have h0 : l0 = [] := by
      rcases Nat.eq_zero_or_pos l0.length with h | h
      · exact List.length_eq_zero_iff.1 h
      · obtain ⟨ad, e, _⟩ := hr0.2.2 h; cases e
    subst h0
    exact (clone_none _ c0 w).mono fun e w' ⟨he, hw⟩ => ⟨_, he, hw ▸ Kd.R_nil _ _ _ _ _, hw ▸ Below.refl _ _⟩
end Go.Proofs.Ytncaadckehikpaa.Q
namespace Go.Proofs.Ytncaadckehikpaa.Q
open Go.RowKit Go.Proofs.YtncaadckehikpaaW.PrintWords Go.Proofs.YtncaadckehikpaaW.PrintLast Go.Proofs.YtncaadckehikpaaW.PrintMore
set_option linter.unusedVariables false
set_option linter.unusedSimpArgs false
/-- soap.Play. -/
def soap_Play.f (a0_0 : Int) (l0_1 : List (S122)) (l0_2 : List (S124)) (l1 : List Int) : Option (List Int × Int) :=
  some (if playE a0_0 l0_1 l0_2 l1 = 0 then ((owedL l0_1 l1).take a0_0.toNat, 0) else ([], playE a0_0 l0_1 l0_2 l1))
theorem playE_zero {n : Int} {l1 : List S122} {l2 : List S124} {os : List Int} (h : playE n l1 l2 os = 0) : checkS n l1 l2 = 0 ∧ areB l1 os = true ∧ playV n l1 l2 os = owedL l1 os := by
  unfold playE at h
  split at h
  · rename_i h1; exact absurd h h1
  · rename_i h1
    split at h
    · rename_i h2
      have h3 : checkS n l1 l2 = 0 := Decidable.not_not.1 h1
      exact ⟨h3, h2, by unfold playV; rw [if_pos ⟨h3, h2⟩]⟩
    · cases h
set_option maxHeartbeats 2000000 in
set_option maxRecDepth 100000 in
theorem soap_Play.calls (a0_0 : Int) (A0_1 : Option Addr) (c0_1 : Nat) (l0_1 : List (S122)) (A0_2 : Option Addr) (c0_2 : Nat) (l0_2 : List (S124)) (A1 : Option Addr) (c1 : Nat) (l1 : List Int) (r1 : List Int) (r2 : Int) (w : World) (hr0_1 : Kd.C k122 w A0_1 l0_1.length l0_1) (hc0_1 : l0_1.length ≤ c0_1) (hr0_2 : Kd.C k124 w A0_2 l0_2.length l0_2) (hc0_2 : l0_2.length ≤ c0_2) (hr1 : Kd.C (Kd.int .i64) w A1 l1.length l1) (hc1 : l1.length ≤ c1) (h : soap_Play.f a0_0 l0_1 l0_2 l1 = some (r1, r2)) :
    Calls Try.prog 48 #[.agg #[.int .i64 a0_0, .slice A0_1 l0_1.length c0_1, .slice A0_2 l0_2.length c0_2], .slice A1 l1.length c1] w fun e w' => ∃ v0_ : Value, e = .returned (.tuple #[v0_, .int .i64 r2]) ∧ Kd.R (Kd.int .i64) 3 w' w.heap.size (fun _ => True) v0_ r1 ∧ Below w.heap.size w w' := by
  have hu35 := Try.underlying35
  have hu128 := Try.underlying128
  have h2 := Option.some.inj h
  clear h
  have hbw : Below w.heap.size w (w.alloc (.cells #[.int .i64 a0_0, .slice A0_1 l0_1.length c0_1, .slice A0_2 l0_2.length c0_2] 35)) := z10 (Below.refl _ _) _
  have hs : (w.alloc (.cells #[.int .i64 a0_0, .slice A0_1 l0_1.length c0_1, .slice A0_2 l0_2.length c0_2] 35)).heap[w.heap.size]? = some (.cells #[.int .i64 a0_0, .slice A0_1 l0_1.length c0_1, .slice A0_2 l0_2.length c0_2] 35 (0, 0)) := z19 w _
  have HP := mkA (played_calls a0_0 A0_1 c0_1 l0_1 A0_2 c0_2 l0_2 A1 c1 l1 _ (Kd.C_below hr0_1 hbw) hc0_1 (Kd.C_below hr0_2 hbw) hc0_2 (Kd.C_below hr1 hbw) hc1)
  have HBW := mkA hbw
  have HS := mkA hs
  clear hbw hs hr0_1 hr0_2 hr1
  by_cases hE : playE a0_0 l0_1 l0_2 l1 = 0
  · rw [if_pos hE] at h2
    obtain ⟨rfl, rfl⟩ := Prod.mk.inj h2
    obtain ⟨hck, har, hV⟩ := playE_zero hE
    obtain ⟨z0, z1, z2, z3, z4, z5, z6⟩ := z28 hck
    rw [hE, hV] at HP
    clear h2 hE hck har hV z4 z5 z6
    obtain ⟨m, rfl⟩ := Int.eq_ofNat_of_zero_le z0
    have hm : m ≤ 6 := by omega
    have hvl : (owedL l0_1 l1).length = 6 := z38 _ _ _
    go_enter Try.func48, Try.ntmps48
    go_wp2_with fail
    refine HP.out.mono ?_
    rintro e w1 ⟨rfl, hb⟩
    have HB1 := mkA (z16 HBW.out hb)
    have HS1 := mkA (blk_below HS.out hb)
    clear hb HBW HS HP
    generalize hvv : owedL l0_1 l1 = v at hvl ⊢
    have HVV := mkA hvv
    clear hvv
    unfold aggV
    have hlt : w.heap.size < w1.heap.size := z22 HS1.out
    have y0 : w1.cell? ⟨w.heap.size, 0, none⟩ = some (.int .i64 (m : Int)) := (z12 HS1.out 0).trans rfl
    go_wp2_with fail
    have hl : (v.take m).length = m := by simp; omega
    have hcell : (w1.alloc (.cells #[.int .i64 (rd v 0), .int .i64 (rd v 1), .int .i64 (rd v 2), .int .i64 (rd v 3), .int .i64 (rd v 4), .int .i64 (rd v 5)] 128)).heap[w1.heap.size]? = some (.cells (v.map (Value.int .i64)).toArray 128 (0, 0)) := by
      rw [six_map hvl]; exact z19 w1 _
    have hC := C_ints_take v m (by omega) (by omega) hcell
    have hcl := clone_calls (some ⟨w1.heap.size, 0, none⟩) 6 (v.take m) _ (by rw [hl]; exact hC) (by omega) (by omega)
    rw [hl] at hcl
    have HCL := mkA hcl
    clear hl hcell hC hcl
    refine HCL.out.mono ?_
    rintro e w2 ⟨v0, rfl, hr, hb⟩
    have HB2 := mkA (z16 (z10 HB1.out _) hb)
    have HR := mkA (Kd.R_lower hr (z18 (z10 HB1.out _)))
    clear hb hr HCL
    go_wp2
    go_ret2
    exact ⟨v0, rfl, by rw [HVV.out, Int.toNat_natCast]; exact HR.out, HB2.out⟩
  · rw [if_neg hE] at h2
    obtain ⟨rfl, rfl⟩ := Prod.mk.inj h2
    generalize hq : playE a0_0 l0_1 l0_2 l1 = q at hE HP ⊢
    have g1 : (q != 0) = true := bne_iff_ne.2 hE
    clear h2 hE hq
    go_enter Try.func48, Try.ntmps48
    go_wp2_with fail
    refine HP.out.mono ?_
    rintro e w1 ⟨rfl, hb⟩
    have HB1 := mkA (z16 HBW.out hb)
    clear hb HBW HS HP
    generalize playV a0_0 l0_1 l0_2 l1 = v
    unfold aggV
    go_wp2
    go_ret2
    exact ⟨_, rfl, Kd.R_nil _ _ _ _ _, z10 HB1.out _⟩
end Go.Proofs.Ytncaadckehikpaa.Q
