/- The contract of the row. -/
import Derived.Test.YtpkhlfbgdebpoaaGreatDoorU38
namespace Go.Proofs.YtpkhlfbgdebpoaaGreatDoor
open Go Go.ChangeShapes Go.WideShapes Go.ChangeAt Go.RowKit A3
theorem kept_but {W W' : World} (h : Kept W W') (may : MemPlace → Prop) : W.keptBut W' may := by
  obtain ⟨_, hk, h1, h2⟩ := h
  refine ⟨h1, h2, fun i hi => ?_⟩
  rw [hk i hi]
  split <;> simp_all
theorem gT : Tryz.prog.globalNamed "internal/strconv.uint64pow10" = some 1 := by kernel_rfl
theorem tab_of {W : World} (hL : laidMet Tryz.prog Rows.ruleExchangeRow.laid W) : Tab W.heap.size W := by
  have e : Rows.ruleExchangeRow.laid = ("internal/strconv.uint64pow10", Lib.tabData .u64 Lib.pow10Tab) :: Rows.ruleExchangeRow.laid.tail := by kernel_rfl
  rw [e] at hL
  have ht : Lib.TabIs Tryz.prog W "internal/strconv.uint64pow10" .u64 Lib.pow10Tab := Lib.tabIs_of_head gT (t := 602) (e := 451) (n := 20) (by kernel_rfl) (by kernel_rfl) (by kernel_rfl) (by kernel_rfl) (by kernel_rfl) hL
  refine ⟨ht, fun g hg => ?_⟩
  rw [gT] at hg; cases hg
  exact block_lt_of_cell (ht.cell gT 0 (by decide))
set_option maxRecDepth 1000000 in
theorem row_calls {H : Type} (enc : TypeId × Value → H) (W : World) (base : Nat) (args : Array Value) (ds gs : List (DataW H)) (before : List MemPlace)
    (hval0 : ∀ (j : Nat) t v, Tryz.f3.params[j]? = some t → args[j]? = some v → Value.okWide Tryz.prog W .any base t v)
    (hW : DataW.Whole enc Tryz.prog Tryz.f3.params.toList Rows.ruleExchangeSpec.vars false W args.toList ds gs before)
    (hL : laidMet Tryz.prog Rows.ruleExchangeRow.laid W) :
    Calls Tryz.prog 3 args W fun e W' => ∃ v, e = .returned v ∧ Rows.ruleExchangeSpec.post enc Tryz.prog Tryz.f3 false true false false W args v W' := by
  have hval := hval0
  have hW' := hW
  obtain ⟨p, q, hA0, hV, rfl, hfz, hnd⟩ := hW
  have hA : DataW.TrodAll enc Tryz.prog W 0 (fun _ => true) true Tryz.f3.params.toList args.toList ds p := hA0
  rw [Tryz.params3] at hA hval
  obtain ⟨v0, v1, v2, v3, d0, d1, d2, d3, p0, p1, p2, p3, rfl, rfl, rfl, h0, h1, h2, h3⟩ := trodAll_four hA
  obtain ⟨rfl, rfl⟩ := trodVars_none hV
  obtain ⟨a, rfl, rfl, rfl, wa⟩ := open_int Tryz.underlying3 (hval 0 3 v0 rfl rfl) h0
  obtain ⟨b, rfl, rfl, rfl, wb⟩ := open_int Tryz.underlying3 (hval 1 3 v1 rfl rfl) h1
  obtain ⟨c, rfl, rfl, rfl, wc⟩ := open_int Tryz.underlying3 (hval 2 3 v2 rfl rfl) h2
  obtain ⟨d, rfl, rfl, rfl, wd⟩ := open_int Tryz.underlying3 (hval 3 3 v3 rfl rfl) h3
  clear hA0 hval0
  simp only [List.append_nil] at hW'
  have bd : ∀ {n : Int}, (Lit.int .i64 n).wf = true → -9223372036854775808 ≤ n ∧ n < 9223372036854775808 := fun hn => by
    simp [Lit.wf, IntKind.min, IntKind.max, IntKind.signed, IntKind.bits] at hn
    omega
  refine (rule_all a b c d (bd wa).1 (bd wa).2 (bd wb).1 (bd wb).2 (bd wc).1 (bd wc).2 (bd wd).1 (bd wd).2 W (tab_of hL)).mono fun e W' ⟨he, hw⟩ => ?_
  exact ⟨_, he, _, _, _, [], [], [], hW', trodAll_mk1 (shut_bool Tryz.underlying4 true), trodAll_mk4 (shut_int Tryz.underlying3 wa) (shut_int Tryz.underlying3 wb) (shut_int Tryz.underlying3 wc) (shut_int Tryz.underlying3 wd), rfl, kept_but hw _, fun h => by cases h⟩
end Go.Proofs.YtpkhlfbgdebpoaaGreatDoor
