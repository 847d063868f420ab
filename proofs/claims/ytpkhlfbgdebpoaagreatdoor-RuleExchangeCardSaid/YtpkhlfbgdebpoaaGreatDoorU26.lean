/- These primitives do what the machine says. -/
import Derived.Test.YtpkhlfbgdebpoaaGreatDoorU07
import Derived.Test.YtpkhlfbgdebpoaaGreatDoorU01
import Derived.Test.YtpkhlfbgdebpoaaGreatDoorU09
import Derived.Laws.Externs
import Derived.Test.YtpkhlfbgdebpoaaGreatDoorU25
import Derived.Test.YtpkhlfbgdebpoaaGreatDoorU24
import Derived.Test.YtpkhlfbgdebpoaaGreatDoorU19
import Derived.Test.YtpkhlfbgdebpoaaGreatDoorU20
namespace A3
open Go
def bare : AV → Bool
  | .bool _ | .int _ _ | .any _ | .sym _ _ | .byt _ | .flt _ _ | .ustr | .str _ | .dead => true
  | _ => false
def bares : List AV → Bool
  | [] => true
  | v :: l => bare v && bares l
def bare1 : AV → Bool
  | .agg l => bares l
  | v => bare v
def bare1s : List AV → Bool
  | [] => true
  | v :: l => bare1 v && bare1s l
def bare2 : AV → Bool
  | .tuple l => bare1s l
  | v => bare1 v
theorem VR.bare [Sig] {ρ ρ' : Ren} {v : AV} {u : Value} (h : VR ρ v u) (hb : A3.bare v = true) : VR ρ' v u := by
  cases h <;> first | (cases hb; done) | skip
  · exact .bool _
  · exact .int _ _
  · rename_i h; exact .any h
  · rename_i h; exact .sym h
  · rename_i h hf; exact .byt h hf
  · exact .flt _ _
  · exact .ustr _
  · rename_i hr h; exact .str hr h
  · exact .dead _
theorem VRs.bares [Sig] {ρ ρ' : Ren} : ∀ {l : List AV} {m : List Value}, VRs ρ l m → A3.bares l = true → VRs ρ' l m
  | _, _, .nil, _ => .nil
  | _, _, .cons h t, hb => by
    simp only [A3.bares, Bool.and_eq_true] at hb
    exact .cons (h.bare hb.1) (t.bares hb.2)
theorem VR.bare1 [Sig] {ρ ρ' : Ren} {v : AV} {u : Value} (h : VR ρ v u) (hb : A3.bare1 v = true) : VR ρ' v u := by
  cases v <;> first | exact h.bare hb | skip
  cases h with
  | agg h hf => exact .agg (h.bares hb) hf
theorem VRs.bare1s [Sig] {ρ ρ' : Ren} : ∀ {l : List AV} {m : List Value}, VRs ρ l m → A3.bare1s l = true → VRs ρ' l m
  | _, _, .nil, _ => .nil
  | _, _, .cons h t, hb => by
    simp only [A3.bare1s, Bool.and_eq_true] at hb
    exact .cons (h.bare1 hb.1) (t.bare1s hb.2)
theorem VR.bare2 [Sig] {ρ ρ' : Ren} {v : AV} {u : Value} (h : VR ρ v u) (hb : A3.bare2 v = true) : VR ρ' v u := by
  cases v <;> first | exact h.bare1 hb | skip
  cases h with
  | tuple h => exact .tuple (h.bare1s hb)
section
variable {P : Program} {A : Prog}
theorem closed_call [Sig] {g : Nat} {args : List AV} {next : Pos} {v : AV} {rc : Bool} {s1 : St}
    (hd : Den A (.apply (.func (.fn g) [] []) args ctxN (St.none next)) (.out (.ret v) rc s1)) (hv : bare2 v = true)
    {C : CC} (hC : C = CCof P) {B : Nat} {w0 w : World} (henv : Env P A w.heap.size w) {X : List Nat} {ρ : Ren} {s : St} (h : HR C B w0 X ρ s w) {us0 : Array Value} (ha : VRs (fun _ => none) args us0.toList) {c : Frame} {cs : List Frame} (hpt : plainTodo c) :
    ∃ w' u, HR C B w0 X ρ s w' ∧ (∀ ρ', VR ρ' v u) ∧ Goes P c cs w (callFunc g us0) (lone (c.finish u) cs w') := by
  subst hC
  obtain ⟨n, hn⟩ := hd
  have hden := hn n (Nat.le_refl n)
  have hs := (sound henv n).2.2.1
  obtain ⟨ρ', w', u, _, h', hu, hg⟩ := hs _ _ _ _ _ _ hden [] (fun _ => none) w (.func g) #[] #[] us0 c cs (.func .nil .nil) ha (h.enter next) hpt
  refine ⟨w', u, HR.back (_next := next) h h', fun ρ'' => hu.bare2 hv, ?_⟩
  have : invoke (.fn (.func g) #[]) (#[] ++ us0) = callFunc g us0 := by simp [invoke]
  rw [← this]; exact hg
theorem PrimOk.closed [Sig] {B : Nat} {w0 : World} (henv : ∀ w : World, B ≤ w.heap.size → (∀ b, b < B → w.heap[b]? = w0.heap[b]?) → Env P A w.heap.size w) {g : FuncId} {p : List AV → St → Option (AV × St)}
    (hp : ∀ args s v s', p args s = some (v, s') → s' = s ∧ ∀ ρ (us0 : Array Value), VRs ρ args us0.toList → ∃ args0 next v0 rc s1, Den A (.apply (.func (.fn g) [] []) args0 ctxN (St.none next)) (.out (.ret v0) rc s1) ∧ bare2 v0 = true ∧ VRs (fun _ => none) args0 us0.toList ∧ ∀ ρ' u, VR ρ' v0 u → VR ρ' v u) :
    PrimOk P B w0 g p := by
  intro args s v s' he X ρ w us0 c cs ha h hpt
  obtain ⟨rfl, hq⟩ := hp args s v s' he
  obtain ⟨args0, next, v0, rc, s1, hd, hb, ha0, hv⟩ := hq ρ us0 ha
  obtain ⟨w', u, h', hu, hg⟩ := closed_call hd hb rfl (henv w h.wr.size h.wr.keep) h ha0 hpt
  exact ⟨ρ, w', u, Ext.refl _ _, h', hv ρ u (hu ρ), hg⟩
end
theorem den_of_ap {A : Prog} {f : AV} {args : List AV} {next : Pos} {chk : Out → Bool} {n : Nat} (h : apK A n f args ctxN (fun o _ _ _ _ => chk o) .nil next .nil = true) :
    ∃ o rc s1, Den A (.apply f args ctxN (St.none next)) (.out o rc s1) ∧ chk o = true := by
  obtain ⟨o, rc, s1, hd, hc⟩ := ap_ok n _ _ _ _ _ _ _ h
  exact ⟨o, rc, s1, hd, hc⟩
section
variable {P : Program} {B : Nat} {w0 : World}
theorem PrimOk.extern [Sig] {g : FuncId} {F : Func} (hF : P.funcs[g]? = some F) (hn : (F.name == "runtime.NumGoroutine") = false) (hb : F.body.isNone = true) (hx : Extern.findNext F = none) {e : Array Value → Sem Value} (he : Extern.find F = some e)
    {p : List AV → St → Option (AV × St)} (hp : ∀ args s v s', p args s = some (v, s') → s' = s ∧ ∀ ρ (us0 : Array Value) (w : World), VRs ρ args us0.toList → ∃ u, VR ρ v u ∧ (e us0).run P w = .ok u w) : PrimOk P B w0 g p := by
  intro args s v s' hq X ρ w us0 c cs ha h hpt
  obtain ⟨rfl, hu⟩ := hp args s v s' hq
  obtain ⟨u, hv, hr⟩ := hu ρ us0 w ha
  refine ⟨ρ, w, u, Ext.refl _ _, h, hv, goes_value ?_⟩
  rw [run_callFunc_extern hF hn hb hx he, hr]; rfl
end
theorem VRs.one [Sig] {ρ : Ren} {v : AV} {us0 : Array Value} (h : VRs ρ [v] us0.toList) : ∃ u, us0 = #[u] ∧ VR ρ v u := by
  obtain ⟨l⟩ := us0
  cases h with
  | cons h t => cases t; exact ⟨_, rfl, h⟩
theorem noEscape_ok [Sig] {args : List AV} {s : St} {v : AV} {s' : St} (h : noEscapePrim args s = some (v, s')) : s' = s ∧ ∀ (P : Program) ρ (us0 : Array Value) (w : World), VRs ρ args us0.toList → ∃ u, VR ρ v u ∧ (Extern.AbiNoEscape.same us0).run P w = .ok u w := by
  unfold noEscapePrim at h
  split at h
  · cases h
    refine ⟨rfl, fun P ρ us0 w ha => ?_⟩
    obtain ⟨u, rfl, hu⟩ := ha.one
    exact ⟨u, hu, rfl⟩
  · cases h
theorem sqrt_ok [Sig] {args : List AV} {s : St} {v : AV} {s' : St} (h : sqrtPrim args s = some (v, s')) : s' = s ∧ ∀ (P : Program) ρ (us0 : Array Value) (w : World), VRs ρ args us0.toList → ∃ u, VR ρ v u ∧ (Extern.MathSqrt.sqrt us0).run P w = .ok u w := by
  unfold sqrtPrim at h
  split at h
  · rename_i x
    split at h
    · rename_i r hr
      cases h
      refine ⟨rfl, fun P ρ us0 w ha => ?_⟩
      obtain ⟨u, rfl, hu⟩ := ha.one
      cases hu
      refine ⟨.float .f64 r, .flt _ _, ?_⟩
      have : FloatKind.f64.format.sqrt x = some r := hr
      have e : Extern.MathSqrt.sqrt #[.float .f64 x] = (match FloatKind.f64.format.sqrt x with | some r => (pure (.float .f64 r) : Sem Value) | none => do pure (.float .f64 (← choose (.nanBits .f64 x x)))) := rfl
      rw [e, this]; rfl
    · cases h
  · cases h
theorem bits_ok [Sig] {args : List AV} {s : St} {v : AV} {s' : St} (h : bitsPrim args s = some (v, s')) : s' = s ∧ ∀ (P : Program) ρ (us0 : Array Value) (w : World), VRs ρ args us0.toList → ∃ u, VR ρ v u ∧ (Extern.MathFloatBits.float64bits us0).run P w = .ok u w := by
  unfold bitsPrim at h
  split at h
  · cases h
    refine ⟨rfl, fun P ρ us0 w ha => ?_⟩
    obtain ⟨u, rfl, hu⟩ := ha.one
    cases hu
    exact ⟨_, .int _ _, rfl⟩
  · cases h
theorem fromBits_ok [Sig] {args : List AV} {s : St} {v : AV} {s' : St} (h : fromBitsPrim args s = some (v, s')) : s' = s ∧ ∀ (P : Program) ρ (us0 : Array Value) (w : World), VRs ρ args us0.toList → ∃ u, VR ρ v u ∧ (Extern.MathFloatBits.float64frombits us0).run P w = .ok u w := by
  unfold fromBitsPrim at h
  split at h
  · cases h
    refine ⟨rfl, fun P ρ us0 w ha => ?_⟩
    obtain ⟨u, rfl, hu⟩ := ha.one
    cases hu
    exact ⟨_, .flt _ _, rfl⟩
  · cases h
theorem bytesNat_lt (b : ByteArray) : ∀ c ∈ bytesNat b, c < 256 := by
  intro c hc
  simp only [bytesNat, List.mem_map] at hc
  obtain ⟨x, _, rfl⟩ := hc
  exact x.toNat_lt
theorem VR.str_lit [Sig] {ρ : Ren} (b : ByteArray) : VR ρ (.str (bytesNat b)) (.string b) := .str (Ref.lit (bytesNat_lt b)) (by rw [expand_lit (bytesNat_lt b)])
theorem Ref.any265 : ∀ {l : List Nat}, (∀ c ∈ l, c < 256) → Ref (List.replicate l.length 265) l
  | [], _ => .nil
  | c :: l, h => by
    rw [List.length_cons, List.replicate_succ]
    exact .byte (by rfl) (h c List.mem_cons_self) (Ref.any265 fun d hd => h d (List.mem_cons_of_mem _ hd))
theorem VR.str_any [Sig] {ρ : Ren} (b : ByteArray) {n : Nat} (hn : (bytesNat b).length = n) : VR ρ (.str (List.replicate n 265)) (.string b) := by
  subst hn; exact .str (Ref.any265 (bytesNat_lt b)) (by rw [expand_lit (bytesNat_lt b)])
theorem str_length [Sig] {ρ : Ren} {c : List Nat} {b : ByteArray} (h : VR ρ (.str c) (.string b)) (hf : fixedS c = true) : (bytesNat b).length = lenN c := by
  cases h with
  | str hr h =>
    rw [h, expand_known (hr.fixed hf) hr.knows, List.length_map, ← hr.length]
    exact (lenN_eq c).symm
end A3
namespace A3
open Go Go.Proofs Go.RowKit
section
variable {P : Program}
theorem goes_of_calls [Sig] {g : FuncId} {F : Func} (hF : P.funcs[g]? = some F) (hb : F.body.isSome = true) (hn : (F.name == "runtime.NumGoroutine") = false) {us : Array Value} {w : World} {R : Value → World → Prop}
    (h : Calls P g us w fun e w' => ∃ u, e = .returned u ∧ R u w') {c : Frame} {cs : List Frame} (hpt : plainTodo c) :
    ∃ u w', R u w' ∧ Goes P c cs w (callFunc g us) (lone (c.finish u) cs w') := by
  obtain ⟨e, w', fr, ⟨u, rfl, hR⟩, hc, hfn, hl⟩ := h (c :: cs)
  refine ⟨u, w', hR, goes_enter (callFunc_enter hF hb hn) hpt ?_⟩
  have hs : Steps P (lone (Frame.enter P g us .normal) (c :: cs) w) (lone fr (c :: cs) w') := hc
  exact hs.trans (.one (step_leave_returned hl))
end
end A3
namespace A3
open Go Go.Proofs
def Prims [Sig] (t : Tr PrimT) (B : Nat) (w0 : World) : Prop := t.All fun g p => PrimOk Tryz.prog B w0 g p
theorem mixed : Tryz.prog.follows .mixedOrders = true := by kernel_rfl
theorem env_of [Sig] {t : Tr PrimT} {B : Nat} {w0 : World} (h : Prims t B w0) : Env Tryz.prog { func := tab, prim := fun n => t.find n } B w0 :=
  ⟨mixed, fun _ _ e => Tr.find_all tab_ok e, fun _ _ e => Tr.find_all h e⟩
theorem sqrt_prim [Sig] (B : Nat) (w0 : World) : PrimOk Tryz.prog B w0 576 sqrtPrim :=
  PrimOk.extern Tryz.func576 (by kernel_rfl) (by kernel_rfl) (by kernel_rfl) (e := Extern.MathSqrt.sqrt) (by kernel_rfl) fun _ _ _ _ e => ⟨(sqrt_ok e).1, (sqrt_ok e).2 _⟩
theorem bits_prim [Sig] (B : Nat) (w0 : World) : PrimOk Tryz.prog B w0 610 bitsPrim :=
  PrimOk.extern Tryz.func610 (by kernel_rfl) (by kernel_rfl) (by kernel_rfl) (e := Extern.MathFloatBits.float64bits) (by kernel_rfl) fun _ _ _ _ e => ⟨(bits_ok e).1, (bits_ok e).2 _⟩
theorem fromBits_prim [Sig] (B : Nat) (w0 : World) : PrimOk Tryz.prog B w0 609 fromBitsPrim :=
  PrimOk.extern Tryz.func609 (by kernel_rfl) (by kernel_rfl) (by kernel_rfl) (e := Extern.MathFloatBits.float64frombits) (by kernel_rfl) fun _ _ _ _ e => ⟨(fromBits_ok e).1, (fromBits_ok e).2 _⟩
theorem noEscape_prim [Sig] (B : Nat) (w0 : World) : PrimOk Tryz.prog B w0 481 noEscapePrim :=
  PrimOk.extern Tryz.func481 (by kernel_rfl) (by kernel_rfl) (by kernel_rfl) (e := Extern.AbiNoEscape.same) (by kernel_rfl) fun _ _ _ _ e => ⟨(noEscape_ok e).1, (noEscape_ok e).2 _⟩
theorem primsC_ok [Sig] (B : Nat) (w0 : World) : Prims primsC B w0 := .node (.leaf (sqrt_prim B w0)) (.node (.leaf (fromBits_prim B w0)) (.leaf (bits_prim B w0)))
theorem same2s_eq [Sig] (a : List AV) : ∀ b, same2s a b = true → a = b := by
  induction a with
  | nil => intro b e; cases b <;> first | rfl | cases e
  | cons v a ih =>
    intro b e
    cases b with
    | nil => cases e
    | cons u b =>
      have e : Bool.rec (motive := fun _ => List AV → (List AV → Bool) → Bool) (fun _ _ => false) (fun y ih => ih y) (sameX v u) b (same2s a) = true := e
      cases hs : sameX v u with
      | false => rw [hs] at e; cases e
      | true => rw [hs] at e; rw [same_eq (sameX_ok hs), ih b e]
theorem constOk_eq [Sig] {o : Out} (h : constOk o = true) : o = .ret constantsV := by
  unfold constOk at h
  split at h
  · rename_i v
    split at h
    · rename_i a b hv hb
      rw [viU_is hv, viU_is hb, same2s_eq _ _ h]
    · cases h
  · cases h
theorem constants_prim [Sig] (B : Nat) (w0 : World) : PrimOk Tryz.prog B w0 430 constantsPrim := by
  refine PrimOk.closed (A := AC) (fun w _ _ => env_of (primsC_ok _ _)) fun args s v s' e => ?_
  unfold constantsPrim at e
  split at e
  · cases e
    refine ⟨rfl, fun ρ us ha => ?_⟩
    obtain ⟨o, rc, s1, hd, hc⟩ := den_of_ap runC
    rw [constOk_eq hc] at hd
    refine ⟨[], _, _, rc, s1, hd, by rfl, ?_, fun _ _ h => h⟩
    have : us.toList = [] := by
      generalize hl : us.toList = l at ha
      cases ha; rfl
    rw [this]; exact .nil
  · cases e
theorem primsS_ok [Sig] (B : Nat) (w0 : World) : Prims primsS B w0 := .leaf (constants_prim B w0)
theorem sumOk_eq [Sig] {o : Out} (h : sumOk o = true) : o = .ret (.agg (anyBytes 16)) := by
  unfold sumOk at h
  split at h
  · rename_i v; rw [same_eq (sameX_ok h)]
  · cases h
theorem rep265_eq (n : Nat) : rep265 n = List.replicate n 265 := by
  induction n with
  | zero => rfl
  | succ n ih => show 265 :: rep265 n = _; rw [ih]; rfl
theorem sum_closed [Sig] {n : Nat} (hr : apK AS 1000 (.func (.fn 276) [] []) [.str (rep265 n)] ctxN (fun o _ _ _ _ => sumOk o) .nil (.l .A .A .A .A .A .A .A .A) .nil = true) {c : List Nat} (hf : fixedS c = true) (hn : lenN c = n)
    {ρ : Ren} {us : Array Value} (ha : VRs ρ [.str c] us.toList) :
    ∃ args0 next v0 rc s1, Den AS (.apply (.func (.fn 276) [] []) args0 ctxN (St.none next)) (.out (.ret v0) rc s1) ∧ bare2 v0 = true ∧ VRs (fun _ => none) args0 us.toList ∧ ∀ ρ' u, VR ρ' v0 u → VR ρ' (.agg (anyBytes 16)) u := by
  obtain ⟨o, rc, s1, hd, hc⟩ := den_of_ap hr
  rw [sumOk_eq hc] at hd
  refine ⟨_, _, _, rc, s1, hd, by rfl, ?_, fun _ _ h => h⟩
  obtain ⟨u, rfl, hu⟩ := ha.one
  have hb : ∃ b, u = .string b := by cases hu; exact ⟨_, rfl⟩
  obtain ⟨b, rfl⟩ := hb
  rw [rep265_eq]
  exact .cons (VR.str_any b (by rw [str_length hu hf, hn])) .nil
theorem sum_prim [Sig] (B : Nat) (w0 : World) : PrimOk Tryz.prog B w0 276 sumPrim := by
  refine PrimOk.closed (A := AS) (fun w _ _ => env_of (primsS_ok _ _)) fun args s v s' e => ?_
  unfold sumPrim at e
  split at e
  · split at e
    · rename_i hf hn; cases e; exact ⟨rfl, fun ρ us ha => sum_closed runS9 hf hn ha⟩
    · rename_i hf hn; cases e; exact ⟨rfl, fun ρ us ha => sum_closed runS10 hf hn ha⟩
    · rename_i hf hn; cases e; exact ⟨rfl, fun ρ us ha => sum_closed runS30 hf hn ha⟩
    · rename_i hf hn; cases e; exact ⟨rfl, fun ρ us ha => sum_closed runS57 hf hn ha⟩
    · cases e
  · cases e
end A3
namespace A3
open Go Go.Proofs Go.RowKit
theorem HR.below [Sig] {C : CC} {B : Nat} {w0 w w' : World} {X : List Nat} {ρ : Ren} {s : St} (h : HR C B w0 X ρ s w) (hb : Below w.heap.size w w') : HR C B w0 X ρ s w' := by
  have hk : ∀ b, b < w.heap.size → w'.heap[b]? = w.heap[b]? := hb.block
  refine ⟨h.wr.more hb.size hk ⟨hb.os, hb.output⟩, ⟨?_, h.ty.fresh, ?_⟩⟩
  · intro n t b o hn hρ
    obtain ⟨cells, fz, h1, h2⟩ := h.ty.is n t b o hn hρ
    exact ⟨cells, fz, by rw [hk b (h.wr.dom _ _ _ hρ)]; exact h1, h2⟩
  · intro b hb'
    have := h.ty.df b hb'
    rw [hk b (Array.getElem?_eq_some_iff.1 this).1]; exact this
theorem after_prim [Sig] (B : Nat) (w0 : World) : PrimOk Tryz.prog B w0 294 afterPrim := by
  intro args s v s' he X ρ w us c cs ha h hpt
  unfold afterPrim at he
  split at he
  · split at he
    · rename_i codes _ _ hf
      cases he
      simp only [Bool.and_eq_true] at hf
      obtain ⟨u, rfl, hu⟩ := ha.one
      have hb : ∃ b, u = .string b := by cases hu; exact ⟨_, rfl⟩
      obtain ⟨b, rfl⟩ := hb
      have hl : b.size ≤ 9223372036854775807 := by
        have h1 := str_length hu hf.1
        have h2 := Nat.le_of_ble_eq_true hf.2
        have h3 : (bytesNat b).length = b.size := by simp [bytesNat]
        omega
      obtain ⟨u, w', ⟨⟨r, t, rfl⟩, hbel⟩, hg⟩ := goes_of_calls (R := fun u w' => (∃ (r : ByteArray) (t : Bool), u = .tuple #[.string r, .bool t]) ∧ Below w.heap.size w w') Tryz.func294 (by kernel_rfl) (by kernel_rfl)
        ((Tryz.after_walk b w hl).mono fun e w' ⟨⟨r, t, he⟩, hb⟩ => ⟨_, he, ⟨r, t, rfl⟩, hb⟩) (c := c) (cs := cs) hpt
      exact ⟨ρ, w', _, Ext.refl _ _, h.below hbel, .tuple (.cons (.ustr r) (.cons (.dead _) .nil)), hg⟩
    · cases he
  · cases he
end A3
namespace A3
open Go Go.Proofs Go.RowKit
def Tab (B : Nat) (w0 : World) : Prop := Lib.TabIs Tryz.prog w0 "internal/strconv.uint64pow10" .u64 Lib.pow10Tab ∧ ∀ g, Tryz.prog.globalNamed "internal/strconv.uint64pow10" = some g → g < B
theorem Tab.on {B B' : Nat} {w0 w : World} (h : Tab B w0) (hB : B ≤ B') (hk : ∀ b, b < B → w.heap[b]? = w0.heap[b]?) : Tab B' w := by
  obtain ⟨h1, h2⟩ := h
  refine ⟨?_, fun g hg => Nat.lt_of_lt_of_le (h2 g hg) hB⟩
  unfold Lib.TabIs World.var? at h1 ⊢
  cases hg : Tryz.prog.globalNamed "internal/strconv.uint64pow10" with
  | none => rw [hg] at h1; cases h1
  | some g =>
    rw [hg] at h1
    simp only [Option.bind_some] at h1 ⊢
    rw [hk g (h2 g hg)]; exact h1
theorem decDigits_nat (n : Nat) : (Lib.decDigits n).map (·.toNat) = decNat n := by
  induction n using Nat.strongRecOn with
  | ind n ih =>
    rw [Lib.decDigits, decNat]
    split
    · rename_i h
      have : (48 + n) % 256 = 48 + n := Nat.mod_eq_of_lt (by omega)
      simp [this]
    · rename_i h
      rw [List.map_append, ih (n / 10) (by omega)]
      have : (48 + n % 10) % 256 = 48 + n % 10 := Nat.mod_eq_of_lt (by omega)
      simp [this]
theorem itoa_nat (x : Int) : (Lib.itoa x).map (·.toNat) = decimal x := by
  unfold Lib.itoa decimal
  split
  · rw [List.map_cons, decDigits_nat]; rfl
  · rw [decDigits_nat]
    have : x.toNat = x.natAbs := by omega
    rw [this]
theorem decimal_small (k : Nat) (h : k < 10) : decimal (Int.ofNat k) = [48 + k] := by
  unfold decimal
  rw [if_neg (by simp)]
  show decNat k = _
  rw [decNat]; simp [h]
theorem datum_expand [Sig] (k i : Nat) (hk : k < 10) : bytesNat ⟨(datumText (Int.ofNat k) (Sig.σ i)).toArray⟩ = expand [48 + k, 32, 256 + 16 * i + 8, 32, 48, 32] := by
  have e0 := decimal_small 0 (by omega)
  have ek := decimal_small k hk
  have m1 : (256 + 16 * i + 8 - 256) % 16 = 8 := by omega
  have m2 : (256 + 16 * i + 8 - 256) / 16 = i := by omega
  have x1 : expB (256 + 16 * i + 8) = decimal (Sig.σ i) := by
    unfold expB
    rw [if_neg (by omega), m1, m2, if_neg (by omega)]
  unfold bytesNat datumText
  simp only [expand, x1, expB_lit (show 48 + k < 256 by omega), expB_lit (show 32 < 256 by omega), expB_lit (show 48 < 256 by omega), List.map_append, itoa_nat, ek]
  have e0' : decimal 0 = [48] := e0
  rw [e0']
  simp
theorem written_prim [Sig] (B : Nat) (w0 : World) (ht : Tab B w0) : PrimOk Tryz.prog B w0 105 writtenPrim := by
  intro args s v s' he X ρ w us c cs ha h hpt
  unfold writtenPrim at he
  split at he
  · rename_i a cl f
    split at he
    · rename_i k i hf
      split at he
      · rename_i hk
        cases he
        have hk := blt_iff.1 hk
        obtain ⟨u, rfl, hu⟩ := ha.one
        obtain ⟨m, off⟩ := a
        obtain ⟨A, c', rfl, hl, hc, hs, hA⟩ := hu.of_slice
        obtain ⟨b, base, hb, rfl, _⟩ := hA (by omega)
        unfold St.first at hf
        simp only at hf
        split at hf
        · cases hf
        · rename_i cs0 hcs
          split at hf
          · rename_i hat
            rw [dropN_eq, atLeast_iff, List.length_drop] at hat
            rw [dropN_eq, takeN_eq] at hf
            obtain ⟨us, hul, hur, huf, hcell⟩ := h.wr.read hb hcs off 3 (by omega)
            rw [Option.some.inj hf] at hur
            cases hur with | cons h1 t1 =>
            cases t1 with | cons h2 t2 =>
            cases t2 with | cons h3 t3 =>
            cases t3
            cases h1
            cases h2 with | sym hfv =>
            cases h3 with | str hr hx =>
            cases hr
            have hfv' : formV 0 i = some (.i64, Sig.σ i) := rfl
            rw [hfv'] at hfv
            cases hfv
            rename_i bb
            have hbb : bb = ⟨#[]⟩ := by
              obtain ⟨d⟩ := bb
              have : d.toList.map (·.toNat) = [] := hx
              have : d = #[] := by
                apply Array.ext'
                simpa using this
              rw [this]
            subst hbb
            have ht' := ht.on h.wr.size h.wr.keep
            obtain ⟨u, w', ⟨rfl, hbel⟩, hg⟩ := goes_of_calls (R := fun u w' => u = .string ⟨(datumText (Int.ofNat k) (Sig.σ i)).toArray⟩ ∧ Below w.heap.size w w') Tryz.func105 (by kernel_rfl) (by kernel_rfl)
              ((Tryz.written_walk b (base.off + off) c' (Int.ofNat k) (Sig.σ i) (Int.natCast_nonneg k) (Int.ofNat_lt.2 hk) (Sig.lo i) (by have := Sig.hi i; omega) w
                (hcell 0 _ rfl) (hcell 1 _ rfl) (hcell 2 _ rfl) (fun w2 hw2 => (ht'.on (Nat.le_refl _) hw2.block).1)).mono fun e w' ⟨he, hb⟩ => ⟨_, he, rfl, hb⟩) (c := c) (cs := cs) hpt
            refine ⟨ρ, w', _, Ext.refl _ _, h.below hbel, .str (.refl fun c hc => ?_) (datum_expand k i hk), hg⟩
            simp only [List.mem_cons, List.not_mem_nil, or_false] at hc
            rcases hc with rfl | rfl | rfl | rfl | rfl | rfl
            · exact known_iff.2 (.inl (by omega))
            · exact known_iff.2 (.inl (by omega))
            · exact known_iff.2 (.inr (by omega))
            · exact known_iff.2 (.inl (by omega))
            · exact known_iff.2 (.inl (by omega))
            · exact known_iff.2 (.inl (by omega))
          · cases hf
      · cases he
    · cases he
  · cases he
end A3
