/- RuleExchange returns true at any four numbers. -/
import Derived.Test.YtpkhlfbgdebpoaaGreatDoorU26
import Derived.Test.YtpkhlfbgdebpoaaGreatDoorU28
import Derived.Test.YtpkhlfbgdebpoaaGreatDoorU18
import Derived.Test.YtpkhlfbgdebpoaaGreatDoorU13
import Derived.Test.YtpkhlfbgdebpoaaGreatDoorU14
import Derived.Test.YtpkhlfbgdebpoaaGreatDoorU15
import Derived.Test.YtpkhlfbgdebpoaaGreatDoorU16
import Derived.Test.YtpkhlfbgdebpoaaGreatDoorU17
namespace A3
open Go Go.Proofs Go.RowKit
section
theorem primsN_ok [Sig] {B : Nat} {w0 : World} (ht : Tab B w0) : Prims primsN B w0 :=
  .node (.node (.leaf (written_prim B w0 ht)) (.leaf (sum_prim B w0))) (.node (.node (.leaf (after_prim B w0)) (.leaf (insert22_prim B w0))) (.node (.leaf (noEscape_prim B w0)) (.leaf (insert1_prim B w0))))
theorem trueOk_eq {o : Out} (h : trueOk o = true) : o = .ret (.bool true) := by
  unfold trueOk at h
  split at h
  · rename_i v
    unfold trueOk.sameB at h
    split at h
    · rename_i hv; rw [viB_t hv]
    · cases h
  · cases h
theorem sane_prim [Sig] {B : Nat} {w0 : World} (ht : Tab B w0) : PrimOk Tryz.prog B w0 4 sanePrim := by
  refine PrimOk.closed (A := AN) (fun w hB hk => env_of (primsN_ok (ht.on hB hk))) fun args s v s' e => ?_
  unfold sanePrim at e
  split at e
  · cases e
    refine ⟨rfl, fun ρ us ha => ?_⟩
    obtain ⟨o, rc, s1, hd, hc⟩ := den_of_ap runN
    rw [trueOk_eq hc] at hd
    refine ⟨[], _, _, rc, s1, hd, by rfl, ?_, fun _ _ h => h⟩
    have : us.toList = [] := by
      generalize hl : us.toList = l at ha
      cases ha; rfl
    rw [this]; exact .nil
  · cases e
theorem primsX_ok [Sig] {B : Nat} {w0 : World} (ht : Tab B w0) : Prims primsX B w0 :=
  .node (.leaf (sane_prim ht)) (.node (.node (.leaf (written_prim B w0 ht)) (.leaf (sum_prim B w0))) (.node (.node (.leaf (after_prim B w0)) (.leaf (insert22_prim B w0))) (.node (.leaf (noEscape_prim B w0)) (.leaf (insert1_prim B w0)))))
def Kept (w w' : World) : Prop := w.heap.size ≤ w'.heap.size ∧ (∀ b, b < w.heap.size → w'.heap[b]? = w.heap[b]?) ∧ w'.os = w.os ∧ w'.output = w.output
theorem rule_of_run [Sig] {avs : List AV} (hr : apK AX 1000 (.func (.fn 3) [] []) avs ctxN (fun o _ _ _ _ => trueOk o) .nil (.l .A .A .A .A .A .A .A .A) .nil = true) {us : Array Value} {W : World} (ht : Tab W.heap.size W)
    (ha : VRs (fun _ => none) avs us.toList) : Calls Tryz.prog 3 us W fun e w' => e = .returned (.bool true) ∧ Kept W w' := by
  intro cs
  obtain ⟨o, rc, s1, ⟨n, hd⟩, hc⟩ := den_of_ap hr
  rw [trueOk_eq hc] at hd
  have hd := hd (n + 1) (by omega)
  simp only [den, app_eq, List.nil_append, List.append_nil] at hd
  have henv : Env Tryz.prog AX W.heap.size W := env_of (primsX_ok ht)
  have hpr : primR AX 3 avs ctxN (St.none (.l .A .A .A .A .A .A .A .A)) = none := by rfl
  have hcx : CxOk (fun _ => none) ctxN ⟨frameOf 3 .normal, fun _ => cs⟩ := by
    refine ⟨fun _ => rfl, fun n e => by simp [ctxN] at e, fun _ v hv => by simp [ctxN] at hv, fun _ fr r hk _ => ?_⟩
    have hk' : fr.kind = .normal := hk
    simp [tryRecover, hk']
  have h0 := HR.start (CCof Tryz.prog) W (.l .A .A .A .A .A .A .A .A)
  obtain ⟨ρ', w', fr', _, h', ⟨hk, hf⟩, hs, u, hu, hgo⟩ := (sound henv n).2.2.2.1 3 avs ctxN _ _ _ _ hpr hd rfl [] _ W us .normal _ ha h0 hcx
  cases hu
  exact ⟨_, w', fr', ⟨rfl, h'.wr.size, h'.wr.keep, h'.wr.io⟩, hs, hf, hgo.1, hgo.2.1, hk, hgo.2.2⟩
end
end A3
namespace A3
open Go Go.Proofs Go.RowKit
abbrev sigOf (x0 x1 x2 x3 : Int) (h01 : x0 < x1) (h23 : x2 < x3) (l0 : -9223372036854775808 ≤ x0) (u1 : x1 < 9223372036854775808) (l2 : -9223372036854775808 ≤ x2) (u3 : x3 < 9223372036854775808) : Sig where
  σ := fun i => if i = 0 then x0 else if i = 1 then x1 else if i = 2 then x2 else if i = 3 then x3 else ((i % 2 : Nat) : Int)
  lo := fun i => by
    show -9223372036854775808 ≤ (if i = 0 then x0 else if i = 1 then x1 else if i = 2 then x2 else if i = 3 then x3 else ((i % 2 : Nat) : Int))
    repeat' split
    all_goals omega
  hi := fun i => by
    show (if i = 0 then x0 else if i = 1 then x1 else if i = 2 then x2 else if i = 3 then x3 else ((i % 2 : Nat) : Int)) < 9223372036854775808
    repeat' split
    all_goals omega
  mono := fun i j hij h => by
    show (if i = 0 then x0 else if i = 1 then x1 else if i = 2 then x2 else if i = 3 then x3 else ((i % 2 : Nat) : Int)) < (if j = 0 then x0 else if j = 1 then x1 else if j = 2 then x2 else if j = 3 then x3 else ((j % 2 : Nat) : Int))
    rcases (by omega : (i = 0 ∧ j = 1) ∨ (i = 2 ∧ j = 3) ∨ (4 ≤ i ∧ i % 2 = 0 ∧ j = i + 1)) with ⟨rfl, rfl⟩ | ⟨rfl, rfl⟩ | ⟨h4, he, rfl⟩
    · simpa using h01
    · simpa using h23
    · rw [if_neg (by omega), if_neg (by omega), if_neg (by omega), if_neg (by omega), if_neg (by omega), if_neg (by omega), if_neg (by omega), if_neg (by omega)]; omega
theorem VR.sym_at [Sig] {ρ : Ren} (i : Nat) (n : Int) (h : Sig.σ i = n) : VR ρ (.sym 0 i) (.int .i64 n) := .sym (by rw [← h]; rfl)
theorem VR.any_at [Sig] {ρ : Ren} (n : Int) (h1 : -9223372036854775808 ≤ n) (h2 : n < 9223372036854775808) : VR ρ (.any .i64) (.int .i64 n) := .any (by rw [IntKind.wrap_i64]; omega)
theorem rule_all (a b v w : Int) (ha1 : -9223372036854775808 ≤ a) (ha2 : a < 9223372036854775808) (hb1 : -9223372036854775808 ≤ b) (hb2 : b < 9223372036854775808)
    (hv1 : -9223372036854775808 ≤ v) (hv2 : v < 9223372036854775808) (hw1 : -9223372036854775808 ≤ w) (hw2 : w < 9223372036854775808) (W : World) (ht : Tab W.heap.size W) :
    Calls Tryz.prog 3 #[.int .i64 a, .int .i64 b, .int .i64 v, .int .i64 w] W fun e w' => e = .returned (.bool true) ∧ Kept W w' := by
  rcases Int.lt_trichotomy a b with hab | hab | hab
  · rcases Int.lt_trichotomy v w with hvw | hvw | hvw
    · letI := sigOf a b v w hab hvw ha1 hb2 hv1 hw2
      exact rule_of_run runX0 ht (.cons (VR.sym_at 0 a rfl) (.cons (VR.sym_at 1 b rfl) (.cons (VR.sym_at 2 v rfl) (.cons (VR.sym_at 3 w rfl) .nil))))
    · subst hvw
      by_cases hm : v < 9223372036854775807
      · letI := sigOf a b v (v + 1) hab (by omega) ha1 hb2 hv1 (by omega)
        exact rule_of_run runY2 ht (.cons (VR.sym_at 0 a rfl) (.cons (VR.sym_at 1 b rfl) (.cons (VR.sym_at 2 v rfl) (.cons (VR.sym_at 2 v rfl) .nil))))
      · letI := sigOf a b (v - 1) v hab (by omega) ha1 hb2 (by omega) hv2
        exact rule_of_run runY3 ht (.cons (VR.sym_at 0 a rfl) (.cons (VR.sym_at 1 b rfl) (.cons (VR.sym_at 3 v rfl) (.cons (VR.sym_at 3 v rfl) .nil))))
    · letI := sigOf a b w v hab hvw ha1 hb2 hw1 hv2
      exact rule_of_run runX1 ht (.cons (VR.sym_at 0 a rfl) (.cons (VR.sym_at 1 b rfl) (.cons (VR.sym_at 3 v rfl) (.cons (VR.sym_at 2 w rfl) .nil))))
  · subst hab
    by_cases hm : a < 9223372036854775807
    · letI := sigOf a (a + 1) 0 1 (by omega) (by omega) ha1 (by omega) (by omega) (by omega)
      exact rule_of_run runY0 ht (.cons (VR.sym_at 0 a rfl) (.cons (VR.sym_at 0 a rfl) (.cons (VR.any_at v hv1 hv2) (.cons (VR.any_at w hw1 hw2) .nil))))
    · letI := sigOf (a - 1) a 0 1 (by omega) (by omega) (by omega) ha2 (by omega) (by omega)
      exact rule_of_run runY1 ht (.cons (VR.sym_at 1 a rfl) (.cons (VR.sym_at 1 a rfl) (.cons (VR.any_at v hv1 hv2) (.cons (VR.any_at w hw1 hw2) .nil))))
  · rcases Int.lt_trichotomy v w with hvw | hvw | hvw
    · letI := sigOf b a v w hab hvw hb1 ha2 hv1 hw2
      exact rule_of_run runX2 ht (.cons (VR.sym_at 1 a rfl) (.cons (VR.sym_at 0 b rfl) (.cons (VR.sym_at 2 v rfl) (.cons (VR.sym_at 3 w rfl) .nil))))
    · subst hvw
      by_cases hm : v < 9223372036854775807
      · letI := sigOf b a v (v + 1) hab (by omega) hb1 ha2 hv1 (by omega)
        exact rule_of_run runY4 ht (.cons (VR.sym_at 1 a rfl) (.cons (VR.sym_at 0 b rfl) (.cons (VR.sym_at 2 v rfl) (.cons (VR.sym_at 2 v rfl) .nil))))
      · letI := sigOf b a (v - 1) v hab (by omega) hb1 ha2 (by omega) hv2
        exact rule_of_run runY5 ht (.cons (VR.sym_at 1 a rfl) (.cons (VR.sym_at 0 b rfl) (.cons (VR.sym_at 3 v rfl) (.cons (VR.sym_at 3 v rfl) .nil))))
    · letI := sigOf b a w v hab hvw hb1 ha2 hw1 hv2
      exact rule_of_run runX3 ht (.cons (VR.sym_at 1 a rfl) (.cons (VR.sym_at 0 b rfl) (.cons (VR.sym_at 3 v rfl) (.cons (VR.sym_at 2 w rfl) .nil))))
end A3
