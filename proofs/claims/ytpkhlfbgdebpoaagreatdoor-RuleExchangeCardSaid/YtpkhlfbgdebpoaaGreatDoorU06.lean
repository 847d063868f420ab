/- Regions in written order are sound. -/
import Derived.Test.YtpkhlfbgdebpoaaGreatDoorU02
import Derived.Orders
import Derived.Test.YtpkhlfbgdebpoaaGreatDoorU05
import Derived.AtR
import Derived.Defers
namespace A3
open Go
section
variable {ops : Array Oper}
theorem testBit_or3 (s x y b : Nat) : (s ||| x ||| y).testBit b = (s.testBit b || x.testBit b || y.testBit b) := by
  rw [Nat.testBit_or, Nat.testBit_or]
theorem foldl_bits (f : Nat → Nat) : ∀ (l : List Edge) (s b : Nat), (l.foldl (fun s e => if Region.binds .any e then s ||| 2 ^ e.on ||| f e.on else s) s).testBit b = true →
    s.testBit b = true ∨ ∃ e ∈ l, Region.binds .any e = true ∧ (b = e.on ∨ (f e.on).testBit b = true)
  | [], s, b, h => .inl h
  | e :: l, s, b, h => by
    simp only [List.foldl_cons] at h
    rcases foldl_bits f l _ b h with h1 | ⟨e', he', hb, hc⟩
    · split at h1
      · rename_i hbind
        rw [testBit_or3] at h1
        simp only [Bool.or_eq_true] at h1
        rcases h1 with (h1 | h1) | h1
        · exact .inl h1
        · right
          refine ⟨e, List.mem_cons_self, hbind, .inl ?_⟩
          rw [Nat.testBit_two_pow] at h1
          simpa using (of_decide_eq_true h1).symm
        · exact .inr ⟨e, List.mem_cons_self, hbind, .inr h1⟩
      · exact .inl h1
    · exact .inr ⟨e', List.mem_cons_of_mem _ he', hb, hc⟩
def befStep (acc : Array Nat) (o : Oper) : Array Nat := acc.push (o.after.foldl (fun s e => if Region.binds .any e then s ||| 2 ^ e.on ||| acc.getD e.on 0 else s) 0)
theorem before_eq : Region.before ops = ops.toList.foldl befStep #[] := by
  unfold Region.before
  rw [← Array.foldl_toList]
  rfl
structure BefOk (l : List Oper) (acc : Array Nat) : Prop where
  size : acc.size = l.length
  bits : ∀ (i b : Nat) (o : Oper), l[i]? = some o → (acc.getD i 0).testBit b = true → ∃ e ∈ o.after.toList, Region.binds .any e = true ∧ (b = e.on ∨ (acc.getD e.on 0).testBit b = true)
theorem getD_push_lt {acc : Array Nat} {v i : Nat} (h : i < acc.size) : (acc.push v).getD i 0 = acc.getD i 0 := by
  simp [Array.getD, h, Nat.lt_succ_of_lt h, Array.getElem_push_lt h]
theorem getD_ge {acc : Array Nat} {i : Nat} (h : acc.size ≤ i) : acc.getD i 0 = 0 := by
  simp [Array.getD, Nat.not_lt.2 h]
theorem befOk_foldl : ∀ (m l : List Oper) (acc : Array Nat), BefOk l acc → BefOk (l ++ m) (m.foldl befStep acc)
  | [], l, acc, h => by simpa using h
  | o :: m, l, acc, h => by
    simp only [List.foldl_cons]
    have hstep : BefOk (l ++ [o]) (befStep acc o) := by
      constructor
      · simp [befStep, h.size]
      · intro i b o' ho' hb
        have keep : ∀ j, (acc.getD j 0).testBit b = true → ((befStep acc o).getD j 0).testBit b = true := by
          intro j hj
          rcases Nat.lt_or_ge j acc.size with h1 | h1
          · unfold befStep; rw [getD_push_lt h1]; exact hj
          · rw [getD_ge h1] at hj; simp at hj
        rcases Nat.lt_or_ge i l.length with h1 | h1
        · rw [List.getElem?_append_left h1] at ho'
          unfold befStep at hb
          rw [getD_push_lt (by rw [h.size]; exact h1)] at hb
          obtain ⟨e, he, hbind, hc⟩ := h.bits i b o' ho' hb
          exact ⟨e, he, hbind, hc.imp id (keep _)⟩
        · rw [List.getElem?_append_right h1] at ho'
          have hi : i = l.length := by
            rcases Nat.eq_or_lt_of_le h1 with h2 | h2
            · exact h2.symm
            · rw [List.getElem?_eq_none (by simp; omega)] at ho'; cases ho'
          subst hi
          simp at ho'; subst ho'
          have hv : (befStep acc o).getD l.length 0 = o.after.foldl (fun s e => if Region.binds .any e then s ||| 2 ^ e.on ||| acc.getD e.on 0 else s) 0 := by
            unfold befStep
            simp [Array.getD, ← h.size]
          rw [hv, ← Array.foldl_toList] at hb
          rcases foldl_bits (fun j => acc.getD j 0) _ _ _ hb with h2 | ⟨e, he, hbind, hc⟩
          · simp at h2
          · exact ⟨e, he, hbind, hc.imp id (keep _)⟩
    have := befOk_foldl m (l ++ [o]) _ hstep
    simpa using this
theorem before_ok (ops : Array Oper) : BefOk ops.toList (Region.before ops) := by
  rw [before_eq]
  have := befOk_foldl ops.toList [] #[] ⟨rfl, by intro i b o h; simp at h⟩
  simpa using this
def Down (ops : Array Oper) (listed : Array Bool) : Prop := ∀ i b, listed.getD i false = true → ((Region.before ops).getD i 0).testBit b = true → listed.getD b false = true
theorem ready_bits {listed : Array Bool} {i : Nat} (hd : Down ops listed) (hi : i ∈ Region.ready .any ops listed) : ∀ b, ((Region.before ops).getD i 0).testBit b = true → listed.getD b false = true := by
  intro b hb
  unfold Region.ready at hi
  rw [List.mem_filter] at hi
  obtain ⟨hlt, hi⟩ := hi
  simp only [Bool.and_eq_true] at hi
  obtain ⟨_, hall⟩ := hi
  have hlt : i < ops.size := by simpa using hlt
  rw [Array.getElem?_eq_getElem hlt] at hall
  simp only [Option.map_some, Option.getD_some] at hall
  obtain ⟨e, he, hbind, hc⟩ := (before_ok ops).bits i b ops[i] (by simp [hlt]) hb
  have hl : listed.getD e.on false = true := by
    have h1 := (Array.all_eq_true_iff_forall_mem.1 hall) e (by simpa using he)
    rw [hbind] at h1
    simpa using h1
  rcases hc with rfl | hc
  · exact hl
  · exact hd _ _ hl hc
theorem Down.set {listed : Array Bool} {i : Nat} (hd : Down ops listed) (hi : i ∈ Region.ready .any ops listed) : Down ops (listed.setIfInBounds i true) := by
  intro j b hj hb
  have up : ∀ b, listed.getD b false = true → (listed.setIfInBounds i true).getD b false = true := fun b h => getD_set_true h
  by_cases hji : j = i
  · subst hji; exact up _ (ready_bits hd hi b hb)
  · rw [getD_set_ne false (Ne.symm hji)] at hj
    exact up _ (hd j b hj hb)
end
end A3
namespace A3
open Go
section
variable {P : Program} {N : Nat} {ops : Array Oper} {l : List RInfo}
structure PlanAt (l : List RInfo) (done : List Nat) (j : Nat) (x : RInfo) : Prop where
  at_ : l[j]? = some x
  new : j ∉ done
  odd : x.aop.op.odd = false
  bits : ∀ b, x.before.testBit b = true → b ∈ done
  mains : ∀ i ∈ done, ∀ y, l[i]? = some y → y.aop.op.main = true → x.before.testBit i = true
  sa : ∀ i y d, i ≠ j → l[i]? = some y → x.oper.dst = some d → y.oper.dst ≠ some d ∧ (d ∈ y.uses → x.before.testBit i = true ∨ y.before.testBit j = true)
theorem planOk_cons {done : List Nat} {j : Nat} {r : List Nat} (h : planOk l done (j :: r) = true) : (∃ x, PlanAt l done j x) ∧ planOk l (j :: done) r = true := by
  simp only [planOk, Bool.and_eq_true] at h
  obtain ⟨h1, h2⟩ := h
  refine ⟨?_, h2⟩
  split at h1
  · cases h1
  · rename_i x hx
    simp only [Bool.and_eq_true, Bool.not_eq_true', List.all_eq_true, Bool.or_eq_true, List.mem_range, Nat.beq_eq, Nat.blt_eq] at h1
    obtain ⟨⟨⟨⟨⟨h3, h4⟩, h5⟩, h6⟩, h7⟩, h8⟩ := h1
    refine ⟨x, hx, by simpa using h3, h4, ?_, ?_, ?_⟩
    · intro b hb
      have hlt : b < l.length := by
        rcases Nat.lt_or_ge b l.length with h9 | h9
        · exact h9
        · have : x.before < 2 ^ b := Nat.lt_of_lt_of_le h5 (Nat.pow_le_pow_right (by omega) h9)
          rw [Nat.testBit_lt_two_pow this] at hb; cases hb
      rcases h6 b hlt with h9 | h9
      · rw [hb] at h9; cases h9
      · simpa using h9
    · intro i hi y hy hm
      have := h7 i hi
      rw [hy] at this
      simp only [Bool.or_eq_true, Bool.not_eq_true'] at this
      rcases this with h9 | h9
      · rw [hm] at h9; cases h9
      · exact h9
    · intro i y d hij hy hd
      have hlt : i < l.length := by
        rcases Nat.lt_or_ge i l.length with h9 | h9
        · exact h9
        · rw [List.getElem?_eq_none h9] at hy; cases hy
      have := h8 i hlt
      rcases this with h9 | h9
      · exact absurd h9 hij
      · rw [hy] at h9
        simp only [hd, Bool.and_eq_true, Bool.not_eq_true', Bool.or_eq_true, beq_eq_false_iff_ne, List.contains_eq_mem, decide_eq_false_iff_not] at h9
        refine ⟨h9.1, fun hmem => ?_⟩
        rcases h9.2 with (h10 | h10) | h10
        · exact absurd hmem h10
        · exact .inl h10
        · exact .inr h10
structure Infos (P : Program) (N : Nat) (ops : Array Oper) (l : List RInfo) : Prop where
  len : l.length = ops.size
  get : ∀ i x, l[i]? = some x → ops[i]? = some x.oper ∧ operC P N ops x.oper = some x.aop ∧ x.before = (Region.before ops).getD i 0 ∧ x.uses = usesT ops x.oper
theorem infos_get (ops : Array Oper) : ∀ {os : List Oper} {as : List AOper} {bs : List Nat} (i : Nat) (x : RInfo), (infos ops os as bs)[i]? = some x →
    os[i]? = some x.oper ∧ as[i]? = some x.aop ∧ bs[i]? = some x.before ∧ x.uses = usesT ops x.oper
  | o :: os, a :: as, b :: bs, 0, x, h => by simp [infos] at h; subst h; exact ⟨rfl, rfl, rfl, rfl⟩
  | o :: os, a :: as, b :: bs, i + 1, x, h => by simp [infos] at h; simpa using infos_get ops i x h
  | [], _, _, i, x, h => by simp [infos] at h
  | _ :: _, [], _, i, x, h => by simp [infos] at h
  | _ :: _, _ :: _, [], i, x, h => by simp [infos] at h
theorem opersC_get : ∀ {os : List Oper} {as : List AOper}, opersC P N ops os = some as → ∀ (i : Nat) (o : Oper) (a : AOper), os[i]? = some o → as[i]? = some a → operC P N ops o = some a
  | [], as, h, i, o, a, h1, _ => by simp at h1
  | o' :: os, as, h, i, o, a, h1, h2 => by
    simp only [opersC] at h
    split at h
    · rename_i a' m ha hm
      simp only [Option.some.injEq] at h; subst h
      cases i with
      | zero => simp at h1 h2; subst h1; subst h2; exact ha
      | succ i => exact opersC_get hm i o a (by simpa using h1) (by simpa using h2)
    · cases h
theorem infos_ok [Sig] {as : List AOper} (h : opersC P N ops ops.toList = some as) (hl : (infos ops ops.toList as (Region.before ops).toList).length = ops.size) : Infos P N ops (infos ops ops.toList as (Region.before ops).toList) := by
  refine ⟨hl, fun i x hx => ?_⟩
  obtain ⟨h1, h2, h3, h4⟩ := infos_get ops i x hx
  refine ⟨by simpa using h1, opersC_get h i _ _ h1 h2, ?_, h4⟩
  have h3' : (Region.before ops)[i]? = some x.before := by simpa using h3
  obtain ⟨hlt, e⟩ := Array.getElem?_eq_some_iff.1 h3'
  simp [Array.getD, hlt, e]
theorem eqOA_eq {a b : Option (Pos × Nat)} (h : eqOA a b = true) : a = b := by
  cases a <;> cases b <;> simp [eqOA] at h
  · rfl
  · rename_i a b
    obtain ⟨a1, a2⟩ := a
    obtain ⟨b1, b2⟩ := b
    rw [Pos.beq_iff] at h
    simp at h
    rw [h.1, h.2]
mutual
theorem same_eq : ∀ {x y : AV}, same x y = true → x = y
  | .bool a, y, h => by cases y <;> simp [same] at h; rw [h]
  | .int k n, y, h => by cases y <;> simp [same] at h; rw [eqK_iff] at h; rw [h.1, h.2]
  | .sym f a, y, h => by cases y <;> simp [same] at h; rw [h.1, h.2]
  | .byt a, y, h => by cases y <;> simp [same] at h; rw [h]
  | .any k, y, h => by cases y <;> simp [same] at h; rw [eqK_iff] at h; rw [h]
  | .ustr, y, h => by cases y <;> simp [same] at h; rfl
  | .flt k a, y, h => by
    cases y with
    | flt j b => cases k <;> cases j <;> simp [same] at h; rw [h]
    | _ => cases k <;> simp [same] at h
  | .str a, y, h => by cases y <;> simp [same] at h; rw [eqStr_iff] at h; rw [h]
  | .ptr a, y, h => by cases y <;> simp [same] at h; rw [eqOA_eq h]
  | .slice a l c f, y, h => by
    cases y <;> simp [same] at h
    rw [eqOA_eq h.1, h.2.1, h.2.2.1, h.2.2.2]
  | .map none, y, h => by
    cases y with
    | map b => cases b <;> simp [same] at h; rfl
    | _ => simp [same] at h
  | .map (some a), y, h => by
    cases y with
    | map b => cases b <;> simp [same] at h; rw [Pos.beq_iff] at h; rw [h]
    | _ => simp [same] at h
  | .func f a b, y, h => by
    cases y with
    | func g c d =>
      cases f <;> cases g <;> simp [same] at h
      rw [h.1, sames_eq h.2.1, sames_eq h.2.2]
    | _ => cases f <;> simp [same] at h
  | .nilFunc, y, h => by cases y <;> simp [same] at h; rfl
  | .nilIface, y, h => by cases y <;> simp [same] at h; rfl
  | .iface t v, y, h => by
    cases y <;> simp [same] at h
    rw [h.1, same_eq h.2]
  | .agg a, y, h => by cases y <;> simp [same] at h; rw [sames_eq h]
  | .tuple a, y, h => by cases y <;> simp [same] at h; rw [sames_eq h]
  | .dead, y, h => by cases y <;> simp [same] at h
theorem sames_eq : ∀ {x y : List AV}, sames x y = true → x = y
  | [], y, h => by cases y <;> simp [sames] at h; rfl
  | a :: x, y, h => by
    cases y with
    | nil => simp [sames] at h
    | cons b y =>
      simp only [sames] at h
      split at h
      · rename_i h1
        rw [same_eq h1, sames_eq h]
      · cases h
end
structure Grown (s s' : St) : Prop where
  heap : ∀ n o, s.heap.get n = some o → s'.heap.get n = some o
  ty : ∀ n t o, s.heap.get n = some o → s.ty.get n = some t → s'.ty.get n = some t
theorem Grown.refl (s : St) : Grown s s := ⟨fun _ _ h => h, fun _ _ _ _ h => h⟩
theorem Grown.trans {a b c : St} (h : Grown a b) (h' : Grown b c) : Grown a c := ⟨fun n o e => h'.heap n o (h.heap n o e), fun n t o e f => h'.ty n t o (h.heap n o e) (h.ty n t o e f)⟩
theorem Grown.cells [Sig] {s s' : St} (h : Grown s s') {n : Pos} {cs : List AV} (hc : s.cells n = some cs) : s'.cells n = some cs := by
  obtain ⟨ro, g, hg, hv⟩ := St.cells_eq hc
  have hv' : s'.valid g = true := by
    cases g with
    | none => rfl
    | some g =>
      obtain ⟨g, k⟩ := g
      simp only [St.valid] at hv ⊢
      split at hv
      · rename_i c f r hgg; rw [h.heap _ _ hgg]; exact hv
      · cases hv
  simp only [St.cells, h.heap _ _ hg, hv']
end
end A3
namespace A3
open Go
section
variable {P : Program} {N : Nat} {s s' s1 : St} {v : AV} {t t' : Tmps}
theorem Grown.load [Sig] (h : Grown s s') {a : Pos × Nat} {n : Option Nat} (hl : s.load a n = some v) : s'.load a n = some v := by
  unfold St.load at hl ⊢
  split at hl
  · cases hl
  · rename_i cs hcs; rw [h.cells hcs]; exact hl
theorem Grown.first [Sig] (h : Grown s s') {size n : Nat} {x : AV} {cs : List AV} (hl : s.first size x n = some cs) : s'.first size x n = some cs := by
  unfold St.first at hl ⊢
  split at hl
  · cases n with
    | zero => exact hl
    | succ n =>
      simp only at hl ⊢
      split at hl
      · cases hl
      · split at hl
        · cases hl
        · rename_i cs0 hcs; rw [h.cells hcs]; exact hl
  · exact hl
  · cases hl
theorem Grown.mapOf [Sig] (h : Grown s s') {r : Pos} {es : List (AV × AV)} (hm : mapOf s r = some es) : mapOf s' r = some es := by
  have := h.heap _ _ (mapOf_eq hm)
  simp [A3.mapOf, this]
theorem pureR_grown [Sig] {f : St → Option AV} (hf : ∀ v, f s = some v → f s' = some v) (h : pureR (f s) s = some (v, s1)) : pureR (f s') s' = some (v, s') := by
  obtain ⟨hv, _⟩ := pureR_eq h
  simp [pureR, hf v hv]
theorem step_grown [Sig] {a : AOp} (hp : a.pure = true) (hs : step a t s = some (v, s1)) (hg : Grown s s') : step a t s' = some (v, s') := by
  cases a with
  | load n x =>
    simp only [step] at hs ⊢
    unfold loadR at hs ⊢
    split at hs
    · exact pureR_grown (f := fun s => s.load _ n) (fun v h => hg.load h) hs
    · cases hs
  | lookup z l x k ok =>
    simp only [step] at hs ⊢
    refine pureR_grown (f := fun s => lookupV z l (x.eval t) (k.eval t) ok s) (fun v h => ?_) hs
    unfold lookupV at h ⊢
    split at h
    · exact h
    · split at h
      · rename_i es hk hes; rw [hk, hg.mapOf hes]; exact h
      · cases h
    · cases h
  | convStr x =>
    simp only [step] at hs ⊢
    refine pureR_grown (f := fun s => convStrV (x.eval t) s) (fun v h => ?_) hs
    unfold convStrV at h ⊢
    split at h
    · unfold bytesStr at h ⊢
      split at h
      · cases h
      · rename_i cs hcs; rw [hg.first hcs]; exact h
    · cases h
  | toUnsafe x =>
    simp only [step] at hs ⊢
    refine pureR_grown (f := fun s => toUnsafeV (x.eval t) s) (fun v h => ?_) hs
    unfold toUnsafeV at h ⊢
    split at h
    · split at h
      · cases h
      · rename_i cs hcs; rw [hg.cells hcs]; exact h
    · exact h
    · cases h
  | fromUnsafe tys x =>
    simp only [step] at hs ⊢
    refine pureR_grown (f := fun s => fromUnsafeV tys (x.eval t) s) (fun v h => ?_) hs
    unfold fromUnsafeV at h ⊢
    split at h
    · split at h
      · rename_i cs ro t' hget hty
        rw [hg.heap _ _ hget, hg.ty _ _ _ hget hty]; exact h
      · cases h
    · exact h
    · cases h
  | bi b args =>
    cases b with
    | len k =>
      obtain ⟨x, e, hs⟩ := biR_len hs
      show biR (.len k) (evals t args) s' = _
      rw [e]
      refine pureR_grown (f := fun s => lenV k s x) (fun v h => ?_) hs
      unfold lenV at h ⊢
      split at h
      · exact h
      · exact h
      · exact h
      · split at h
        · cases h
        · rename_i es hes; rw [hg.mapOf hes]; exact h
      · cases h
    | cap =>
      obtain ⟨x, e, hs⟩ := biR_cap hs
      show biR .cap (evals t args) s' = _
      rw [e]; exact pureR_grown (f := fun _ => capV x) (fun v h => h) hs
    | min => exact pureR_grown (f := fun _ => minmaxL false (evals t args)) (fun v h => h) hs
    | max => exact pureR_grown (f := fun _ => minmaxL true (evals t args)) (fun v h => h) hs
    | unsafeSliceData =>
      obtain ⟨x, e, hs⟩ := biR_data hs
      show biR .unsafeSliceData (evals t args) s' = _
      rw [e]; exact pureR_grown (f := fun _ => sliceDataV x) (fun v h => h) hs
    | _ => simp [AOp.pure] at hp
  | mov x => simp only [step, Option.some.injEq, Prod.mk.injEq] at hs ⊢; exact ⟨hs.1, trivial⟩
  | makeInterface ty x => simp only [step, Option.some.injEq, Prod.mk.injEq] at hs ⊢; exact ⟨hs.1, trivial⟩
  | makeFunc fn a b => simp only [step, Option.some.injEq, Prod.mk.injEq] at hs ⊢; exact ⟨hs.1, trivial⟩
  | pick c a b => exact pureR_grown (f := fun _ => pickV (c.eval t) (a.eval t) (b.eval t)) (fun v h => h) hs
  | build z ps => exact pureR_grown (f := fun _ => buildV (fill z (evalParts t ps))) (fun v h => h) hs
  | nilCheck x => exact pureR_grown (f := fun _ => nilCheckV (x.eval t)) (fun v h => h) hs
  | bin op x y => exact pureR_grown (f := fun _ => A3.binOp op (x.eval t) (y.eval t)) (fun v h => h) hs
  | eql neg c x y => exact pureR_grown (f := fun _ => eqlV neg (eqBy c (x.eval t) (y.eval t))) (fun v h => h) hs
  | un op x => exact pureR_grown (f := fun _ => unOp op (x.eval t)) (fun v h => h) hs
  | convInt k x => exact pureR_grown (f := fun _ => convIntV k (x.eval t)) (fun v h => h) hs
  | toFlt x => exact pureR_grown (f := fun _ => toFltV (x.eval t)) (fun v h => h) hs
  | fltInt k x => exact pureR_grown (f := fun _ => fltIntV k (x.eval t)) (fun v h => h) hs
  | asStr x => exact pureR_grown (f := fun _ => asStrV (x.eval t)) (fun v h => h) hs
  | slice k n x lo hi mx => exact pureR_grown (f := fun _ => sliceOf k n (x.eval t) (evalO t lo) (evalO t hi) (evalO t mx)) (fun v h => h) hs
  | fieldAddr off x => exact pureR_grown (f := fun _ => fieldAddrV off (x.eval t)) (fun v h => h) hs
  | field off n x => exact pureR_grown (f := fun _ => fieldV off n (x.eval t)) (fun v h => h) hs
  | indexAddr arr n x i => exact pureR_grown (f := fun _ => indexAddrV arr n (x.eval t) (natOf (i.eval t))) (fun v h => h) hs
  | indexStr x i => exact pureR_grown (f := fun _ => indexStrV (x.eval t) (natOf (i.eval t))) (fun v h => h) hs
  | indexArr n p k x i => exact pureR_grown (f := fun _ => indexArrV n p k (x.eval t) (natOf (i.eval t))) (fun v h => h) hs
  | typeAssert ty z x ok => exact pureR_grown (f := fun _ => typeAssertV ty z (x.eval t) ok) (fun v h => h) hs
  | extract x i => exact pureR_grown (f := fun _ => extractV (x.eval t) i) (fun v h => h) hs
  | _ => simp [AOp.pure] at hp
theorem step_noreads [Sig] {a : AOp} (hp : a.pure = true) (hr : a.reads = false) (hs : step a t s = some (v, s1)) : step a t s' = some (v, s') := by
  cases a with
  | load n x => simp [AOp.reads] at hr
  | lookup z l x k ok => simp [AOp.reads] at hr
  | convStr x => simp [AOp.reads] at hr
  | toUnsafe x => simp [AOp.reads] at hr
  | fromUnsafe tys x => simp [AOp.reads] at hr
  | bi b args =>
    cases b with
    | len k => simp [AOp.reads] at hr
    | cap =>
      obtain ⟨x, e, hs⟩ := biR_cap hs
      show biR .cap (evals t args) s' = _
      rw [e]; exact pureR_grown (f := fun _ => capV x) (fun v h => h) hs
    | min => exact pureR_grown (f := fun _ => minmaxL false (evals t args)) (fun v h => h) hs
    | max => exact pureR_grown (f := fun _ => minmaxL true (evals t args)) (fun v h => h) hs
    | unsafeSliceData =>
      obtain ⟨x, e, hs⟩ := biR_data hs
      show biR .unsafeSliceData (evals t args) s' = _
      rw [e]; exact pureR_grown (f := fun _ => sliceDataV x) (fun v h => h) hs
    | _ => simp [AOp.pure] at hp
  | mov x => simp only [step, Option.some.injEq, Prod.mk.injEq] at hs ⊢; exact ⟨hs.1, trivial⟩
  | makeInterface ty x => simp only [step, Option.some.injEq, Prod.mk.injEq] at hs ⊢; exact ⟨hs.1, trivial⟩
  | makeFunc fn a b => simp only [step, Option.some.injEq, Prod.mk.injEq] at hs ⊢; exact ⟨hs.1, trivial⟩
  | pick c a b => exact pureR_grown (f := fun _ => pickV (c.eval t) (a.eval t) (b.eval t)) (fun v h => h) hs
  | build z ps => exact pureR_grown (f := fun _ => buildV (fill z (evalParts t ps))) (fun v h => h) hs
  | nilCheck x => exact pureR_grown (f := fun _ => nilCheckV (x.eval t)) (fun v h => h) hs
  | bin op x y => exact pureR_grown (f := fun _ => A3.binOp op (x.eval t) (y.eval t)) (fun v h => h) hs
  | eql neg c x y => exact pureR_grown (f := fun _ => eqlV neg (eqBy c (x.eval t) (y.eval t))) (fun v h => h) hs
  | un op x => exact pureR_grown (f := fun _ => unOp op (x.eval t)) (fun v h => h) hs
  | convInt k x => exact pureR_grown (f := fun _ => convIntV k (x.eval t)) (fun v h => h) hs
  | toFlt x => exact pureR_grown (f := fun _ => toFltV (x.eval t)) (fun v h => h) hs
  | fltInt k x => exact pureR_grown (f := fun _ => fltIntV k (x.eval t)) (fun v h => h) hs
  | asStr x => exact pureR_grown (f := fun _ => asStrV (x.eval t)) (fun v h => h) hs
  | slice k n x lo hi mx => exact pureR_grown (f := fun _ => sliceOf k n (x.eval t) (evalO t lo) (evalO t hi) (evalO t mx)) (fun v h => h) hs
  | fieldAddr off x => exact pureR_grown (f := fun _ => fieldAddrV off (x.eval t)) (fun v h => h) hs
  | field off n x => exact pureR_grown (f := fun _ => fieldV off n (x.eval t)) (fun v h => h) hs
  | indexAddr arr n x i => exact pureR_grown (f := fun _ => indexAddrV arr n (x.eval t) (natOf (i.eval t))) (fun v h => h) hs
  | indexStr x i => exact pureR_grown (f := fun _ => indexStrV (x.eval t) (natOf (i.eval t))) (fun v h => h) hs
  | indexArr n p k x i => exact pureR_grown (f := fun _ => indexArrV n p k (x.eval t) (natOf (i.eval t))) (fun v h => h) hs
  | typeAssert ty z x ok => exact pureR_grown (f := fun _ => typeAssertV ty z (x.eval t) ok) (fun v h => h) hs
  | extract x i => exact pureR_grown (f := fun _ => extractV (x.eval t) i) (fun v h => h) hs
  | _ => simp [AOp.pure] at hp
end
end A3
namespace A3
open Go
def AOp.opds : AOp → List Opd
  | .mov x | .box _ x | .load _ x | .nilCheck x | .un _ x | .convInt _ x | .toFlt x | .fltInt _ x | .convBytes _ x | .convStr x | .asStr x | .toUnsafe x | .fromUnsafe _ x | .makeInterface _ x | .fieldAddr _ x | .field _ _ x
  | .typeAssert _ _ x _ | .extract x _ | .panic x => [x]
  | .pick c a b | .mapUpdate _ c a b | .entryStore c a b => [c, a, b]
  | .build _ ps | .buildSlice _ _ ps => ps.map (·.2.2)
  | .store _ a b | .bin _ a b | .eql _ _ a b | .makeSlice _ a b | .indexAddr _ _ a b | .indexStr a b | .indexArr _ _ _ a b | .lookup _ _ a b _ | .mapEntry _ _ a b => [a, b]
  | .makeFunc _ a b => a ++ b
  | .slice _ _ x l h m => x :: (l.toList ++ (h.toList ++ m.toList))
  | .bi _ as => as
  | .call f as | .defer f as | .invoke f _ as => f :: as
  | _ => []
section
variable {P : Program} {N : Nat} {s s' s1 : St} {v : AV} {t t' : Tmps}
theorem evals_congr : ∀ {as : List Opd}, (∀ y ∈ as, y.eval t = y.eval t') → evals t as = evals t' as
  | [], _ => rfl
  | a :: as, h => by simp only [evals, h a (by simp), evals_congr (as := as) fun y hy => h y (List.mem_cons_of_mem _ hy)]
theorem evalParts_congr : ∀ {ps : List (Nat × Nat × Opd)}, (∀ y ∈ ps.map (·.2.2), y.eval t = y.eval t') → evalParts t ps = evalParts t' ps
  | [], _ => rfl
  | (i, k, x) :: ps, h => by simp only [evalParts, h x (by simp), evalParts_congr (ps := ps) fun y hy => h y (by rw [List.map_cons]; exact List.mem_cons_of_mem _ hy)]
theorem evalO_congr {x : Option Opd} (h : ∀ y ∈ x.toList, y.eval t = y.eval t') : evalO t x = evalO t' x := by
  cases x with
  | none => rfl
  | some y => simp [evalO, h y (by simp)]
theorem step_congr [Sig] {a : AOp} (h : ∀ y ∈ a.opds, y.eval t = y.eval t') : step a t s = step a t' s := by
  cases a <;> simp only [AOp.opds] at h <;> first
    | rfl
    | (simp only [step]; simp only [h _ (List.mem_singleton.2 rfl)])
    | (simp only [step]; simp only [h _ List.mem_cons_self, h _ (List.mem_cons_of_mem _ List.mem_cons_self), h _ (List.mem_cons_of_mem _ (List.mem_cons_of_mem _ List.mem_cons_self))])
    | (simp only [step]; simp only [h _ List.mem_cons_self, h _ (List.mem_cons_of_mem _ List.mem_cons_self)])
    | (simp only [step]; simp only [evalParts_congr h])
    | (simp only [step]; simp only [evals_congr h])
    | skip
  case makeFunc fn a b =>
    simp only [step]
    rw [evals_congr (as := a) fun y hy => h y (by simp [hy]), evals_congr (as := b) fun y hy => h y (by simp [hy])]
  case slice k n x l hi m =>
    simp only [step]
    rw [h x (by simp), evalO_congr (x := l) fun y hy => h y (List.mem_cons_of_mem _ (List.mem_append_left _ hy)), evalO_congr (x := hi) fun y hy => h y (List.mem_cons_of_mem _ (List.mem_append_right _ (List.mem_append_left _ hy))),
      evalO_congr (x := m) fun y hy => h y (List.mem_cons_of_mem _ (List.mem_append_right _ (List.mem_append_right _ hy)))]
theorem cOpds_mem : ∀ {l : List Operand} {as : List Opd}, cOpds N l = some as → ∀ y ∈ as, ∃ x ∈ l, cOpd N x = some y
  | [], as, h, y, hy => by simp [cOpds] at h; subst h; simp at hy
  | x :: l, as, h, y, hy => by
    simp only [cOpds] at h
    split at h
    · rename_i a m ha hm
      simp only [Option.some.injEq] at h; subst h
      rcases List.mem_cons.1 hy with rfl | hy
      · exact ⟨x, by simp, ha⟩
      · obtain ⟨x', hx', e⟩ := cOpds_mem hm y hy; exact ⟨x', by simp [hx'], e⟩
    · cases h
theorem cParts_mem {place : Nat → Option (Nat × Nat)} : ∀ {l : List (Nat × Operand)} {ps : List (Nat × Nat × Opd)}, cParts N place l = some ps → ∀ y ∈ ps.map (·.2.2), ∃ p ∈ l, cOpd N p.2 = some y
  | [], as, h, y, hy => by simp [cParts] at h; subst h; simp at hy
  | (i, x) :: l, as, h, y, hy => by
    simp only [cParts] at h
    split at h
    · rename_i o a m ho ha hm
      simp only [Option.some.injEq] at h; subst h
      simp only [List.map_cons] at hy
      rcases List.mem_cons.1 hy with rfl | hy
      · exact ⟨(i, x), by simp, ha⟩
      · obtain ⟨p, hp, e⟩ := cParts_mem hm y hy; exact ⟨p, by simp [hp], e⟩
    · cases h
theorem cOpdO_mem {x : Option Operand} {a : Option Opd} (h : cOpdO N x = some a) : ∀ y ∈ a.toList, ∃ z ∈ x.toList, cOpd N z = some y := by
  unfold cOpdO at h
  split at h
  · simp at h; subst h; simp
  · rename_i z
    split at h
    · rename_i b hb
      simp at h; subst h
      intro y hy; simp at hy; subst hy
      exact ⟨z, by simp, hb⟩
    · cases h
theorem cOp_opds [Sig] {op : Op} {a : AOp} (hc : cOp P N op = some a) : ∀ y ∈ a.opds, ∃ x ∈ op.operands.toList, cOpd N x = some y := by
  have c1 : ∀ {f : Opd → AOp} {x : Operand}, opd1 N f x = some a → (∀ x', (f x').opds = [x']) → x ∈ op.operands.toList → ∀ y ∈ a.opds, ∃ x ∈ op.operands.toList, cOpd N x = some y := by
    intro f x h hf hx y hy
    obtain ⟨x', hx', rfl⟩ := opd1_eq h
    rw [hf] at hy; simp at hy; subst hy
    exact ⟨x, hx, hx'⟩
  have c2 : ∀ {f : Opd → Opd → AOp} {x z : Operand}, opd2 N f x z = some a → (∀ x' z', (f x' z').opds = [x', z']) → x ∈ op.operands.toList → z ∈ op.operands.toList → ∀ y ∈ a.opds, ∃ x ∈ op.operands.toList, cOpd N x = some y := by
    intro f x z h hf hx hz y hy
    obtain ⟨x', z', hx', hz', rfl⟩ := opd2_eq h
    rw [hf] at hy; simp at hy
    rcases hy with rfl | rfl
    · exact ⟨x, hx, hx'⟩
    · exact ⟨z, hz, hz'⟩
  have c3 : ∀ {f : Opd → Opd → Opd → AOp} {x z q : Operand}, opd3 N f x z q = some a → (∀ x' z' q', (f x' z' q').opds = [x', z', q']) → x ∈ op.operands.toList → z ∈ op.operands.toList → q ∈ op.operands.toList →
      ∀ y ∈ a.opds, ∃ x ∈ op.operands.toList, cOpd N x = some y := by
    intro f x z q h hf hx hz hq y hy
    obtain ⟨x', z', q', hx', hz', hq', rfl⟩ := opd3_eq h
    rw [hf] at hy; simp at hy
    rcases hy with rfl | rfl | rfl
    · exact ⟨x, hx, hx'⟩
    · exact ⟨z, hz, hz'⟩
    · exact ⟨q, hq, hq'⟩
  have sm : ∀ {α : Type} {x y : α}, some x = some y → x = y := by intro α x y e; simpa using e
  cases op with
  | move x => exact c1 hc (fun _ => rfl) (by simp [Op.operands])
  | assign x => exact c1 hc (fun _ => rfl) (by simp [Op.operands])
  | pick c x y => exact c3 hc (fun _ _ _ => rfl) (by simp [Op.operands]) (by simp [Op.operands]) (by simp [Op.operands])
  | alloc e =>
    simp only [cOp] at hc
    split at hc
    · have := sm hc; subst this; intro y hy; simp [AOp.opds] at hy
    · cases hc
  | box e x => exact c1 hc (fun _ => rfl) (by simp [Op.operands])
  | build ty parts =>
    have fin : ∀ {place : Nat → Option (Nat × Nat)} {ps : List (Nat × Nat × Opd)} {z : List AV}, cParts N place parts.toList = some ps → a = .build z ps → ∀ y ∈ a.opds, ∃ x ∈ (Op.build ty parts).operands.toList, cOpd N x = some y := by
      intro place ps z hps e y hy
      subst e
      obtain ⟨p, hp, e⟩ := cParts_mem hps y hy
      exact ⟨p.2, by simp [Op.operands]; exact ⟨p.1, by simpa using hp⟩, e⟩
    simp only [cOp] at hc
    split at hc
    · split at hc
      · cases hc
      · split at hc
        · rename_i ps hps; exact fin hps (sm hc).symm
        · cases hc
    · split at hc
      · split at hc
        · rename_i ps hps; exact fin hps (sm hc).symm
        · cases hc
      · cases hc
    · cases hc
  | buildSlice ty len parts =>
    simp only [cOp] at hc
    split at hc
    · split at hc
      · split at hc
        · split at hc
          · rename_i ps hps
            have := sm hc; subst this
            intro y hy
            obtain ⟨p, hp, e⟩ := cParts_mem hps y hy
            exact ⟨p.2, by simp [Op.operands]; exact ⟨p.1, by simpa using hp⟩, e⟩
          · cases hc
        · cases hc
      · cases hc
    · cases hc
  | load ty x =>
    simp only [cOp] at hc
    split at hc
    · exact c1 hc (fun _ => rfl) (by simp [Op.operands])
    · cases hc
  | store ty x y =>
    simp only [cOp] at hc
    split at hc
    · exact c2 hc (fun _ _ => rfl) (by simp [Op.operands]) (by simp [Op.operands])
    · cases hc
  | nilCheck x => exact c1 hc (fun _ => rfl) (by simp [Op.operands])
  | binOp op ty x y yt =>
    simp only [cOp, cBin, cEql] at hc
    repeat' split at hc
    all_goals first
      | (cases hc; done)
      | exact c2 hc (fun _ _ => rfl) (by simp [Op.operands]) (by simp [Op.operands])
  | unOp op ty x => exact c1 hc (fun _ => rfl) (by simp [Op.operands])
  | convert src dst x =>
    simp only [cOp, cConvert] at hc
    repeat' split at hc
    all_goals first
      | (cases hc; done)
      | exact c1 hc (fun _ => rfl) (by simp [Op.operands])
  | makeInterface ty x =>
    simp only [cOp] at hc
    split at hc
    · cases hc
    · exact c1 hc (fun _ => rfl) (by simp [Op.operands])
    · cases hc
  | makeFunc fn first captured =>
    simp only [cOp] at hc
    split at hc
    · split at hc
      · rename_i as bs ha hb
        have := sm hc; subst this
        intro y hy
        simp only [AOp.opds, List.mem_append] at hy
        rcases hy with hy | hy
        · obtain ⟨x, hx, e⟩ := cOpds_mem ha y hy; exact ⟨x, by simp [Op.operands]; exact .inl (by simpa using hx), e⟩
        · obtain ⟨x, hx, e⟩ := cOpds_mem hb y hy; exact ⟨x, by simp [Op.operands]; exact .inr (by simpa using hx), e⟩
      · cases hc
    · cases hc
  | makeMap ty r =>
    simp only [cOp] at hc
    split at hc <;> first | (cases hc; done) | (have := sm hc; subst this; intro y hy; simp [AOp.opds] at hy)
  | makeSlice ty x y =>
    simp only [cOp] at hc
    split at hc
    · split at hc
      · split at hc
        · exact c2 hc (fun _ _ => rfl) (by simp [Op.operands]) (by simp [Op.operands])
        · cases hc
      · cases hc
    · cases hc
  | slice ty x lo hi mx =>
    have fin : ∀ {k : Kd} {n : Nat} {x' : Opd} {lo' hi' mx' : Option Opd}, cOpd N x = some x' → cOpdO N lo = some lo' → cOpdO N hi = some hi' → cOpdO N mx = some mx' → a = .slice k n x' lo' hi' mx' →
        ∀ y ∈ a.opds, ∃ z ∈ (Op.slice ty x lo hi mx).operands.toList, cOpd N z = some y := by
      intro k n x' lo' hi' mx' h1 h2 h3 h4 e y hy
      subst e
      simp only [AOp.opds, List.mem_cons, List.mem_append] at hy
      rcases hy with rfl | hy | hy | hy
      · exact ⟨x, by simp [Op.operands], h1⟩
      · obtain ⟨z, hz, e⟩ := cOpdO_mem h2 y hy; exact ⟨z, by simp [Op.operands] at hz ⊢; simp [hz], e⟩
      · obtain ⟨z, hz, e⟩ := cOpdO_mem h3 y hy; exact ⟨z, by simp [Op.operands] at hz ⊢; simp [hz], e⟩
      · obtain ⟨z, hz, e⟩ := cOpdO_mem h4 y hy; exact ⟨z, by simp [Op.operands] at hz ⊢; simp [hz], e⟩
    simp only [cOp, cSliceOp] at hc
    split at hc
    · rename_i x' lo' hi' mx' h1 h2 h3 h4
      split at hc
      · cases hc
      · split at hc
        · split at hc
          · exact fin h1 h2 h3 h4 (sm hc).symm
          · cases hc
        · split at hc
          · exact fin h1 h2 h3 h4 (sm hc).symm
          · cases hc
        · split at hc
          · exact fin h1 h2 h3 h4 (sm hc).symm
          · cases hc
        · cases hc
    · cases hc
  | fieldAddr ty x f =>
    simp only [cOp] at hc
    repeat' split at hc
    all_goals first
      | (cases hc; done)
      | exact c1 hc (fun _ => rfl) (by simp [Op.operands])
  | field ty x f =>
    simp only [cOp] at hc
    repeat' split at hc
    all_goals first
      | (cases hc; done)
      | exact c1 hc (fun _ => rfl) (by simp [Op.operands])
  | indexAddr ty x i =>
    simp only [cOp, cIndexAddr] at hc
    repeat' split at hc
    all_goals first
      | (cases hc; done)
      | exact c2 hc (fun _ _ => rfl) (by simp [Op.operands]) (by simp [Op.operands])
  | index ty x i =>
    simp only [cOp, cIndex] at hc
    repeat' split at hc
    all_goals first
      | (cases hc; done)
      | exact c2 hc (fun _ _ => rfl) (by simp [Op.operands]) (by simp [Op.operands])
  | lookup ty x k ok =>
    simp only [cOp, cLookup] at hc
    split at hc
    · split at hc
      · split at hc
        · rename_i x' k' hx' hk'
          have := sm hc; subst this
          intro y hy
          simp [AOp.opds] at hy
          rcases hy with rfl | rfl
          · exact ⟨x, by simp [Op.operands], hx'⟩
          · exact ⟨k, by simp [Op.operands], hk'⟩
        · cases hc
      · cases hc
    · cases hc
  | mapUpdate ty m k x =>
    simp only [cOp, cMapUpdate] at hc
    repeat' split at hc
    all_goals first
      | (cases hc; done)
      | exact c3 hc (fun _ _ _ => rfl) (by simp [Op.operands]) (by simp [Op.operands]) (by simp [Op.operands])
  | mapEntry ty m k =>
    simp only [cOp, cMapEntry] at hc
    repeat' split at hc
    all_goals first
      | (cases hc; done)
      | exact c2 hc (fun _ _ => rfl) (by simp [Op.operands]) (by simp [Op.operands])
  | entryStore ty m k x => exact c3 hc (fun _ _ _ => rfl) (by simp [Op.operands]) (by simp [Op.operands]) (by simp [Op.operands])
  | typeAssert x ty at' ok =>
    simp only [cOp, cTypeAssert] at hc
    repeat' split at hc
    all_goals first
      | (cases hc; done)
      | exact c1 hc (fun _ => rfl) (by simp [Op.operands])
  | extract x i => exact c1 hc (fun _ => rfl) (by simp [Op.operands])
  | call c =>
    simp only [cOp, cCall] at hc
    split at hc
    · rename_i f hcal
      split at hc
      · rename_i f' as hf has
        have := sm hc; subst this
        intro y hy
        simp only [AOp.opds, List.mem_cons] at hy
        rcases hy with rfl | hy
        · exact ⟨f, by simp [Op.operands, Call.operands, hcal], hf⟩
        · obtain ⟨x, hx, e⟩ := cOpds_mem has y hy; exact ⟨x, by simp [Op.operands, Call.operands, hcal]; exact .inr (by simpa using hx), e⟩
      · cases hc
    · rename_i f nm hcal
      split at hc
      · rename_i f' as hf has
        have := sm hc; subst this
        intro y hy
        simp only [AOp.opds, List.mem_cons] at hy
        rcases hy with rfl | hy
        · exact ⟨f, by simp [Op.operands, Call.operands, hcal], hf⟩
        · obtain ⟨x, hx, e⟩ := cOpds_mem has y hy; exact ⟨x, by simp [Op.operands, Call.operands, hcal]; exact .inr (by simpa using hx), e⟩
      · cases hc
    · rename_i b hcal
      unfold cBuiltin at hc
      split at hc
      · cases hc
      · rename_i as has
        have mem : ∀ y ∈ as, ∃ x ∈ (Op.call c).operands.toList, cOpd N x = some y := by
          intro y hy
          obtain ⟨x, hx, e⟩ := cOpds_mem has y hy
          exact ⟨x, by simp only [Op.operands, Call.operands, hcal]; simpa using hx, e⟩
        repeat' split at hc
        all_goals first
          | (cases hc; done)
          | (have := sm hc; subst this; intro y hy; simp only [AOp.opds] at hy; first | exact mem y hy | (simp at hy; done))
          | (have := sm hc; subst this; intro y hy; exact mem y hy)
  | defer c =>
    simp only [cOp] at hc
    split at hc
    · rename_i f hcal
      split at hc
      · rename_i f' as hf has
        have := sm hc; subst this
        intro y hy
        simp only [AOp.opds, List.mem_cons] at hy
        rcases hy with rfl | hy
        · exact ⟨f, by simp [Op.operands, Call.operands, hcal], hf⟩
        · obtain ⟨x, hx, e⟩ := cOpds_mem has y hy; exact ⟨x, by simp [Op.operands, Call.operands, hcal]; exact .inr (by simpa using hx), e⟩
      · cases hc
    · cases hc
  | panic x => exact c1 hc (fun _ => rfl) (by simp [Op.operands])
  | _ => simp [cOp] at hc
end
end A3
namespace A3
open Go
section
variable {P : Program} {c : Frame} {cs : List Frame} {w w' : World} {m : Sem Next} {M : Machine}
def Goes (P : Program) (c : Frame) (cs : List Frame) (w : World) (m : Sem Next) (M : Machine) : Prop :=
  ∃ fr1 cs1 w1, (stepG.apply P true c cs none m w).bare = .go { frame := fr1, callers := cs1, status := .running, dying := none } w1 ∧ Steps P (lone fr1 cs1 w1) M
theorem goes_value {v : Value} (h : m.run P w = .ok (.value v) w') : Goes P c cs w m (lone (c.finish v) cs w') := by
  refine ⟨c.finish v, cs, w', ?_, .refl _ _⟩
  simp [stepG.apply, Sem.runT_eq, h, GStep.bare_after]
theorem goes_congr {m' : Sem Next} (e : m.run P w = m'.run P w) (h : Goes P c cs w m' M) : Goes P c cs w m M := by
  obtain ⟨fr1, cs1, w1, h1, h2⟩ := h
  refine ⟨fr1, cs1, w1, ?_, h2⟩
  simpa [stepG.apply, Sem.runT_eq, e] using h1
theorem goes_skip (h : m.run P w = .ok .skip w') : Goes P c cs w m (lone (c.finish undef) cs w') := by
  refine ⟨c.finish undef, cs, w', ?_, .refl _ _⟩
  simp [stepG.apply, Sem.runT_eq, h, GStep.bare_after]
theorem goes_panic {v : Value} (h : m.run P w = .halt (.panic v) w') : Goes P c cs w m (lone (c.raise [{ v, recovered := false }]) cs w') := by
  refine ⟨c.raise [{ v, recovered := false }], cs, w', ?_, .refl _ _⟩
  simp [stepG.apply, Sem.runT_eq, h, GStep.bare_after]
def plainTodo (fr : Frame) : Prop := ∀ d x r s k, fr.todo ≠ .call d x r s :: k
theorem goes_enter {f : FuncId} {args : Array Value} (h : m.run P w = .ok (.enter f args) w') (hc : plainTodo c) (hs : Steps P (lone (Frame.enter P f args .normal) (c :: cs) w') M) : Goes P c cs w m M := by
  refine ⟨_, _, w', ?_, hs⟩
  simp only [stepG.apply, Sem.runT_eq, h, if_true, GStep.bare_after]
  congr 2
  split
  · rename_i ht; exact absurd ht (hc _ _ _ _ _)
  · rfl
theorem goes_round {l : Nat} {f : FuncId} {tmps : Array Value} {assign body : Code} (h : m.run P w = .ok (.round l f tmps assign body) w') (hs : Steps P (lone (Frame.round l f tmps assign body .normal) (c :: cs) w') M) : Goes P c cs w m M := by
  refine ⟨_, _, w', ?_, hs⟩
  simp [stepG.apply, Sem.runT_eq, h, GStep.bare_after]
theorem goes_defer {d : Deferred} (h : m.run P w = .ok (.defer d) w') : Goes P c cs w m (lone ({ c with defers := d :: c.defers }.finish undef) cs w') := by
  refine ⟨_, _, w', ?_, .refl _ _⟩
  simp [stepG.apply, Sem.runT_eq, h, GStep.bare_after]
theorem goes_recover {r : Option (Value × List Frame)} (h : m.run P w = .ok .recover w') (hc : c.roundOf = none) (hr : tryRecover c cs = r) :
    Goes P c cs w m (match r with | some (v, cs') => lone (c.finish v) cs' w' | none => lone (c.finish .nilIface) cs w') := by
  cases r with
  | none =>
    refine ⟨_, _, w', ?_, .refl _ _⟩
    simp [stepG.apply, Sem.runT_eq, h, GStep.bare_after, hc, hr]
  | some x =>
    obtain ⟨v, cs'⟩ := x
    refine ⟨_, _, w', ?_, .refl _ _⟩
    simp [stepG.apply, Sem.runT_eq, h, GStep.bare_after, hc, hr]
theorem op_steps {b : Frame} {a : Act} {ops : Array Oper} {i : Nat} {rest : List Nat} {k : List Item} {o : Oper} (ho : ops[i]? = some o) (hw : Region.wanted o (yielded ops a.tmps) = true)
    (h : Goes P (b.atR a (.inRegion ops (i :: rest) :: k)) cs w (o.semAt b.roundOf a.eval) M) : Steps P (lone (b.atR a (.inRegion ops (i :: rest) :: k)) cs w) M := by
  obtain ⟨fr1, cs1, w1, h1, h2⟩ := h
  exact .head (step_lone_go (by rw [stepGR_op ho hw]; exact h1)) h2
theorem plain_inRegion {b : Frame} {a : Act} {ops : Array Oper} {l : List Nat} {k : List Item} : plainTodo (b.atR a (.inRegion ops l :: k)) := by
  intro d x r s k' h; simp [Frame.atR] at h
end
section
variable (P : Prog)
def one (n : Nat) (op : AOp) (x : Ctx) (fr : Fr) (s : St) : Option ((Fr × AV × St) ⊕ (AV × St)) :=
  match op with
  | .call f args => match den P n (.apply (f.eval fr.tmps) (evals fr.tmps args) ctxN s) with
    | some (.out (.ret v) _ s) => some (.inl (fr, v, s))
    | some (.out (.panic v) _ s) => some (.inr (v, s))
    | _ => none
  | .invoke r ms args => match r.eval fr.tmps with
    | .iface t v => match findM t ms with
      | some f => match den P n (.apply (.func (.fn f) [] []) (v :: evals fr.tmps args) ctxN s) with
        | some (.out (.ret v) _ s) => some (.inl (fr, v, s))
        | some (.out (.panic v) _ s) => some (.inr (v, s))
        | _ => none
      | none => none
    | _ => none
  | .recover => match x.round, x.pend, fr.recd with
    | some _, _, _ => none
    | none, some (some v), false => some (.inl ({ fr with recd := true }, v, s))
    | none, _, _ => some (.inl (fr, .nilIface, s))
  | .defer f args => match x.round, f.eval fr.tmps with
    | none, .func _ _ _ => some (.inl ({ fr with defers := { f := f.eval fr.tmps, args := evals fr.tmps args } :: fr.defers }, .dead, s))
    | _, _ => none
  | .panic v => match v.eval fr.tmps with
    | .iface t v => some (.inr (.iface t v, s))
    | _ => none
  | op => match step op fr.tmps s with
    | some (v, s) => some (.inl (fr, v, s))
    | none => none
theorem den_ops_cons (n : Nat) (o : AOper) (l : List AOper) (x : Ctx) (fr : Fr) (s : St) :
    den P (n + 1) (.ops (o :: l) x fr s) = match wanted fr.tmps o.guard with
      | none => none
      | some false => den P n (.ops l x { fr with tmps := putDst fr.tmps o.dst (.tuple []) } s)
      | some true => match one P n o.op x fr s with
        | none => none
        | some (.inl (fr', v, s')) => match again (putDst fr'.tmps o.dst v) s' o.again with
          | true => den P n (.ops l x { fr' with tmps := putDst fr'.tmps o.dst v } s')
          | false => none
        | some (.inr (v, s')) => some (.ex (.panic v) { fr with tmps := killAll fr.tmps o.kill } s') := by
  conv => lhs; unfold den
  simp only
  rcases wanted fr.tmps o.guard with _ | _ | _
  · rfl
  · rfl
  · simp only
    unfold one
    cases o.op with
    | call f args =>
      simp only
      generalize den P n (.apply (f.eval fr.tmps) (evals fr.tmps args) ctxN s) = r
      rcases r with _ | r
      · rfl
      · cases r with
        | ex e fr s => rfl
        | out o' b s' => cases o' <;> rfl
    | invoke r ms args =>
      simp only
      generalize r.eval fr.tmps = rv
      cases rv with
      | iface t v =>
        simp only
        generalize findM t ms = q
        cases q with
        | none => rfl
        | some f =>
          simp only
          generalize den P n (.apply (.func (.fn f) [] []) (v :: evals fr.tmps args) ctxN s) = r
          rcases r with _ | r
          · rfl
          · cases r with
            | ex e fr s => rfl
            | out o' b s' => cases o' <;> rfl
      | _ => rfl
    | recover =>
      simp only
      generalize x.round = q1
      generalize x.pend = q2
      cases q1 with
      | none =>
        cases q2 with
        | none => rfl
        | some p =>
          cases p with
          | none => rfl
          | some v =>
            obtain ⟨tm, ds, rc⟩ := fr
            cases rc <;> rfl
      | some l => rfl
    | defer f args =>
      simp only
      generalize x.round = q1
      cases q1 with
      | none => cases f.eval fr.tmps <;> rfl
      | some l => rfl
    | panic v =>
      simp only
      generalize v.eval fr.tmps = rv
      cases rv <;> rfl
    | _ =>
      simp only
      generalize step _ fr.tmps s = r
      rcases r with _ | ⟨v, s'⟩ <;> rfl
end
end A3
namespace A3
open Go
inductive DR [Sig] (ρ : Ren) : List ADefer → List Deferred → List Nat → Prop where
  | nil : DR ρ [] [] []
  | call {d : ADefer} {ds : List ADefer} {fn : Fn} {first cap args : Array Value} {Ds : List Deferred} {M : List Nat} (hf : VR ρ d.f (.func fn first cap)) (ha : VRs ρ d.args args.toList) (t : DR ρ ds Ds M) :
      DR ρ (d :: ds) ({ target := .fn fn cap, args := first ++ args } :: Ds) M
  | mark {ds : List ADefer} {Ds : List Deferred} {M : List Nat} (b : Nat) (t : DR ρ ds Ds M) : DR ρ ds ({ target := .collected b, args := #[] } :: Ds) (b :: M)
theorem DR.mono [Sig] {ρ ρ' : Ren} (hr : ρ.le ρ') : ∀ {ds : List ADefer} {Ds : List Deferred} {M : List Nat}, DR ρ ds Ds M → DR ρ' ds Ds M
  | _, _, _, .nil => .nil
  | _, _, _, .call hf ha t => .call (hf.mono hr) (ha.mono hr) (t.mono hr)
  | _, _, _, .mark b t => .mark b (t.mono hr)
structure Cx where
  b : Frame
  cs : Bool → List Frame
structure CxOk [Sig] (ρ : Ren) (x : Ctx) (c : Cx) : Prop where
  plain : x.round = none → c.b.roundOf = none
  round : ∀ n, x.round = some n → c.b.kind = .normal ∧ ∃ l, c.b.roundOf = some l ∧ ρ n = some (l, ⟨0, 0⟩)
  fresh : x.round = none → ∀ v, x.pend = some (some v) → ∃ u, VR ρ v u ∧ ∀ fr : Frame, fr.kind = c.b.kind → tryRecover fr (c.cs false) = some (u, c.cs true)
  again : x.round = none → ∀ (fr : Frame) (r : Bool), fr.kind = c.b.kind → (∀ v, x.pend = some (some v) → r = true) → tryRecover fr (c.cs r) = none
theorem CxOk.mono [Sig] {ρ ρ' : Ren} (hr : ρ.le ρ') {x : Ctx} {c : Cx} (h : CxOk ρ x c) : CxOk ρ' x c :=
  ⟨h.plain, fun n e => let ⟨h1, l, h2, h3⟩ := h.round n e; ⟨h1, l, h2, hr _ _ h3⟩, fun e v e' => let ⟨u, h1, h2⟩ := h.fresh e v e'; ⟨u, h1.mono hr, h2⟩, h.again⟩
structure FR [Sig] (ρ : Ren) (N : Nat) (fr : Fr) (a : Act) (M : List Nat) : Prop where
  tmps : TR ρ N fr.tmps a.tmps
  defers : DR ρ fr.defers a.defers M
theorem FR.mono [Sig] {ρ ρ' : Ren} (hr : ρ.le ρ') {N : Nat} {fr : Fr} {a : Act} {M : List Nat} (h : FR ρ N fr a M) : FR ρ' N fr a M := ⟨h.tmps.mono hr, h.defers.mono hr⟩
def ArrR [Sig] (P : Program) (ρ : Ren) (m : Machine) (b : Frame) (k : List Item) (cs : List Frame) (a : Act) (w : World) : Ex → Prop
  | .normal => Steps P m (lone (b.atR a k) cs w)
  | .exit id => ∃ k1, exitTo id k1 = exitTo id k ∧ Steps P m (lone (b.atR a (.code (.exit id) :: k1)) cs w)
  | .ret => ∃ k1, Steps P m (lone (b.atR a (.code .ret :: k1)) cs w)
  | .panic v => ∃ todo u, VR ρ v u ∧ Steps P m (lone { b.atR a todo with mode := .panicking [{ v := u, recovered := false }] } cs w)
theorem ArrR.of_steps [Sig] {P : Program} {ρ : Ren} {m m1 : Machine} {b : Frame} {k : List Item} {cs : List Frame} {a : Act} {w : World} {e : Ex} (h : Steps P m m1) (h' : ArrR P ρ m1 b k cs a w e) : ArrR P ρ m b k cs a w e := by
  cases e with
  | normal => exact h.trans h'
  | exit id => obtain ⟨k1, h1, h2⟩ := h'; exact ⟨k1, h1, h.trans h2⟩
  | ret => obtain ⟨k1, h2⟩ := h'; exact ⟨k1, h.trans h2⟩
  | panic v => obtain ⟨todo, u, h1, h2⟩ := h'; exact ⟨todo, u, h1, h.trans h2⟩
theorem ArrR.pass [Sig] {P : Program} {ρ : Ren} {m : Machine} {b : Frame} {x : Item} {k : List Item} {cs : List Frame} {a : Act} {w : World} {e : Ex} (hx : ∀ id, x ≠ .inBlock id) (he : e ≠ .normal) (h : ArrR P ρ m b (x :: k) cs a w e) : ArrR P ρ m b k cs a w e := by
  cases e with
  | normal => exact absurd rfl he
  | exit id =>
    obtain ⟨k1, h1, h2⟩ := h
    refine ⟨k1, ?_, h2⟩
    rw [h1]
    cases x <;> first | rfl | exact absurd rfl (hx _)
  | ret => exact h
  | panic v => exact h
end A3
namespace A3
open Go
section
variable {P : Program} {A : Prog} {N : Nat} {C : CC} {B : Nat} {w0 : World} {X : List Nat}
def SApply [Sig] (P : Program) (A : Prog) (C : CC) (B : Nat) (w0 : World) (n : Nat) : Prop :=
  ∀ f args s o recd s', den A n (.apply f args ctxN s) = some (.out o recd s') →
    ∀ (X : List Nat) (ρ : Ren) (w : World) (fn : Fn) (first cap as : Array Value) (c : Frame) (cs : List Frame), VR ρ f (.func fn first cap) → VRs ρ args as.toList → HR C B w0 X ρ s w → plainTodo c →
      ∃ ρ' w' u, Ext ρ s ρ' s' ∧ HR C B w0 X ρ' s' w' ∧ match o with
        | .ret v => VR ρ' v u ∧ Goes P c cs w (invoke (.fn fn cap) (first ++ as)) (lone (c.finish u) cs w')
        | .panic v => VR ρ' v u ∧ Goes P c cs w (invoke (.fn fn cap) (first ++ as)) (lone (c.raise [{ v := u, recovered := false }]) cs w')
theorem main_cases {a : AOp} (h : a.main = true) : a.isAct = true ∨ (∃ f as, a = .call f as) ∨ (∃ r ms as, a = .invoke r ms as) ∨ a = .recover ∨ (∃ f as, a = .defer f as) ∨ (∃ x, a = .panic x) := by
  cases a <;> simp [AOp.main, AOp.isAct] at *
  rename_i b args
  cases b <;> simp at *
theorem float_cases {op : Op} {a : AOp} (hc : cOp P N op = some a) (h : a.main = false) : a.pure = true ∨ a.isAlloc = true := by
  have : a ≠ .bad := by
    intro e; subst e
    cases op <;> simp only [cOp, cBin, cEql, cConvert, cSliceOp, cIndexAddr, cIndex, cLookup, cMapUpdate, cMapEntry, cTypeAssert, cBuiltin, cCall, opd1, opd2, opd3, reduceCtorEq] at hc
    all_goals
      repeat' split at hc
      all_goals cases hc
  cases a <;> simp [AOp.main, AOp.pure, AOp.isAlloc] at *
  rename_i b args
  cases b <;> simp at *
def OneOk [Sig] (P : Program) (C : CC) (B : Nat) (w0 : World) (X : List Nat) (c : Cx) (ρ : Ren) (fr : Fr) (s : St) (a : Act) (M : List Nat) (w : World) (o : Oper) (todo : List Item) :
    ((Fr × AV × St) ⊕ (AV × St)) → Prop
  | .inl (fr', v, s') => fr'.tmps = fr.tmps ∧ ∃ ρ' w' u a', Ext ρ s ρ' s' ∧ HR C B w0 X ρ' s' w' ∧ DR ρ' fr'.defers a'.defers M ∧ a'.tmps = a.tmps ∧ VR ρ' v u ∧
      Goes P (c.b.atR a todo) (c.cs fr.recd) w (o.semAt c.b.roundOf a.eval) (lone ((c.b.atR a' todo).finish u) (c.cs fr'.recd) w')
  | .inr (v, s') => ∃ ρ' w' u, Ext ρ s ρ' s' ∧ HR C B w0 X ρ' s' w' ∧ VR ρ' v u ∧
      Goes P (c.b.atR a todo) (c.cs fr.recd) w (o.semAt c.b.roundOf a.eval) (lone ((c.b.atR a todo).raise [{ v := u, recovered := false }]) (c.cs fr.recd) w')
theorem cOp_call {o : Oper} {f : Opd} {as : List Opd} (hc : cOp P N o.op = some (.call f as)) : ∃ (c : Call) (x : Operand), o.op = .call c ∧ c.callee = .value x ∧ cOpd N x = some f ∧ cOpds N c.args.toList = some as := by
  cases hop : o.op with
  | call c =>
    rw [hop] at hc
    simp only [cOp, cCall] at hc
    split at hc
    · rename_i x hx
      split at hc
      · rename_i f' as' hf has
        simp only [Option.some.injEq, AOp.call.injEq] at hc
        obtain ⟨rfl, rfl⟩ := hc
        exact ⟨c, x, rfl, hx, hf, has⟩
      · cases hc
    · split at hc <;> simp at hc
    · unfold cBuiltin at hc
      repeat' split at hc
      all_goals first
        | (cases hc; done)
        | (simp at hc; done)
  | _ =>
    rw [hop] at hc
    simp only [cOp, cBin, cEql, cConvert, cSliceOp, cIndexAddr, cIndex, cLookup, cMapUpdate, cMapEntry, cTypeAssert, opd1, opd2, opd3, reduceCtorEq] at hc
    repeat' split at hc
    all_goals first
      | (cases hc; done)
      | (simp at hc; done)
theorem cOp_invoke {o : Oper} {f : Opd} {ms : List (Nat × Nat)} {as : List Opd} (hc : cOp P N o.op = some (.invoke f ms as)) :
    ∃ (c : Call) (x : Operand) (name : String), o.op = .call c ∧ c.callee = .invoke x name ∧ cOpd N x = some f ∧ cOpds N c.args.toList = some as ∧ ms = methodsC P name := by
  cases hop : o.op with
  | call c =>
    rw [hop] at hc
    simp only [cOp, cCall] at hc
    split at hc
    · split at hc <;> simp at hc
    · rename_i x name hx
      split at hc
      · rename_i f' as' hf has
        simp only [Option.some.injEq, AOp.invoke.injEq] at hc
        obtain ⟨rfl, rfl, rfl⟩ := hc
        exact ⟨c, x, name, rfl, hx, hf, has, rfl⟩
      · cases hc
    · unfold cBuiltin at hc
      repeat' split at hc
      all_goals first
        | (cases hc; done)
        | (simp at hc; done)
  | _ =>
    rw [hop] at hc
    simp only [cOp, cBin, cEql, cConvert, cSliceOp, cIndexAddr, cIndex, cLookup, cMapUpdate, cMapEntry, cTypeAssert, opd1, opd2, opd3, reduceCtorEq] at hc
    repeat' split at hc
    all_goals first
      | (cases hc; done)
      | (simp at hc; done)
theorem findM_mem {t f : Nat} : ∀ {ms : List (Nat × Nat)}, findM t ms = some f → (t, f) ∈ ms
  | [], h => by simp [findM] at h
  | (u, g) :: l, h => by
    simp only [findM] at h
    split at h
    · rename_i he
      simp at h; subst h
      rw [Nat.eq_of_beq_eq_true he]; exact List.mem_cons_self
    · exact List.mem_cons_of_mem _ (findM_mem h)
theorem method_run [Sig] {t f : Nat} {name : String} {v : Value} {w : World} (h : findM t (methodsC P name) = some f) (m : Nat) : (method (m + 1) t v name).run P w = .ok (f, v) w := by
  have hm := findM_mem h
  unfold methodsC at hm
  rw [List.mem_filterMap] at hm
  obtain ⟨t', _, hm⟩ := hm
  split at hm
  · rename_i i hi
    split at hm
    · rename_i mt hmt
      split at hm
      · rename_i hp
        split at hm
        · cases hm
        · rename_i g _ d hnp hfun hu
          simp only [Option.some.injEq, Prod.mk.injEq] at hm
          obtain ⟨rfl, rfl⟩ := hm
          have hpath : mt.path.toList = [] := by simpa using hp
          simp only [method, Sem.run_bind, run_info hi, Result.andThen_ok, hmt, hpath, follow, Sem.run_pure, hfun]
          simp only [receiverAt, Sem.run_bind, run_under hu, Result.andThen_ok]
          simp [Place.get]
        · cases hm
      · cases hm
    · cases hm
  · cases hm
theorem cOp_recover {o : Oper} (hc : cOp P N o.op = some .recover) : ∃ (c : Call), o.op = .call c ∧ c.callee = .builtin .recover := by
  cases hop : o.op with
  | call c =>
    rw [hop] at hc
    simp only [cOp, cCall] at hc
    split at hc
    · split at hc <;> cases hc
    · split at hc <;> cases hc
    · rename_i b hb
      refine ⟨c, rfl, ?_⟩
      rw [hb]
      unfold cBuiltin at hc
      repeat' split at hc
      all_goals first
        | rfl
        | (cases hc; done)
        | (simp at hc; done)
  | _ =>
    rw [hop] at hc
    simp only [cOp, cBin, cEql, cConvert, cSliceOp, cIndexAddr, cIndex, cLookup, cMapUpdate, cMapEntry, cTypeAssert, opd1, opd2, opd3, reduceCtorEq] at hc
    repeat' split at hc
    all_goals first
      | (cases hc; done)
      | (simp at hc; done)
theorem cOp_defer {o : Oper} {f : Opd} {as : List Opd} (hc : cOp P N o.op = some (.defer f as)) : ∃ (c : Call) (x : Operand), o.op = .defer c ∧ c.callee = .value x ∧ cOpd N x = some f ∧ cOpds N c.args.toList = some as := by
  cases hop : o.op with
  | defer c =>
    rw [hop] at hc
    simp only [cOp] at hc
    split at hc
    · rename_i x hx
      split at hc
      · rename_i f' as' hf has
        simp only [Option.some.injEq, AOp.defer.injEq] at hc
        obtain ⟨rfl, rfl⟩ := hc
        exact ⟨c, x, rfl, hx, hf, has⟩
      · cases hc
    · cases hc
  | _ =>
    rw [hop] at hc
    simp only [cOp, cBin, cEql, cConvert, cSliceOp, cIndexAddr, cIndex, cLookup, cMapUpdate, cMapEntry, cTypeAssert, cCall, cBuiltin, opd1, opd2, opd3, reduceCtorEq] at hc
    repeat' split at hc
    all_goals first
      | (cases hc; done)
      | (simp at hc; done)
end
end A3
namespace A3
open Go
section
variable {P : Program} {A : Prog} {N : Nat} {C : CC} {B : Nat} {w0 : World} {X : List Nat} {c : Cx} {ρ : Ren} {fr : Fr} {s : St} {a : Act} {M : List Nat} {w : World} {o : Oper} {todo : List Item} {x : Ctx}
theorem execOp_panic [Sig] {ev : Operand → Value} {y : Opd} {t : Tmps} (hc : cOp P N o.op = some (.panic y)) (hE : ∀ z ∈ o.op.operands.toList, ER ρ N t ev z) {ty : Nat} {v : AV} (hy : y.eval t = .iface ty v) :
    (∀ cl, o.op ≠ .defer cl) ∧ ∃ u, VR ρ (.iface ty v) u ∧ (execOp ev o).run P w = .halt (.panic u) w := by
  cases hop : o.op with
  | panic z =>
    rw [hop] at hc hE
    obtain ⟨y', hy', e⟩ := opd1_eq hc
    simp only [AOp.panic.injEq] at e; subst e
    have hr := hE z (by simp [Op.operands]) _ hy'
    rw [hy] at hr
    obtain ⟨u, hu, huv⟩ := hr.of_iface
    refine ⟨by simp, ev z, by rw [hu]; exact .iface huv, ?_⟩
    simp [execOp, hop, Instr.panic, hu]
  | call cl =>
    rw [hop] at hc hE
    simp only [cOp, cCall] at hc
    split at hc
    · split at hc <;> cases hc
    · split at hc <;> cases hc
    · rename_i b hb
      have hE' : ∀ z ∈ cl.args.toList, ER ρ N t ev z := fun z hz => hE z (by simp only [Op.operands, Call.operands, hb]; simpa using hz)
      obtain ⟨cs, hcs⟩ := run_builtin (P := P) (w := w) (ev := ev) hop hb
      unfold cBuiltin at hc
      split at hc
      · cases hc
      · rename_i as has
        have hvr : VRs ρ (evals t as) (cl.args.map ev).toList := by
          have := cOpds_VR (t := t) has hE'
          simpa using this
        split at hc
        case h_9 =>
          split at hc
          · rename_i z
            simp only [Option.some.injEq, AOp.panic.injEq] at hc; subst hc
            obtain ⟨u, hu', hvu⟩ := evals_one hvr (rfl : evals t [z] = [z.eval t])
            rw [hy] at hvu
            obtain ⟨u', rfl, huv⟩ := hvu.of_iface
            refine ⟨by simp, .iface ty u', .iface huv, ?_⟩
            rw [hcs, arr_of_list hu']
            simp [builtin, Instr.panic]
          · cases hc
        all_goals
          repeat' split at hc
          all_goals first
            | (cases hc; done)
            | (simp at hc; done)
  | _ =>
    rw [hop] at hc
    simp only [cOp, cBin, cEql, cConvert, cSliceOp, cIndexAddr, cIndex, cLookup, cMapUpdate, cMapEntry, cTypeAssert, opd1, opd2, opd3, reduceCtorEq] at hc
    repeat' split at hc
    all_goals first
      | (cases hc; done)
      | (simp at hc; done)
theorem notDefer_sem {ro : Option Nat} {ev : Operand → Value} (h : ∀ cl, o.op ≠ .defer cl) : o.semAt ro ev = execOp ev o := Oper.semAt_eq ro ev o h
theorem one_main [Sig] {n : Nat} {aop : AOp} {r : (Fr × AV × St) ⊕ (AV × St)} (hA : SApply P A C B w0 n) (hc : cOp P N o.op = some aop) (hm : aop.main = true) (h1 : one A n aop x fr s = some r)
    (hE : ∀ z ∈ o.op.operands.toList, ER ρ N fr.tmps a.eval z) (hd : DR ρ fr.defers a.defers M) (hx : CxOk ρ x c) (h : HR C B w0 X ρ s w) (ht : plainTodo (c.b.atR a todo)) :
    OneOk P C B w0 X c ρ fr s a M w o todo r := by
  rcases main_cases hm with hact | ⟨f, as, rfl⟩ | ⟨rr, ms, as, rfl⟩ | rfl | ⟨f, as, rfl⟩ | ⟨y, rfl⟩
  ·
    have hnd : ∀ cl, o.op ≠ .defer cl := by
      intro cl e
      rw [e] at hc
      simp only [cOp] at hc
      split at hc
      · split at hc
        · simp only [Option.some.injEq] at hc; subst hc; simp [AOp.isAct] at hact
        · cases hc
      · cases hc
    have hone : one A n aop x fr s = match step aop fr.tmps s with | some (v, s) => some (.inl (fr, v, s)) | none => none := by
      cases aop <;> simp [AOp.isAct] at hact <;> rfl
    rw [hone] at h1
    split at h1
    · rename_i v s' hs
      simp only [Option.some.injEq] at h1; subst h1
      obtain ⟨ρ', w', r', hr, hv, h2, h3⟩ := act_sound hc hact hs hE h
      rcases hv with ⟨rfl, rfl⟩ | ⟨u, rfl, hu⟩
      · exact ⟨rfl, ρ', w', undef, a, h3, h2, hd.mono h3.le, rfl, .dead _, by rw [notDefer_sem hnd]; exact goes_skip hr⟩
      · exact ⟨rfl, ρ', w', u, a, h3, h2, hd.mono h3.le, rfl, hu, by rw [notDefer_sem hnd]; exact goes_value hr⟩
    · cases h1
  ·
    obtain ⟨cl, z, hop, hcal, hz, has⟩ := cOp_call hc
    have hnd : ∀ cl, o.op ≠ .defer cl := by intro cl' e; rw [hop] at e; cases e
    have hEz : ER ρ N fr.tmps a.eval z := hE z (by simp [hop, Op.operands, Call.operands, hcal])
    have hargs := cOpds_VR (t := fr.tmps) has fun y hy => hE y (by simp [hop, Op.operands, Call.operands, hcal]; exact .inr (by simpa using hy))
    have hf := hEz _ hz
    simp only [one] at h1
    have hfun : ∃ g p q, f.eval fr.tmps = .func g p q := by
      cases n with
      | zero => simp [den] at h1
      | succ n =>
        cases hfe : f.eval fr.tmps with
        | func g p q => exact ⟨g, p, q, rfl⟩
        | _ => rw [hfe] at h1; simp [den] at h1
    obtain ⟨g, p, q, hfe⟩ := hfun
    have hF : ∃ fn first cap, a.eval z = .func fn first cap := by
      rw [hfe] at hf
      generalize a.eval z = u at hf
      cases hf with
      | func => exact ⟨_, _, _, rfl⟩
      | yield => exact ⟨_, _, _, rfl⟩
    obtain ⟨fn, first, cap, hF⟩ := hF
    rw [hF] at hf
    have hsem : execOp a.eval o = invoke (.fn fn cap) (first ++ cl.args.map a.eval) := by
      simp only [execOp, hop, resolve, hcal, hF, Deferred.ofValue]; rfl
    split at h1
    · rename_i v rc s' hden
      simp only [Option.some.injEq] at h1; subst h1
      obtain ⟨ρ', w', u, h2, h3, h4, h5⟩ := hA _ _ _ _ _ _ hden X ρ w fn first cap (cl.args.map a.eval) (c.b.atR a todo) (c.cs fr.recd) hf (by simpa using hargs) h ht
      exact ⟨rfl, ρ', w', u, a, h2, h3, hd.mono h2.le, rfl, h4, by rw [notDefer_sem hnd, hsem]; exact h5⟩
    · rename_i v rc s' hden
      simp only [Option.some.injEq] at h1; subst h1
      obtain ⟨ρ', w', u, h2, h3, h4, h5⟩ := hA _ _ _ _ _ _ hden X ρ w fn first cap (cl.args.map a.eval) (c.b.atR a todo) (c.cs fr.recd) hf (by simpa using hargs) h ht
      exact ⟨ρ', w', u, h2, h3, h4, by rw [notDefer_sem hnd, hsem]; exact h5⟩
    · cases h1
  ·
    obtain ⟨cl, z, name, hop, hcal, hz, has, rfl⟩ := cOp_invoke hc
    have hnd : ∀ cl, o.op ≠ .defer cl := by intro cl' e; rw [hop] at e; cases e
    have hEz : ER ρ N fr.tmps a.eval z := hE z (by simp [hop, Op.operands, Call.operands, hcal])
    have hargs := cOpds_VR (t := fr.tmps) has fun y hy => hE y (by simp [hop, Op.operands, Call.operands, hcal]; exact .inr (by simpa using hy))
    have hf := hEz _ hz
    simp only [one] at h1
    split at h1
    · rename_i t v hrv
      rw [hrv] at hf
      split at h1
      · rename_i f hfm
        obtain ⟨u0, hu0, hvu0⟩ := hf.of_iface
        have hrun : (execOp a.eval o).run P w = (invoke (.fn (.func f) #[]) (#[] ++ (#[u0] ++ cl.args.map a.eval))).run P w := by
          have hd : P.types.size + Made.depth = (P.types.size + 99) + 1 := rfl
          have hx : (#[a.eval z] ++ cl.args.map a.eval).extract 1 (#[a.eval z] ++ cl.args.map a.eval).size = cl.args.map a.eval := by
            apply Array.ext'
            rw [Array.toList_extract]
            simp [List.extract]
            exact List.take_of_length_le (by simp)
          simp only [execOp, hop, resolve, hcal, Sem.run_bind, Sem.run_pure, Result.andThen_ok, invoke]
          have h0 : (#[a.eval z] ++ cl.args.map a.eval)[0]? = some (.iface t u0) := by rw [hu0]; simp [Array.getElem?_append]
          simp only [h0, hx, callMethod, Sem.run_bind, run_program, Result.andThen_ok, hd, method_run hfm, Array.append_empty, Array.empty_append]
        have hfn : VR ρ (.func (.fn f) [] []) (.func (.func f) #[] #[]) := .func .nil .nil
        have hargs' : VRs ρ (v :: evals fr.tmps as) (#[u0] ++ cl.args.map a.eval).toList := by
          simpa using VRs.cons hvu0 hargs
        split at h1
        · rename_i v' rc s' hden
          simp only [Option.some.injEq] at h1; subst h1
          obtain ⟨ρ', w', u, h2, h3, h4, h5⟩ := hA _ _ _ _ _ _ hden X ρ w (.func f) #[] #[] (#[u0] ++ cl.args.map a.eval) (c.b.atR a todo) (c.cs fr.recd) hfn hargs' h ht
          exact ⟨rfl, ρ', w', u, a, h2, h3, hd.mono h2.le, rfl, h4, by rw [notDefer_sem hnd]; exact goes_congr hrun h5⟩
        · rename_i v' rc s' hden
          simp only [Option.some.injEq] at h1; subst h1
          obtain ⟨ρ', w', u, h2, h3, h4, h5⟩ := hA _ _ _ _ _ _ hden X ρ w (.func f) #[] #[] (#[u0] ++ cl.args.map a.eval) (c.b.atR a todo) (c.cs fr.recd) hfn hargs' h ht
          exact ⟨ρ', w', u, h2, h3, h4, by rw [notDefer_sem hnd]; exact goes_congr hrun h5⟩
        · cases h1
      · cases h1
    · cases h1
  ·
    obtain ⟨cl, hop, hcal⟩ := cOp_recover hc
    have hnd : ∀ cl, o.op ≠ .defer cl := by intro cl' e; rw [hop] at e; cases e
    obtain ⟨cs, hcs⟩ := run_builtin (P := P) (w := w) (ev := a.eval) hop hcal
    have hrun : (execOp a.eval o).run P w = .ok .recover w := by rw [hcs]; rfl
    have hround : x.round = none := by
      simp only [one] at h1
      split at h1
      · cases h1
      · assumption
      · assumption
    have hro := hx.plain hround
    have hro' : (c.b.atR a todo).roundOf = none := hro
    have nilcase : (∀ v, x.pend = some (some v) → fr.recd = true) → r = .inl (fr, .nilIface, s) → OneOk P C B w0 X c ρ fr s a M w o todo r := by
      intro hp e
      subst e
      have htr := hx.again hround (c.b.atR a todo) fr.recd rfl hp
      exact ⟨rfl, ρ, w, .nilIface, a, Ext.refl _ _, h, hd, rfl, .nilIface, by rw [notDefer_sem hnd]; exact goes_recover (r := none) hrun hro' htr⟩
    simp only [one, hround] at h1
    split at h1
    · rename_i hq; cases hq
    · rename_i v _ hp hrec
      simp only [Option.some.injEq] at h1; subst h1
      obtain ⟨u, hu, htr⟩ := hx.fresh hround v hp
      have htr := htr (c.b.atR a todo) rfl
      refine ⟨rfl, ρ, w, u, a, Ext.refl _ _, h, hd, rfl, hu, ?_⟩
      rw [notDefer_sem hnd, hrec]
      exact goes_recover (r := some (u, c.cs true)) hrun hro' htr
    · rename_i hno
      simp only [Option.some.injEq] at h1
      refine nilcase (fun v hp => ?_) h1.symm
      cases hq : fr.recd with
      | true => rfl
      | false => exact (hno v hp hq).elim
  ·
    obtain ⟨cl, z, hop, hcal, hz, has⟩ := cOp_defer hc
    have hEz : ER ρ N fr.tmps a.eval z := hE z (by simp [hop, Op.operands, Call.operands, hcal])
    have hargs := cOpds_VR (t := fr.tmps) has fun y hy => hE y (by simp [hop, Op.operands, Call.operands, hcal]; exact .inr (by simpa using hy))
    have hf := hEz _ hz
    simp only [one] at h1
    split at h1
    · rename_i g p q hround hfe
      simp only [Option.some.injEq] at h1; subst h1
      have hF : ∃ fn first cap, a.eval z = .func fn first cap := by
        rw [hfe] at hf
        generalize a.eval z = u at hf
        cases hf with
        | func => exact ⟨_, _, _, rfl⟩
        | yield => exact ⟨_, _, _, rfl⟩
      obtain ⟨fn, first, cap, hF⟩ := hF
      rw [hF] at hf
      have hro := hx.plain hround
      have hsem : (o.semAt c.b.roundOf a.eval).run P w = .ok (.defer { target := .fn fn cap, args := first ++ cl.args.map a.eval }) w := by
        rw [hro, Oper.semAt_none]
        simp [execOp, hop, resolve, hcal, hF, Deferred.ofValue]
      exact ⟨rfl, ρ, w, undef, { a with defers := { target := .fn fn cap, args := first ++ cl.args.map a.eval } :: a.defers }, Ext.refl _ _, h, .call hf (by simpa using hargs) hd, rfl, .dead _, goes_defer hsem⟩
    · cases h1
  ·
    simp only [one] at h1
    split at h1
    · rename_i ty v hy
      simp only [Option.some.injEq] at h1; subst h1
      obtain ⟨hnd, u, hu, hr⟩ := execOp_panic (P := P) (w := w) hc hE hy
      exact ⟨ρ, w, u, Ext.refl _ _, h, hu, by rw [notDefer_sem hnd]; exact goes_panic hr⟩
    · cases h1
end
end A3
namespace A3
open Go
section
variable {P : Program} {A : Prog} {N : Nat} {C : CC} {B : Nat} {w0 : World} {X : List Nat} {c : Cx} {ρ : Ren} {fr : Fr} {s : St} {a : Act} {M : List Nat} {w : World} {x : Ctx} {ops : Array Oper}
theorem posOf_inj {i j : Nat} (_hi : i < 1000000) (_hj : j < 1000000) (h : posOf i = posOf j) : i = j := by
  have h1 : (posOf i).toNat = i + 1 := posOf_toNat _
  have h2 : (posOf j).toNat = j + 1 := posOf_toNat _
  rw [h] at h1
  omega
theorem TR.put [Sig] {t : Tmps} {arr : Array Value} (h : TR ρ N t arr) {d : Nat} {v : AV} {u : Value} (hd : d < N) (hN : N ≤ 1000000) (hv : VR ρ v u) : TR ρ N (t.set (posOf d) v) (arr.setIfInBounds d u) := by
  obtain ⟨h1, h2⟩ := h
  refine ⟨by simpa using h1, fun i v' hi hv' => ?_⟩
  rw [T.get_set] at hv'
  by_cases e : posOf d = posOf i
  · rw [if_pos e] at hv'
    have := posOf_inj (by omega) (by omega) e
    subst this
    simp only [Option.some.injEq] at hv'; subst hv'
    exact ⟨u, by simp [h1, hd], hv⟩
  · rw [if_neg e] at hv'
    obtain ⟨u', hu', hr⟩ := h2 i v' hi hv'
    have hne : d ≠ i := fun e' => e (by rw [e'])
    exact ⟨u', by rw [Array.getElem?_setIfInBounds_ne hne]; exact hu', hr⟩
theorem ER_of_TR [Sig] (h : TR ρ N fr.tmps a.tmps) (z : Operand) : ER ρ N fr.tmps a.eval z := by
  intro y hy
  unfold cOpd at hy
  split at hy
  · rename_i t
    split at hy
    · rename_i ht
      simp only [Option.some.injEq] at hy; subst hy
      simp only [Opd.eval, Act.eval]
      cases hg : fr.tmps.get (posOf t) with
      | none => exact .dead _
      | some v =>
        obtain ⟨u, hu, hr⟩ := h.2 t v ht hg
        simp only
        rw [Array.getD_eq_getD_getElem?, hu]; exact hr
    · cases hy
  · rename_i v
    split at hy
    · rename_i av hav
      simp only [Option.some.injEq] at hy; subst hy
      exact constOf_VR hav
    · cases hy
  · cases hy
  · simp only [Option.some.injEq] at hy; subst hy
    exact .func (.nil) (.nil)
theorem wanted_ok [Sig] {o : Oper} {g : Option (Pos × Bool)} {t : Tmps} {arr : Array Value} {b : Bool} (hg : guardC N ops o = some g)
    (hr : ∀ d q, guardTmp ops o = some (some (d, q)) → d < N → ∀ v, t.get (posOf d) = some v → ∃ u, arr[d]? = some u ∧ VR ρ v u) (hw : wanted t g = some b) :
    Region.wanted o (yielded ops arr) = b := by
  unfold guardC at hg
  split at hg
  · cases hg
  · rename_i hgt
    simp only [Option.some.injEq] at hg; subst hg
    simp only [wanted, Option.some.injEq] at hw
    unfold guardTmp at hgt
    split at hgt
    · rename_i hno; simp [Region.wanted, hno, ← hw]
    · split at hgt
      · split at hgt <;> simp at hgt
      · cases hgt
  · rename_i d q hgt
    split at hg
    · rename_i p hp
      simp only [Option.some.injEq] at hg; subst hg
      unfold tmpC at hp
      split at hp
      · rename_i hd
        simp only [Option.some.injEq] at hp; subst hp
        have hr := hr d q hgt hd
        unfold guardTmp at hgt
        split at hgt
        · simp at hgt
        · rename_i j w' hgd
          split at hgt
          · rename_i oj hoj
            split at hgt
            · rename_i d' hd'
              simp only [Option.some.injEq, Prod.mk.injEq] at hgt
              obtain ⟨rfl, rfl⟩ := hgt
              simp only [wanted] at hw
              split at hw
              · rename_i bb hbb
                simp only [Option.some.injEq] at hw; subst hw
                obtain ⟨u, hu, hv⟩ := hr _ hbb
                have := hv.of_bool; subst this
                simp only [Region.wanted, hgd, yielded, hoj, Option.bind_some, hd', hu]
                rfl
              · rename_i hbb
                simp only [Option.some.injEq] at hw; subst hw
                obtain ⟨u, hu, hv⟩ := hr _ hbb
                obtain ⟨cs, rfl, _⟩ := hv.of_tuple
                simp only [Region.wanted, hgd, yielded, hoj, Option.bind_some, hd', hu]
                rfl
              · cases hw
            · simp at hgt
          · cases hgt
      · cases hp
    · cases hg
end
end A3
namespace A3
open Go
section
variable {P : Program} {A : Prog} {N : Nat} {C : CC} {B : Nat} {w0 : World} {X : List Nat} {c : Cx} {ρ : Ren} {fr : Fr} {s : St} {a : Act} {M : List Nat} {w : World} {x : Ctx} {ops : Array Oper} {o : Oper} {todo : List Item}
theorem float_noDefer {aop : AOp} (hc : cOp P N o.op = some aop) (hm : aop.main = false) : ∀ cl, o.op ≠ .defer cl := by
  intro cl e
  rw [e] at hc
  simp only [cOp] at hc
  split at hc
  · split at hc
    · simp only [Option.some.injEq] at hc; subst hc; simp [AOp.main] at hm
    · cases hc
  · cases hc
theorem one_step {aop : AOp} {n : Nat} (hm : aop.pure = true ∨ aop.isAlloc = true) : one A n aop x fr s = match step aop fr.tmps s with | some (v, s) => some (.inl (fr, v, s)) | none => none := by
  cases aop <;> simp [AOp.pure, AOp.isAlloc] at hm <;> rfl
theorem one_float [Sig] {n : Nat} {aop : AOp} {r : (Fr × AV × St) ⊕ (AV × St)} (hc : cOp P N o.op = some aop) (hm : aop.main = false) (h1 : one A n aop x fr s = some r)
    (hE : ∀ z ∈ o.op.operands.toList, ER ρ N fr.tmps a.eval z) (hd : DR ρ fr.defers a.defers M) (h : HR C B w0 X ρ s w) : OneOk P C B w0 X c ρ fr s a M w o todo r := by
  have hnd := float_noDefer hc hm
  have hcase := float_cases hc hm
  rw [one_step hcase] at h1
  split at h1
  · rename_i v s' hs
    simp only [Option.some.injEq] at h1; subst h1
    rcases hcase with hp | ha
    · obtain ⟨rfl, u, hr, hu⟩ := pure_sound (P := P) hc hp hs hE h
      exact ⟨rfl, ρ, w, u, a, Ext.refl _ _, h, hd, rfl, hu, by rw [notDefer_sem hnd]; exact goes_value hr⟩
    · obtain ⟨ty, obj, mk, rfl, rfl, hpl, hlo, hlate⟩ := alloc_sound (C := C) (B := B) (w0 := w0) (X := X) hc ha hs
      obtain ⟨hg, hext⟩ := h.grow ty obj hpl
      have hρ := (h.wr.nxt s.next (Nat.le_refl _)).2
      have hget : ((s.tag ty).alloc obj).heap.get s.next = some obj := by rw [St.alloc_get, St.tag_next, if_pos rfl]
      obtain ⟨y, u, w', hr, h2, hv⟩ := hlate a.eval ρ _ w s.next (fun _ => rfl) hE hg hget hρ (by
        intro t' ht'
        have : (s.tag ty).ty.get s.next = some t' := ht'
        rw [St.tag_ty] at this
        split at this
        · exact this
        · rw [h.ty.fresh _ (Nat.le_refl _)] at this; cases this)
      have he := hext.bind h.wr y (Nat.le_refl _) hρ
      exact ⟨rfl, _, w', u, a, he, h2, hd.mono he.le, rfl, hv, by rw [notDefer_sem hnd]; exact goes_value hr⟩
  · cases h1
end
end A3
namespace A3
open Go
section
variable {P : Program} {A : Prog} {N : Nat} {C : CC} {B : Nat} {w0 : World} {X : List Nat} {c : Cx} {ρ : Ren} {fr : Fr} {s : St} {a : Act} {M : List Nat} {w : World} {x : Ctx} {ops : Array Oper} {o : Oper} {todo : List Item}
theorem one_ok [Sig] {n : Nat} {aop : AOp} {r : (Fr × AV × St) ⊕ (AV × St)} (hA : SApply P A C B w0 n) (hc : cOp P N o.op = some aop) (h1 : one A n aop x fr s = some r)
    (hE : ∀ z ∈ o.op.operands.toList, ER ρ N fr.tmps a.eval z) (hd : DR ρ fr.defers a.defers M) (hx : CxOk ρ x c) (h : HR C B w0 X ρ s w) (ht : plainTodo (c.b.atR a todo)) :
    OneOk P C B w0 X c ρ fr s a M w o todo r := by
  cases hm : aop.main with
  | true => exact one_main hA hc hm h1 hE hd hx h ht
  | false => exact one_float hc hm h1 hE hd h
theorem operC_eq {ao : AOper} (h : operC P N ops o = some ao) : cOp P N o.op = some ao.op ∧ tmpCO N o.dst = some ao.dst ∧ guardC N ops o = some ao.guard ∧ ao.again = [] ∧ ao.kill = [] := by
  unfold operC at h
  split at h
  · rename_i a' d g h1 h2 h3
    simp only [Option.some.injEq] at h; subst h
    exact ⟨h1, h2, h3, rfl, rfl⟩
  · cases h
theorem TR.putDst [Sig] (hN : N ≤ 1000000) {t : Tmps} {act : Act} (h : TR ρ N t act.tmps) {d : Option Nat} {p : Option Pos} (hd : tmpCO N d = some p) {v : AV} {u : Value} (hv : VR ρ v u) : TR ρ N (A3.putDst t p v) (act.put d u).tmps := by
  unfold tmpCO at hd
  split at hd
  · simp at hd; subst hd; exact h
  · rename_i t'
    split at hd
    · rename_i p' hp
      simp at hd; subst hd
      unfold tmpC at hp
      split at hp
      · rename_i hlt
        simp at hp; subst hp
        exact h.put hlt hN hv
      · cases hp
    · cases hd
inductive Ordered (P : Program) (N : Nat) (ops : Array Oper) : List Nat → List AOper → Prop where
  | nil : Ordered P N ops [] []
  | cons {i : Nat} {o : Oper} {ao : AOper} {l : List Nat} {as : List AOper} (ho : ops[i]? = some o) (hc : operC P N ops o = some ao) (t : Ordered P N ops l as) : Ordered P N ops (i :: l) (ao :: as)
theorem ordered_sound [Sig] (hN : N ≤ 1000000) : ∀ (n : Nat) {todo : List Nat} {as : List AOper} {ρ : Ren} {fr : Fr} {s : St} {a : Act} {w : World} {e : Ex} {fr' : Fr} {s' : St}, (∀ m, m < n → SApply P A C B w0 m) → Ordered P N ops todo as →
    den A n (.ops as x fr s) = some (.ex e fr' s') → FR ρ N fr a M → CxOk ρ x c → HR C B w0 X ρ s w → ∀ k,
    ∃ ρ' a' w', Ext ρ s ρ' s' ∧ FR ρ' N fr' a' M ∧ HR C B w0 X ρ' s' w' ∧ ArrR P ρ' (lone (c.b.atR a (.inRegion ops todo :: k)) (c.cs fr.recd) w) c.b k (c.cs fr'.recd) a' w' e
  | 0, _, _, _, _, _, _, _, _, _, _, _, _, h, _, _, _, _ => by simp [den] at h
  | n + 1, _, _, ρ, fr, s, a, w, e, fr', s', hA, .nil, h, hf, hx, hh, k => by
    simp only [den, Option.some.injEq, Res.ex.injEq] at h
    obtain ⟨rfl, rfl, rfl⟩ := h
    exact ⟨ρ, a, w, Ext.refl _ _, hf, hh, .one stepR_region_end⟩
  | n + 1, _, _, ρ, fr, s, a, w, e, fr', s', hA, .cons (i := i) (o := o) (ao := ao) (l := l) (as := as) ho hc t, h, hf, hx, hh, k => by
    obtain ⟨h1, h2, h3, h4, h5⟩ := operC_eq hc
    rw [den_ops_cons] at h
    have hwr : ∀ d q, guardTmp ops o = some (some (d, q)) → d < N → ∀ v, fr.tmps.get (posOf d) = some v → ∃ u, a.tmps[d]? = some u ∧ VR ρ v u := fun d q _ hd v hv => hf.tmps.2 d v hd hv
    split at h
    · cases h
    · rename_i hw
      have hw' := wanted_ok h3 hwr hw
      have hst := stepR_op_skip (P := P) (b := c.b) (a := a) (k := k) (cs := c.cs fr.recd) (w := w) (ops := ops) (i := i) (rest := l) (by simp [ho, hw'])
      simp only [ho, Option.bind_some] at hst
      obtain ⟨ρ', a', w', q1, q2, q3, q4⟩ := ordered_sound hN n (fun m hm => hA m (by omega)) t h ⟨hf.tmps.putDst hN h2 (.tuple .nil), by cases hd : o.dst <;> simpa [Act.put] using hf.defers⟩ hx hh k
      exact ⟨ρ', a', w', q1, q2, q3, .of_steps (.one hst) q4⟩
    · rename_i hw
      have hw' := wanted_ok h3 hwr hw
      split at h
      · cases h
      · rename_i fr1 v s1 hone
        split at h
        · obtain ⟨ht, ρ1, w1, u, a1, e1, e2, e3, e4, e5, e6⟩ := one_ok (todo := .inRegion ops (i :: l) :: k) (hA n (by omega)) h1 hone (fun z _ => ER_of_TR hf.tmps z) hf.defers hx hh plain_inRegion
          have hs := op_steps ho hw' e6
          rw [Frame.finish_atR, ho] at hs
          simp only [Option.bind_some] at hs
          have hf1 : TR ρ1 N fr1.tmps a1.tmps := by rw [ht, e4]; exact hf.tmps.mono e1.le
          obtain ⟨ρ', a', w', q1, q2, q3, q4⟩ := ordered_sound hN n (fun m hm => hA m (by omega)) t h ⟨hf1.putDst hN h2 e5, by cases hd : o.dst <;> simpa [Act.put] using e3⟩ (hx.mono e1.le) e2 k
          exact ⟨ρ', a', w', e1.trans q1, q2, q3, .of_steps hs q4⟩
        · cases h
      · rename_i v s1 hone
        simp only [Option.some.injEq, Res.ex.injEq] at h
        obtain ⟨rfl, rfl, rfl⟩ := h
        obtain ⟨ρ1, w1, u, e1, e2, e3, e4⟩ := one_ok (todo := .inRegion ops (i :: l) :: k) (hA n (by omega)) h1 hone (fun z _ => ER_of_TR hf.tmps z) hf.defers hx hh plain_inRegion
        have hs := op_steps ho hw' e4
        rw [h5]
        exact ⟨ρ1, a, w1, e1, hf.mono e1.le, e2, _, u, e3, hs⟩
end
end A3
