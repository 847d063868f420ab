/- Drawn regions, loops, calls and whole runs are sound. -/
import Derived.Test.YtpkhlfbgdebpoaaGreatDoorU06
namespace A3
open Go
section
variable {P : Program} {A : Prog} {N : Nat} {C : CC} {B : Nat} {w0 : World} {X : List Nat}
def Made [Sig] (P : Program) (N : Nat) (C : CC) (B : Nat) (w0 : World) (X : List Nat) (o : Oper) (tf : Tmps) (s : St) (ρ : Ren) (v : AV) (n : Pos) : Prop :=
  ∃ ty obj mk, v = mk n ∧ s.heap.get n = some obj ∧ obj.loose = true ∧ ρ n = none ∧ (∀ t', s.ty.get n = some t' → ty = some t') ∧ Late P N C B w0 X tf o ty obj mk
structure Pending [Sig] (P : Program) (N : Nat) (C : CC) (B : Nat) (w0 : World) (X : List Nat) (l : List RInfo) (done : List Nat) (t0 : Tmps) (fr : Fr) (s : St) (ρ : Ren) (y : RInfo) (tf : Tmps) (nm : Option Pos) : Prop where
  after : ∀ d ∈ y.uses, ∀ j z, j ∈ done → l[j]? = some z → z.oper.dst = some d → y.before.testBit j = true → tf.get (posOf d) = fr.tmps.get (posOf d)
  free : ∀ d ∈ y.uses, d < N → (∀ j z, l[j]? = some z → z.oper.dst = some d → y.before.testBit j = false) → tf.get (posOf d) = t0.get (posOf d)
  is : (wanted tf y.aop.guard = some false ∧ nm = none ∧ ∀ p, y.aop.dst = some p → fr.tmps.get p = some (.tuple [])) ∨
    (wanted tf y.aop.guard = some true ∧ ∃ v, (∀ p, y.aop.dst = some p → fr.tmps.get p = some v) ∧
      ((y.aop.op.pure = true ∧ nm = none ∧ step y.aop.op tf s = some (v, s)) ∨ (∃ n, nm = some n ∧ Made P N C B w0 X y.oper tf s ρ v n)))
theorem late_exec [Sig] {o : Oper} {aop : AOp} {tf : Tmps} {ev : Operand → Value} {ρ : Ren} {s : St} {w : World} {v : AV} {nm : Option Pos} (hc : cOp P N o.op = some aop) (hconst : ∀ c, ev (.const c) = c) (hE : ∀ z ∈ o.op.operands.toList, ER ρ N tf ev z) (h : HR C B w0 X ρ s w)
    (hp : (aop.pure = true ∧ nm = none ∧ step aop tf s = some (v, s)) ∨ (∃ n, nm = some n ∧ Made P N C B w0 X o tf s ρ v n)) :
    ∃ ρ' u w', (execOp ev o).run P w = .ok (.value u) w' ∧ HR C B w0 X ρ' s w' ∧ VR ρ' v u ∧ ρ.le ρ' ∧ ∀ m, nm ≠ some m → ρ' m = ρ m := by
  rcases hp with ⟨hp, hn, hs⟩ | ⟨n, hn, ty, obj, mk, rfl, hget, _, hρ, ht, hl⟩
  · obtain ⟨_, u, hr, hu⟩ := pure_sound (P := P) hc hp hs hE h
    exact ⟨ρ, u, w, hr, h, hu, Ren.le_refl ρ, fun m _ => rfl⟩
  · obtain ⟨y, u, w', hr, h2, hv⟩ := hl ev ρ s w n hconst hE h hget hρ ht
    refine ⟨ρ.ext n y, u, w', hr, h2, hv, Ren.ext_le hρ, fun m h3 => ?_⟩
    unfold Ren.ext
    rw [if_neg]
    intro e; subst e; exact h3 hn
structure J [Sig] (P : Program) (N : Nat) (C : CC) (B : Nat) (w0 : World) (X : List Nat) (l : List RInfo) (done : List Nat) (listed : Array Bool) (t0 : Tmps) (fr : Fr) (s : St) (a : Act) (w : World) (ρ : Ren)
    (tf : Nat → Tmps) (nm : Nat → Option Pos) (ρ0 : Ren) (s0 : St) : Prop where
  ext : Ext ρ0 s0 ρ s
  new : ∀ i n, nm i = some n → s0.next.toNat ≤ n.toNat
  hr : HR C B w0 X ρ s w
  size : a.tmps.size = N
  lst : ∀ i, listed.getD i false = true → i ∈ done
  mains : ∀ i ∈ done, ∀ y, l[i]? = some y → y.aop.op.main = true → listed.getD i false = true
  inl : ∀ i ∈ done, ∃ y, l[i]? = some y
  bits : ∀ i ∈ done, ∀ y, l[i]? = some y → ∀ b, y.before.testBit b = true → b ∈ done
  irr : ∀ i ∈ done, ∀ y, l[i]? = some y → y.before.testBit i = false
  sa : ∀ i ∈ done, ∀ y, l[i]? = some y → ∀ j z d, j ≠ i → l[j]? = some z → y.oper.dst = some d → z.oper.dst ≠ some d ∧ (d ∈ z.uses → y.before.testBit j = true ∨ z.before.testBit i = true)
  run : ∀ d, d < N → (∃ i y, l[i]? = some y ∧ listed.getD i false = true ∧ y.oper.dst = some d) → ∀ v, fr.tmps.get (posOf d) = some v → ∃ u, a.tmps[d]? = some u ∧ VR ρ v u
  old : ∀ d, d < N → (∀ i y, l[i]? = some y → listed.getD i false = true → y.oper.dst ≠ some d) → ∀ v, t0.get (posOf d) = some v → ∃ u, a.tmps[d]? = some u ∧ VR ρ v u
  keep : ∀ d, d < N → (∀ i ∈ done, ∀ y, l[i]? = some y → y.oper.dst ≠ some d) → fr.tmps.get (posOf d) = t0.get (posOf d)
  pend : ∀ i ∈ done, ∀ y, l[i]? = some y → listed.getD i false = false → Pending P N C B w0 X l done t0 fr s ρ y (tf i) (nm i)
  names : ∀ i j n, i ∈ done → j ∈ done → listed.getD i false = false → listed.getD j false = false → nm i = some n → nm j = some n → i = j
theorem J.opds [Sig] {l : List RInfo} {done : List Nat} {listed : Array Bool} {t0 : Tmps} {fr : Fr} {s : St} {a : Act} {w : World} {ρ : Ren} {tf : Nat → Tmps} {nm : Nat → Option Pos} {ρ0 : Ren} {s0 : St} (h : J P N C B w0 X l done listed t0 fr s a w ρ tf nm ρ0 s0)
    {i : Nat} {y : RInfo} {t : Tmps} (_hi : l[i]? = some y) (hun : listed.getD i false = false) (hdown : ∀ j z, l[j]? = some z → listed.getD j false = true → ∀ b, z.before.testBit b = true → listed.getD b false = true)
    (hahead : ∀ b, y.before.testBit b = true → listed.getD b false = true)
    (h1 : ∀ d ∈ y.uses, ∀ j z, j ∈ done → l[j]? = some z → z.oper.dst = some d → y.before.testBit j = true → t.get (posOf d) = fr.tmps.get (posOf d))
    (h2 : ∀ d ∈ y.uses, d < N → (∀ j z, l[j]? = some z → z.oper.dst = some d → y.before.testBit j = false) → t.get (posOf d) = t0.get (posOf d)) :
    ∀ d ∈ y.uses, d < N → ∀ v, t.get (posOf d) = some v → ∃ u, a.tmps[d]? = some u ∧ VR ρ v u := by
  intro d hd hlt v hv
  by_cases hw : ∃ j z, l[j]? = some z ∧ z.oper.dst = some d ∧ y.before.testBit j = true
  · obtain ⟨j, z, hz, hdst, hb⟩ := hw
    have hl := hahead j hb
    rw [h1 d hd j z (h.lst j hl) hz hdst hb] at hv
    exact h.run d hlt ⟨j, z, hz, hl, hdst⟩ v hv
  · have hno : ∀ j z, l[j]? = some z → z.oper.dst = some d → y.before.testBit j = false := by
      intro j z hz hdst
      cases hb : y.before.testBit j with
      | false => rfl
      | true => exact absurd ⟨j, z, hz, hdst, hb⟩ hw
    rw [h2 d hd hlt hno] at hv
    refine h.old d hlt (fun j z hz hl hdst => ?_) v hv
    by_cases hji : j = i
    · subst hji; rw [hun] at hl; cases hl
    · obtain ⟨_, hor⟩ := h.sa j (h.lst j hl) z hz i y d (Ne.symm hji) _hi hdst
      rcases hor hd with h3 | h3
      · have := hdown j z hz hl i h3
        rw [hun] at this; cases this
      · rw [hno j z hz hdst] at h3; cases h3
end
end A3
namespace A3
open Go
def unlisted (n : Nat) (listed : Array Bool) : Nat := ((List.range n).filter fun i => !listed.getD i true).length
theorem filter_length_lt {α : Type} {p q : α → Bool} : ∀ {l : List α} {x : α}, (∀ y ∈ l, q y = true → p y = true) → x ∈ l → p x = true → q x = false → (l.filter q).length < (l.filter p).length
  | [], x, _, hx, _, _ => by simp at hx
  | y :: l, x, hpq, hx, hp, hq => by
    have hle : (l.filter q).length ≤ (l.filter p).length := by
      have : ∀ {m : List α}, (∀ y ∈ m, q y = true → p y = true) → (m.filter q).length ≤ (m.filter p).length := by
        intro m
        induction m with
        | nil => intro _; exact Nat.le_refl _
        | cons z m ih =>
          intro h
          have h1 := ih fun y hy => h y (List.mem_cons_of_mem _ hy)
          simp only [List.filter_cons]
          cases hqz : q z with
          | true => rw [h z List.mem_cons_self hqz]; simp; exact h1
          | false =>
            cases p z <;> simp <;> omega
      exact this fun y hy => hpq y (List.mem_cons_of_mem _ hy)
    rcases List.mem_cons.1 hx with rfl | hx
    · simp only [List.filter_cons, hp, hq, if_true, Bool.false_eq_true, if_false, List.length_cons]; omega
    · have ih := filter_length_lt (fun y hy => hpq y (List.mem_cons_of_mem _ hy)) hx hp hq
      simp only [List.filter_cons]
      cases hqy : q y with
      | true => rw [hpq y List.mem_cons_self hqy]; simp; exact ih
      | false => cases p y <;> simp <;> omega
end A3
namespace A3
open Go
section
variable {P : Program} {A : Prog} {N : Nat} {C : CC} {B : Nat} {w0 : World} {X : List Nat}
variable {l : List RInfo} {done : List Nat} {listed : Array Bool} {t0 : Tmps} {fr : Fr} {s s1 : St} {a : Act} {w : World} {ρ : Ren} {tf : Nat → Tmps} {nm : Nat → Option Pos}
theorem HR.grown [Sig] (h : HR C B w0 X ρ s w) (t : Option Nat) (o : Obj) : Grown s ((s.tag t).alloc o) := by
  refine ⟨fun n x hx => ?_, fun n ty x hx hty => ?_⟩
  · rw [St.alloc_get, St.tag_next, if_neg, St.tag_heap]
    · exact hx
    · intro e; subst e
      have := (h.wr.nxt _ (Nat.le_refl _)).1
      rw [hx] at this; cases this
  · show (s.tag t).ty.get n = some ty
    rw [St.tag_ty, if_neg]
    · exact hty
    · rintro ⟨rfl, _⟩
      rw [h.ty.fresh _ (Nat.le_refl _)] at hty; cases hty
theorem Pending.grow [Sig] {y : RInfo} {tfy : Tmps} {nmy : Option Pos} {fr2 : Fr} {done2 : List Nat} (h : Pending P N C B w0 X l done t0 fr s ρ y tfy nmy) (hg : Grown s s1) (hty : ∀ n o, s.heap.get n = some o → s1.ty.get n = s.ty.get n)
    (hd2 : ∀ j z, j ∈ done2 → l[j]? = some z → y.before.testBit j = true → j ∈ done)
    (hsame : ∀ d, (∃ j z, j ∈ done ∧ l[j]? = some z ∧ z.oper.dst = some d) → fr2.tmps.get (posOf d) = fr.tmps.get (posOf d)) (hdst : ∀ p, y.aop.dst = some p → fr2.tmps.get p = fr.tmps.get p) :
    Pending P N C B w0 X l done2 t0 fr2 s1 ρ y tfy nmy := by
  refine ⟨?_, h.free, ?_⟩
  · intro d hd j z hj hz hzd hb
    have hj' := hd2 j z hj hz hb
    rw [h.after d hd j z hj' hz hzd hb, hsame d ⟨j, z, hj', hz, hzd⟩]
  · rcases h.is with ⟨h1, h2, h3⟩ | ⟨h1, v, h2, h3⟩
    · exact .inl ⟨h1, h2, fun p hp => by rw [hdst p hp]; exact h3 p hp⟩
    · refine .inr ⟨h1, v, fun p hp => by rw [hdst p hp]; exact h2 p hp, ?_⟩
      rcases h3 with ⟨h4, h5, h6⟩ | ⟨n, h4, ty, obj, mk, h5, h6, h7, h8, h9, h10⟩
      · exact .inl ⟨h4, h5, step_grown h4 h6 hg⟩
      · exact .inr ⟨n, h4, ty, obj, mk, h5, hg.heap _ _ h6, h7, h8, fun t' ht' => h9 t' (by rw [← hty n obj h6]; exact ht'), h10⟩
theorem tmpCO_eq {d : Option Nat} {p : Option Pos} (h : tmpCO N d = some p) : (d = none ∧ p = none) ∨ ∃ t, d = some t ∧ t < N ∧ p = some (posOf t) := by
  unfold tmpCO at h
  split at h
  · simp at h; exact .inl ⟨rfl, h.symm⟩
  · rename_i t
    split at h
    · rename_i q hq
      simp at h
      unfold tmpC at hq
      split at hq
      · rename_i hlt; simp at hq; exact .inr ⟨t, rfl, hlt, by rw [← h, ← hq]⟩
      · cases hq
    · cases h
theorem putDst_other [Sig] (hN : N ≤ 1000000) {t : Tmps} {d : Option Nat} {p : Option Pos} (hp : tmpCO N d = some p) {v : AV} {e : Nat} (he : e < N) (hne : d ≠ some e) : (putDst t p v).get (posOf e) = t.get (posOf e) := by
  rcases tmpCO_eq hp with ⟨rfl, rfl⟩ | ⟨q, rfl, hq, rfl⟩
  · rfl
  · show (t.set (posOf q) v).get (posOf e) = _
    rw [T.get_set, if_neg]
    intro h
    exact hne (by rw [posOf_inj (by omega) (by omega) h])
end
end A3
namespace A3
open Go
section
variable {P : Program} {A : Prog} {N : Nat} {C : CC} {B : Nat} {w0 : World} {X : List Nat}
variable {l : List RInfo} {done : List Nat} {listed : Array Bool} {t0 : Tmps} {fr : Fr} {s s1 : St} {a : Act} {w : World} {ρ ρ0 : Ren} {s0 : St} {tf : Nat → Tmps} {nm : Nat → Option Pos} {ops : Array Oper}
def upd {α : Type} (f : Nat → α) (j : Nat) (x : α) : Nat → α := fun i => if i = j then x else f i
theorem upd_same {α : Type} {f : Nat → α} {j : Nat} {x : α} : upd f j x j = x := by simp [upd]
theorem upd_ne {α : Type} {f : Nat → α} {i j : Nat} {x : α} (h : i ≠ j) : upd f j x i = f i := by simp [upd, h]
theorem J.unlisted [Sig] (h : J P N C B w0 X l done listed t0 fr s a w ρ tf nm ρ0 s0) {j : Nat} (hj : j ∉ done) : listed.getD j false = false := by
  cases hq : listed.getD j false with
  | false => rfl
  | true => exact absurd (h.lst j hq) hj
theorem PlanAt.dst_ne {j : Nat} {x : RInfo} (hx : PlanAt l done j x) {i : Nat} {y : RInfo} (hi : i ∈ done) (hy : l[i]? = some y) {d : Nat} (hd : y.oper.dst = some d) : x.oper.dst ≠ some d := by
  intro e
  exact (hx.sa i y d (by rintro rfl; exact hx.new hi) hy e).1 hd
theorem J.unread [Sig] (h : J P N C B w0 X l done listed t0 fr s a w ρ tf nm ρ0 s0) {j : Nat} {x : RInfo} (hx : PlanAt l done j x) {d : Nat} (hd : d ∈ x.uses) (hN : d < N)
    (hno : ∀ i z, l[i]? = some z → z.oper.dst = some d → x.before.testBit i = false) : fr.tmps.get (posOf d) = t0.get (posOf d) := by
  refine h.keep d hN fun i hi y hy hdst => ?_
  rcases (h.sa i hi y hy j x d (by rintro rfl; exact hx.new hi) hx.at_ hdst).2 hd with h1 | h1
  · exact hx.new (h.bits i hi y hy j h1)
  · rw [hno i y hy hdst] at h1; cases h1
theorem J.head_opds [Sig] (h : J P N C B w0 X l done listed t0 fr s a w ρ tf nm ρ0 s0) {j : Nat} {x : RInfo} (hx : PlanAt l done j x) (hdown : ∀ i z, l[i]? = some z → listed.getD i false = true → ∀ b, z.before.testBit b = true → listed.getD b false = true)
    (hahead : ∀ b, x.before.testBit b = true → listed.getD b false = true) : ∀ d ∈ x.uses, d < N → ∀ v, fr.tmps.get (posOf d) = some v → ∃ u, a.tmps[d]? = some u ∧ VR ρ v u := by
  intro d hd hN
  by_cases hw : ∃ i z, l[i]? = some z ∧ z.oper.dst = some d ∧ x.before.testBit i = true
  · obtain ⟨i, z, hz, hdst, hb⟩ := hw
    intro v hv
    exact h.run d hN ⟨i, z, hz, hahead i hb, hdst⟩ v hv
  · have hno : ∀ i z, l[i]? = some z → z.oper.dst = some d → x.before.testBit i = false := by
      intro i z hz hdst
      cases hb : x.before.testBit i with
      | false => rfl
      | true => exact absurd ⟨i, z, hz, hdst, hb⟩ hw
    intro v hv
    rw [h.unread hx hd hN hno] at hv
    refine h.old d hN (fun i z hz hl hdst => ?_) v hv
    rcases (h.sa i (h.lst i hl) z hz j x d (by rintro rfl; exact hx.new (h.lst _ hl)) hx.at_ hdst).2 hd with h3 | h3
    · have := hdown i z hz hl j h3
      rw [h.unlisted hx.new] at this; cases this
    · rw [hno i z hz hdst] at h3; cases h3
theorem dstC [Sig] (hI : Infos P N ops l) {i : Nat} {y : RInfo} (hy : l[i]? = some y) : tmpCO N y.oper.dst = some y.aop.dst := (operC_eq (hI.get i y hy).2.1).2.1
theorem dst_lt [Sig] (hI : Infos P N ops l) {i : Nat} {y : RInfo} (hy : l[i]? = some y) {d : Nat} (hd : y.oper.dst = some d) : d < N ∧ y.aop.dst = some (posOf d) := by
  rcases tmpCO_eq (dstC hI hy) with ⟨h, _⟩ | ⟨t, h1, h2, h3⟩
  · rw [hd] at h; cases h
  · rw [hd] at h1; simp at h1; subst h1; exact ⟨h2, h3⟩
theorem dst_of [Sig] (hI : Infos P N ops l) {i : Nat} {y : RInfo} (hy : l[i]? = some y) {p : Pos} (hp : y.aop.dst = some p) : ∃ d, y.oper.dst = some d ∧ d < N ∧ p = posOf d := by
  rcases tmpCO_eq (dstC hI hy) with ⟨_, h⟩ | ⟨t, h1, h2, h3⟩
  · rw [hp] at h; cases h
  · rw [hp] at h3; simp at h3; exact ⟨t, h1, h2, h3⟩
theorem putDst_same {t : Tmps} {d : Option Pos} {v : AV} {p : Pos} (h : d = some p) : (putDst t d v).get p = some v := by
  subst h; show (t.set p v).get p = _; rw [T.get_set, if_pos rfl]
theorem J.absorb [Sig] (hN : N ≤ 1000000) (hI : Infos P N ops l) (h : J P N C B w0 X l done listed t0 fr s a w ρ tf nm ρ0 s0) {j : Nat} {x : RInfo} (hx : PlanAt l done j x) (hm : x.aop.op.main = false) {v : AV} {nmj : Option Pos}
    (hr1 : HR C B w0 X ρ s1 w) (hext : Ext ρ s ρ s1) (hg : Grown s s1) (hnm : ∀ n, nmj = some n → n = s.next)
    (his : (wanted fr.tmps x.aop.guard = some false ∧ nmj = none ∧ v = .tuple []) ∨ (wanted fr.tmps x.aop.guard = some true ∧
      ((x.aop.op.pure = true ∧ nmj = none ∧ step x.aop.op fr.tmps s1 = some (v, s1)) ∨ (∃ n, nmj = some n ∧ Made P N C B w0 X x.oper fr.tmps s1 ρ v n)))) :
    J P N C B w0 X l (j :: done) listed t0 { fr with tmps := putDst fr.tmps x.aop.dst v } s1 a w ρ (upd tf j fr.tmps) (upd nm j nmj) ρ0 s0 := by
  have hjl : listed.getD j false = false := h.unlisted hx.new
  have hne : ∀ {i}, i ∈ done → i ≠ j := fun hi e => hx.new (e ▸ hi)
  have hother : ∀ {e : Nat}, e < N → x.oper.dst ≠ some e → (putDst fr.tmps x.aop.dst v).get (posOf e) = fr.tmps.get (posOf e) := fun he hq => putDst_other hN (dstC hI hx.at_) he hq
  have hirr : x.before.testBit j = false := by
    cases hq : x.before.testBit j with
    | false => rfl
    | true => exact absurd (hx.bits j hq) hx.new
  have hwr : ∀ {i y d}, i ∈ done → l[i]? = some y → y.oper.dst = some d → (putDst fr.tmps x.aop.dst v).get (posOf d) = fr.tmps.get (posOf d) :=
    fun hi hy hd => hother (dst_lt hI hy hd).1 (hx.dst_ne hi hy hd)
  constructor
  · exact h.ext.trans hext
  · intro i n hn
    by_cases e : i = j
    · subst e; rw [upd_same] at hn; rw [hnm n hn]; exact h.ext.next
    · rw [upd_ne e] at hn; exact h.new i n hn
  · exact hr1
  · exact h.size
  · exact fun i hi => List.mem_cons_of_mem _ (h.lst i hi)
  · intro i hi y hy hmy
    rcases List.mem_cons.1 hi with rfl | hi
    · rw [hx.at_] at hy; simp at hy; subst hy; rw [hm] at hmy; cases hmy
    · exact h.mains i hi y hy hmy
  · intro i hi
    rcases List.mem_cons.1 hi with rfl | hi
    · exact ⟨x, hx.at_⟩
    · exact h.inl i hi
  · intro i hi y hy b hb
    rcases List.mem_cons.1 hi with rfl | hi
    · rw [hx.at_] at hy; simp at hy; subst hy; exact List.mem_cons_of_mem _ (hx.bits b hb)
    · exact List.mem_cons_of_mem _ (h.bits i hi y hy b hb)
  · intro i hi y hy
    rcases List.mem_cons.1 hi with rfl | hi
    · rw [hx.at_] at hy; simp at hy; subst hy; exact hirr
    · exact h.irr i hi y hy
  · intro i hi y hy k z d hk hz hd
    rcases List.mem_cons.1 hi with rfl | hi
    · rw [hx.at_] at hy; simp at hy; subst hy; exact hx.sa k z d hk hz hd
    · exact h.sa i hi y hy k z d hk hz hd
  · intro d hd ⟨i, y, hy, hl, hdst⟩ v' hv'
    rw [show ({ fr with tmps := putDst fr.tmps x.aop.dst v } : Fr).tmps = putDst fr.tmps x.aop.dst v from rfl, hwr (h.lst i hl) hy hdst] at hv'
    exact h.run d hd ⟨i, y, hy, hl, hdst⟩ v' hv'
  · exact h.old
  · intro d hd hno
    show (putDst fr.tmps x.aop.dst v).get (posOf d) = _
    rw [hother hd (hno j List.mem_cons_self x hx.at_)]
    exact h.keep d hd fun i hi => hno i (List.mem_cons_of_mem _ hi)
  · intro i hi y hy hl
    rcases List.mem_cons.1 hi with rfl | hi
    · rw [hx.at_] at hy; simp at hy; subst hy
      rw [upd_same, upd_same]
      refine ⟨?_, ?_, ?_⟩
      · intro d hd k z hk hz hdst hb
        rcases List.mem_cons.1 hk with rfl | hk
        · rw [hirr] at hb; cases hb
        · exact (hwr hk hz hdst).symm
      · intro d hd hlt hno
        exact h.unread hx hd hlt hno
      · rcases his with ⟨h1, h2, h3⟩ | ⟨h1, h2⟩
        · exact .inl ⟨h1, h2, fun p hp => by rw [← h3]; exact putDst_same hp⟩
        · exact .inr ⟨h1, v, fun p hp => putDst_same hp, h2⟩
    · rw [upd_ne (hne hi), upd_ne (hne hi)]
      refine (h.pend i hi y hy hl).grow hg ?_ ?_ ?_ ?_
      · intro n o ho
        exact hext.ty n (h.hr.wr.bound ho)
      · intro k z hk hz hb
        exact h.bits i hi y hy k hb
      · rintro d ⟨k, z, hk, hz, hdst⟩
        exact hwr hk hz hdst
      · intro p hp
        obtain ⟨d, hd, hlt, rfl⟩ := dst_of hI hy hp
        exact hwr hi hy hd
  · intro i k n hi hk hil hkl hin hkn
    have other : ∀ {i}, i ∈ done → listed.getD i false = false → nm i = some n → nmj = some n → False := by
      intro i hi hil hin hjn
      have e := hnm n hjn
      obtain ⟨y, hy⟩ := h.inl i hi
      rcases (h.pend i hi y hy hil).is with ⟨_, h2, _⟩ | ⟨_, v', _, ⟨_, h2, _⟩ | ⟨n', h2, ty, obj, mk, _, h3, _⟩⟩
      · rw [hin] at h2; cases h2
      · rw [hin] at h2; cases h2
      · rw [hin] at h2; simp at h2; subst h2
        rw [e, (h.hr.wr.nxt _ (Nat.le_refl _)).1] at h3; cases h3
    rcases List.mem_cons.1 hi with e1 | hi'
    · rcases List.mem_cons.1 hk with e2 | hk'
      · rw [e1, e2]
      · rw [e1, upd_same] at hin
        rw [upd_ne (hne hk')] at hkn
        exact (other hk' hkl hkn hin).elim
    · rw [upd_ne (hne hi')] at hin
      rcases List.mem_cons.1 hk with e2 | hk'
      · rw [e2, upd_same] at hkn
        exact (other hi' hil hin hkn).elim
      · rw [upd_ne (hne hk')] at hkn
        exact h.names i k n hi' hk' hil hkl hin hkn
end
end A3
namespace A3
open Go
section
variable {P : Program} {A : Prog} {N : Nat} {C : CC} {B : Nat} {w0 : World} {X : List Nat}
variable {l : List RInfo} {done : List Nat} {listed : Array Bool} {t0 : Tmps} {fr : Fr} {s s1 : St} {a : Act} {w w' : World} {ρ ρ' ρ0 : Ren} {s0 : St} {tf : Nat → Tmps} {nm : Nat → Option Pos} {ops : Array Oper}
theorem Pending.rebind [Sig] {y : RInfo} {tfy : Tmps} {nmy : Option Pos} (h : Pending P N C B w0 X l done t0 fr s ρ y tfy nmy) (hsame : ∀ n, nmy = some n → ρ' n = ρ n) : Pending P N C B w0 X l done t0 fr s ρ' y tfy nmy := by
  refine ⟨h.after, h.free, ?_⟩
  rcases h.is with h1 | ⟨h1, v, h2, h3⟩
  · exact .inl h1
  · refine .inr ⟨h1, v, h2, ?_⟩
    rcases h3 with h3 | ⟨n, h4, ty, obj, mk, h5, h6, h7, h8, h9, h10⟩
    · exact .inl h3
    · exact .inr ⟨n, h4, ty, obj, mk, h5, h6, h7, by rw [hsame n h4]; exact h8, h9, h10⟩
theorem put_tmps_ne {d : Option Nat} {u : Value} {e : Nat} (h : d ≠ some e) : (a.put d u).tmps[e]? = a.tmps[e]? := by
  cases d with
  | none => rfl
  | some t =>
    have : t ≠ e := fun e' => h (by rw [e'])
    simp [Act.put, Array.getElem?_setIfInBounds_ne this]
theorem put_tmps_size {d : Option Nat} {u : Value} : (a.put d u).tmps.size = a.tmps.size := by
  cases d <;> simp [Act.put]
theorem put_tmps_same {d : Nat} {u : Value} (h : d < a.tmps.size) : (a.put (some d) u).tmps[d]? = some u := by
  simp [Act.put, h]
theorem getD_set_same {i : Nat} {d : Bool} (h : i < listed.size) : (listed.setIfInBounds i true).getD i d = true := by
  simp [Array.getD, h]
theorem J.listOne [Sig] (hI : Infos P N ops l) (h : J P N C B w0 X l done listed t0 fr s a w ρ tf nm ρ0 s0) (h0 : ∀ n o, s0.heap.get n = some o → n.toNat < s0.next.toNat) {i : Nat} {y : RInfo} (hi : i ∈ done) (hy : l[i]? = some y) (hlt : i < listed.size)
    {u : Value} (hr' : HR C B w0 X ρ' s w') (hle : ρ.le ρ') (hsame : ∀ m, nm i ≠ some m → ρ' m = ρ m) (hun : listed.getD i false = false) (hv : ∀ p v, y.aop.dst = some p → fr.tmps.get p = some v → VR ρ' v u) :
    J P N C B w0 X l done (listed.setIfInBounds i true) t0 fr s (a.put y.oper.dst u) w' ρ' tf nm ρ0 s0 := by
  have cases_l : ∀ {k}, (listed.setIfInBounds i true).getD k false = true → k = i ∨ listed.getD k false = true := by
    intro k hk
    by_cases e : k = i
    · exact .inl e
    · rw [getD_set_ne false (Ne.symm e)] at hk; exact .inr hk
  have cases_f : ∀ {k}, (listed.setIfInBounds i true).getD k false = false → k ≠ i ∧ listed.getD k false = false := by
    intro k hk
    by_cases e : k = i
    · subst e; rw [getD_set_same hlt] at hk; cases hk
    · rw [getD_set_ne false (Ne.symm e)] at hk; exact ⟨e, hk⟩
  constructor
  · refine ⟨Ren.le_trans h.ext.le hle, h.ext.next, fun n o hn ho hl => ?_, h.ext.ty⟩
    obtain ⟨h1, h2⟩ := h.ext.loose n o hn ho hl
    refine ⟨?_, h2⟩
    rw [hsame n]
    · exact h1
    · intro e
      have := h.new i n e
      have := h0 n o ho
      omega
  · exact h.new
  · exact hr'
  · rw [put_tmps_size]; exact h.size
  · intro k hk
    rcases cases_l hk with rfl | hk
    · exact hi
    · exact h.lst k hk
  · intro k hk z hz hm
    exact getD_set_true (h.mains k hk z hz hm)
  · exact h.inl
  · exact h.bits
  · exact h.irr
  · exact h.sa
  · rintro d hd ⟨k, z, hz, hl, hdst⟩ v hvd
    by_cases e : k = i
    · subst e
      rw [hy] at hz; simp at hz; subst hz
      refine ⟨u, ?_, hv _ v (dst_lt hI hy hdst).2 hvd⟩
      rw [hdst]; exact put_tmps_same (by rw [h.size]; exact hd)
    · rcases cases_l hl with h1 | hl
      · exact absurd h1 e
      · obtain ⟨u', hu', hv'⟩ := h.run d hd ⟨k, z, hz, hl, hdst⟩ v hvd
        refine ⟨u', ?_, hv'.mono hle⟩
        rw [put_tmps_ne]; exact hu'
        exact (h.sa k (h.lst k hl) z hz i y d (Ne.symm e) hy hdst).1
  · intro d hd hno v hvd
    obtain ⟨u', hu', hv'⟩ := h.old d hd (fun k z hz hl => hno k z hz (getD_set_true hl)) v hvd
    refine ⟨u', ?_, hv'.mono hle⟩
    rw [put_tmps_ne]; exact hu'
    exact hno i y hy (getD_set_same hlt)
  · exact h.keep
  · intro k hk z hz hl
    obtain ⟨h1, h2⟩ := cases_f hl
    refine (h.pend k hk z hz h2).rebind fun n hn => hsame n fun e => ?_
    exact h1 (h.names k i n hk hi h2 hun hn e)
  · intro k m n hk hm hkl hml
    exact h.names k m n hk hm (cases_f hkl).2 (cases_f hml).2
theorem ER_of_uses [Sig] {o : Oper} {t : Tmps} (h : ∀ d ∈ usesT ops o, d < N → ∀ v, t.get (posOf d) = some v → ∃ u, a.tmps[d]? = some u ∧ VR ρ v u) : ∀ z ∈ o.op.operands.toList, ER ρ N t a.eval z := by
  intro z hz y hy
  unfold cOpd at hy
  split at hy
  · rename_i d
    split at hy
    · rename_i ht
      simp only [Option.some.injEq] at hy; subst hy
      simp only [Opd.eval, Act.eval]
      cases hg : t.get (posOf d) with
      | none => exact .dead _
      | some v =>
        have hmem : d ∈ usesT ops o := by
          unfold usesT
          refine List.mem_append_left _ ?_
          have : ∀ {L : List Operand}, Operand.tmp d ∈ L → d ∈ opdsT L := by
            intro L
            induction L with
            | nil => intro h; simp at h
            | cons q L ih =>
              intro h
              rcases List.mem_cons.1 h with rfl | h
              · simp [opdsT]
              · have := ih h
                cases q <;> simp [opdsT, this]
          exact this hz
        obtain ⟨u, hu, hr⟩ := h d hmem ht v hg
        simp only
        rw [Array.getD_eq_getD_getElem?, hu]; exact hr
    · cases hy
  · rename_i v
    split at hy
    · rename_i av hav
      simp only [Option.some.injEq] at hy; subst hy
      exact constOf_VR hav
    · cases hy
  · cases hy
  · simp only [Option.some.injEq] at hy; subst hy
    exact .func (.nil) (.nil)
theorem wanted_uses [Sig] {o : Oper} {g : Option (Pos × Bool)} {t : Tmps} {b : Bool} (hg : guardC N ops o = some g) (h : ∀ d ∈ usesT ops o, d < N → ∀ v, t.get (posOf d) = some v → ∃ u, a.tmps[d]? = some u ∧ VR ρ v u)
    (hw : wanted t g = some b) : Region.wanted o (yielded ops a.tmps) = b :=
  wanted_ok hg (fun d q hgt hd v hv => h d (by unfold usesT; rw [hgt]; simp) hd v hv) hw
theorem J.late [Sig] (hI : Infos P N ops l) (h : J P N C B w0 X l done listed t0 fr s a w ρ tf nm ρ0 s0) (h0 : ∀ n o, s0.heap.get n = some o → n.toNat < s0.next.toNat) (hdown : Down ops listed) {i : Nat} (hi : i ∈ done) (hri : i ∈ Region.ready .any ops listed)
    (b : Frame) (k : List Item) (cs : List Frame) (todo : List Nat) :
    ∃ ρ' w' u y, l[i]? = some y ∧ J P N C B w0 X l done (listed.setIfInBounds i true) t0 fr s (a.put y.oper.dst u) w' ρ' tf nm ρ0 s0 ∧ ρ.le ρ' ∧
      Steps P (lone (b.atR a (.inRegion ops (i :: todo) :: k)) cs w) (lone (b.atR (a.put y.oper.dst u) (.inRegion ops todo :: k)) cs w') := by
  obtain ⟨y, hy⟩ := h.inl i hi
  obtain ⟨ho, hc, hbef, hus⟩ := hI.get i y hy
  obtain ⟨h1, h2, h3, _, _⟩ := operC_eq hc
  have hlt : i < listed.size ∧ listed.getD i false = false := by
    unfold Region.ready at hri
    rw [List.mem_filter] at hri
    have := hri.2
    simp only [Bool.and_eq_true, Bool.not_eq_true'] at this
    have hq := this.1
    rcases Nat.lt_or_ge i listed.size with h4 | h4
    · exact ⟨h4, by simpa [Array.getD, h4] using hq⟩
    · simp [Array.getD, Nat.not_lt.2 h4] at hq
  have hbits := ready_bits hdown hri
  rw [← hbef] at hbits
  have hp := h.pend i hi y hy hlt.2
  have hopd := h.opds hy hlt.2 (fun j z hz hl b hb => hdown j b hl (by rw [← (hI.get j z hz).2.2.1]; exact hb)) hbits hp.after hp.free
  rw [hus] at hopd
  rcases hp.is with ⟨hw, hn, hd⟩ | ⟨hw, v, hd, hcase⟩
  · have hw' := wanted_uses h3 hopd hw
    have hst := stepR_op_skip (P := P) (b := b) (a := a) (k := k) (cs := cs) (w := w) (ops := ops) (i := i) (rest := todo) (by simp [ho, hw'])
    simp only [ho, Option.bind_some] at hst
    refine ⟨ρ, w, undef, y, hy, h.listOne hI h0 hi hy hlt.1 h.hr (Ren.le_refl ρ) (fun _ _ => rfl) hlt.2 (fun p v hp hv => ?_), Ren.le_refl ρ, .one hst⟩
    rw [hd p hp] at hv
    simp at hv; subst hv
    exact .tuple .nil
  · have hw' := wanted_uses h3 hopd hw
    obtain ⟨ρ', u, w', hr, h4, h5, h6, h7⟩ := late_exec (o := y.oper) (ev := a.eval) h1 (fun _ => rfl) (ER_of_uses hopd) h.hr hcase
    have hnd : ∀ cl, y.oper.op ≠ .defer cl := by
      refine float_noDefer h1 ?_
      cases hm : y.aop.op.main with
      | false => rfl
      | true => have := h.mains i hi y hy hm; rw [hlt.2] at this; cases this
    have hs := op_steps (P := P) (b := b) (a := a) (i := i) (rest := todo) (k := k) (cs := cs) (w := w) ho hw' (M := lone ((b.atR a (.inRegion ops (i :: todo) :: k)).finish u) cs w') (by rw [notDefer_sem hnd]; exact goes_value hr)
    rw [Frame.finish_atR, ho] at hs
    simp only [Option.bind_some] at hs
    refine ⟨ρ', w', u, y, hy, h.listOne hI h0 hi hy hlt.1 h4 h6 h7 hlt.2 (fun p v' hp hv => ?_), h6, hs⟩
    rw [hd p hp] at hv
    simp at hv; subst hv
    exact h5
end
end A3
namespace A3
open Go
section
variable {P : Program} {A : Prog} {N : Nat} {C : CC} {B : Nat} {w0 : World} {X : List Nat}
variable {l : List RInfo} {done : List Nat} {listed : Array Bool} {t0 : Tmps} {fr fr2 : Fr} {s s' : St} {a a' : Act} {w w' : World} {ρ ρ' ρ0 : Ren} {s0 : St} {tf : Nat → Tmps} {nm : Nat → Option Pos} {ops : Array Oper} {v : AV} {u : Value}
theorem J.head [Sig] (hN : N ≤ 1000000) (hI : Infos P N ops l) (h : J P N C B w0 X l done listed t0 fr s a w ρ tf nm ρ0 s0) {j : Nat} {x : RInfo} (hx : PlanAt l done j x) (hlt : j < listed.size)
    (hext : Ext ρ s ρ' s') (hr' : HR C B w0 X ρ' s' w') (hu : VR ρ' v u) (ht : a'.tmps = a.tmps) (hf2 : fr2.tmps = putDst fr.tmps x.aop.dst v)
    (hp : ∀ i ∈ done, ∀ y, l[i]? = some y → listed.getD i false = false → Pending P N C B w0 X l (j :: done) t0 fr2 s' ρ' y (tf i) (nm i)) :
    J P N C B w0 X l (j :: done) (listed.setIfInBounds j true) t0 fr2 s' (a'.put x.oper.dst u) w' ρ' tf nm ρ0 s0 := by
  have hne : ∀ {i}, i ∈ done → i ≠ j := fun hi e => hx.new (e ▸ hi)
  have hother : ∀ {e : Nat}, e < N → x.oper.dst ≠ some e → fr2.tmps.get (posOf e) = fr.tmps.get (posOf e) := fun he hq => by rw [hf2]; exact putDst_other hN (dstC hI hx.at_) he hq
  have cases_l : ∀ {k}, (listed.setIfInBounds j true).getD k false = true → k = j ∨ listed.getD k false = true := by
    intro k hk
    by_cases e : k = j
    · exact .inl e
    · rw [getD_set_ne false (Ne.symm e)] at hk; exact .inr hk
  have cases_f : ∀ {k}, (listed.setIfInBounds j true).getD k false = false → k ≠ j ∧ listed.getD k false = false := by
    intro k hk
    by_cases e : k = j
    · subst e; rw [getD_set_same hlt] at hk; cases hk
    · rw [getD_set_ne false (Ne.symm e)] at hk; exact ⟨e, hk⟩
  have indone : ∀ {k}, k ∈ j :: done → k ≠ j → k ∈ done := fun hk e => (List.mem_cons.1 hk).resolve_left e
  constructor
  · exact h.ext.trans hext
  · exact h.new
  · exact hr'
  · rw [put_tmps_size, ht]; exact h.size
  · intro k hk
    rcases cases_l hk with rfl | hk
    · exact List.mem_cons_self
    · exact List.mem_cons_of_mem _ (h.lst k hk)
  · intro k hk z hz hm
    by_cases e : k = j
    · subst e; exact getD_set_same hlt
    · exact getD_set_true (h.mains k (indone hk e) z hz hm)
  · intro i hi
    by_cases e : i = j
    · subst e; exact ⟨x, hx.at_⟩
    · exact h.inl i (indone hi e)
  · intro i hi y hy b hb
    by_cases e : i = j
    · subst e
      rw [hx.at_] at hy; simp at hy; subst hy; exact List.mem_cons_of_mem _ (hx.bits b hb)
    · exact List.mem_cons_of_mem _ (h.bits i (indone hi e) y hy b hb)
  · intro i hi y hy
    by_cases e : i = j
    · subst e
      rw [hx.at_] at hy; simp at hy; subst hy
      cases hq : x.before.testBit i with
      | false => rfl
      | true => exact absurd (hx.bits i hq) hx.new
    · exact h.irr i (indone hi e) y hy
  · intro i hi y hy k z d hk hz hd
    by_cases e : i = j
    · subst e
      rw [hx.at_] at hy; simp at hy; subst hy; exact hx.sa k z d hk hz hd
    · exact h.sa i (indone hi e) y hy k z d hk hz hd
  · rintro d hd ⟨i, y, hy, hl, hdst⟩ v' hv'
    by_cases e : i = j
    · subst e
      rw [hx.at_] at hy; simp at hy; subst hy
      rw [hf2, putDst_same (dst_lt hI hx.at_ hdst).2] at hv'
      simp at hv'; subst hv'
      refine ⟨u, ?_, hu⟩
      rw [hdst]; exact put_tmps_same (by rw [ht, h.size]; exact hd)
    · have hl' : listed.getD i false = true := (cases_l hl).resolve_left e
      have hi := h.lst i hl'
      rw [hother hd (hx.dst_ne hi hy hdst)] at hv'
      obtain ⟨u', hu', hv2⟩ := h.run d hd ⟨i, y, hy, hl', hdst⟩ v' hv'
      exact ⟨u', by rw [put_tmps_ne (hx.dst_ne hi hy hdst), ht]; exact hu', hv2.mono hext.le⟩
  · intro d hd hno v' hv'
    obtain ⟨u', hu', hv2⟩ := h.old d hd (fun k z hz hl => hno k z hz (getD_set_true hl)) v' hv'
    exact ⟨u', by rw [put_tmps_ne (hno j x hx.at_ (getD_set_same hlt)), ht]; exact hu', hv2.mono hext.le⟩
  · intro d hd hno
    rw [hother hd (hno j List.mem_cons_self x hx.at_)]
    exact h.keep d hd fun i hi => hno i (List.mem_cons_of_mem _ hi)
  · intro k hk z hz hl
    obtain ⟨h1, h2⟩ := cases_f hl
    exact hp k (indone hk h1) z hz h2
  · intro k m n hk hm hkl hml
    exact h.names k m n (indone hk (cases_f hkl).1) (indone hm (cases_f hml).1) (cases_f hkl).2 (cases_f hml).2
theorem againOf_mem {x : RInfo} : ∀ {r : List Nat} {re : List Again}, againOf l done x r = some re → ∀ {i : Nat} {y : RInfo}, i ∈ r → l[i]? = some y → y.aop.op.reads = true → x.before.testBit i = false →
    ∃ d, y.aop.dst = some d ∧ (∀ k ∈ done, ∀ z e, l[k]? = some z → z.oper.dst = some e → e ∈ y.uses → y.before.testBit k = true) ∧ ({ dst := d, op := y.aop.op, guard := y.aop.guard } : Again) ∈ re
  | [], re, h, i, y, hi, _, _, _ => by simp at hi
  | m :: r, re, h, i, y, hi, hy, hr, hb => by
    simp only [againOf] at h
    split at h
    · rename_i re' y' hre hy'
      rcases List.mem_cons.1 hi with rfl | hi
      · rw [hy] at hy'; simp at hy'; subst hy'
        rw [hr, hb] at h
        simp only [Bool.not_false, Bool.and_self, if_true] at h
        split at h
        · rename_i d hd hall
          simp at h; subst h
          refine ⟨d, hd, fun k hk z e hz he hu => ?_, List.mem_cons_self⟩
          rw [List.all_eq_true] at hall
          have := hall k hk
          rw [hz] at this
          simp only [he, Bool.or_eq_true, Bool.not_eq_true'] at this
          rcases this with h1 | h1
          · simp [hu] at h1
          · exact h1
        · cases h
      · split at h
        · split at h
          · simp at h; subst h
            obtain ⟨d, h1, h2, h3⟩ := againOf_mem hre hi hy hr hb
            exact ⟨d, h1, h2, List.mem_cons_of_mem _ h3⟩
          · cases h
        · simp at h; subst h
          exact againOf_mem hre hi hy hr hb
    · cases h
theorem again_mem [Sig] {t : Tmps} {s : St} : ∀ {re : List Again}, again t s re = true → ∀ {r : Again}, r ∈ re → wanted t r.guard = some false ∨ ∃ v u, wanted t r.guard = some true ∧ step r.op t s = some v ∧ t.get r.dst = some u ∧ v.1 = u
  | [], _, r, hr => by simp at hr
  | q :: re, h, r, hr => by
    simp only [again] at h
    split at h
    · cases h
    · rename_i hw
      rcases List.mem_cons.1 hr with rfl | hr
      · exact .inl hw
      · exact again_mem h hr
    · rename_i hw
      split at h
      · rename_i v u hs hg
        split at h
        · rename_i hsame
          rcases List.mem_cons.1 hr with rfl | hr
          · exact .inr ⟨v, u, hw, hs, hg, same_eq hsame⟩
          · exact again_mem h hr
        · cases h
      · cases h
theorem opds_uses [Sig] {o : Oper} {aop : AOp} (hc : cOp P N o.op = some aop) {t t' : Tmps} (h : ∀ d ∈ usesT ops o, d < N → t.get (posOf d) = t'.get (posOf d)) : ∀ y ∈ aop.opds, y.eval t = y.eval t' := by
  intro y hy
  obtain ⟨z, hz, hzy⟩ := cOp_opds hc y hy
  unfold cOpd at hzy
  split at hzy
  · rename_i d
    split at hzy
    · rename_i ht
      simp only [Option.some.injEq] at hzy; subst hzy
      have hmem : d ∈ usesT ops o := by
        unfold usesT
        refine List.mem_append_left _ ?_
        have : ∀ {L : List Operand}, Operand.tmp d ∈ L → d ∈ opdsT L := by
          intro L
          induction L with
          | nil => intro h; simp at h
          | cons q L ih =>
            intro h
            rcases List.mem_cons.1 h with rfl | h
            · simp [opdsT]
            · have := ih h
              cases q <;> simp [opdsT, this]
        exact this hz
      simp only [Opd.eval, h d hmem ht]
    · cases hzy
  · split at hzy
    · simp only [Option.some.injEq] at hzy; subst hzy; rfl
    · cases hzy
  · cases hzy
  · simp only [Option.some.injEq] at hzy; subst hzy; rfl
theorem wanted_congr {o : Oper} {g : Option (Pos × Bool)} (hg : guardC N ops o = some g) {t t' : Tmps} (h : ∀ d ∈ usesT ops o, d < N → t.get (posOf d) = t'.get (posOf d)) : wanted t g = wanted t' g := by
  unfold guardC at hg
  split at hg
  · cases hg
  · simp at hg; subst hg; rfl
  · rename_i d q hgt
    split at hg
    · rename_i p hp
      simp at hg; subst hg
      unfold tmpC at hp
      split at hp
      · rename_i hd
        simp at hp; subst hp
        simp only [wanted, h d (by unfold usesT; rw [hgt]; simp) hd]
      · cases hp
    · cases hg
theorem J.pend_head [Sig] (hN : N ≤ 1000000) (hI : Infos P N ops l) (h : J P N C B w0 X l done listed t0 fr s a w ρ tf nm ρ0 s0) {j : Nat} {x : RInfo} (hx : PlanAt l done j x) (hahead : ∀ b, x.before.testBit b = true → listed.getD b false = true)
    (hext : Ext ρ s ρ' s') {re : List Again} (hre : againOf l done x done = some re) (hag : again (putDst fr.tmps x.aop.dst v) s' re = true) (hf2 : fr2.tmps = putDst fr.tmps x.aop.dst v)
    {i : Nat} (hi : i ∈ done) {y : RInfo} (hy : l[i]? = some y) (hun : listed.getD i false = false) : Pending P N C B w0 X l (j :: done) t0 fr2 s' ρ' y (tf i) (nm i) := by
  have hp := h.pend i hi y hy hun
  have hother : ∀ {e : Nat}, e < N → x.oper.dst ≠ some e → fr2.tmps.get (posOf e) = fr.tmps.get (posOf e) := fun he hq => by rw [hf2]; exact putDst_other hN (dstC hI hx.at_) he hq
  have hwr : ∀ {i y d}, i ∈ done → l[i]? = some y → y.oper.dst = some d → fr2.tmps.get (posOf d) = fr.tmps.get (posOf d) :=
    fun hi hy hd => hother (dst_lt hI hy hd).1 (hx.dst_ne hi hy hd)
  have hji : y.before.testBit j = false := by
    cases hq : y.before.testBit j with
    | false => rfl
    | true => exact absurd (h.bits i hi y hy j hq) hx.new
  have hxi : x.before.testBit i = false := by
    cases hq : x.before.testBit i with
    | false => rfl
    | true => rw [hahead i hq] at hun; cases hun
  refine ⟨?_, hp.free, ?_⟩
  · intro d hd k z hk hz hdst hb
    rcases List.mem_cons.1 hk with rfl | hk
    · rw [hji] at hb; cases hb
    · rw [hp.after d hd k z hk hz hdst hb]; exact (hwr hk hz hdst).symm
  · rcases hp.is with ⟨h1, h2, h3⟩ | ⟨h1, v0, h2, h3⟩
    · refine .inl ⟨h1, h2, fun p hpd => ?_⟩
      obtain ⟨d, hd, _, rfl⟩ := dst_of hI hy hpd
      rw [hwr hi hy hd]; exact h3 _ hpd
    · have hd2 : ∀ p, y.aop.dst = some p → fr2.tmps.get p = some v0 := by
        intro p hpd
        obtain ⟨d, hd, _, rfl⟩ := dst_of hI hy hpd
        rw [hwr hi hy hd]; exact h2 _ hpd
      refine .inr ⟨h1, v0, hd2, ?_⟩
      rcases h3 with ⟨h4, h5, h6⟩ | ⟨n, h4, ty, obj, mk, h5, h6, h7, h8, h9, h10⟩
      · refine .inl ⟨h4, h5, ?_⟩
        cases hr : y.aop.op.reads with
        | false => exact step_noreads h4 hr h6
        | true =>
          obtain ⟨d, hdd, hall, hmem⟩ := againOf_mem hre hi hy hr hxi
          obtain ⟨ho, hc, _, hus⟩ := hI.get i y hy
          obtain ⟨c1, c2, c3, _, _⟩ := operC_eq hc
          have hsame : ∀ d ∈ usesT ops y.oper, d < N → (putDst fr.tmps x.aop.dst v).get (posOf d) = (tf i).get (posOf d) := by
            intro e he hlt
            rw [← hus] at he
            rw [← hf2]
            by_cases hw : ∃ k z, k ∈ done ∧ l[k]? = some z ∧ z.oper.dst = some e
            · obtain ⟨k, z, hk, hz, hdst⟩ := hw
              rw [hwr hk hz hdst]
              exact (hp.after e he k z hk hz hdst (hall k hk z e hz hdst he)).symm
            · have hxe : x.oper.dst ≠ some e := by
                intro e'
                rcases (hx.sa i y e (by rintro rfl; exact hx.new hi) hy e').2 he with h11 | h11
                · rw [hxi] at h11; cases h11
                · rw [hji] at h11; cases h11
              rw [hother hlt hxe, h.keep e hlt fun k hk z hz hdst => hw ⟨k, z, hk, hz, hdst⟩]
              refine (hp.free e he hlt fun k z hz hdst => ?_).symm
              cases hq : y.before.testBit k with
              | false => rfl
              | true => exact absurd ⟨k, z, h.bits i hi y hy k hq, hz, hdst⟩ hw
          have hwt := wanted_congr c3 hsame
          rcases again_mem hag hmem with h11 | ⟨v1, u1, h11, h12, h13, h14⟩
          · simp only at h11
            rw [hwt, h1] at h11; cases h11
          · simp only at h12 h13
            rw [step_congr (opds_uses c1 hsame)] at h12
            rw [← hf2, hd2 d hdd] at h13
            simp at h13
            have hst := step_grown h4 h12 (Grown.refl s')
            rw [hst, h14, h13]
      · have hlt : n.toNat < s.next.toNat := h.hr.wr.bound h6
        obtain ⟨h11, h12⟩ := hext.loose n obj h8 h6 h7
        exact .inr ⟨n, h4, ty, obj, mk, h5, h12, h7, h11, fun t' ht' => h9 t' (by rw [← hext.ty n hlt]; exact ht'), h10⟩
end
end A3
namespace A3
open Go
section
variable {ops : Array Oper}
theorem foldl_keep (f : Nat → Nat) : ∀ (l : List Edge) (s b : Nat), s.testBit b = true → (l.foldl (fun s e => if Region.binds .any e then s ||| 2 ^ e.on ||| f e.on else s) s).testBit b = true
  | [], s, b, h => h
  | e :: l, s, b, h => by
    simp only [List.foldl_cons]
    refine foldl_keep f l _ b ?_
    split
    · rw [testBit_or3, h]; simp
    · exact h
theorem foldl_has [Sig] (f : Nat → Nat) : ∀ (l : List Edge) (s : Nat) (e : Edge), e ∈ l → Region.binds .any e = true → (l.foldl (fun s e => if Region.binds .any e then s ||| 2 ^ e.on ||| f e.on else s) s).testBit e.on = true
  | [], s, e, h, _ => by simp at h
  | q :: l, s, e, h, hb => by
    simp only [List.foldl_cons]
    rcases List.mem_cons.1 h with rfl | h
    · refine foldl_keep f l _ _ ?_
      rw [if_pos hb, testBit_or3, Nat.testBit_two_pow]; simp
    · exact foldl_has f l _ e h hb
def BefHas (l : List Oper) (acc : Array Nat) : Prop := acc.size = l.length ∧ ∀ (i : Nat) (o : Oper), l[i]? = some o → ∀ e ∈ o.after.toList, Region.binds .any e = true → (acc.getD i 0).testBit e.on = true
theorem befHas_foldl [Sig] : ∀ (m l : List Oper) (acc : Array Nat), BefHas l acc → BefHas (l ++ m) (m.foldl befStep acc)
  | [], l, acc, h => by simpa using h
  | o :: m, l, acc, h => by
    simp only [List.foldl_cons]
    have hstep : BefHas (l ++ [o]) (befStep acc o) := by
      refine ⟨by simp [befStep, h.1], fun i o' ho' e he hb => ?_⟩
      rcases Nat.lt_or_ge i l.length with h1 | h1
      · rw [List.getElem?_append_left h1] at ho'
        unfold befStep
        rw [getD_push_lt (by rw [h.1]; exact h1)]
        exact h.2 i o' ho' e he hb
      · rw [List.getElem?_append_right h1] at ho'
        have hi : i = l.length := by
          rcases Nat.eq_or_lt_of_le h1 with h2 | h2
          · exact h2.symm
          · rw [List.getElem?_eq_none (by simp; omega)] at ho'; cases ho'
        subst hi
        simp at ho'; subst ho'
        have hv : (befStep acc o).getD l.length 0 = o.after.foldl (fun s e => if Region.binds .any e then s ||| 2 ^ e.on ||| acc.getD e.on 0 else s) 0 := by
          unfold befStep
          simp [Array.getD, ← h.1]
        rw [hv, ← Array.foldl_toList]
        exact foldl_has (fun j => acc.getD j 0) _ _ e he hb
    have := befHas_foldl m (l ++ [o]) _ hstep
    simpa using this
theorem before_has [Sig] (ops : Array Oper) : BefHas ops.toList (Region.before ops) := by
  rw [before_eq]
  have := befHas_foldl ops.toList [] #[] ⟨rfl, by intro i o h; simp at h⟩
  simpa using this
theorem ready_of [Sig] {listed : Array Bool} {i : Nat} (hi : i < ops.size) (hs : listed.size = ops.size) (hun : listed.getD i false = false) (hb : ∀ b, ((Region.before ops).getD i 0).testBit b = true → listed.getD b false = true) :
    i ∈ Region.ready .any ops listed := by
  unfold Region.ready
  rw [List.mem_filter]
  refine ⟨by simpa using hi, ?_⟩
  simp only [Bool.and_eq_true, Bool.not_eq_true']
  refine ⟨?_, ?_⟩
  · have hlt : i < listed.size := by omega
    simpa [Array.getD, hlt] using hun
  · rw [Array.getElem?_eq_getElem hi]
    simp only [Option.map_some, Option.getD_some]
    rw [Array.all_eq_true_iff_forall_mem]
    intro e he
    cases hbind : Region.binds .any e with
    | false => rfl
    | true =>
      simp only [Bool.not_true, Bool.false_or]
      exact hb _ ((before_has ops).2 i ops[i] (by simp [hi]) e (by simpa using he) hbind)
inductive InOrder (l : List RInfo) : List Nat → Prop where
  | nil : InOrder l []
  | cons {j : Nat} {done : List Nat} (h : ∀ y, l[j]? = some y → ∀ b, y.before.testBit b = true → b ∈ done) (t : InOrder l done) : InOrder l (j :: done)
theorem first_unlisted {l : List RInfo} {listed : Array Bool} : ∀ {done : List Nat}, InOrder l done → (∀ i ∈ done, listed.getD i false = true) ∨ ∃ i ∈ done, listed.getD i false = false ∧ ∀ y, l[i]? = some y → ∀ b, y.before.testBit b = true → listed.getD b false = true
  | [], _ => .inl (by simp)
  | j :: done, .cons h t => by
    rcases first_unlisted (listed := listed) t with h1 | ⟨i, hi, h1⟩
    · cases hj : listed.getD j false with
      | true =>
        refine .inl fun i hi => ?_
        rcases List.mem_cons.1 hi with rfl | hi
        · exact hj
        · exact h1 i hi
      | false => exact .inr ⟨j, List.mem_cons_self, hj, fun y hy b hb => h1 b (h y hy b hb)⟩
    · exact .inr ⟨i, List.mem_cons_of_mem _ hi, h1⟩
theorem go_cases (fuel t : Nat) (listed : Array Bool) (hu : unlisted ops.size listed ≤ fuel) :
    (Region.ready .any ops listed = [] ∧ Region.linearise.go .any ops fuel t listed [] = []) ∨
    ∃ i f t', i ∈ Region.ready .any ops listed ∧ fuel = f + 1 ∧ Region.linearise.go .any ops fuel t listed [] = i :: Region.linearise.go .any ops f t' (listed.setIfInBounds i true) [] := by
  cases fuel with
  | zero =>
    refine .inl ⟨?_, rfl⟩
    have h0 : unlisted ops.size listed = 0 := by omega
    unfold unlisted at h0
    rw [List.length_eq_zero_iff, List.filter_eq_nil_iff] at h0
    unfold Region.ready
    rw [List.filter_eq_nil_iff]
    intro i hi
    have := h0 i hi
    simp at this
    simp [this]
  | succ f =>
    simp only [Region.linearise.go]
    change _ ∨ ∃ i f' t', _ ∧ _ ∧ (match (Region.ready .any ops listed)[t % (Region.ready .any ops listed).length]? with
      | some i => Region.linearise.go .any ops f (t / (Region.ready .any ops listed).length) (listed.setIfInBounds i true) [i]
      | none => [].reverse) = _
    cases hi : (Region.ready .any ops listed)[t % (Region.ready .any ops listed).length]? with
    | none =>
      have hnil : Region.ready .any ops listed = [] := by
        cases hr : Region.ready .any ops listed with
        | nil => rfl
        | cons x xs =>
          rw [hr] at hi
          have hlt : t % (x :: xs).length < (x :: xs).length := Nat.mod_lt _ (by simp)
          simp at hi
          simp at hlt
          omega
      refine .inl ⟨hnil, ?_⟩
      change (match (Region.ready .any ops listed)[t % (Region.ready .any ops listed).length]? with
        | some i => Region.linearise.go .any ops f (t / (Region.ready .any ops listed).length) (listed.setIfInBounds i true) [i]
        | none => [].reverse) = _
      rw [hi]; rfl
    | some i =>
      refine .inr ⟨i, f, t / (Region.ready .any ops listed).length, List.mem_of_getElem? hi, rfl, ?_⟩
      simp only []
      rw [linearise_go_acc, List.reverse_singleton, List.singleton_append]
theorem unlisted_lt [Sig] {listed : Array Bool} {i : Nat} (hs : listed.size = ops.size) (hi : i ∈ Region.ready .any ops listed) : unlisted ops.size (listed.setIfInBounds i true) < unlisted ops.size listed := by
  unfold Region.ready at hi
  rw [List.mem_filter] at hi
  obtain ⟨hr, hi⟩ := hi
  simp only [Bool.and_eq_true] at hi
  have hlt : i < listed.size := by simpa [hs] using hr
  refine filter_length_lt (x := i) ?_ hr hi.1 ?_
  · intro y _ hy
    by_cases e : y = i
    · subst e; exact hi.1
    · rw [getD_set_ne true (Ne.symm e)] at hy; exact hy
  · rw [getD_set_same hlt]; rfl
end
section
variable {P : Program} {A : Prog} {N : Nat} {C : CC} {B : Nat} {w0 : World} {X : List Nat}
variable {l : List RInfo} {done : List Nat} {listed : Array Bool} {t0 : Tmps} {fr fr2 : Fr} {s s' : St} {a a' : Act} {w w' : World} {ρ ρ' ρ0 : Ren} {s0 : St} {tf : Nat → Tmps} {nm : Nat → Option Pos} {ops : Array Oper} {v : AV} {u : Value}
theorem killAll_get : ∀ {L : List Pos} {t : Tmps} {p : Pos} {v : AV}, (killAll t L).get p = some v → v = .dead ∨ (p ∉ L ∧ t.get p = some v)
  | [], t, p, v, h => .inr ⟨by simp, h⟩
  | q :: L, t, p, v, h => by
    simp only [killAll] at h
    rcases killAll_get h with h1 | ⟨h1, h2⟩
    · exact .inl h1
    · rw [T.get_set] at h2
      split at h2
      · simp at h2; exact .inl h2.symm
      · rename_i hne
        refine .inr ⟨?_, h2⟩
        intro hm
        rcases List.mem_cons.1 hm with rfl | hm
        · exact hne rfl
        · exact h1 hm
theorem killOf_mem {x : RInfo} : ∀ {r : List Nat} {i : Nat} {y : RInfo} {p : Pos}, i ∈ r → l[i]? = some y → y.aop.dst = some p → x.before.testBit i = false → p ∈ killOf l x r
  | [], i, y, p, hi, _, _, _ => by simp at hi
  | m :: r, i, y, p, hi, hy, hp, hb => by
    simp only [killOf]
    rcases List.mem_cons.1 hi with rfl | hi
    · rw [hy]; simp only [hb, Bool.false_eq_true, if_false, hp]; simp
    · have ih := killOf_mem hi hy hp hb
      split
      · split
        · exact ih
        · exact List.mem_append_right _ ih
      · exact ih
theorem J.killed [Sig] (hI : Infos P N ops l) (h : J P N C B w0 X l done listed t0 fr s a w ρ tf nm ρ0 s0) {x : RInfo} (hahead : ∀ b, x.before.testBit b = true → listed.getD b false = true) : TR ρ N (killAll fr.tmps (killOf l x done)) a.tmps := by
  refine ⟨h.size, fun d v hd hv => ?_⟩
  rcases killAll_get hv with rfl | ⟨hnk, hv⟩
  · exact ⟨a.tmps[d]'(by rw [h.size]; exact hd), Array.getElem?_eq_getElem _, .dead _⟩
  · by_cases hw : ∃ i ∈ done, ∃ y, l[i]? = some y ∧ y.oper.dst = some d
    · obtain ⟨i, hi, y, hy, hdst⟩ := hw
      have hb : x.before.testBit i = true := by
        cases hq : x.before.testBit i with
        | true => rfl
        | false => exact absurd (killOf_mem hi hy (dst_lt hI hy hdst).2 hq) hnk
      exact h.run d hd ⟨i, y, hy, hahead i hb, hdst⟩ v hv
    · rw [h.keep d hd fun i hi y hy hdst => hw ⟨i, hi, y, hy, hdst⟩] at hv
      exact h.old d hd (fun i y hy hl hdst => hw ⟨i, h.lst i hl, y, hy, hdst⟩) v hv
theorem J.finished [Sig] (h : J P N C B w0 X l done listed t0 fr s a w ρ tf nm ρ0 s0) (hall : ∀ i ∈ done, listed.getD i false = true) : TR ρ N fr.tmps a.tmps := by
  refine ⟨h.size, fun d v hd hv => ?_⟩
  by_cases hw : ∃ i ∈ done, ∃ y, l[i]? = some y ∧ y.oper.dst = some d
  · obtain ⟨i, hi, y, hy, hdst⟩ := hw
    exact h.run d hd ⟨i, y, hy, hall i hi, hdst⟩ v hv
  · rw [h.keep d hd fun i hi y hy hdst => hw ⟨i, hi, y, hy, hdst⟩] at hv
    exact h.old d hd (fun i y hy hl hdst => hw ⟨i, h.lst i hl, y, hy, hdst⟩) v hv
end
end A3
namespace A3
open Go
section
variable {P : Program} {A : Prog} {N : Nat} {C : CC} {B : Nat} {w0 : World} {X : List Nat} {c : Cx} {M : List Nat} {x : Ctx} {ops : Array Oper} {l : List RInfo} {t0 : Tmps} {ρ0 : Ren} {s0 : St}
theorem planned_cons {done : List Nat} {j : Nat} {r : List Nat} {as : List AOper} (h : planned l done (j :: r) = some as) : ∃ q m, l[j]? = some q ∧ planned l (j :: done) r = some m ∧
    ((q.aop.op.main = false ∧ as = q.aop :: m) ∨ (q.aop.op.main = true ∧ ∃ re, againOf l done q done = some re ∧ as = { q.aop with again := re, kill := killOf l q done } :: m)) := by
  simp only [planned] at h
  split at h
  · rename_i q m hq hm
    refine ⟨q, m, hq, hm, ?_⟩
    split at h
    · rename_i hmain
      simp at h; exact .inl ⟨hmain, h.symm⟩
    · rename_i hmain
      split at h
      · rename_i re hre
        simp at h; exact .inr ⟨hmain, re, hre, h.symm⟩
      · cases h
  · cases h
theorem planOk_behind [Sig] {i : Nat} : ∀ {r done : List Nat}, planOk l done r = true → i ∈ r → ∃ d y, PlanAt l d i y ∧ ∀ k ∈ done, k ∈ d
  | [], done, _, hi => by simp at hi
  | j :: r, done, h, hi => by
    obtain ⟨⟨q, hq⟩, h2⟩ := planOk_cons h
    rcases List.mem_cons.1 hi with rfl | hi
    · exact ⟨done, q, hq, fun _ h => h⟩
    · obtain ⟨d, y, h3, h4⟩ := planOk_behind h2 hi
      exact ⟨d, y, h3, fun k hk => h4 k (List.mem_cons_of_mem _ hk)⟩
theorem drawn_sound [Sig] (hN : N ≤ 1000000) (hI : Infos P N ops l) (h0 : ∀ n o, s0.heap.get n = some o → n.toNat < s0.next.toNat) (k : List Item) : ∀ (m : Nat) {fuel t n : Nat} {rest done : List Nat} {listed : Array Bool} {as : List AOper} {fr : Fr} {s : St} {a : Act} {w : World} {ρ : Ren}
    {tf : Nat → Tmps} {nm : Nat → Option Pos} {e : Ex} {fr' : Fr} {s' : St}, m = fuel + rest.length → (∀ q, q < n → SApply P A C B w0 q) → planned l done rest = some as → planOk l done rest = true → (∀ i, i < ops.size → i ∈ done ∨ i ∈ rest) → listed.size = ops.size →
    unlisted ops.size listed ≤ fuel → Down ops listed → InOrder l done → J P N C B w0 X l done listed t0 fr s a w ρ tf nm ρ0 s0 → DR ρ fr.defers a.defers M → CxOk ρ x c → den A n (.ops as x fr s) = some (.ex e fr' s') →
    ∃ ρ' a' w', Ext ρ0 s0 ρ' s' ∧ FR ρ' N fr' a' M ∧ HR C B w0 X ρ' s' w' ∧ ArrR P ρ' (lone (c.b.atR a (.inRegion ops (Region.linearise.go .any ops fuel t listed []) :: k)) (c.cs fr.recd) w) c.b k (c.cs fr'.recd) a' w' e := by
  intro m
  induction m using Nat.strongRecOn with
  | _ m ih =>
  intro fuel t n rest done listed as fr s a w ρ tf nm e fr' s' hm hA hpl hok hcov hsz hfu hdown hord hJ hd hx hden
  have late : ∀ {i f t'}, i ∈ done → i ∈ Region.ready .any ops listed → fuel = f + 1 → Region.linearise.go .any ops fuel t listed [] = i :: Region.linearise.go .any ops f t' (listed.setIfInBounds i true) [] →
      ∃ ρ' a' w', Ext ρ0 s0 ρ' s' ∧ FR ρ' N fr' a' M ∧ HR C B w0 X ρ' s' w' ∧ ArrR P ρ' (lone (c.b.atR a (.inRegion ops (Region.linearise.go .any ops fuel t listed []) :: k)) (c.cs fr.recd) w) c.b k (c.cs fr'.recd) a' w' e := by
    intro i f t' hi hr hf hgo
    obtain ⟨ρ1, w1, u, y, hy, hJ1, hle, hst⟩ := hJ.late hI h0 hdown hi hr c.b k (c.cs fr.recd) (Region.linearise.go .any ops f t' (listed.setIfInBounds i true) [])
    have hlt := unlisted_lt hsz hr
    obtain ⟨ρ', a', w', q1, q2, q3, q4⟩ := ih (f + rest.length) (by omega) (t := t') rfl hA hpl hok hcov (by simpa using hsz) (by omega) (hdown.set hr) hord hJ1
      (by cases hdd : y.oper.dst <;> simpa [Act.put] using hd.mono hle) (hx.mono hle) hden
    rw [hgo]
    exact ⟨ρ', a', w', q1, q2, q3, .of_steps hst q4⟩
  cases rest with
  | nil =>
    rcases go_cases (ops := ops) fuel t listed hfu with ⟨hr, hgo⟩ | ⟨i, f, t', hr, hf, hgo⟩
    · have hall : ∀ i ∈ done, listed.getD i false = true := by
        rcases first_unlisted (listed := listed) hord with h1 | ⟨i, hi, h1, h2⟩
        · exact h1
        · exfalso
          obtain ⟨y, hy⟩ := hJ.inl i hi
          have hlt : i < ops.size := by
            have := (hI.get i y hy).1
            exact (Array.getElem?_eq_some_iff.1 this).1
          have := ready_of hlt hsz h1 (fun b hb => h2 y hy b (by rw [(hI.get i y hy).2.2.1]; exact hb))
          rw [hr] at this; simp at this
      simp only [planned, Option.some.injEq] at hpl; subst hpl
      cases n with
      | zero => simp [den] at hden
      | succ n =>
        simp only [den, Option.some.injEq, Res.ex.injEq] at hden
        obtain ⟨rfl, rfl, rfl⟩ := hden
        rw [hgo]
        exact ⟨ρ, a, w, hJ.ext, ⟨hJ.finished hall, hd⟩, hJ.hr, .one stepR_region_end⟩
    · have hlt : i < ops.size := by
        unfold Region.ready at hr; rw [List.mem_filter] at hr; simpa using hr.1
      exact late ((hcov i hlt).resolve_right (by simp)) hr hf hgo
  | cons j r =>
    obtain ⟨⟨q, hq⟩, hok2⟩ := planOk_cons hok
    obtain ⟨q', ms, hq', hms, hcase⟩ := planned_cons hpl
    rw [hq.at_] at hq'; simp at hq'; subst hq'
    obtain ⟨ho, hc, hbef, hus⟩ := hI.get j q hq.at_
    obtain ⟨c1, c2, c3, c4, c5⟩ := operC_eq hc
    have hord2 : InOrder l (j :: done) := .cons (fun y hy b hb => by rw [hq.at_] at hy; simp at hy; subst hy; exact hq.bits b hb) hord
    have hcov2 : ∀ i, i < ops.size → i ∈ j :: done ∨ i ∈ r := by
      intro i hi
      rcases hcov i hi with h1 | h1
      · exact .inl (List.mem_cons_of_mem _ h1)
      · rcases List.mem_cons.1 h1 with rfl | h1
        · exact .inl List.mem_cons_self
        · exact .inr h1
    have hjl := hJ.unlisted hq.new
    have hjlt : j < ops.size := (Array.getElem?_eq_some_iff.1 ho).1
    cases n with
    | zero => simp [den] at hden
    | succ n =>
    rcases hcase with ⟨hmain, rfl⟩ | ⟨hmain, re, hre, rfl⟩
    ·
      rw [den_ops_cons] at hden
      split at hden
      · cases hden
      · rename_i hw
        have hJ1 := hJ.absorb (v := .tuple []) (nmj := none) hN hI hq hmain hJ.hr (Ext.refl _ _) (Grown.refl s) (by simp) (.inl ⟨hw, rfl, rfl⟩)
        exact ih (fuel + r.length) (by simp at hm; omega) (t := t) (fr := { fr with tmps := putDst fr.tmps q.aop.dst (.tuple []) }) rfl (fun m hm => hA m (by omega)) hms hok2 hcov2 hsz hfu hdown hord2 hJ1 hd hx hden
      · rename_i hw
        have hfc := float_cases c1 hmain
        rw [one_step hfc] at hden
        split at hden
        · cases hden
        · rename_i fr1 v s1 hone
          split at hone
          · rename_i v' s1' hs
            simp only [Option.some.injEq, Sum.inl.injEq, Prod.mk.injEq] at hone
            obtain ⟨rfl, rfl, rfl⟩ := hone
            split at hden
            · rcases hfc with hp | ha
              · have hst := step_grown hp hs (Grown.refl s)
                have hss : s1' = s := by rw [hs] at hst; simp at hst; exact hst
                subst hss
                have hJ1 := hJ.absorb (v := v') (nmj := none) hN hI hq hmain hJ.hr (Ext.refl _ _) (Grown.refl _) (by simp) (.inr ⟨hw, .inl ⟨hp, rfl, hs⟩⟩)
                exact ih (fuel + r.length) (by simp at hm; omega) (t := t) (fr := { fr with tmps := putDst fr.tmps q.aop.dst (v') }) rfl (fun m hm => hA m (by omega)) hms hok2 hcov2 hsz hfu hdown hord2 hJ1 hd hx hden
              · obtain ⟨ty, obj, mk, rfl, rfl, hpl', hlo, hlate⟩ := alloc_sound (C := C) (B := B) (w0 := w0) (X := X) c1 ha hs
                obtain ⟨hg, hext⟩ := hJ.hr.grow ty obj hpl'
                have hρ := (hJ.hr.wr.nxt s.next (Nat.le_refl _)).2
                have hget : ((s.tag ty).alloc obj).heap.get s.next = some obj := by rw [St.alloc_get, St.tag_next, if_pos rfl]
                have hty : ∀ t', ((s.tag ty).alloc obj).ty.get s.next = some t' → ty = some t' := by
                  intro t' ht'
                  have : (s.tag ty).ty.get s.next = some t' := ht'
                  rw [St.tag_ty] at this
                  split at this
                  · exact this
                  · rw [hJ.hr.ty.fresh _ (Nat.le_refl _)] at this; cases this
                have hJ1 := hJ.absorb (v := mk s.next) (nmj := some s.next) hN hI hq hmain hg hext (hJ.hr.grown ty obj) (by simp) (.inr ⟨hw, .inr ⟨s.next, rfl, ty, obj, mk, rfl, hget, hlo, hρ, hty, hlate⟩⟩)
                exact ih (fuel + r.length) (by simp at hm; omega) (t := t) (fr := { fr with tmps := putDst fr.tmps q.aop.dst (mk s.next) }) rfl (fun m hm => hA m (by omega)) hms hok2 hcov2 hsz hfu hdown hord2 hJ1 hd hx hden
            · cases hden
          · cases hone
        · rename_i v s1 hone
          split at hone
          · cases hone
          · cases hone
    ·
      rcases go_cases (ops := ops) fuel t listed hfu with ⟨hr, hgo⟩ | ⟨i, f, t', hr, hf, hgo⟩
      · exfalso
        rcases first_unlisted (listed := listed) hord with h1 | ⟨i, hi, h1, h2⟩
        · have := ready_of hjlt hsz hjl (fun b hb => h1 b (hq.bits b (by rw [hbef]; exact hb)))
          rw [hr] at this; simp at this
        · obtain ⟨y, hy⟩ := hJ.inl i hi
          have hlt : i < ops.size := (Array.getElem?_eq_some_iff.1 (hI.get i y hy).1).1
          have := ready_of hlt hsz h1 (fun b hb => h2 y hy b (by rw [(hI.get i y hy).2.2.1]; exact hb))
          rw [hr] at this; simp at this
      · by_cases hi : i ∈ done
        · exact late hi hr hf hgo
        have hilt : i < ops.size := by
          unfold Region.ready at hr; rw [List.mem_filter] at hr; simpa using hr.1
        have hbits := ready_bits hdown hr
        have hij : i = j := by
          rcases List.mem_cons.1 ((hcov i hilt).resolve_left hi) with h1 | h1
          · exact h1
          · exfalso
            obtain ⟨d, y, h2, h3⟩ := planOk_behind hok2 h1
            have h4 := h2.mains j (h3 j List.mem_cons_self) q hq.at_ hmain
            have h5 := hbits j (by rw [← (hI.get i y h2.at_).2.2.1]; exact h4)
            rw [hjl] at h5; cases h5
        subst hij
        rw [← hbef] at hbits
        have hlt := unlisted_lt hsz hr
        have hopd := hJ.head_opds hq (fun j z hz hl b hb => hdown j b hl (by rw [← (hI.get j z hz).2.2.1]; exact hb)) hbits
        rw [hus] at hopd
        rw [den_ops_cons] at hden
        rw [hgo]
        split at hden
        · cases hden
        · rename_i hw
          have hw' := wanted_uses c3 hopd hw
          have hst := stepR_op_skip (P := P) (b := c.b) (a := a) (k := k) (cs := c.cs fr.recd) (w := w) (ops := ops) (i := i) (rest := Region.linearise.go .any ops f t' (listed.setIfInBounds i true) []) (by simp [ho, hw'])
          simp only [ho, Option.bind_some] at hst
          have hJ1 : J P N C B w0 X l (i :: done) (listed.setIfInBounds i true) t0 { fr with tmps := putDst fr.tmps q.aop.dst (.tuple []) } s (a.put q.oper.dst undef) w ρ tf nm ρ0 s0 := by
            refine hJ.head hN hI hq (by omega) (Ext.refl _ _) hJ.hr (.tuple .nil) rfl rfl fun z hz y hy hl => ?_
            have hwr : ∀ {i' y d}, i' ∈ done → l[i']? = some y → y.oper.dst = some d → (putDst fr.tmps q.aop.dst (.tuple [])).get (posOf d) = fr.tmps.get (posOf d) :=
              fun hi hy hd => putDst_other hN (dstC hI hq.at_) (dst_lt hI hy hd).1 (hq.dst_ne hi hy hd)
            refine (hJ.pend z hz y hy hl).grow (Grown.refl s) (fun _ _ _ => rfl) (fun p z' hp _ hb => hJ.bits z hz y hy p hb) ?_ ?_
            · rintro d ⟨p, z', hp, hz', hdst⟩; exact hwr hp hz' hdst
            · intro p hp
              obtain ⟨d, hd, _, rfl⟩ := dst_of hI hy hp
              exact hwr hz hy hd
          obtain ⟨ρ', a', w', q1, q2, q3, q4⟩ := ih (f + r.length) (by simp at hm; omega) (t := t') rfl (fun m hm => hA m (by omega)) hms hok2 hcov2 (by simpa using hsz) (by omega) (hdown.set hr) hord2 hJ1
            (by cases hdd : q.oper.dst <;> simpa [Act.put] using hd) hx hden
          exact ⟨ρ', a', w', q1, q2, q3, .of_steps (.one hst) q4⟩
        · rename_i hw
          have hw' := wanted_uses c3 hopd hw
          split at hden
          · cases hden
          · rename_i fr1 v s1 hone
            split at hden
            · rename_i hag
              obtain ⟨ht, ρ1, w1, u, a1, e1, e2, e3, e4, e5, e6⟩ := one_ok (c := c) (M := M) (a := a) (w := w) (todo := .inRegion ops (i :: Region.linearise.go .any ops f t' (listed.setIfInBounds i true) []) :: k) (hA n (by omega)) c1 hone (ER_of_uses hopd) hd hx hJ.hr plain_inRegion
              have hs := op_steps ho hw' e6
              rw [Frame.finish_atR, ho] at hs
              simp only [Option.bind_some] at hs
              have hJ1 := hJ.head (fr2 := { fr1 with tmps := putDst fr1.tmps q.aop.dst v }) hN hI hq (by omega) e1 e2 e5 e4 (by rw [← ht]) (fun z hz y hy hl =>
                hJ.pend_head hN hI hq hbits e1 hre (by rw [← ht]; exact hag) (by rw [← ht]) hz hy hl)
              obtain ⟨ρ', a', w', q1, q2, q3, q4⟩ := ih (f + r.length) (by simp at hm; omega) (t := t') rfl (fun m hm => hA m (by omega)) hms hok2 hcov2 (by simpa using hsz) (by omega) (hdown.set hr) hord2 hJ1
                (by cases hdd : q.oper.dst <;> simpa [Act.put] using e3) (hx.mono e1.le) hden
              exact ⟨ρ', a', w', q1, q2, q3, .of_steps hs q4⟩
            · cases hden
          · rename_i v s1 hone
            simp only [Option.some.injEq, Res.ex.injEq] at hden
            obtain ⟨rfl, rfl, rfl⟩ := hden
            obtain ⟨ρ1, w1, u, e1, e2, e3, e4⟩ := one_ok (c := c) (M := M) (a := a) (w := w) (todo := .inRegion ops (i :: Region.linearise.go .any ops f t' (listed.setIfInBounds i true) []) :: k) (hA n (by omega)) c1 hone (ER_of_uses hopd) hd hx hJ.hr plain_inRegion
            have hs := op_steps ho hw' e4
            exact ⟨ρ1, a, w1, hJ.ext.trans e1, ⟨(hJ.killed hI hbits).mono e1.le, hd.mono e1.le⟩, e2, _, u, e3, hs⟩
end
end A3
namespace A3
open Go
section
variable {P : Program} {A : Prog} {N : Nat} {C : CC} {B : Nat} {w0 : World} {X : List Nat} {c : Cx} {M : List Nat} {x : Ctx} {ops : Array Oper} {l : List RInfo}
theorem ordered_of {ops : Array Oper} : ∀ {os : List Oper} {as : List AOper} (i : Nat), (∀ k, os[k]? = ops[i + k]?) → opersC P N ops os = some as → Ordered P N ops (List.range' i os.length) as
  | [], as, i, _, h => by simp [opersC] at h; subst h; exact .nil
  | o :: os, as, i, hk, h => by
    simp only [opersC] at h
    split at h
    · rename_i a m ha hm
      simp at h; subst h
      rw [List.length_cons, List.range'_succ]
      refine .cons (by have := hk 0; simpa using this.symm) ha (ordered_of (i + 1) (fun k => ?_) hm)
      have := hk (k + 1)
      rw [List.getElem?_cons_succ] at this
      rw [this]; congr 1; omega
    · cases h
theorem planOk_nodup [Sig] : ∀ {r done : List Nat}, planOk l done r = true → r.Nodup ∧ (∀ i ∈ r, i ∉ done) ∧ ∀ i ∈ r, i < l.length
  | [], done, _ => by simp
  | j :: r, done, h => by
    obtain ⟨⟨q, hq⟩, h2⟩ := planOk_cons h
    obtain ⟨h3, h4, h5⟩ := planOk_nodup h2
    refine ⟨List.nodup_cons.2 ⟨fun hj => h4 j hj List.mem_cons_self, h3⟩, ?_, ?_⟩
    · intro i hi
      rcases List.mem_cons.1 hi with rfl | hi
      · exact hq.new
      · exact fun hd => h4 i hi (List.mem_cons_of_mem _ hd)
    · intro i hi
      rcases List.mem_cons.1 hi with rfl | hi
      · exact (List.getElem?_eq_some_iff.1 hq.at_).1
      · exact h5 i hi
theorem region_sound [Sig] (hN : N ≤ 1000000) (hmix : P.follows .mixedOrders = true) {draw : Bool} {n : Nat} {as : List AOper} {fr : Fr} {s : St} {a : Act} {w : World} {ρ : Ren} {e : Ex} {fr' : Fr} {s' : St} (hA : ∀ q, q < n → SApply P A C B w0 q)
    (hc : cRegion P N ops draw = some as) (hden : den A n (.ops as x fr s) = some (.ex e fr' s')) (hf : FR ρ N fr a M) (hx : CxOk ρ x c) (h : HR C B w0 X ρ s w) (id : Nat) (k : List Item) :
    ∃ ρ' a' w', Ext ρ s ρ' s' ∧ FR ρ' N fr' a' M ∧ HR C B w0 X ρ' s' w' ∧ ArrR P ρ' (lone (c.b.atR a (.code (.region id ops draw) :: k)) (c.cs fr.recd) w) c.b k (c.cs fr'.recd) a' w' e := by
  unfold cRegion at hc
  split at hc
  · cases hc
  · rename_i os hos
    cases draw with
    | false =>
      simp at hc; subst hc
      have ho : Ordered P N ops (List.range ops.size) os := by
        have := ordered_of (P := P) (N := N) (ops := ops) (os := ops.toList) 0 (by simp) hos
        simpa [List.range_eq_range'] using this
      obtain ⟨ρ', a', w', h1, h2, h3, h4⟩ := ordered_sound hN n hA ho hden hf hx h k
      exact ⟨ρ', a', w', h1, h2, h3, .of_steps (.one stepR_region) h4⟩
    | true =>
      simp only [Bool.not_true, Bool.false_eq_true, if_false] at hc
      split at hc
      · rename_i hcond
        simp only [Bool.and_eq_true, Nat.beq_eq] at hcond
        obtain ⟨⟨hlen, hplen⟩, hok⟩ := hcond
        have hI := infos_ok hos hlen
        generalize infos ops ops.toList os (Region.before ops).toList = l at *
        obtain ⟨hnd, _, hlt⟩ := planOk_nodup hok
        have hcov : ∀ i, i < ops.size → i ∈ ([] : List Nat) ∨ i ∈ planOf l := by
          intro i hi
          right
          by_cases hm : i ∈ planOf l
          · exact hm
          · exfalso
            have h1 : (i :: planOf l).Nodup := List.nodup_cons.2 ⟨hm, hnd⟩
            have h2 : (i :: planOf l) ⊆ List.range ops.size := by
              intro j hj
              rcases List.mem_cons.1 hj with rfl | hj
              · simpa using hi
              · have := hlt j hj; rw [hlen] at this; simpa using this
            have := h1.length_le_of_subset h2
            simp at this; omega
        have hrep : ∀ i (d : Bool), (Array.replicate ops.size false).getD i false = false := by
          intro i d
          simp [Array.getD]
        have hJ : J P N C B w0 X l [] (Array.replicate ops.size false) fr.tmps fr s a { w with drawn := w.drawn + 1 } ρ (fun _ => .nil) (fun _ => none) ρ s := by
          constructor
          · exact Ext.refl _ _
          · simp
          · exact h.drew
          · exact hf.tmps.1
          · intro i hi; rw [hrep i false] at hi; cases hi
          all_goals first
            | (intro i hi; simp at hi; done)
            | skip
          · rintro d hd ⟨i, y, _, hl, _⟩; rw [hrep i false] at hl; cases hl
          · intro d hd _ v hv; exact hf.tmps.2 d v hd hv
          · intro d hd _; rfl
          · intro i j n hi; simp at hi
        obtain ⟨ρ', a', w', h1, h2, h3, h4⟩ := drawn_sound (P := P) (A := A) (N := N) (C := C) (B := B) (w0 := w0) (X := X) (c := c) (M := M) (x := x) (t0 := fr.tmps) (ρ0 := ρ) (s0 := s) hN hI (fun n o ho => h.wr.bound ho) k _
          (t := w.tape w.drawn (.order c.b.fn id)) (fuel := ops.size) rfl hA hc hok hcov (by simp) (by
            unfold unlisted; exact Nat.le_trans (List.length_filter_le _ _) (by simp)) (by intro i b hi; rw [hrep i false] at hi; cases hi) .nil hJ hf.defers hx hden
        refine ⟨ρ', a', w', h1, h2, h3, .of_steps (.one ?_) h4⟩
        have hst := stepR_region_draw (P := P) (b := c.b) (a := a) (k := k) (cs := c.cs fr.recd) (w := w) (ops := ops) (id := id)
        simp only [Region.schedule, hmix, Bool.true_or, if_true] at hst
        exact hst
      · cases hc
end
end A3
namespace A3
open Go
section
variable {P : Program} {X : List Nat} {C : CC} {B : Nat} {w0 : World} {ρ ρ' : Ren} {s s' : St} {w w' : World}
theorem WR.setDeferred [Sig] (h : WR C B w0 ρ s w) {b : Nat} {d d' : Option (List Deferred)} (hb : w.heap[b]? = some (.deferred d)) (hB : B ≤ b) :
    WR C B w0 ρ s { w with heap := w.heap.setIfInBounds b (.deferred d') } := by
  have hlt : b < w.heap.size := (Array.getElem?_eq_some_iff.1 hb).1
  have hh : ∀ c, c ≠ b → ({ w with heap := w.heap.setIfInBounds b (.deferred d') } : World).heap[c]? = w.heap[c]? := fun c hc => heap_set_ne hc
  have hbb : ({ w with heap := w.heap.setIfInBounds b (.deferred d') } : World).heap[b]? = some (.deferred d') := heap_set_same hlt
  generalize hw' : ({ w with heap := w.heap.setIfInBounds b (.deferred d') } : World) = w' at *
  have hcell : ∀ c off, w'.cell? ⟨c, off, none⟩ = w.cell? ⟨c, off, none⟩ := by
    intro c off
    by_cases e : c = b
    · subst e; simp only [World.cell?, hb, hbb]
    · exact cell_congr (hh c e) off
  have hfz : ∀ c off, w'.frozen? ⟨c, off, none⟩ = w.frozen? ⟨c, off, none⟩ := by
    intro c off
    by_cases e : c = b
    · subst e; simp only [World.frozen?, hb, hbb]
    · exact frozen_congr (hh c e) off
  have hsz : w'.heap.size = w.heap.size := by rw [← hw']; simp
  constructor
  · intro c hc; rw [hh c (by omega)]; exact h.keep c hc
  · rw [hsz]; exact h.size
  · exact h.nxt
  · intro n c o hn; rw [hsz]; exact h.dom n c o hn
  · intro n c o cs ro g hn hc hv i v hi
    obtain ⟨h1, u, h2, h3⟩ := h.cells n c o cs ro g hn hc hv i v hi
    exact ⟨h1, u, by rw [hcell]; exact h2, h3⟩
  · exact h.own
  · intro n c o cs g hn hc hrw off u hu
    rw [hcell] at hu; rw [hfz]; exact h.thaw n c o cs g hn hc hrw off u hu
  · intro n c o cs ro g hn hc i hi
    rw [hcell]; exact h.tot n c o cs ro g hn hc i hi
  · exact h.sep
  · exact h.grp
  · exact h.ver
  · exact h.ends
  · intro n c o es hn hc
    obtain ⟨h1, h2, ces, clock, h3, h4⟩ := h.map n c o es hn hc
    refine ⟨h1, h2, ces, clock, ?_, h4⟩
    rw [hh]; exact h3
    intro e; subst e; rw [hb] at h3; cases h3
  · intro n c o l hn hc
    obtain ⟨h1, h2, L, h3, h4⟩ := h.loop n c o l hn hc
    refine ⟨h1, h2, L, ?_, h4⟩
    rw [hh]; exact h3
    intro e; subst e; rw [hb] at h3; cases h3
  · exact h.inj
  · intro n c o cs hn hc off; rw [hfz]; exact h.plain n c o cs hn hc off
  · subst hw'; exact h.io
theorem HR.take [Sig] {Y : List Nat} (h : HR C B w0 Y ρ s w) {b : Nat} (hb : b ∈ Y) (hB : B ≤ b) (hX : ∀ c ∈ X, c ∈ Y ∧ c ≠ b) : HR C B w0 X ρ s { w with heap := w.heap.setIfInBounds b (.deferred none) } := by
  have hbd := h.ty.df b hb
  refine ⟨h.wr.setDeferred hbd hB, ⟨?_, h.ty.fresh, ?_⟩⟩
  · intro n t c o hn hρ
    obtain ⟨cells, fz, hc, hl⟩ := h.ty.is n t c o hn hρ
    refine ⟨cells, fz, ?_, hl⟩
    rw [heap_set_ne]; exact hc
    intro e; subst e; rw [hbd] at hc; cases hc
  · intro c hc
    rw [heap_set_ne (hX c hc).2]; exact h.ty.df c (hX c hc).1
theorem HR.newDeferred [Sig] (h : HR C B w0 X ρ s w) : HR C B w0 (w.heap.size :: X) ρ s (w.alloc (.deferred (some []))) := by
  have hk : ∀ b, b < w.heap.size → (w.alloc (.deferred (some []))).heap[b]? = w.heap[b]? := fun b hb => heap_alloc_ne (Nat.ne_of_lt hb)
  refine ⟨h.wr.more (by simp) hk ⟨rfl, rfl⟩, ⟨?_, h.ty.fresh, ?_⟩⟩
  · intro n t b o hn hρ
    obtain ⟨cells, fz, hc, hl⟩ := h.ty.is n t b o hn hρ
    exact ⟨cells, fz, by rw [hk _ (h.wr.dom _ _ _ hρ)]; exact hc, hl⟩
  · intro b hb
    rcases List.mem_cons.1 hb with rfl | hb
    · exact heap_alloc_new w _
    · have := h.ty.df b hb
      rw [hk]; exact this
      exact (Array.getElem?_eq_some_iff.1 this).1
theorem HR.newLoop [Sig] (h : HR C B w0 X ρ s w) {l : ALoop} {L : Loop} (hl : LoopR C ρ l L) :
    HR C B w0 X (ρ.ext s.next (w.heap.size, ⟨0, 0⟩)) (s.alloc (.loop l)) (w.alloc (.loop L)) ∧ Ext ρ s (ρ.ext s.next (w.heap.size, ⟨0, 0⟩)) (s.alloc (.loop l)) := by
  have hρ := (h.wr.nxt s.next (Nat.le_refl _)).2
  obtain ⟨hg, hext⟩ := h.grow none (.loop l) rfl
  have hs : (s.tag none).alloc (.loop l) = s.alloc (.loop l) := rfl
  rw [hs] at hg hext
  have hget : (s.alloc (.loop l)).heap.get s.next = some (.loop l) := by rw [St.alloc_get, if_pos rfl]
  have hle : ρ.le (ρ.ext s.next (w.heap.size, ⟨0, 0⟩)) := Ren.ext_le hρ
  refine ⟨⟨hg.wr.bindObj (.loop L) hρ ⟨_, hget⟩ (by intro cs ro g e; rw [hget] at e; cases e) (by intro es e; rw [hget] at e; cases e) ?_, ⟨?_, hg.ty.fresh, fun b hb => (Tys.alloc w _).2.2 b _ (h.ty.df b hb)⟩⟩, ?_⟩
  · intro l' e
    rw [hget] at e
    simp only [Option.some.injEq, Obj.loop.injEq] at e
    subst e
    exact ⟨L, rfl, hl.mono hle⟩
  · intro m t' b o hm hb
    rcases Ren.ext_cases hb with ⟨rfl, _⟩ | ⟨_, hb⟩
    · have : s.ty.get s.next = some t' := hm
      rw [h.ty.fresh _ (Nat.le_refl _)] at this; cases this
    · obtain ⟨cells, fz, hc, hl⟩ := hg.ty.is m t' b o hm hb
      exact ⟨cells, fz, by rw [heap_alloc_ne (Nat.ne_of_lt (h.wr.dom _ _ _ hb))]; exact hc, hl⟩
  · exact hext.bind h.wr _ (Nat.le_refl _) hρ
theorem HR.putLoop [Sig] (h : HR C B w0 X ρ s w) {n : Pos} {b : Nat} {l l' : ALoop} {L' : Loop} (hb : ρ n = some (b, ⟨0, 0⟩)) (hget : s.heap.get n = some (.loop l)) (hl : LoopR C ρ l' L') :
    HR C B w0 X ρ (s.put n (.loop l')) { w with heap := w.heap.setIfInBounds b (.loop L') } ∧ Ext ρ s ρ (s.put n (.loop l')) := by
  obtain ⟨_, _, L, hheap, _⟩ := h.wr.loop _ _ _ _ hb hget
  refine ⟨⟨h.wr.putObj (.loop L') hb (.inr ⟨l, hget⟩) (.inr ⟨l', L', rfl, rfl, hl⟩), h.ty.step (Tys.setObj (by rw [hheap]; simp) (by rw [hheap]; simp)) rfl (Nat.le_refl _) ?_⟩, ⟨Ren.le_refl ρ, Nat.le_refl _, ?_, fun _ _ => rfl⟩⟩
  · intro n b' o cs ro hn hcs
    rw [St.put_get] at hcs
    split at hcs
    · simp at hcs
    · exact ⟨cs, ro, hcs, rfl⟩
  · intro n o hn ho _
    refine ⟨hn, ?_⟩
    rw [St.put_get, if_neg]
    · exact ho
    · intro e; subst e; rw [hb] at hn; cases hn
theorem run_getLoop {L : Loop} {b : Nat} (h : w.heap[b]? = some (.loop L)) : (Instr.getLoop b).run P w = .ok L w := by
  simp [Instr.getLoop, getObj, Sem.run, h, Sem.run_bind]
theorem run_setLoop {L : Loop} {b : Nat} {o : Go.Obj} (h : w.heap[b]? = some (.loop L)) : (setObj b o).run P w = .ok () { w with heap := w.heap.setIfInBounds b o } := by
  simp [setObj, Sem.run, h]
theorem run_takeDeferred {b : Nat} (h : w.heap[b]? = some (.deferred (some []))) : (Instr.takeDeferred b).run P w = .ok [] { w with heap := w.heap.setIfInBounds b (.deferred none) } := by
  simp [Instr.takeDeferred, getObj, setObj, Sem.run, h, Sem.run_bind]
theorem run_beginRound [Sig] {L : Loop} {b : Nat} (h : w.heap[b]? = some (.loop L)) (hs : L.state = .ready) : (Instr.beginRound b).run P w = .ok () { w with heap := w.heap.setIfInBounds b (.loop { L with state := .busy }) } := by
  simp [Instr.beginRound, Sem.run_bind, run_getLoop h, run_setLoop h, hs]
theorem run_endRound [Sig] {L : Loop} {b : Nat} {j : Option Code} (h : w.heap[b]? = some (.loop L)) :
    (Instr.endRound b j).run P w = .ok (.bool j.isNone) { w with heap := w.heap.setIfInBounds b (.loop { L with state := if j.isNone then .ready else .done, pending := j }) } := by
  simp [Instr.endRound, Sem.run_bind, run_getLoop h, run_setLoop h]
theorem run_endLoop [Sig] {L : Loop} {b : Nat} (h : w.heap[b]? = some (.loop L)) (hs : L.state ≠ .busy) : (Instr.endLoop b).run P w = .ok L.pending { w with heap := w.heap.setIfInBounds b (.loop { L with state := .exhausted }) } := by
  simp [Instr.endLoop, Sem.run_bind, run_getLoop h, run_setLoop h, hs]
theorem run_enterLoop_out {fn : FuncId} {tmps : Array Value} {ps : Array Tmp} {assign body : Code} :
    (Instr.enterLoop fn tmps ps assign body none).run P w = .ok (w.heap.size + 1, [{ target := .collected w.heap.size, args := #[] }])
      ((w.alloc (.deferred (some []))).alloc (.loop { state := .ready, pending := none, fn, tmps, params := ps, assign, body, defers := w.heap.size })) := by
  simp [Instr.enterLoop, Sem.run_bind]
theorem run_enterLoop_in [Sig] {fn : FuncId} {tmps : Array Value} {ps : Array Tmp} {assign body : Code} {l : Nat} {L : Loop} (h : w.heap[l]? = some (.loop L)) :
    (Instr.enterLoop fn tmps ps assign body (some l)).run P w = .ok (w.heap.size, [])
      (w.alloc (.loop { state := .ready, pending := none, fn, tmps, params := ps, assign, body, defers := L.defers })) := by
  simp [Instr.enterLoop, Sem.run_bind, run_getLoop h]
end
end A3
namespace A3
open Go
def CCof (P : Program) : CC := { code := fun N c ac => N ≤ 1000000 ∧ cCode P N c = some ac, fn := fun f => ∃ F, P.funcs[f]? = some F }
def MarkOk (B : Nat) (M X : List Nat) : Prop := M.Nodup ∧ (∀ b ∈ M, b ∉ X) ∧ ∀ b ∈ M, B ≤ b
theorem MarkOk.nil {B : Nat} {X : List Nat} : MarkOk B [] X := ⟨List.nodup_nil, by simp, by simp⟩
def PrimOk [Sig] (P : Program) (B : Nat) (w0 : World) (g : FuncId) (p : List AV → St → Option (AV × St)) : Prop :=
  ∀ args s v s', p args s = some (v, s') → ∀ (X : List Nat) (ρ : Ren) (w : World) (as : Array Value) (c : Frame) (cs : List Frame), VRs ρ args as.toList → HR (CCof P) B w0 X ρ s w → plainTodo c →
    ∃ ρ' w' u, Ext ρ s ρ' s' ∧ HR (CCof P) B w0 X ρ' s' w' ∧ VR ρ' v u ∧ Goes P c cs w (callFunc g as) (lone (c.finish u) cs w')
structure Env [Sig] (P : Program) (A : Prog) (B : Nat) (w0 : World) : Prop where
  mix : P.follows .mixedOrders = true
  func : ∀ g f, A.func g = some f → ∃ F, P.funcs[g]? = some F ∧ cFunc P F = some f ∧ (F.name == "runtime.NumGoroutine") = false
  prim : ∀ g p, A.prim g = some p → PrimOk P B w0 g p
section
variable (P : Program) (A : Prog) (B : Nat) (w0 : World)
def SCode [Sig] (n : Nat) : Prop := ∀ c x fr s e fr' s', den A n (.code c x fr s) = some (.ex e fr' s') →
  ∀ (N : Nat) (c0 : Code) (X : List Nat) (ρ : Ren) (a : Act) (w : World) (M : List Nat) (cc : Cx), cCode P N c0 = some c → N ≤ 1000000 → FR ρ N fr a M → CxOk ρ x cc → HR (CCof P) B w0 (M ++ X) ρ s w → MarkOk B M X → (CCof P).fn cc.b.fn → ∀ k,
    ∃ ρ' a' w' M', Ext ρ s ρ' s' ∧ FR ρ' N fr' a' M' ∧ HR (CCof P) B w0 (M' ++ X) ρ' s' w' ∧ MarkOk B M' X ∧ (x.round.isSome = true → M' = M ∧ fr'.defers = fr.defers) ∧
      ArrR P ρ' (lone (cc.b.atR a (.code c0 :: k)) (cc.cs fr.recd) w) cc.b k (cc.cs fr'.recd) a' w' e
def SLoop [Sig] (n : Nat) : Prop := ∀ c x fr s e fr' s', den A n (.code (.loop c) x fr s) = some (.ex e fr' s') →
  ∀ (N : Nat) (c0 : Code) (X : List Nat) (ρ : Ren) (a : Act) (w : World) (M : List Nat) (cc : Cx), cCode P N c0 = some c → N ≤ 1000000 → FR ρ N fr a M → CxOk ρ x cc → HR (CCof P) B w0 (M ++ X) ρ s w → MarkOk B M X → (CCof P).fn cc.b.fn → ∀ k,
    ∃ ρ' a' w' M', Ext ρ s ρ' s' ∧ FR ρ' N fr' a' M' ∧ HR (CCof P) B w0 (M' ++ X) ρ' s' w' ∧ MarkOk B M' X ∧ (x.round.isSome = true → M' = M ∧ fr'.defers = fr.defers) ∧
      ArrR P ρ' (lone (cc.b.atR a (.code c0 :: .inLoop c0 :: k)) (cc.cs fr.recd) w) cc.b k (cc.cs fr'.recd) a' w' e
def OutR [Sig] (P : Program) (ρ : Ren) (fr : Frame) (w : World) : Out → Prop
  | .ret v => ∃ u, VR ρ v u ∧ fr.going P w (.returned u)
  | .panic v => ∃ u, VR ρ v u ∧ fr.going P w (.panicked [{ v := u, recovered := false }])
def frameOf (g : FuncId) (kind : CallKind) : Frame := { (default : Frame) with fn := g, kind := kind, roundOf := none }
def SCall [Sig] (n : Nat) : Prop := ∀ g args x s o recd s', primR A g args x s = none → den A n (.call g args x s) = some (.out o recd s') → x.round = none →
  ∀ (X : List Nat) (ρ : Ren) (w : World) (as : Array Value) (kind : CallKind) (cs : Bool → List Frame), VRs ρ args as.toList → HR (CCof P) B w0 X ρ s w → CxOk ρ x ⟨frameOf g kind, cs⟩ →
    ∃ ρ' w' fr', Ext ρ s ρ' s' ∧ HR (CCof P) B w0 X ρ' s' w' ∧ (fr'.kind = kind ∧ fr'.fn = g) ∧ Steps P (lone (Frame.enter P g as kind) (cs false) w) (lone fr' (cs recd) w') ∧ OutR P ρ' fr' w' o
def SLeave [Sig] (n : Nat) : Prop := ∀ f p ds fr s o recd s', den A n (.leave f p ds fr s) = some (.out o recd s') →
  ∀ (F : Func) (X : List Nat) (ρ : Ren) (w : World) (M : List Nat) (f0 : Frame) (cs : List Frame), P.funcs[f0.fn]? = some F → cFunc P F = some f → TR ρ F.ntmps fr.tmps f0.tmps → DR ρ ds f0.defers M → MarkOk B M X → HR (CCof P) B w0 (M ++ X) ρ s w →
    (match p with | none => f0.mode = .returning | some v => ∃ u, VR ρ v u ∧ f0.mode = .panicking [{ v := u, recovered := false }]) →
    ∃ ρ' w' fr', Ext ρ s ρ' s' ∧ HR (CCof P) B w0 X ρ' s' w' ∧ (fr'.kind = f0.kind ∧ fr'.fn = f0.fn) ∧ recd = fr.recd ∧ Steps P (lone f0 cs w) (lone fr' cs w') ∧ OutR P ρ' fr' w' o
end
section
variable {P : Program} {A : Prog} {B : Nat} {w0 w w' : World} {ρ : Ren} {s s' : St} {b : Frame} {a : Act} {k : List Item} {cs : List Frame} {x : Ctx} {fr fr' : Fr}
theorem stepR_scope {c : Code} : Go.step P (lone (b.atR a (.code (.scope c) :: k)) cs w) = .next (lone (b.atR a (.code c :: .inScope c :: k)) cs w) :=
  step_lone_go (by simp [stepG, stepG.exec, Frame.atR])
theorem stepR_inScope {c : Code} : Go.step P (lone (b.atR a (.inScope c :: k)) cs w) = .next (lone (b.atR a k) cs w) :=
  step_lone_go (by simp [stepG, stepG.exec, Frame.atR])
theorem apply_congr {c : Frame} {m m' : Sem Next} {w1 w2 : World} (h : m.run P w1 = m'.run P w2) : (stepG.apply P true c cs none m w1).bare = (stepG.apply P true c cs none m' w2).bare := by
  simp [stepG.apply, Sem.runT_eq, GStep.bare_after, h]
theorem rangeFunc_steps [Sig] {g : Operand} {ps : Array Tmp} {assign body : Code} {l : Nat} {mark : List Deferred} {w1 : World} {fn : Fn} {first cap : Array Value} {M : Machine}
    (he : (Instr.enterLoop b.fn a.tmps ps assign body b.roundOf).run P w = .ok (l, mark) w1) (hg : a.eval g = .func fn first cap)
    (h : Goes P (b.atR { a with defers := mark ++ a.defers } (.inRangeFunc l :: k)) cs w1 (invoke (.fn fn cap) (first ++ #[.func (.yield l) #[] #[]])) M) :
    Steps P (lone (b.atR a (.code (.rangeFunc g ps assign body) :: k)) cs w) M := by
  obtain ⟨fr1, cs1, w2, h1, h2⟩ := h
  refine .head (step_lone_go ?_) h2
  rw [← h1]
  have hev := Frame.eval_atR b { a with defers := mark ++ a.defers } (.inRangeFunc l :: k)
  simp only [Frame.atR] at hev
  simp only [stepG, stepG.exec, Frame.atR, Sem.runT_eq, he, GStep.bare_after]
  refine apply_congr ?_
  rw [hev]
  have hg' : ({ tmps := a.tmps, defers := mark ++ a.defers } : Act).eval g = .func fn first cap := by rw [← hg]; cases g <;> rfl
  have hconst : ∀ c, ({ tmps := a.tmps, defers := mark ++ a.defers } : Act).eval (.const c) = c := fun _ => rfl
  generalize ({ tmps := a.tmps, defers := mark ++ a.defers } : Act).eval = ev at hg' hconst
  have hmap : (#[Operand.const (.func (.yield l) #[] #[])] : Array Operand).map ev = #[.func (.yield l) #[] #[]] := by
    simp [hconst]
  have hres : resolve ev { callee := .value g, args := #[.const (.func (.yield l) #[] #[])], argTypes := #[] } 0 = pure { target := .fn fn cap, args := first ++ #[.func (.yield l) #[] #[]] } := by
    simp only [resolve, hg', Deferred.ofValue, hmap]
  rw [hres]; rfl
theorem one_round {n : Nat} {op : AOp} {v : AV} (hx : x.round.isSome = true) (h : one A n op x fr s = some (.inl (fr', v, s'))) : fr' = fr := by
  obtain ⟨l, hl⟩ := Option.isSome_iff_exists.1 hx
  unfold one at h
  simp only [hl] at h
  split at h
  · split at h <;> simp at h
    exact h.1.symm
  · split at h
    · split at h
      · split at h <;> simp at h
        exact h.1.symm
      · cases h
    · cases h
  · cases h
  · cases h
  · split at h <;> simp at h
  · split at h
    · simp at h; exact h.1.symm
    · cases h
theorem ops_round [Sig] : ∀ {n : Nat} {l : List AOper} {fr : Fr} {s : St} {e : Ex} {fr' : Fr} {s' : St}, x.round.isSome = true → den A n (.ops l x fr s) = some (.ex e fr' s') → fr'.defers = fr.defers
  | 0, _, _, _, _, _, _, _, h => by simp [den] at h
  | n + 1, [], _, _, _, _, _, _, h => by simp [den] at h; rw [← h.2.1]
  | n + 1, o :: l, fr, s, e, fr', s', hx, h => by
    rw [den_ops_cons] at h
    split at h
    · cases h
    · have := ops_round hx h; exact this
    · split at h
      · cases h
      · rename_i fr1 v s1 hone
        split at h
        · have := ops_round hx h
          rw [one_round hx hone] at this
          exact this
        · cases h
      · simp at h; rw [← h.2.1]
theorem setParams_range [Sig] {t0 t : Tmps} : ∀ {vs : List AV} (i k : Nat), i + k ≤ 1000000 → setParams ((List.range' i k).map posOf) vs t0 = some t → vs.length = k ∧ ∀ j, j < 1000000 → ∀ v, t.get (posOf j) = some v → (i ≤ j ∧ vs[j - i]? = some v) ∨ t0.get (posOf j) = some v
  | [], i, 0, _, h => by
    simp [setParams] at h; subst h
    exact ⟨rfl, fun j _ v hv => .inr hv⟩
  | [], i, k + 1, _, h => by simp [List.range'_succ, setParams] at h
  | u :: vs, i, 0, _, h => by simp [setParams] at h
  | u :: vs, i, k + 1, hk, h => by
    rw [List.range'_succ, List.map_cons] at h
    simp only [setParams] at h
    obtain ⟨h1, h2⟩ := setParams_range (t0 := t0.set (posOf i) u) (i + 1) k (by omega) h
    refine ⟨by simp [h1], fun j hj v hv => ?_⟩
    rcases h2 j hj v hv with ⟨h3, h4⟩ | h3
    · refine .inl ⟨by omega, ?_⟩
      rw [show j - i = (j - (i + 1)) + 1 from by omega, List.getElem?_cons_succ]; exact h4
    · rw [T.get_set] at h3
      split at h3
      · rename_i e
        have := posOf_inj (by omega) hj e
        subst this
        simp at h3; subst h3
        exact .inl ⟨Nat.le_refl _, by simp⟩
      · exact .inr h3
theorem enter_TR [Sig] {k N : Nat} {args : List AV} {as : Array Value} {t : Tmps} (hk : k ≤ N) (hN : N ≤ 1000000) (h : setParams ((List.range k).map posOf) args .nil = some t) (ha : VRs ρ args as.toList) :
    TR ρ N t (as ++ Array.replicate (N - as.size) undef) := by
  rw [List.range_eq_range'] at h
  obtain ⟨h1, h2⟩ := setParams_range 0 k (by omega) h
  have hl := ha.length
  simp at hl
  refine ⟨by simp; omega, fun i v hi hv => ?_⟩
  rcases h2 i (by omega) v hv with ⟨_, h3⟩ | h3
  · obtain ⟨u, hu, hr⟩ := ha.get _ v h3
    simp at hu
    refine ⟨u, ?_, hr⟩
    have : i < as.size := by
      have := (Array.getElem?_eq_some_iff.1 hu).1
      exact this
    rw [Array.getElem?_append_left this]; exact hu
  · rw [T.get_nil] at h3; cases h3
theorem params_TR [Sig] {L : List Nat} {N : Nat} (hN : N ≤ 1000000) : ∀ {ps : List Nat} {args : List AV} {as : List Value} {t0 t : Tmps} {arr : Array Value}, (∀ p ∈ ps, p < N) → setParams (ps.map posOf) args t0 = some t → VRs ρ args as → TR ρ N t0 arr →
    ps.length = as.length ∧ TR ρ N t ((ps.zip as).foldl (fun tmps (p : Nat × Value) => tmps.setIfInBounds p.1 p.2) arr)
  | [], [], _, t0, t, arr, _, h, .nil, ht => by simp [setParams] at h; subst h; exact ⟨rfl, ht⟩
  | [], _ :: _, _, _, _, _, _, h, _, _ => by simp [setParams] at h
  | _ :: _, [], _, _, _, _, _, h, _, _ => by simp [setParams] at h
  | p :: ps, v :: vs, _, t0, t, arr, hp, h, .cons (u := u) (m := m) hv hvs, ht => by
    rw [List.map_cons] at h
    simp only [setParams] at h
    obtain ⟨h1, h2⟩ := params_TR (L := L) hN (fun q hq => hp q (List.mem_cons_of_mem _ hq)) h hvs (ht.put (hp p List.mem_cons_self) hN hv)
    exact ⟨by simp [h1], h2⟩
def readRes (arr : Array Value) : ResultVar → Sem Value
  | .tmp t => pure (arr.getD t undef)
  | .cell a t => do loadVar t (← asAddr (arr.getD a undef))
theorem results_eq (F : Func) (arr : Array Value) : results F arr = (F.results.mapM (readRes arr) >>= fun vs => pure (if h : vs.size = 1 then vs[0] else .tuple vs)) := by
  unfold results
  congr 1
theorem readRes_ok [Sig] {N : Nat} {X : List Nat} (h : HR (CCof P) B w0 X ρ s w) {r : ResultVar} {rs : ARes} {t : Tmps} {arr : Array Value} {v : AV} (hc : cRes P N [r] = some [rs]) (hr : resultOf s t rs = some v) (ht : TR ρ N t arr) :
    ∃ u, (readRes arr r).run P w = .ok u w ∧ VR ρ v u := by
  cases r with
  | tmp i =>
    simp only [cRes] at hc
    split at hc
    · rename_i p m hp hm
      simp at hc hm; obtain ⟨rfl, rfl⟩ := hc
      unfold tmpC at hp
      split at hp
      · rename_i hi
        simp at hp; subst hp
        simp only [resultOf, Option.some.injEq] at hr
        subst hr
        refine ⟨arr.getD i undef, rfl, ?_⟩
        cases hg : t.get (posOf i) with
        | none => exact .dead _
        | some v =>
          obtain ⟨u, hu, hr⟩ := ht.2 i v hi hg
          simp only
          rw [Array.getD_eq_getD_getElem?, hu]; exact hr
      · cases hp
    · cases hc
  | cell i ty =>
    simp only [cRes] at hc
    split at hc
    · rename_i p n m hp hn hm
      simp at hc hm; obtain ⟨rfl, rfl⟩ := hc
      unfold tmpC at hp
      split at hp
      · rename_i hi
        simp at hp; subst hp
        simp only [resultOf] at hr
        split at hr
        · rename_i ad hget
          obtain ⟨u, hu, hr'⟩ := ht.2 i _ hi hget
          obtain ⟨nm, off⟩ := ad
          obtain ⟨bb, base, hb, rfl⟩ := hr'.of_ptr
          obtain ⟨u', hr2, hu'⟩ := run_loadVar (P := P) h.wr hn hb hr
          refine ⟨u', ?_, hu'⟩
          have : arr.getD i undef = .pointer (some ⟨bb, base.off + off, none⟩) := by rw [Array.getD_eq_getD_getElem?, hu]; rfl
          simp [readRes, this, asAddr, hr2]
        · cases hr
      · cases hp
    · cases hc
theorem cRes_cons {N : Nat} {r : ResultVar} {l : List ResultVar} {rs : List ARes} (h : cRes P N (r :: l) = some rs) : ∃ a m, rs = a :: m ∧ cRes P N [r] = some [a] ∧ cRes P N l = some m := by
  cases r with
  | tmp i =>
    simp only [cRes] at h ⊢
    split at h
    · rename_i p m hp hm
      simp at h; subst h
      exact ⟨_, _, rfl, by simp [hp], hm⟩
    · cases h
  | cell i ty =>
    simp only [cRes] at h ⊢
    split at h
    · rename_i p n m hp hn hm
      simp at h; subst h
      exact ⟨_, _, rfl, by simp [hp, hn], hm⟩
    · cases h
theorem resultsOf_ok [Sig] {N : Nat} {X : List Nat} (h : HR (CCof P) B w0 X ρ s w) {t : Tmps} {arr : Array Value} (ht : TR ρ N t arr) : ∀ {l : List ResultVar} {rs : List ARes} {vs : List AV}, cRes P N l = some rs → resultsOf s t rs = some vs →
    ∃ us, (l.mapM (readRes arr)).run P w = .ok us w ∧ VRs ρ vs us
  | [], rs, vs, hc, hr => by
    simp [cRes] at hc; subst hc
    simp [resultsOf] at hr; subst hr
    exact ⟨[], rfl, .nil⟩
  | r :: l, rs, vs, hc, hr => by
    obtain ⟨a, m, rfl, h1, h2⟩ := cRes_cons hc
    simp only [resultsOf] at hr
    split at hr
    · cases hr
    · rename_i v hv
      split at hr
      · cases hr
      · rename_i vs' hvs
        simp at hr; subst hr
        obtain ⟨u, hu, hvu⟩ := readRes_ok h h1 hv ht
        obtain ⟨us, h3, h4⟩ := resultsOf_ok h ht h2 hvs
        exact ⟨u :: us, by rw [List.mapM_cons]; simp [Sem.run_bind, hu, h3], .cons hvu h4⟩
theorem results_ok [Sig] {F : Func} {rs : List ARes} {t : Tmps} {arr : Array Value} {vs : List AV} {X : List Nat} (h : HR (CCof P) B w0 X ρ s w) (hc : cRes P F.ntmps F.results.toList = some rs) (hr : resultsOf s t rs = some vs) (ht : TR ρ F.ntmps t arr) :
    ∃ u, (results F arr).run P w = .ok u w ∧ VR ρ (oneOf vs) u := by
  obtain ⟨us, h1, h2⟩ := resultsOf_ok h ht hc hr
  refine ⟨if h : us.toArray.size = 1 then us.toArray[0] else .tuple us.toArray, ?_, ?_⟩
  · rw [results_eq, Array.mapM_eq_mapM_toList, Sem.run_bind, Sem.run_map, h1]
    rfl
  · cases h2 with
    | nil => exact .tuple .nil
    | cons hv t =>
      cases t with
      | nil => exact hv
      | cons hv' t => simp [oneOf]; exact .tuple (.cons hv (.cons hv' t))
end
end A3
namespace A3
open Go
section
variable {P : Program} {A : Prog} {B : Nat} {w0 : World}
theorem finish_inRange {b : Frame} {a : Act} {k : List Item} (l : Nat) (v : Value) : (b.atR a (.inRangeFunc l :: k)).finish v = b.atR a (.endRangeFunc l :: k) := by
  simp [Frame.finish, Frame.atR]
theorem step_endRange {b : Frame} {a : Act} {k : List Item} {cs : List Frame} {w w' : World} {l : Nat} {jump : Option Code} (h : (Instr.endLoop l).run P w = .ok jump w') :
    Go.step P (lone (b.atR a (.endRangeFunc l :: k)) cs w) = .next (lone (b.atR a ((jump.map Item.code).toList ++ k)) cs w') :=
  step_lone_go (by simp [stepG, stepG.exec, Frame.atR, Sem.runT_eq, h, GStep.bare_after])
theorem cTmps_eq {N : Nat} : ∀ {l : List Nat} {ps : List Pos}, cTmps N l = some ps → ps = l.map posOf ∧ ∀ t ∈ l, t < N
  | [], ps, h => by simp [cTmps] at h; subst h; simp
  | t :: l, ps, h => by
    simp only [cTmps] at h
    split at h
    · rename_i p m hp hm
      simp at h; subst h
      obtain ⟨h1, h2⟩ := cTmps_eq hm
      unfold tmpC at hp
      split at hp
      · rename_i ht
        simp at hp
        refine ⟨by rw [h1, ← hp]; rfl, fun q hq => ?_⟩
        rcases List.mem_cons.1 hq with rfl | hq
        · exact ht
        · exact h2 q hq
      · cases hp
    · cases h
theorem loop_sound [Sig] {n : Nat} (ihc : ∀ m, m < n → SCode P A B w0 m) (ihl : ∀ m, m < n → SLoop P A B w0 m) : SLoop P A B w0 n := by
  intro c x fr s e fr' s' hden N c0 X ρ a w M cc hc hN hf hx h hM hfn k
  cases n with
  | zero => simp [den] at hden
  | succ n =>
    simp only [den] at hden
    split at hden
    · rename_i fr1 s1 h1
      obtain ⟨ρ1, a1, w1, M1, e1, f1, g1, m1, r1, q1⟩ := ihc n (by omega) _ _ _ _ _ _ _ h1 N c0 X ρ a w M cc hc hN hf hx h hM hfn (.inLoop c0 :: k)
      obtain ⟨ρ2, a2, w2, M2, e2, f2, g2, m2, r2, q2⟩ := ihl n (by omega) _ _ _ _ _ _ _ hden N c0 X ρ1 a1 w1 M1 cc hc hN f1 (hx.mono e1.le) g1 m1 hfn k
      refine ⟨ρ2, a2, w2, M2, e1.trans e2, f2, g2, m2, fun hr => ⟨by rw [(r2 hr).1, (r1 hr).1], by rw [(r2 hr).2, (r1 hr).2]⟩, ?_⟩
      refine .of_steps ?_ q2
      have q1' : Steps P _ _ := q1
      exact q1'.trans (.one stepR_inLoop)
    · rename_i hno
      have hne : e ≠ .normal := by rintro rfl; exact hno _ _ hden
      obtain ⟨ρ1, a1, w1, M1, e1, f1, g1, m1, r1, q1⟩ := ihc n (by omega) _ _ _ _ _ _ _ hden N c0 X ρ a w M cc hc hN hf hx h hM hfn (.inLoop c0 :: k)
      exact ⟨ρ1, a1, w1, M1, e1, f1, g1, m1, r1, q1.pass (by simp) hne⟩
theorem getLoop_ok [Sig] {x : Ctx} {s : St} {ρ : Ren} {X : List Nat} {w : World} {cc : Cx} {n : Pos} (hn : x.round = some n) (hx : CxOk ρ x cc) (h : HR (CCof P) B w0 X ρ s w) (hr : roundOk x s = true) :
    ∃ l L, cc.b.roundOf = some l ∧ w.heap[l]? = some (.loop L) := by
  obtain ⟨_, l, h1, h2⟩ := hx.round n hn
  simp only [roundOk, hn] at hr
  split at hr
  · rename_i al hal
    obtain ⟨_, _, L, h3, _⟩ := h.wr.loop _ _ _ _ h2 hal
    exact ⟨l, L, h1, h3⟩
  · cases hr
theorem enter_ok [Sig] {x : Ctx} {fr : Fr} {s : St} {ρ : Ren} {X : List Nat} {w : World} {cc : Cx} {a : Act} {M : List Nat} {N : Nat} {ps : Array Tmp} {assign body : Code} {al : ALoop}
    (hx : CxOk ρ x cc) (h : HR (CCof P) B w0 (M ++ X) ρ s w) (hM : MarkOk B M X) (hr : roundOk x s = true) (hf : FR ρ N fr a M)
    (hl : LoopR (CCof P) ρ al { state := .ready, pending := none, fn := cc.b.fn, tmps := a.tmps, params := ps, assign := assign, body := body, defers := 0 }) :
    ∃ l mark w1 ρ1 M1, (Instr.enterLoop cc.b.fn a.tmps ps assign body cc.b.roundOf).run P w = .ok (l, mark) w1 ∧ ρ1 s.next = some (l, ⟨0, 0⟩) ∧ Ext ρ s ρ1 (s.alloc (.loop al)) ∧
      HR (CCof P) B w0 (M1 ++ X) ρ1 (s.alloc (.loop al)) w1 ∧ MarkOk B M1 X ∧ FR ρ1 N fr { a with defers := mark ++ a.defers } M1 ∧ (x.round.isSome = true → M1 = M) := by
  have hl' : ∀ d, LoopR (CCof P) ρ al { state := .ready, pending := none, fn := cc.b.fn, tmps := a.tmps, params := ps, assign := assign, body := body, defers := d } := fun d => ⟨hl.st, hl.pend, hl.tmps, hl.params, hl.inside, hl.assign, hl.body, hl.fn⟩
  cases hround : x.round with
  | none =>
    rw [hx.plain hround]
    refine ⟨_, _, _, ρ.ext s.next (w.heap.size + 1, ⟨0, 0⟩), w.heap.size :: M, run_enterLoop_out, ?_, ?_⟩
    · exact Ren.ext_same
    · have h1 : HR (CCof P) B w0 (w.heap.size :: M ++ X) ρ s (w.alloc (.deferred (some []))) := h.newDeferred
      obtain ⟨h2, h3⟩ := h1.newLoop (hl' w.heap.size)
      have hsz : (w.alloc (.deferred (some []))).heap.size = w.heap.size + 1 := by simp
      rw [hsz] at h2 h3
      have hlt : ∀ b ∈ M ++ X, b < w.heap.size := fun b hb => (Array.getElem?_eq_some_iff.1 (h.ty.df b hb)).1
      refine ⟨h3, h2, ⟨?_, ?_, ?_⟩, ⟨hf.tmps.mono h3.le, .mark _ (hf.defers.mono h3.le)⟩, by simp⟩
      · exact List.nodup_cons.2 ⟨fun hm => Nat.lt_irrefl _ (hlt _ (List.mem_append_left _ hm)), hM.1⟩
      · intro b hb
        rcases List.mem_cons.1 hb with rfl | hb
        · exact fun hm => Nat.lt_irrefl _ (hlt _ (List.mem_append_right _ hm))
        · exact hM.2.1 b hb
      · intro b hb
        rcases List.mem_cons.1 hb with rfl | hb
        · exact h.wr.size
        · exact hM.2.2 b hb
  | some n =>
    obtain ⟨l, L, h1, h2⟩ := getLoop_ok hround hx h hr
    rw [h1]
    refine ⟨_, _, _, ρ.ext s.next (w.heap.size, ⟨0, 0⟩), M, run_enterLoop_in h2, ?_, ?_⟩
    · exact Ren.ext_same
    · obtain ⟨h3, h4⟩ := h.newLoop (hl' L.defers)
      exact ⟨h4, h3, hM, ⟨hf.tmps.mono h4.le, hf.defers.mono h4.le⟩, fun _ => rfl⟩
theorem plain_inRange {b : Frame} {a : Act} {l : Nat} {k : List Item} : plainTodo (b.atR a (.inRangeFunc l :: k)) := by
  intro d x r s k' h; simp [Frame.atR] at h
theorem func_of_apply {n : Nat} {f : AV} {args : List AV} {x : Ctx} {s : St} {r : Res} (h : den A n (.apply f args x s) = some r) : ∃ g p q, f = .func g p q := by
  cases n with
  | zero => simp [den] at h
  | succ n =>
    cases f with
    | func g p q => exact ⟨g, p, q, rfl⟩
    | _ => simp [den] at h
theorem VR.of_func [Sig] {ρ : Ren} {g : AFn} {p q : List AV} {u : Value} (h : VR ρ (.func g p q) u) : ∃ fn first cap, u = .func fn first cap := by
  cases h with
  | func => exact ⟨_, _, _, rfl⟩
  | yield => exact ⟨_, _, _, rfl⟩
theorem code_sound [Sig] (henv : Env P A B w0) {n : Nat} (ihc : ∀ m, m < n → SCode P A B w0 m) (ihl : ∀ m, m < n → SLoop P A B w0 m) (iha : ∀ m, m < n → ∀ C, C = CCof P → SApply P A C B w0 m) : SCode P A B w0 n := by
  intro c x fr s e fr' s' hden N c0
  induction c0 generalizing c x fr s e fr' s' with
  | label l =>
    intro X ρ a w M cc hc hN hf hx h hM hfn k
    simp [cCode] at hc; subst hc
    cases n with
    | zero => simp [den] at hden
    | succ n =>
      simp only [den, Option.some.injEq, Res.ex.injEq] at hden
      obtain ⟨rfl, rfl, rfl⟩ := hden
      exact ⟨ρ, a, w, M, Ext.refl _ _, hf, h, hM, fun _ => ⟨rfl, rfl⟩, .one stepR_label⟩
  | skip =>
    intro X ρ a w M cc hc hN hf hx h hM hfn k
    simp [cCode] at hc; subst hc
    cases n with
    | zero => simp [den] at hden
    | succ n =>
      simp only [den, Option.some.injEq, Res.ex.injEq] at hden
      obtain ⟨rfl, rfl, rfl⟩ := hden
      exact ⟨ρ, a, w, M, Ext.refl _ _, hf, h, hM, fun _ => ⟨rfl, rfl⟩, .one stepR_skip⟩
  | region id ops draw =>
    intro X ρ a w M cc hc hN hf hx h hM hfn k
    simp only [cCode] at hc
    cases n with
    | zero => simp [den] at hden
    | succ n =>
      split at hc
      · rename_i l hl
        simp at hc; subst hc
        simp only [den] at hden
        obtain ⟨ρ', a', w', h1, h2, h3, h4⟩ := region_sound (C := CCof P) hN henv.mix (fun q hq => iha q (by omega) _ rfl) hl hden hf hx h id k
        exact ⟨ρ', a', w', M, h1, h2, h3, hM, fun hr => ⟨rfl, ops_round hr hden⟩, h4⟩
      · simp at hc; subst hc
        simp [den] at hden
  | scope b ih =>
    intro X ρ a w M cc hc hN hf hx h hM hfn k
    simp only [cCode] at hc
    obtain ⟨ρ', a', w', M', e1, f1, g1, m1, r1, q1⟩ := ih _ _ _ _ _ _ _ hden X ρ a w M cc hc hN hf hx h hM hfn (.inScope b :: k)
    refine ⟨ρ', a', w', M', e1, f1, g1, m1, r1, .of_steps (.one stepR_scope) ?_⟩
    by_cases he : e = .normal
    · subst he
      have q1' : Steps P _ _ := q1
      exact q1'.trans (.one stepR_inScope)
    · exact q1.pass (by simp) he
  | goto l =>
    intro X ρ a w M cc hc hN hf hx h hM hfn k
    simp [cCode] at hc; subst hc
    cases n <;> simp [den] at hden
  | refuse y =>
    intro X ρ a w M cc hc hN hf hx h hM hfn k
    simp [cCode] at hc; subst hc
    cases n <;> simp [den] at hden
  | ret =>
    intro X ρ a w M cc hc hN hf hx h hM hfn k
    simp [cCode] at hc; subst hc
    cases n with
    | zero => simp [den] at hden
    | succ n =>
      simp only [den, Option.some.injEq, Res.ex.injEq] at hden
      obtain ⟨rfl, rfl, rfl⟩ := hden
      exact ⟨ρ, a, w, M, Ext.refl _ _, hf, h, hM, fun _ => ⟨rfl, rfl⟩, k, .refl _ _⟩
  | exit id =>
    intro X ρ a w M cc hc hN hf hx h hM hfn k
    simp [cCode] at hc; subst hc
    cases n with
    | zero => simp [den] at hden
    | succ n =>
      simp only [den, Option.some.injEq, Res.ex.injEq] at hden
      obtain ⟨rfl, rfl, rfl⟩ := hden
      exact ⟨ρ, a, w, M, Ext.refl _ _, hf, h, hM, fun _ => ⟨rfl, rfl⟩, k, rfl, .refl _ _⟩
  | seq y z =>
    intro X ρ a w M cc hc hN hf hx h hM hfn k
    simp only [cCode] at hc
    split at hc
    · rename_i c1 c2 hc1 hc2
      simp at hc; subst hc
      cases n with
      | zero => simp [den] at hden
      | succ n =>
        simp only [den] at hden
        split at hden
        · rename_i fr1 s1 h1
          obtain ⟨ρ1, a1, w1, M1, e1, f1, g1, m1, r1, q1⟩ := ihc n (by omega) _ _ _ _ _ _ _ h1 N y X ρ a w M cc hc1 hN hf hx h hM hfn (.code z :: k)
          obtain ⟨ρ2, a2, w2, M2, e2, f2, g2, m2, r2, q2⟩ := ihc n (by omega) _ _ _ _ _ _ _ hden N z X ρ1 a1 w1 M1 cc hc2 hN f1 (hx.mono e1.le) g1 m1 hfn k
          refine ⟨ρ2, a2, w2, M2, e1.trans e2, f2, g2, m2, fun hr => ⟨by rw [(r2 hr).1, (r1 hr).1], by rw [(r2 hr).2, (r1 hr).2]⟩, ?_⟩
          have q1' : Steps P _ _ := q1
          exact .of_steps (.head stepR_seq q1') q2
        · rename_i hno
          have hne : e ≠ .normal := by rintro rfl; exact hno _ _ hden
          obtain ⟨ρ1, a1, w1, M1, e1, f1, g1, m1, r1, q1⟩ := ihc n (by omega) _ _ _ _ _ _ _ hden N y X ρ a w M cc hc1 hN hf hx h hM hfn (.code z :: k)
          exact ⟨ρ1, a1, w1, M1, e1, f1, g1, m1, r1, .of_steps (.one stepR_seq) (q1.pass (by simp) hne)⟩
    · cases hc
  | cond o y z =>
    intro X ρ a w M cc hc hN hf hx h hM hfn k
    simp only [cCode] at hc
    split at hc
    · rename_i co c1 c2 hco hc1 hc2
      simp at hc; subst hc
      have hv := ER_of_TR hf.tmps o _ hco
      cases n with
      | zero => simp [den] at hden
      | succ n =>
        simp only [den] at hden
        split at hden
        · rename_i hb
          rw [hb] at hv
          have hv' := hv.of_bool
          obtain ⟨ρ1, a1, w1, M1, e1, f1, g1, m1, r1, q1⟩ := ihc n (by omega) _ _ _ _ _ _ _ hden N y X ρ a w M cc hc1 hN hf hx h hM hfn k
          exact ⟨ρ1, a1, w1, M1, e1, f1, g1, m1, r1, .of_steps (.one (stepR_cond hv')) q1⟩
        · rename_i hb
          rw [hb] at hv
          have hv' := hv.of_bool
          obtain ⟨ρ1, a1, w1, M1, e1, f1, g1, m1, r1, q1⟩ := ihc n (by omega) _ _ _ _ _ _ _ hden N z X ρ a w M cc hc2 hN hf hx h hM hfn k
          exact ⟨ρ1, a1, w1, M1, e1, f1, g1, m1, r1, .of_steps (.one (stepR_cond hv')) q1⟩
        · cases hden
    · cases hc
  | block id y =>
    intro X ρ a w M cc hc hN hf hx h hM hfn k
    simp only [cCode] at hc
    split at hc
    · rename_i c1 hc1
      simp at hc; subst hc
      cases n with
      | zero => simp [den] at hden
      | succ n =>
        simp only [den] at hden
        split at hden
        · rename_i j fr1 s1 h1
          obtain ⟨ρ1, a1, w1, M1, e1, f1, g1, m1, r1, q1⟩ := ihc n (by omega) _ _ _ _ _ _ _ h1 N y X ρ a w M cc hc1 hN hf hx h hM hfn (.inBlock id :: k)
          obtain ⟨k1, hk1, q1⟩ := q1
          split at hden
          · rename_i hj
            simp only [Option.some.injEq, Res.ex.injEq] at hden
            obtain ⟨rfl, rfl, rfl⟩ := hden
            refine ⟨ρ1, a1, w1, M1, e1, f1, g1, m1, r1, ?_⟩
            have hk : exitTo j k1 = some k := by rw [hk1, hj]; simp [exitTo]
            exact Steps.head stepR_block (q1.trans (.one (stepR_exit hk)))
          · rename_i hj
            simp only [Option.some.injEq, Res.ex.injEq] at hden
            obtain ⟨rfl, rfl, rfl⟩ := hden
            refine ⟨ρ1, a1, w1, M1, e1, f1, g1, m1, r1, k1, ?_, .head stepR_block q1⟩
            rw [hk1]
            have : (id == j) = false := by simpa using fun h => hj h.symm
            simp [exitTo, this]
        · rename_i hno
          obtain ⟨ρ1, a1, w1, M1, e1, f1, g1, m1, r1, q1⟩ := ihc n (by omega) _ _ _ _ _ _ _ hden N y X ρ a w M cc hc1 hN hf hx h hM hfn (.inBlock id :: k)
          refine ⟨ρ1, a1, w1, M1, e1, f1, g1, m1, r1, .of_steps (.one stepR_block) ?_⟩
          cases e with
          | normal =>
            have q1' : Steps P _ _ := q1
            exact q1'.trans (.one stepR_inBlock)
          | exit j => exact absurd hden (hno j _ _)
          | ret => exact q1
          | panic v => exact q1
    · cases hc
  | loop y =>
    intro X ρ a w M cc hc hN hf hx h hM hfn k
    simp only [cCode] at hc
    split at hc
    · rename_i c1 hc1
      simp at hc; subst hc
      obtain ⟨ρ1, a1, w1, M1, e1, f1, g1, m1, r1, q1⟩ := loop_sound ihc ihl _ _ _ _ _ _ _ hden N y X ρ a w M cc hc1 hN hf hx h hM hfn k
      exact ⟨ρ1, a1, w1, M1, e1, f1, g1, m1, r1, .of_steps (.one stepR_loop) q1⟩
    · cases hc
  | rangeFunc g ps y z =>
    intro X ρ a w M cc hc hN hf hx h hM hfn k
    simp only [cCode] at hc
    split at hc
    · rename_i fo pos ca cb hfo hps hca hcb
      simp at hc; subst hc
      have hv := ER_of_TR hf.tmps g _ hfo
      obtain ⟨rfl, hin⟩ := cTmps_eq hps
      cases n with
      | zero => simp [den] at hden
      | succ n =>
        simp only [den] at hden
        split at hden
        · cases hden
        · rename_i hro
          have hsz := hf.tmps.1
          have hl : LoopR (CCof P) ρ { st := .ready, pending := none, tmps := fr.tmps, params := ps.toList.map posOf, assign := ca, body := cb }
              { state := .ready, pending := none, fn := cc.b.fn, tmps := a.tmps, params := ps, assign := y, body := z, defers := 0 } := by
            refine ⟨trivial, .none, ?_, rfl, ?_, ?_, ?_, hfn⟩
            · show TR ρ a.tmps.size _ _; rw [hsz]; exact hf.tmps
            · intro t ht; show t < a.tmps.size; rw [hsz]; exact hin t ht
            · show _ ≤ _ ∧ _; rw [show ({ state := .ready, pending := none, fn := cc.b.fn, tmps := a.tmps, params := ps, assign := y, body := z, defers := 0 } : Loop).tmps = a.tmps from rfl, hsz]; exact ⟨hN, hca⟩
            · show _ ≤ _ ∧ _; rw [show ({ state := .ready, pending := none, fn := cc.b.fn, tmps := a.tmps, params := ps, assign := y, body := z, defers := 0 } : Loop).tmps = a.tmps from rfl, hsz]; exact ⟨hN, hcb⟩
          obtain ⟨l, mark, w1, ρ1, M1, hrun, hname, e1, g1, m1, f1, r1⟩ := enter_ok hx h hM hro hf hl
          have after : ∀ {o b s1}, den A n (.apply (fo.eval fr.tmps) [.func (.yield s.next) [] []] ctxN (s.alloc (.loop { st := .ready, pending := none, tmps := fr.tmps, params := ps.toList.map posOf, assign := ca, body := cb }))) = some (.out o b s1) →
              ∃ ρ2 w2 u, Ext ρ1 (s.alloc (.loop { st := .ready, pending := none, tmps := fr.tmps, params := ps.toList.map posOf, assign := ca, body := cb })) ρ2 s1 ∧ HR (CCof P) B w0 (M1 ++ X) ρ2 s1 w2 ∧ match o with
                | .ret v => VR ρ2 v u ∧ Steps P (lone (cc.b.atR a (.code (.rangeFunc g ps y z) :: k)) (cc.cs fr.recd) w) (lone (cc.b.atR { a with defers := mark ++ a.defers } (.endRangeFunc l :: k)) (cc.cs fr.recd) w2)
                | .panic v => VR ρ2 v u ∧ Steps P (lone (cc.b.atR a (.code (.rangeFunc g ps y z) :: k)) (cc.cs fr.recd) w) (lone ((cc.b.atR { a with defers := mark ++ a.defers } (.inRangeFunc l :: k)).raise [{ v := u, recovered := false }]) (cc.cs fr.recd) w2) := by
            intro o b s1 hap
            obtain ⟨gg, p, q, hfe⟩ := func_of_apply hap
            have hv' := hv
            rw [hfe] at hv'
            obtain ⟨fn, first, cap, hF⟩ := hv'.of_func
            rw [hF] at hv
            obtain ⟨ρ2, w2, u, h1, h2, h3⟩ := iha n (by omega) _ rfl _ _ _ _ _ _ hap (M1 ++ X) ρ1 w1 fn first cap #[.func (.yield l) #[] #[]] (cc.b.atR { a with defers := mark ++ a.defers } (.inRangeFunc l :: k)) (cc.cs fr.recd) (hv.mono e1.le) (.cons (.yield hname) .nil) g1 plain_inRange
            refine ⟨ρ2, w2, u, h1, h2, ?_⟩
            cases o with
            | ret v =>
              obtain ⟨h4, h5⟩ := h3
              rw [finish_inRange] at h5
              exact ⟨h4, rangeFunc_steps hrun hF h5⟩
            | panic v =>
              obtain ⟨h4, h5⟩ := h3
              exact ⟨h4, rangeFunc_steps hrun hF h5⟩
          split at hden
          · rename_i v b s1 hap
            simp only [Option.some.injEq, Res.ex.injEq] at hden
            obtain ⟨rfl, rfl, rfl⟩ := hden
            obtain ⟨ρ2, w2, u, h1, h2, h3, h4⟩ := after hap
            exact ⟨ρ2, _, w2, M1, e1.trans h1, f1.mono h1.le, h2, m1, fun hr => ⟨r1 hr, rfl⟩, _, u, h3, h4⟩
          · rename_i v b s1 hap
            obtain ⟨ρ2, w2, u, h1, h2, h3, h4⟩ := after hap
            split at hden
            · rename_i r hget
              obtain ⟨_, _, L, hL, hLR⟩ := h2.wr.loop _ _ _ _ (h1.le _ _ hname) hget
              split at hden
              · cases hden
              · rename_i hbusy
                simp only [Option.some.injEq, Res.ex.injEq] at hden
                obtain ⟨rfl, rfl, rfl⟩ := hden
                have hst : L.state ≠ .busy := by
                  intro e
                  have := hLR.st
                  rw [e] at this
                  cases hq : r.st with
                  | busy => exact hbusy hq
                  | ready => rw [hq] at this; exact this
                  | done => rw [hq] at this; exact this
                  | exhausted => rw [hq] at this; exact this
                have hLR' : LoopR (CCof P) ρ2 { r with st := .exhausted } { L with state := .exhausted } := ⟨trivial, hLR.pend, hLR.tmps, hLR.params, hLR.inside, hLR.assign, hLR.body, hLR.fn⟩
                obtain ⟨g3, e3⟩ := h2.putLoop (h1.le _ _ hname) hget hLR'
                have hend := step_endRange (b := cc.b) (a := { a with defers := mark ++ a.defers }) (k := k) (cs := cc.cs fr.recd) (run_endLoop (P := P) hL hst)
                refine ⟨ρ2, _, _, M1, e1.trans (h1.trans e3), f1.mono h1.le, g3, m1, fun hr => ⟨r1 hr, rfl⟩, ?_⟩
                have hp := hLR.pend
                generalize r.pending = rp at hp
                generalize L.pending = Lp at hp hend
                cases hp with
                | none => exact h4.trans (.one hend)
                | exit id => exact ⟨k, rfl, h4.trans (.one hend)⟩
                | ret => exact ⟨k, h4.trans (.one hend)⟩
            · cases hden
          · cases hden
    · cases hc
end
end A3
namespace A3
open Go
section
variable {P : Program} {A : Prog} {B : Nat} {w0 : World}
theorem peel [Sig] {ρ : Ren} {s : St} {X : List Nat} {cs : List Frame} : ∀ {ds : List ADefer} {Ds : List Deferred} {M : List Nat}, DR ρ ds Ds M → ∀ {w : World} (f0 : Frame), f0.defers = Ds → f0.mode ≠ .run → MarkOk B M X → HR (CCof P) B w0 (M ++ X) ρ s w →
    ∃ Ds' M' w', Steps P (lone f0 cs w) (lone { f0 with defers := Ds' } cs w') ∧ HR (CCof P) B w0 (M' ++ X) ρ s w' ∧ MarkOk B M' X ∧
      ((ds = [] ∧ Ds' = [] ∧ M' = []) ∨ ∃ d ds1 fn first cap args Ds1, ds = d :: ds1 ∧ Ds' = { target := .fn fn cap, args := first ++ args } :: Ds1 ∧ VR ρ d.f (.func fn first cap) ∧ VRs ρ d.args args.toList ∧ DR ρ ds1 Ds1 M')
  | _, _, _, .nil, w, f0, hd, _, hM, h => ⟨[], [], w, by rw [← hd]; exact .refl _ _, h, hM, .inl ⟨rfl, rfl, rfl⟩⟩
  | _, _, _, .call hf ha t, w, f0, hd, _, hM, h => ⟨_, _, w, by rw [← hd]; exact .refl _ _, h, hM, .inr ⟨_, _, _, _, _, _, _, rfl, rfl, hf, ha, t⟩⟩
  | ds, _, _, .mark (Ds := Ds) (M := M) b t, w, f0, hd, hmode, hM, h => by
    have hb : w.heap[b]? = some (.deferred (some [])) := h.ty.df b (by simp)
    have h1 : HR (CCof P) B w0 (M ++ X) ρ s { w with heap := w.heap.setIfInBounds b (.deferred none) } := by
      refine h.take (b := b) (by simp) (hM.2.2 b List.mem_cons_self) fun c hc => ⟨by simp only [List.cons_append]; exact List.mem_cons_of_mem _ hc, ?_⟩
      rintro rfl
      rcases List.mem_append.1 hc with hc | hc
      · exact (List.nodup_cons.1 hM.1).1 hc
      · exact hM.2.1 _ List.mem_cons_self hc
    have hM1 : MarkOk B M X := ⟨(List.nodup_cons.1 hM.1).2, fun c hc => hM.2.1 c (List.mem_cons_of_mem _ hc), fun c hc => hM.2.2 c (List.mem_cons_of_mem _ hc)⟩
    obtain ⟨Ds', M', w', q1, q2, q3, q4⟩ := peel (cs := cs) t { f0 with defers := Ds } rfl hmode hM1 h1
    refine ⟨Ds', M', w', .head ?_ q1, q2, q3, q4⟩
    refine step_lone_go ?_
    cases hm : f0.mode with
    | run => exact absurd hm hmode
    | returning => simp [stepG, unwind, hm, hd, Sem.runT_eq, run_takeDeferred hb, GStep.bare_after]
    | panicking chain => simp [stepG, unwind, hm, hd, Sem.runT_eq, run_takeDeferred hb, GStep.bare_after]
theorem cFunc_eq {F : Func} {f : AFunc} (h : cFunc P F = some f) : ∃ c, F.body = some c ∧ F.params.size + F.nfree ≤ F.ntmps ∧ F.ntmps ≤ 1000000 ∧ cCode P F.ntmps c = some f.body ∧ cRes P F.ntmps F.results.toList = some f.results ∧
    f.params = (List.range (F.params.size + F.nfree)).map posOf := by
  unfold cFunc at h
  split at h
  · cases h
  · rename_i c hc
    simp only at h
    split at h
    · cases h
    · rename_i hcond
      simp only [Bool.not_eq_true', Bool.not_eq_false, Bool.and_eq_true, Nat.ble_eq] at hcond
      split at h
      · rename_i b r hb hr
        simp at h; subst h
        exact ⟨c, hc, hcond.1, hcond.2, hb, hr, rfl⟩
      · cases h
theorem callFunc_enter {g : FuncId} {F : Func} {w : World} {as : Array Value} (hF : P.funcs[g]? = some F) (hb : F.body.isSome = true) (hn : (F.name == "runtime.NumGoroutine") = false) : (callFunc g as).run P w = .ok (.enter g as) w := by
  obtain ⟨c, hc⟩ := Option.isSome_iff_exists.1 hb
  unfold callFunc
  simp only [Sem.run_bind, run_program, Result.andThen_ok, hF, hn, hc]
  simp
def recoverMode (m : FrameMode) : FrameMode := match m with
  | .panicking [q] => .panicking [{ q with recovered := true }]
  | m => m
theorem leave_sound [Sig] (henv : Env P A B w0) {n : Nat} (ihk : ∀ m, m < n → SCall P A B w0 m) (ihv : ∀ m, m < n → SLeave P A B w0 m) : SLeave P A B w0 n := by
  intro f p ds fr s o recd s' hden F X ρ w M f0 cs hF hcf ht hd hM h hmode
  have hrun : f0.mode ≠ .run := by
    intro e
    rw [e] at hmode
    cases p with
    | none => cases hmode
    | some v => obtain ⟨_, _, h⟩ := hmode; cases h
  obtain ⟨Ds', M', w1, q1, q2, q3, q4⟩ := peel (cs := cs) hd f0 rfl hrun hM h
  obtain ⟨c, hbody, _, _, _, hres, _⟩ := cFunc_eq hcf
  cases n with
  | zero => simp [den] at hden
  | succ n =>
  simp only [den] at hden
  rcases q4 with ⟨rfl, rfl, rfl⟩ | ⟨d, ds1, fn, first, cap, args, Ds1, rfl, rfl, hf, ha, hd1⟩
  · simp only at hden
    cases p with
    | some v =>
      simp only [Option.some.injEq, Res.out.injEq] at hden
      obtain ⟨rfl, rfl, rfl⟩ := hden
      obtain ⟨u, hu, hm⟩ := hmode
      exact ⟨ρ, w1, { f0 with defers := [] }, Ext.refl _ _, q2, ⟨rfl, rfl⟩, rfl, q1, u, hu, hm, rfl, F, hF⟩
    | none =>
      simp only at hden
      split at hden
      · cases hden
      · rename_i vs hvs
        simp only [Option.some.injEq, Res.out.injEq] at hden
        obtain ⟨rfl, rfl, rfl⟩ := hden
        obtain ⟨u, hr, hu⟩ := results_ok q2 hres hvs ht
        exact ⟨ρ, w1, { f0 with defers := [] }, Ext.refl _ _, q2, ⟨rfl, rfl⟩, rfl, q1, u, hu, hmode, rfl, F, hF, hr⟩
  · simp only at hden
    split at hden
    · rename_i v rc s1 hap
      cases n with
      | zero => simp [den] at hap
      | succ n =>
      have hfun : ∃ g p1 p2, d.f = .func (.fn g) p1 p2 := by
        obtain ⟨g, p1, p2, e⟩ := func_of_apply hap
        rw [e] at hap
        cases g with
        | fn g => exact ⟨g, p1, p2, e⟩
        | yield l => simp [den] at hap
        | other => simp [den] at hap
      obtain ⟨g, p1, p2, hdf⟩ := hfun
      rw [hdf] at hf hap
      simp only [den, app_eq] at hap
      cases hf with
      | func hx hy =>
      have hprim : primR A g (p1 ++ (d.args ++ p2)) { pend := some p, round := none } s = none := by
        unfold primR
        split <;> rfl
      have hfn : ∃ fa, A.func g = some fa := by
        cases n with
        | zero => simp [den] at hap
        | succ n =>
          simp only [den, hprim] at hap
          split at hap
          · cases hap
          · rename_i fa hfa; exact ⟨fa, hfa⟩
      obtain ⟨fa, hfa⟩ := hfn
      obtain ⟨G, hG, hcG, hname⟩ := henv.func g fa hfa
      obtain ⟨cG, hbG, _⟩ := cFunc_eq hcG
      have hargs : VRs ρ (p1 ++ (d.args ++ p2)) ((first ++ args) ++ cap).toList := by
        have := (hx.append ha).append hy
        simpa [List.append_assoc] using this
      have henter : (invoke (.fn (.func g) cap) (first ++ args)).run P w1 = .ok (.enter g ((first ++ args) ++ cap)) w1 := callFunc_enter hG (by simp [hbG]) hname
      have hst := step_defer (P := P) (fr := { f0 with defers := { target := .fn (.func g) cap, args := first ++ args } :: Ds1 }) (cs := cs) (w := w1) (d := { target := .fn (.func g) cap, args := first ++ args }) (ds := Ds1) hrun rfl rfl henter
      let c1 : Frame := { f0 with defers := Ds1 }
      let c2 : Frame := { c1 with mode := recoverMode f0.mode }
      have hcx : CxOk ρ { pend := some p, round := none } ⟨frameOf g .deferred, fun r => (if r then c2 else c1) :: cs⟩ := by
        refine ⟨fun _ => rfl, fun n e => by simp at e, ?_, ?_⟩
        · intro _ v hv
          simp only [Option.some.injEq] at hv; subst hv
          obtain ⟨u, hu, hm⟩ := hmode
          refine ⟨u, hu, fun fr hk => ?_⟩
          have hk' : fr.kind = .deferred := hk
          simp only [tryRecover, hk', Bool.false_eq_true, if_false, if_true]
          simp [c1, c2, hm, recoverMode]
        · intro _ fr r hk hr
          have hk' : fr.kind = .deferred := hk
          simp only [tryRecover, hk']
          cases p with
          | none =>
            have hm : f0.mode = .returning := hmode
            cases r <;> simp [c1, c2, hm, recoverMode]
          | some v =>
            obtain ⟨u, hu, hm⟩ := hmode
            have hrt : r = true := hr v rfl
            subst hrt
            simp [c1, c2, hm, recoverMode]
      obtain ⟨ρ2, w2, fr2, e1, g1, k1, st1, u, hu, hgo⟩ := ihk n (by omega) g _ _ _ _ _ _ hprim hap rfl (M' ++ X) ρ w1 ((first ++ args) ++ cap) .deferred _ hargs q2 hcx
      have hst2 := step_going_returned (P := P) (fr := fr2) (c := if rc then c2 else c1) (cs := cs) (w := w2) (v := u) k1.1 hgo
      let f1 : Frame := { (if rc then c2 else c1) with mode := settle (if rc then c2 else c1).mode }
      have hf1 : f1.fn = f0.fn ∧ f1.tmps = f0.tmps ∧ f1.defers = Ds1 ∧ f1.kind = f0.kind := by
        cases rc
        · exact ⟨rfl, rfl, rfl, rfl⟩
        · exact ⟨rfl, rfl, rfl, rfl⟩
      have hmode1 : match (if rc then none else p) with | none => f1.mode = .returning | some v => ∃ u, VR ρ2 v u ∧ f1.mode = .panicking [{ v := u, recovered := false }] := by
        cases p with
        | none =>
          have hm : f0.mode = .returning := hmode
          cases rc <;> simp [f1, c1, c2, hm, settle, recoverMode]
        | some v =>
          obtain ⟨u, hu, hm⟩ := hmode
          cases rc
          · simp only [Bool.false_eq_true, if_false]
            exact ⟨u, hu.mono e1.le, by simp [f1, c1, hm, settle]⟩
          · simp [f1, c1, c2, hm, settle, recoverMode]
      obtain ⟨ρ3, w3, fr3, e2, g2, k2, r2, st2, ho⟩ := ihv (n + 1) (by omega) _ _ _ _ _ _ _ _ hden F X ρ2 w2 M' f1 cs (by rw [hf1.1]; exact hF) hcf (by rw [hf1.2.1]; exact ht.mono e1.le) (by rw [hf1.2.2.1]; exact hd1.mono e1.le) q3 g1 hmode1
      refine ⟨ρ3, w3, fr3, e1.trans e2, g2, ⟨by rw [k2.1, hf1.2.2.2], by rw [k2.2, hf1.1]⟩, r2, ?_, ho⟩
      exact q1.trans (.head hst (st1.trans (.head hst2 st2)))
    · cases hden
theorem call_sound [Sig] (henv : Env P A B w0) {n : Nat} (ihc : ∀ m, m < n → SCode P A B w0 m) (ihv : ∀ m, m < n → SLeave P A B w0 m) : SCall P A B w0 n := by
  intro g args x s o recd s' hprim hden hround X ρ w as kind cs ha h hx
  cases n with
  | zero => simp [den] at hden
  | succ n =>
  simp only [den, hprim] at hden
  split at hden
  · cases hden
  · rename_i f hf
    obtain ⟨F, hF, hcf, _⟩ := henv.func g f hf
    obtain ⟨c, hbody, hle, hN, hcode, hres, hparams⟩ := cFunc_eq hcf
    split at hden
    · cases hden
    · rename_i t ht
      rw [hparams] at ht
      have htr := enter_TR hle hN ht ha
      have henter : Frame.enter P g as kind = (frameOf g kind).atR { tmps := as ++ Array.replicate (F.ntmps - as.size) undef, defers := [] } [.code c] := by
        simp [Frame.enter, Frame.atR, hF, hbody, frameOf]
      split at hden
      · rename_i e fr s1 hcd
        obtain ⟨ρ1, a1, w1, M1, e1, f1, g1, m1, _, q1⟩ := ihc n (by omega) _ _ _ _ _ _ _ hcd F.ntmps c X ρ { tmps := as ++ Array.replicate (F.ntmps - as.size) undef, defers := [] } w [] ⟨frameOf g kind, cs⟩ hcode hN ⟨htr, .nil⟩ hx h .nil ⟨F, hF⟩ []
        simp only at q1
        rw [← henter] at q1
        have finish : ∀ (p : Option AV) (f0 : Frame), f0.fn = g → f0.tmps = a1.tmps → f0.defers = a1.defers → f0.kind = kind → (match p with | none => f0.mode = .returning | some v => ∃ u, VR ρ1 v u ∧ f0.mode = .panicking [{ v := u, recovered := false }]) →
            Steps P (lone (Frame.enter P g as kind) (cs false) w) (lone f0 (cs fr.recd) w1) → den A n (.leave f p fr.defers fr s1) = some (.out o recd s') →
            ∃ ρ' w' fr', Ext ρ s ρ' s' ∧ HR (CCof P) B w0 X ρ' s' w' ∧ (fr'.kind = kind ∧ fr'.fn = g) ∧ Steps P (lone (Frame.enter P g as kind) (cs false) w) (lone fr' (cs recd) w') ∧ OutR P ρ' fr' w' o := by
          intro p f0 h1 h2 h3 h4 h5 h6 h7
          obtain ⟨ρ2, w2, fr2, e2, g2, k2, r2, st2, ho⟩ := ihv n (by omega) _ _ _ _ _ _ _ _ h7 F X ρ1 w1 M1 f0 (cs fr.recd) (by rw [h1]; exact hF) hcf (by rw [h2]; exact f1.tmps) (by rw [h3]; exact f1.defers) m1 g1 h5
          exact ⟨ρ2, w2, fr2, e1.trans e2, g2, ⟨by rw [k2.1, h4], by rw [k2.2, h1]⟩, by rw [r2]; exact h6.trans st2, ho⟩
        split at hden
        · obtain ⟨todo, u, hu, hs⟩ := q1
          exact finish (some _) _ rfl rfl rfl rfl ⟨u, hu, rfl⟩ hs hden
        · cases hden
        · rename_i hn1 hn2
          cases e with
          | normal =>
            have q1' : Steps P _ _ := q1
            exact finish none _ rfl rfl rfl rfl rfl (q1'.trans (.one (stepR_end rfl))) hden
          | ret =>
            obtain ⟨k1, hs⟩ := q1
            exact finish none _ rfl rfl rfl rfl rfl (hs.trans (.one (stepR_ret rfl))) hden
          | exit id => exact absurd rfl (hn2 id)
          | panic v => exact absurd rfl (hn1 v)
      · cases hden
theorem going_leaves {fr c : Frame} {cs : List Frame} {w : World} {v : Value} (h : fr.going P w (.returned v)) (hk : fr.kind = .normal) : Go.step P (lone fr (c :: cs) w) = .next (lone (c.finish v) cs w) := by
  obtain ⟨h1, h2, h3⟩ := h
  exact step_leave_returned ⟨h1, h2, hk, h3⟩
theorem apply_sound [Sig] (henv : Env P A B w0) {n : Nat} (ihc : ∀ m, m < n → SCode P A B w0 m) (ihk : ∀ m, m < n → SCall P A B w0 m) : SApply P A (CCof P) B w0 n := by
  intro f args s o recd s' hden X ρ w fn first cap as c cs hf ha h hpt
  cases n with
  | zero => simp [den] at hden
  | succ n =>
  obtain ⟨g, p, q, rfl⟩ := func_of_apply hden
  cases g with
  | other => simp [den] at hden
  | fn g =>
    simp only [den, app_eq] at hden
    cases hf with
    | func hx hy =>
    have hargs : VRs ρ (p ++ (args ++ q)) ((first ++ as) ++ cap).toList := by
      have := (hx.append ha).append hy
      simpa [List.append_assoc] using this
    cases hpr : primR A g (p ++ (args ++ q)) ctxN s with
    | some vs =>
      obtain ⟨v, s1⟩ := vs
      cases n with
      | zero => simp [den] at hden
      | succ n =>
      simp only [den, hpr] at hden
      simp only [Option.some.injEq, Res.out.injEq] at hden
      obtain ⟨rfl, rfl, rfl⟩ := hden
      unfold primR at hpr
      split at hpr
      · cases hpr
      · rename_i pr hpg
        obtain ⟨ρ', w', u, h1, h2, h3, h4⟩ := henv.prim g pr hpg _ _ _ _ hpr X ρ w _ c cs hargs h hpt
        exact ⟨ρ', w', u, h1, h2, h3, h4⟩
    | none =>
      have hfn : ∃ fa, A.func g = some fa := by
        cases n with
        | zero => simp [den] at hden
        | succ n =>
          simp only [den, hpr] at hden
          split at hden
          · cases hden
          · rename_i fa hfa; exact ⟨fa, hfa⟩
      obtain ⟨fa, hfa⟩ := hfn
      obtain ⟨G, hG, hcG, hname⟩ := henv.func g fa hfa
      obtain ⟨cG, hbG, _⟩ := cFunc_eq hcG
      have henter : (invoke (.fn (.func g) cap) (first ++ as)).run P w = .ok (.enter g ((first ++ as) ++ cap)) w := callFunc_enter hG (by simp [hbG]) hname
      have hcx : CxOk ρ ctxN ⟨frameOf g .normal, fun _ => c :: cs⟩ := by
        refine ⟨fun _ => rfl, fun n e => by simp [ctxN] at e, fun _ v hv => by simp [ctxN] at hv, fun _ fr r hk _ => ?_⟩
        have hk' : fr.kind = .normal := hk
        simp [tryRecover, hk']
      obtain ⟨ρ2, w2, fr2, e1, g1, k1, st1, ho⟩ := ihk n (by omega) g _ _ _ _ _ _ hpr hden rfl X ρ w _ .normal _ hargs h hcx
      refine ⟨ρ2, w2, ?_⟩
      cases o with
      | ret v =>
        obtain ⟨u, hu, hgo⟩ := ho
        exact ⟨u, e1, g1, hu, goes_enter henter hpt (st1.trans (.one (going_leaves hgo k1.1)))⟩
      | panic v =>
        obtain ⟨u, hu, hgo⟩ := ho
        refine ⟨u, e1, g1, hu, goes_enter henter hpt (st1.trans (.one ?_))⟩
        rw [Frame.raise_mode]
        exact step_going_panicked hgo
  | yield l =>
    simp only [den] at hden
    cases hf with
    | @yield _ b hl =>
    split at hden
    · rename_i r _ hget
      split at hden
      · rename_i hready
        split at hden
        · cases hden
        · rename_i t ht
          simp only [app_eq, List.nil_append] at ht
          obtain ⟨_, _, L, hL, hLR⟩ := h.wr.loop _ _ _ _ hl hget
          have hst : L.state = .ready := by
            have := hLR.st
            rw [hready] at this
            cases hq : L.state with
            | ready => rfl
            | busy => rw [hq] at this; exact this.elim
            | done => rw [hq] at this; exact this.elim
            | exhausted => rw [hq] at this; exact this.elim
          obtain ⟨hN, hca⟩ := hLR.assign
          obtain ⟨_, hcb⟩ := hLR.body
          rw [hLR.params] at ht
          obtain ⟨hlen, htr⟩ := params_TR (L := []) hN hLR.inside ht ha hLR.tmps
          have hyield : (invoke (.fn (.yield b) #[]) (#[] ++ as)).run P w = .ok (.round b L.fn ((L.params.zip as).foldl (fun tmps (t, a) => tmps.setIfInBounds t a) L.tmps) L.assign L.body) w := by
            show (Instr.yield b (#[] ++ as)).run P w = _
            have hsz : as.size = L.params.size := by simpa using hlen.symm
            simp [Instr.yield, Sem.run_bind, run_getLoop hL, hsz]
          have hzip : ((L.params.zip as).foldl (fun tmps (t, a) => tmps.setIfInBounds t a) L.tmps) = ((L.params.toList.zip as.toList).foldl (fun tmps (p : Nat × Value) => tmps.setIfInBounds p.1 p.2) L.tmps) := by
            rw [← Array.foldl_toList, Array.toList_zip]
          rw [hzip] at hyield
          generalize ((L.params.toList.zip as.toList).foldl (fun tmps (p : Nat × Value) => tmps.setIfInBounds p.1 p.2) L.tmps) = arr at hyield htr
          let bb : Frame := { (default : Frame) with fn := L.fn, kind := .normal, roundOf := some b }
          have hframe : Frame.round b L.fn arr L.assign L.body .normal = bb.atR { tmps := arr, defers := [] } [.code L.assign, .beginRound, .code L.body] := by
            simp [Frame.round, Frame.atR, bb]
          have hcx : ∀ {ρ' : Ren}, ρ.le ρ' → CxOk ρ' (ctxR l) ⟨bb, fun _ => c :: cs⟩ := by
            intro ρ' hle
            refine ⟨fun e => by simp [ctxR] at e, fun n e => ?_, fun e => by simp [ctxR] at e, fun e => by simp [ctxR] at e⟩
            simp only [ctxR, Option.some.injEq] at e; subst e
            exact ⟨rfl, b, rfl, hle _ _ hl⟩
          split at hden
          · rename_i fr1 s1 h1
            obtain ⟨ρ1, a1, w1, M1, e1, f1, g1, m1, r1, q1⟩ := ihc n (by omega) _ _ _ _ _ _ _ h1 L.tmps.size L.assign X ρ { tmps := arr, defers := [] } w [] ⟨bb, fun _ => c :: cs⟩ hca hN ⟨htr, .nil⟩ (hcx (Ren.le_refl ρ)) h .nil hLR.fn [.beginRound, .code L.body]
            have q1' : Steps P _ _ := q1
            obtain ⟨rfl, hdef1⟩ := r1 rfl
            split at hden
            · rename_i r1 hget1
              obtain ⟨_, _, L1, hL1, hLR1⟩ := g1.wr.loop _ _ _ _ (e1.le _ _ hl) hget1
              split at hden
              · rename_i hready1
                have hst1 : L1.state = .ready := by
                  have := hLR1.st
                  rw [hready1] at this
                  cases hq : L1.state with
                  | ready => rfl
                  | busy => rw [hq] at this; exact this.elim
                  | done => rw [hq] at this; exact this.elim
                  | exhausted => rw [hq] at this; exact this.elim
                have hLRb : LoopR (CCof P) ρ1 { r1 with st := .busy } { L1 with state := .busy } := ⟨trivial, hLR1.pend, hLR1.tmps, hLR1.params, hLR1.inside, hLR1.assign, hLR1.body, hLR1.fn⟩
                obtain ⟨g2, e2⟩ := g1.putLoop (e1.le _ _ hl) hget1 hLRb
                have hbeg := stepR_beginRound (P := P) (b := bb) (a := a1) (k := [.code L.body]) (cs := c :: cs) rfl (run_beginRound (P := P) hL1 hst1)
                split at hden
                · rename_i e fr2 s2 h2
                  obtain ⟨ρ2, a2, w2, M2, e3, f2, g3, m2, r2, q2⟩ := ihc n (by omega) _ _ _ _ _ _ _ h2 L.tmps.size L.body X ρ1 a1 _ [] ⟨bb, fun _ => c :: cs⟩ hcb hN f1 (hcx e1.le) g2 m1 hLR.fn []
                  obtain ⟨rfl, hdef2⟩ := r2 rfl
                  have hdefs : a2.defers = [] := by
                    have hfd : fr2.defers = [] := by rw [hdef2, hdef1]
                    have := f2.defers
                    rw [hfd] at this
                    cases hq : a2.defers with
                    | nil => rfl
                    | cons x y => rw [hq] at this; cases this
                  have hpre : Steps P (lone (Frame.round b L.fn arr L.assign L.body .normal) (c :: cs) w) (lone (bb.atR a1 [.code L.body]) (c :: cs) { w1 with heap := w1.heap.setIfInBounds b (.loop { L1 with state := .busy }) }) := by
                    rw [hframe]; exact q1'.trans (.one hbeg)
                  have hl2 := e3.le _ _ (e1.le _ _ hl)
                  split at hden
                  · rename_i r2 hget2
                    obtain ⟨_, _, L2, hL2, hLR2⟩ := g3.wr.loop _ _ _ _ hl2 hget2
                    split at hden
                    · rename_i v
                      simp only [Option.some.injEq, Res.out.injEq] at hden
                      obtain ⟨rfl, rfl, rfl⟩ := hden
                      obtain ⟨todo, u, hu, hs⟩ := q2
                      refine ⟨ρ2, w2, u, (e1.trans e2).trans e3, g3, hu, goes_round hyield (hpre.trans (hs.trans (.one ?_)))⟩
                      obtain ⟨FF, hFF⟩ := hLR.fn
                      rw [Frame.raise_mode]
                      exact step_going_panicked ⟨rfl, hdefs, FF, hFF⟩
                    · simp only [Option.some.injEq, Res.out.injEq] at hden
                      obtain ⟨rfl, rfl, rfl⟩ := hden
                      have hLRe : LoopR (CCof P) ρ2 { r2 with st := .ready, pending := none } { L2 with state := if (none : Option Code).isNone then .ready else .done, pending := none } := ⟨trivial, .none, hLR2.tmps, hLR2.params, hLR2.inside, hLR2.assign, hLR2.body, hLR2.fn⟩
                      obtain ⟨g4, e4⟩ := g3.putLoop hl2 hget2 hLRe
                      have q2' : Steps P _ _ := q2
                      exact ⟨ρ2, _, .bool true, (e1.trans e2).trans (e3.trans e4), g4, .bool true, goes_round hyield (hpre.trans (q2'.trans (.one (stepR_round_end rfl rfl (run_endRound (P := P) (j := none) hL2)))))⟩
                    · rename_i hn1 hn2
                      simp only [Option.some.injEq, Res.out.injEq] at hden
                      obtain ⟨rfl, rfl, rfl⟩ := hden
                      cases e with
                      | normal => exact absurd rfl hn2
                      | panic v => exact absurd rfl (hn1 v)
                      | exit id =>
                        have hLRe : LoopR (CCof P) ρ2 { r2 with st := .done, pending := some (.exit id) } { L2 with state := if (some (Code.exit id) : Option Code).isNone then .ready else .done, pending := some (.exit id) } := ⟨trivial, .exit id, hLR2.tmps, hLR2.params, hLR2.inside, hLR2.assign, hLR2.body, hLR2.fn⟩
                        obtain ⟨g4, e4⟩ := g3.putLoop hl2 hget2 hLRe
                        obtain ⟨k1, hk1, hs⟩ := q2
                        have hk : exitTo id k1 = none := by rw [hk1]; rfl
                        exact ⟨ρ2, _, .bool false, (e1.trans e2).trans (e3.trans e4), g4, .bool false, goes_round hyield (hpre.trans (hs.trans (.one (stepR_round_exit rfl rfl hk (run_endRound (P := P) (j := some (.exit id)) hL2)))))⟩
                      | ret =>
                        have hLRe : LoopR (CCof P) ρ2 { r2 with st := .done, pending := some .ret } { L2 with state := if (some Code.ret : Option Code).isNone then .ready else .done, pending := some .ret } := ⟨trivial, .ret, hLR2.tmps, hLR2.params, hLR2.inside, hLR2.assign, hLR2.body, hLR2.fn⟩
                        obtain ⟨g4, e4⟩ := g3.putLoop hl2 hget2 hLRe
                        obtain ⟨k1, hs⟩ := q2
                        exact ⟨ρ2, _, .bool false, (e1.trans e2).trans (e3.trans e4), g4, .bool false, goes_round hyield (hpre.trans (hs.trans (.one (stepR_round_ret rfl rfl (run_endRound (P := P) (j := some .ret) hL2)))))⟩
                  · cases hden
                · cases hden
              · cases hden
            · cases hden
          · cases hden
      · cases hden
    · cases hden
theorem sound [Sig] (henv : Env P A B w0) : ∀ n, SCode P A B w0 n ∧ SLoop P A B w0 n ∧ SApply P A (CCof P) B w0 n ∧ SCall P A B w0 n ∧ SLeave P A B w0 n := by
  intro n
  induction n using Nat.strongRecOn with
  | _ n ih =>
    have hc := fun m hm => (ih m hm).1
    have hl := fun m hm => (ih m hm).2.1
    have hap := fun m hm => (ih m hm).2.2.1
    have hk := fun m hm => (ih m hm).2.2.2.1
    have hv := fun m hm => (ih m hm).2.2.2.2
    exact ⟨code_sound henv hc hl (fun m hm C e => e ▸ hap m hm), loop_sound hc hl, apply_sound henv hc hk, call_sound henv hc hv, leave_sound henv hk hv⟩
end
end A3
namespace A3
open Go
structure Sub (s' s : St) : Prop where
  next : s'.next = s.next
  heap : ∀ n o, s'.heap.get n = some o → s.heap.get n = some o
  grp : ∀ n cs ro g k, s'.heap.get n = some (.cells cs ro (some (g, k))) → s'.heap.get g = s.heap.get g
  ty : ∀ n t, s'.ty.get n = some t → s.ty.get n = some t
section
variable {C : CC} {B : Nat} {w0 w w' : World} {X : List Nat} {ρ ρ' : Ren} {s s' : St}
theorem Sub.valid [Sig] (h : Sub s' s) {n : Pos} {cs : List AV} {ro : Bool} {g : Option (Pos × Nat)} (hn : s'.heap.get n = some (.cells cs ro g)) : s'.valid g = s.valid g :=
  St.valid_congr fun m k e => by subst e; exact h.grp n cs ro m k hn
theorem Sub.rw' [Sig] (h : Sub s' s) {n : Pos} {cs : List AV} {ro : Bool} {g : Option (Pos × Nat)} (hn : s'.heap.get n = some (.cells cs ro g)) : s'.rw g = s.rw g :=
  St.rw_congr fun m k e => by subst e; exact h.grp n cs ro m k hn
theorem WR.sub [Sig] (h : WR C B w0 ρ s w) (hs : Sub s' s) : WR C B w0 ρ s' w := by
  constructor
  · exact h.keep
  · exact h.size
  · intro n hn
    rw [hs.next] at hn
    obtain ⟨h1, h2⟩ := h.nxt n hn
    refine ⟨?_, h2⟩
    cases hq : s'.heap.get n with
    | none => rfl
    | some o => have := hs.heap n o hq; rw [h1] at this; cases this
  · exact h.dom
  · intro n b o cs ro g hn hc hv
    exact h.cells n b o cs ro g hn (hs.heap _ _ hc) (by rw [← hs.valid hc]; exact hv)
  · intro n b o cs g hn hc; exact h.own n b o cs g hn (hs.heap _ _ hc)
  · intro n b o cs g hn hc hrw; exact h.thaw n b o cs g hn (hs.heap _ _ hc) (by rw [← hs.rw' hc]; exact hrw)
  · intro n b o cs ro g hn hc; exact h.tot n b o cs ro g hn (hs.heap _ _ hc)
  · intro n m b o o' cs cs' ro ro' g g' hne hn hm hc hc'
    exact h.sep n m b o o' cs cs' ro ro' g g' hne hn hm (hs.heap _ _ hc) (hs.heap _ _ hc')
  · intro n cs ro g k hn
    obtain ⟨h1, h2, h3⟩ := h.grp n cs ro g k (hs.heap _ _ hn)
    refine ⟨h1, by rw [hs.next]; exact h2, ?_⟩
    rw [hs.grp n cs ro g k hn]; exact h3
  · intro n m cs cs' ro ro' g k hn hm; exact h.ver n m cs cs' ro ro' g k (hs.heap _ _ hn) (hs.heap _ _ hm)
  · intro n m b o o' cs cs' ro ro' g k k' hn hm hc hc' hk
    exact h.ends n m b o o' cs cs' ro ro' g k k' hn hm (hs.heap _ _ hc) (hs.heap _ _ hc') hk
  · intro n b o es hn hc; exact h.map n b o es hn (hs.heap _ _ hc)
  · intro n b o l hn hc; exact h.loop n b o l hn (hs.heap _ _ hc)
  · intro n m b o o' hne hn hm
    obtain ⟨h1, h2⟩ := h.inj n m b o o' hne hn hm
    exact ⟨fun es e => h1 es (hs.heap _ _ e), fun l e => h2 l (hs.heap _ _ e)⟩
  · intro n b o cs hn hc; exact h.plain n b o cs hn (hs.heap _ _ hc)
  · exact h.io
theorem HR.sub [Sig] (h : HR C B w0 X ρ s w) (hs : Sub s' s) : HR C B w0 X ρ s' w := by
  refine ⟨h.wr.sub hs, ⟨?_, ?_, h.ty.df⟩⟩
  · intro n t b o hn hρ
    obtain ⟨cells, fz, h1, h2⟩ := h.ty.is n t b o (hs.ty n t hn) hρ
    exact ⟨cells, fz, h1, fun cs ro hc => h2 cs ro (hs.heap _ _ hc)⟩
  · intro n hn
    rw [hs.next] at hn
    cases hq : s'.ty.get n with
    | none => rfl
    | some t => have := hs.ty n t hq; rw [h.ty.fresh n hn] at this; cases this
def St.none (next : Pos) : St := { heap := .nil, next := next, ty := .nil }
theorem HR.start [Sig] (C : CC) (w : World) (next : Pos) : HR C w.heap.size w [] (fun _ => Option.none) (St.none next) w := by
  refine ⟨?_, ⟨?_, ?_, by simp⟩⟩
  · constructor
    · intro b _; rfl
    · exact Nat.le_refl _
    · intro n _; exact ⟨T.get_nil n, rfl⟩
    · intro n b o hn; cases hn
    · intro n b o cs ro g hn; cases hn
    · intro n b o cs g hn; cases hn
    · intro n b o cs g hn; cases hn
    · intro n b o cs ro g hn; cases hn
    · intro n m b o o' cs cs' ro ro' g g' _ hn; cases hn
    · intro n cs ro g k hn; rw [show (St.none next).heap = .nil from rfl, T.get_nil] at hn; cases hn
    · intro n m cs cs' ro ro' g k hn; rw [show (St.none next).heap = .nil from rfl, T.get_nil] at hn; cases hn
    · intro n m b o o' cs cs' ro ro' g k k' hn; cases hn
    · intro n b o es hn; cases hn
    · intro n b o l hn; cases hn
    · intro n m b o o' _ hn; cases hn
    · intro n b o cs hn; cases hn
    · exact ⟨rfl, rfl⟩
  · intro n t b o hn; rw [show (St.none next).ty = .nil from rfl, T.get_nil] at hn; cases hn
  · intro n _; exact T.get_nil n
theorem HR.enter [Sig] (_ : HR C B w0 X ρ s w) (next : Pos) : HR C w.heap.size w [] (fun _ => Option.none) (St.none next) w := HR.start C w next
theorem HR.back [Sig] {_next : Pos} {s1 : St} (h : HR C B w0 X ρ s w) (h' : HR C w.heap.size w [] ρ' s1 w') : HR C B w0 X ρ s w' := by
  have hk : ∀ b, b < w.heap.size → w'.heap[b]? = w.heap[b]? := h'.wr.keep
  refine ⟨h.wr.more h'.wr.size hk h'.wr.io, ⟨?_, h.ty.fresh, ?_⟩⟩
  · intro n t b o hn hρ
    obtain ⟨cells, fz, h1, h2⟩ := h.ty.is n t b o hn hρ
    exact ⟨cells, fz, by rw [hk b (h.wr.dom _ _ _ hρ)]; exact h1, h2⟩
  · intro b hb
    have := h.ty.df b hb
    rw [hk b (Array.getElem?_eq_some_iff.1 this).1]; exact this
end
end A3
