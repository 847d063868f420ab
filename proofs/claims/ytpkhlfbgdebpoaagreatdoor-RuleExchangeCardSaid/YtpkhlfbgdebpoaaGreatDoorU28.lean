/- slices.Insert as a primitive. -/
import Derived.Test.YtpkhlfbgdebpoaaGreatDoorU27
import Derived.Test.YtpkhlfbgdebpoaaGreatDoorU03
import Derived.Test.YtpkhlfbgdebpoaaGreatDoorU05
import Derived.Test.YtpkhlfbgdebpoaaGreatDoorU26
namespace A3
open Go
variable {C : CC} {X : List Nat} {B : Nat} {w0 : World} {ρ : Ren} {s : St} {w : World}
theorem WR.bindOver [Sig] (h : WR C B w0 ρ s w) {n m g : Pos} {k : Nat} {cs csm : List AV} {b : Nat} {o : Bs}
    (hn : s.heap.get n = some (.cells cs false (some (g, k + 1)))) (hρ : ρ n = none) (hgrp : s.heap.get g = some (.grp (k + 1) (k + 1) false))
    (hm : s.heap.get m = some (.cells csm false (some (g, k)))) (hmρ : ρ m = some (b, o)) (hlen : csm.length ≤ cs.length) {w2 : World}
    (hio : w2.os = w.os ∧ w2.output = w.output) (hsz : w.heap.size ≤ w2.heap.size) (hne : ∀ c, c < w.heap.size → c ≠ b → w2.heap[c]? = w.heap[c]?)
    (hback : ∀ i x, w2.cell? ⟨b, i, none⟩ = some x → ∃ y, w.cell? ⟨b, i, none⟩ = some y) (hfor : ∀ i x, w.cell? ⟨b, i, none⟩ = some x → ∃ y, w2.cell? ⟨b, i, none⟩ = some y) (hfz : ∀ i, w2.frozen? ⟨b, i, none⟩ = w.frozen? ⟨b, i, none⟩)
    (hnew : ∀ i v, cs[i]? = some v → v.flat = true ∧ ∃ u, w2.cell? ⟨b, o.off + i, none⟩ = some u ∧ VR ρ v u) :
    WR C B w0 (ρ.ext n (b, ⟨o.off, o.tot⟩)) s w2 := by
  have hle : ρ.le (ρ.ext n (b, ⟨o.off, o.tot⟩)) := Ren.ext_le hρ
  have hrw : s.rw (some (g, k)) = true := by simp [St.rw, hgrp]
  have hnm : n ≠ m := by intro e; subst e; rw [hρ] at hmρ; cases hmρ
  have hB := h.own m b o csm _ hmρ hm
  have hb := h.dom m b o hmρ
  have hend : ∀ {p : Pos} {d : Bs} {csp : List AV} {ro : Bool} {gp : Option (Pos × Nat)}, ρ p = some (b, d) → s.heap.get p = some (.cells csp ro gp) →
      (∃ kp, gp = some (g, kp) ∧ kp ≤ k + 1) ∧ d.off + csp.length ≤ o.off + csm.length := by
    intro p d csp ro gp hp hp'
    by_cases e : p = m
    · subst e; rw [hmρ] at hp; cases hp; rw [hm] at hp'; cases hp'; exact ⟨⟨k, rfl, by omega⟩, by omega⟩
    · rcases h.sep p m b d o csp csm ro false gp _ e hp hmρ hp' hm with ⟨_, h1⟩ | ⟨gg, k1, k2, h1, h2⟩
      · cases h1
      · cases h2; subst h1
        have hk1 : k1 ≤ k := by
          rcases (h.grp p csp ro g k1 hp').2.2 with h3 | ⟨c, f, r, h3, h4⟩
          · rw [hgrp] at h3; cases h3
          · rw [hgrp] at h3; cases h3
            rcases Nat.lt_or_ge k k1 with h5 | h5
            · have : k1 = k + 1 := by omega
              subst this
              have := h.ver p n csp cs ro false g (k + 1) hp' hn
              subst this; rw [hρ] at hp; cases hp
            · exact h5
        exact ⟨⟨k1, rfl, by omega⟩, h.ends p m b d o csp csm ro false g k1 k hp hmρ hp' hm hk1⟩
  have hother : ∀ {p : Pos} {c : Nat} {d : Bs}, ρ p = some (c, d) → (∀ es, s.heap.get p = some (.map es) → c ≠ b) ∧ (∀ l, s.heap.get p = some (.loop l) → c ≠ b) := by
    intro p c d hp
    constructor
    · intro es hc e; subst e
      have hpm : p ≠ m := by intro e; subst e; rw [hm] at hc; cases hc
      exact (h.inj p m _ d o hpm hp hmρ).1 es hc
    · intro l hc e; subst e
      have hpm : p ≠ m := by intro e; subst e; rw [hm] at hc; cases hc
      exact (h.inj p m _ d o hpm hp hmρ).2 l hc
  constructor
  · intro c hc; rw [hne c (by have := h.size; omega) (by omega)]; exact h.keep c hc
  · exact Nat.le_trans h.size hsz
  · intro p hp
    refine ⟨(h.nxt p hp).1, ?_⟩
    unfold Ren.ext
    split
    · rename_i e; subst e; have := (h.nxt p hp).1; rw [hn] at this; cases this
    · exact (h.nxt p hp).2
  · intro p c d hp
    rcases Ren.ext_cases hp with ⟨_, e⟩ | ⟨_, e⟩
    · cases e; exact Nat.lt_of_lt_of_le hb hsz
    · exact Nat.lt_of_lt_of_le (h.dom p c d e) hsz
  · intro p c d csp ro gp hp hc hv i v hi
    rcases Ren.ext_cases hp with ⟨e, e'⟩ | ⟨e, e'⟩
    · subst e; cases e'
      rw [hn] at hc; cases hc
      obtain ⟨h1, u, h2, h3⟩ := hnew i v hi
      exact ⟨h1, u, h2, h3.mono hle⟩
    · obtain ⟨h1, u, h2, h3⟩ := h.cells p c d csp ro gp e' hc hv i v hi
      refine ⟨h1, u, ?_, h3.mono hle⟩
      by_cases hcb : c = b
      · subst hcb
        exfalso
        obtain ⟨⟨kp, h4, h5⟩, _⟩ := hend e' hc
        subst h4
        have h6 : kp ≠ k + 1 := by
          intro e6; subst e6
          exact e (h.ver p n csp cs ro false g (k + 1) hc hn)
        have h7 : Nat.ble (k + 1) kp = true := by simpa [St.valid, hgrp] using hv
        have := Nat.le_of_ble_eq_true h7
        omega
      · rw [cell_congr (hne c (h.dom _ _ _ e') hcb)]; exact h2
  · intro p c d csp gp hp hc
    rcases Ren.ext_cases hp with ⟨e, e'⟩ | ⟨e, e'⟩
    · cases e'; exact hB
    · exact h.own p c d csp gp e' hc
  · intro p c d csp gp hp hc hr1 x u hu
    obtain ⟨⟨y, hy⟩, hfz'⟩ : (∃ y, w.cell? ⟨c, x, none⟩ = some y) ∧ w2.frozen? ⟨c, x, none⟩ = w.frozen? ⟨c, x, none⟩ := by
      have hcl : c < w.heap.size := by
        rcases Ren.ext_cases hp with ⟨e, e'⟩ | ⟨e, e'⟩
        · cases e'; exact hb
        · exact h.dom _ _ _ e'
      by_cases hcb : c = b
      · subst hcb; exact ⟨hback x u hu, hfz x⟩
      · exact ⟨⟨u, by rw [← cell_congr (hne c hcl hcb)]; exact hu⟩, World.frozen?_of_block (hne c hcl hcb)⟩
    rw [hfz']
    rcases Ren.ext_cases hp with ⟨e, e'⟩ | ⟨e, e'⟩
    · cases e'; exact h.thaw m b o csm _ hmρ hm hrw x y hy
    · exact h.thaw p c d csp gp e' hc hr1 x y hy
  · intro p c d csp ro gp hp hc i hi
    rcases Ren.ext_cases hp with ⟨e, e'⟩ | ⟨e, e'⟩
    · cases e'
      obtain ⟨u, hu⟩ := h.tot m b o csm false _ hmρ hm i hi
      exact hfor i u hu
    · obtain ⟨u, hu⟩ := h.tot p c d csp ro gp e' hc i hi
      by_cases hcb : c = b
      · subst hcb; exact hfor i u hu
      · exact ⟨u, by rw [cell_congr (hne c (h.dom _ _ _ e') hcb)]; exact hu⟩
  · intro p q c d1 d2 cs1 cs2 ro1 ro2 g1 g2 hpq hp hq hc hc'
    rcases Ren.ext_cases hp with ⟨e, e'⟩ | ⟨e, e'⟩
    · rcases Ren.ext_cases hq with ⟨f, f'⟩ | ⟨f, f'⟩
      · exact absurd (e.trans f.symm) hpq
      · subst e; cases e'
        rw [hn] at hc; cases hc
        obtain ⟨⟨kp, h1, _⟩, _⟩ := hend f' hc'
        exact .inr ⟨g, _, kp, rfl, h1⟩
    · rcases Ren.ext_cases hq with ⟨f, f'⟩ | ⟨f, f'⟩
      · subst f; cases f'
        rw [hn] at hc'; cases hc'
        obtain ⟨⟨kp, h1, _⟩, _⟩ := hend e' hc
        exact .inr ⟨g, kp, _, h1, rfl⟩
      · exact h.sep p q c d1 d2 cs1 cs2 ro1 ro2 g1 g2 hpq e' f' hc hc'
  · exact h.grp
  · exact h.ver
  · intro p q c d1 d2 cs1 cs2 ro1 ro2 g1 k1 k2 hp hq hc hc' hk
    rcases Ren.ext_cases hp with ⟨e, e'⟩ | ⟨e, e'⟩
    · rcases Ren.ext_cases hq with ⟨f, f'⟩ | ⟨f, f'⟩
      · subst e; subst f; cases e'; cases f'; rw [hc] at hc'; cases hc'; omega
      · subst e; cases e'
        rw [hn] at hc; cases hc
        exfalso
        obtain ⟨⟨kp, h1, h2⟩, _⟩ := hend f' hc'
        cases h1
        have e5 : k2 = k + 1 := by omega
        rw [e5] at hc'
        have := h.ver q p cs2 cs ro2 false g (k + 1) hc' hn
        exact f this
    · rcases Ren.ext_cases hq with ⟨f, f'⟩ | ⟨f, f'⟩
      · subst f; cases f'
        rw [hn] at hc'; cases hc'
        obtain ⟨_, h2⟩ := hend e' hc
        show d1.off + cs1.length ≤ o.off + cs.length; omega
      · exact h.ends p q c d1 d2 cs1 cs2 ro1 ro2 g1 k1 k2 e' f' hc hc' hk
  · intro p c d es hp hc
    rcases Ren.ext_cases hp with ⟨e, e'⟩ | ⟨e, e'⟩
    · subst e; rw [hn] at hc; cases hc
    · obtain ⟨h1, h2, ces, clock, h3, h4⟩ := h.map p c d es e' hc
      exact ⟨h1, h2, ces, clock, by rw [hne c (h.dom _ _ _ e') ((hother e').1 es hc)]; exact h3, h4.mono hle⟩
  · intro p c d l hp hc
    rcases Ren.ext_cases hp with ⟨e, e'⟩ | ⟨e, e'⟩
    · subst e; rw [hn] at hc; cases hc
    · obtain ⟨h1, h2, L, h3, h4⟩ := h.loop p c d l e' hc
      exact ⟨h1, h2, L, by rw [hne c (h.dom _ _ _ e') ((hother e').2 l hc)]; exact h3, h4.mono hle⟩
  · intro p q c d1 d2 hpq hp hq
    rcases Ren.ext_cases hp with ⟨e, e'⟩ | ⟨e, e'⟩
    · subst e; rw [hn]; exact ⟨by simp, by simp⟩
    · rcases Ren.ext_cases hq with ⟨f, f'⟩ | ⟨f, f'⟩
      · cases f'
        exact ⟨fun es hc => (hother e').1 es hc rfl, fun l hc => (hother e').2 l hc rfl⟩
      · exact h.inj p q c d1 d2 hpq e' f'
  · intro p c d csp hp hc x
    rcases Ren.ext_cases hp with ⟨e, e'⟩ | ⟨e, e'⟩
    · subst e; rw [hn] at hc; cases hc
    · have hcb : c ≠ b := by
        intro hcb; subst hcb
        obtain ⟨⟨kp, h4, _⟩, _⟩ := hend e' hc
        cases h4
      rw [World.frozen?_of_block (hne c (h.dom _ _ _ e') hcb)]; exact h.plain p c d csp e' hc x
  · exact ⟨hio.1.trans h.io.1, hio.2.trans h.io.2⟩
theorem WR.growOver [Sig] (h : WR C B w0 ρ s w) {g : Pos} {cur floor : Nat} (hgrp : s.heap.get g = some (.grp cur floor false)) (hfl : floor ≤ cur + 1) (cs : List AV) :
    WR C B w0 ρ (s.version g cur (cur + 1) cs) w := by
  have hsucc := Pos.toNat_succ s.next
  have hglt := h.bound hgrp
  have hgne : s.next ≠ g := toNat_ne (by omega)
  have hget : ∀ {n : Pos}, n.toNat < s.next.toNat → n ≠ g → (s.version g cur (cur + 1) cs).heap.get n = s.heap.get n := by
    intro n hn hne
    rw [St.version_get, if_neg (toNat_ne (by omega)), if_neg (Ne.symm hne)]
  have hgg : (s.version g cur (cur + 1) cs).heap.get g = some (.grp (cur + 1) (cur + 1) false) := by
    rw [St.version_get, if_neg hgne]; simp
  have hb : ∀ {n : Pos} {x : Nat × Bs} {y : Obj}, ρ n = some x → (∀ a b c, y ≠ .grp a b c) → ((s.version g cur (cur + 1) cs).heap.get n = some y ↔ s.heap.get n = some y) := by
    intro n x y hn hy
    rcases Nat.lt_or_ge n.toNat s.next.toNat with h1 | h1
    · by_cases e : n = g
      · subst e; rw [hgg, hgrp]
        constructor
        · intro h2; cases h2; exact absurd rfl (hy _ _ _)
        · intro h2; cases h2; exact absurd rfl (hy _ _ _)
      · rw [hget h1 e]
    · have := (h.nxt n h1).2; rw [hn] at this; cases this
  have hcell : ∀ {n : Pos} {cs1 ro g1 k}, (s.version g cur (cur + 1) cs).heap.get n = some (.cells cs1 ro (some (g1, k))) →
      s.heap.get n = some (.cells cs1 ro (some (g1, k))) ∨ (n = s.next ∧ cs1 = cs ∧ ro = false ∧ g1 = g ∧ k = cur + 1) := by
    intro n cs1 ro g1 k hn
    rw [St.version_get] at hn
    split at hn
    · rename_i e; cases hn; exact .inr ⟨e.symm, rfl, rfl, rfl, rfl⟩
    · split at hn
      · cases hn
      · exact .inl hn
  have hval : ∀ {n : Pos} {cs1 ro g1}, s.heap.get n = some (.cells cs1 ro g1) → (s.version g cur (cur + 1) cs).valid g1 = true → s.valid g1 = true := by
    intro n cs1 ro g1 hn hv
    cases g1 with
    | none => rfl
    | some x =>
      obtain ⟨g2, k⟩ := x
      by_cases e : g2 = g
      · subst e
        simp only [St.valid, hgg, hgrp] at hv ⊢
        have := Nat.le_of_ble_eq_true hv
        exact Nat.ble_eq_true_of_le (by omega)
      · simp only [St.valid, hget (h.grp n cs1 ro g2 k hn).2.1 e] at hv ⊢; exact hv
  have hrw : ∀ {n : Pos} {cs1 ro g1}, s.heap.get n = some (.cells cs1 ro g1) → (s.version g cur (cur + 1) cs).rw g1 = s.rw g1 := by
    intro n cs1 ro g1 hn
    cases g1 with
    | none => rfl
    | some x =>
      obtain ⟨g2, k⟩ := x
      by_cases e : g2 = g
      · subst e; simp only [St.rw, hgg, hgrp]
      · simp only [St.rw, hget (h.grp n cs1 ro g2 k hn).2.1 e]
  have hnew : ∀ {x : Nat × Bs}, ρ s.next = some x → False := by
    intro x hx; have := (h.nxt s.next (Nat.le_refl _)).2; rw [hx] at this; cases this
  have hfresh : ∀ {n : Pos} {cs1 ro}, s.heap.get n = some (.cells cs1 ro (some (g, cur + 1))) → False := by
    intro n cs1 ro hn
    rcases (h.grp n cs1 ro g (cur + 1) hn).2.2 with h1 | ⟨c, f, r, h1, h2⟩
    · rw [hgrp] at h1; cases h1
    · rw [hgrp] at h1; cases h1; omega
  constructor
  · exact h.keep
  · exact h.size
  · intro n hn
    have hn' : s.next.toNat + 1 ≤ n.toNat := by
      simp only [St.version, St.alloc, St.put] at hn; omega
    refine ⟨?_, (h.nxt n (by omega)).2⟩
    rw [St.version_get, if_neg (toNat_ne (by omega)), if_neg (toNat_ne (by omega))]; exact (h.nxt n (by omega)).1
  · exact h.dom
  · intro n b o cs1 ro g1 hn hc hv
    rw [hb hn (by simp)] at hc
    exact h.cells n b o cs1 ro g1 hn hc (hval hc hv)
  · intro n b o cs1 g1 hn hc; rw [hb hn (by simp)] at hc; exact h.own n b o cs1 g1 hn hc
  · intro n b o cs1 g1 hn hc hr
    rw [hb hn (by simp)] at hc
    exact h.thaw n b o cs1 g1 hn hc (by rwa [hrw hc] at hr)
  · intro n b o cs1 ro g1 hn hc; rw [hb hn (by simp)] at hc; exact h.tot n b o cs1 ro g1 hn hc
  · intro n m b o1 o2 cs1 cs2 ro ro' g1 g2 hnm hn hm hc hc'
    rw [hb hn (by simp)] at hc; rw [hb hm (by simp)] at hc'
    exact h.sep n m b o1 o2 cs1 cs2 ro ro' g1 g2 hnm hn hm hc hc'
  · intro n cs1 ro g1 k hn
    have hlt : s.next.toNat < (s.version g cur (cur + 1) cs).next.toNat := by
      simp only [St.version, St.alloc, St.put]; omega
    rcases hcell hn with hn' | ⟨_, _, e1, e2, e3⟩
    · obtain ⟨h1, h2, h3⟩ := h.grp n cs1 ro g1 k hn'
      refine ⟨h1, by omega, ?_⟩
      by_cases e : g1 = g
      · subst e
        rcases h3 with h3 | ⟨c, f, r, h3, h4⟩
        · rw [hgrp] at h3; cases h3
        · rw [hgrp] at h3; cases h3
          exact .inr ⟨_, _, _, hgg, by omega⟩
      · rw [hget h2 e]; exact h3
    · subst e2; subst e3
      exact ⟨e1, by omega, .inr ⟨_, _, _, hgg, Nat.le_refl _⟩⟩
  · intro n m cs1 cs2 ro ro' g1 k hn hm
    rcases hcell hn with hn' | ⟨e1, _, _, e2, e3⟩
    · rcases hcell hm with hm' | ⟨f1, _, _, f2, f3⟩
      · exact h.ver n m cs1 cs2 ro ro' g1 k hn' hm'
      · subst f2; subst f3; exact (hfresh hn').elim
    · rcases hcell hm with hm' | ⟨f1, _, _, f2, f3⟩
      · subst e2; subst e3; exact (hfresh hm').elim
      · rw [e1, f1]
  · intro n m b o1 o2 cs1 cs2 ro ro' g1 k k' hn hm hc hc'
    rw [hb hn (by simp)] at hc; rw [hb hm (by simp)] at hc'
    exact h.ends n m b o1 o2 cs1 cs2 ro ro' g1 k k' hn hm hc hc'
  · intro n b o es hn hc; rw [hb hn (by simp)] at hc; exact h.map n b o es hn hc
  · intro n b o l hn hc; rw [hb hn (by simp)] at hc; exact h.loop n b o l hn hc
  · intro n m b o1 o2 hnm hn hm
    have := h.inj n m b o1 o2 hnm hn hm
    exact ⟨fun es hc => this.1 es ((hb hn (by simp)).1 hc), fun l hc => this.2 l ((hb hn (by simp)).1 hc)⟩
  · intro n b o cs1 hn hc; rw [hb hn (by simp)] at hc; exact h.plain n b o cs1 hn hc
  · exact h.io
theorem HR.growOver [Sig] (h : HR C B w0 X ρ s w) {g : Pos} {cur floor : Nat} (hgrp : s.heap.get g = some (.grp cur floor false)) (hfl : floor ≤ cur + 1) (cs : List AV) :
    HR C B w0 X ρ (s.version g cur (cur + 1) cs) w ∧ Ext ρ s ρ (s.version g cur (cur + 1) cs) ∧
      (∀ n : Pos, n.toNat < s.next.toNat → n ≠ g → (s.version g cur (cur + 1) cs).heap.get n = s.heap.get n) ∧
      (∀ n, (s.version g cur (cur + 1) cs).ty.get n = s.ty.get n) := by
  have h1 := Pos.toNat_succ s.next
  have hg := h.wr.bound hgrp
  have hty : ∀ n, (s.version g cur (cur + 1) cs).ty.get n = s.ty.get n := fun n => rfl
  have hnx : (s.version g cur (cur + 1) cs).next = s.next.succ := rfl
  have hold : ∀ n : Pos, n.toNat < s.next.toNat → n ≠ g → (s.version g cur (cur + 1) cs).heap.get n = s.heap.get n := by
    intro n hn hng
    rw [St.version_get, if_neg (toNat_ne (by omega)), if_neg (Ne.symm hng)]
  refine ⟨⟨h.wr.growOver hgrp hfl cs, ⟨?_, ?_, h.ty.df⟩⟩, ⟨Ren.le_refl ρ, by rw [hnx]; omega, ?_, ?_⟩, hold, hty⟩
  · intro n t' b o hn hρ
    have hlt : n.toNat < s.next.toNat := by
      rcases Nat.lt_or_ge n.toNat s.next.toNat with h3 | h3
      · exact h3
      · have := (h.wr.nxt n h3).2; rw [hρ] at this; cases this
    rw [hty] at hn
    obtain ⟨cells, fz, hc, hl⟩ := h.ty.is n t' b o hn hρ
    refine ⟨cells, fz, hc, fun cs' ro hcs => hl cs' ro ?_⟩
    by_cases hng : n = g
    · subst hng
      rw [St.version_get, if_neg (toNat_ne (by omega)), if_pos rfl] at hcs
      simp at hcs
    · rw [← hold n hlt hng]; exact hcs
  · intro n hn
    rw [hnx] at hn
    rw [hty, h.ty.fresh n (by omega)]
  · intro n o hρ hn hl
    refine ⟨hρ, ?_⟩
    rw [hold n (h.wr.bound hn)]
    · exact hn
    · intro e; subst e
      rw [hgrp] at hn
      simp only [Option.some.injEq] at hn
      subst hn; simp [Obj.loose] at hl
  · intro n hn
    rw [hty]
end A3
namespace A3
open Go Go.Proofs
theorem kit_setCells (b : Nat) : ∀ (us : List Value) (w : World) (o : Nat), World.setCells w b o us = setCells w b o us
  | [], _, _ => rfl
  | u :: us, w, o => by simp only [World.setCells, setCells]; exact kit_setCells b us _ _
theorem setCells_block (b : Nat) (t : TypeId) : ∀ (us : List Value) (w : World) (off : Nat) (cs : Array Value), w.heap[b]? = some (.cells cs t (0, 0)) → off + us.length ≤ cs.size →
    (setCells w b off us).heap[b]? = some (.cells (cs.toList.take off ++ us ++ cs.toList.drop (off + us.length)).toArray t (0, 0))
  | [], w, off, cs, h, _ => by
    show w.heap[b]? = _
    rw [h]
    simp
  | u :: us, w, off, cs, h, hl => by
    simp only [List.length_cons] at hl
    have hs := heap_setCell_same w b off cs t u h
    have ih := setCells_block b t us (w.setCell ⟨b, off, none⟩ u) (off + 1) (cs.setIfInBounds off u) hs (by rw [Array.size_setIfInBounds]; omega)
    show (setCells (w.setCell ⟨b, off, none⟩ u) b (off + 1) us).heap[b]? = _
    rw [ih]
    have e1 : (cs.setIfInBounds off u).toList = cs.toList.set off u := by simp
    have e2 : (cs.toList.set off u).take (off + 1) = cs.toList.take off ++ [u] := by
      rw [List.take_succ_eq_append_getElem (by simp; omega), List.getElem_set_self]
      first | rw [List.take_set_of_le (Nat.le_refl _)] | rw [List.take_set_of_le _ _ (Nat.le_refl _)] | simp [List.take_set]
    have e3 : (cs.toList.set off u).drop (off + 1 + us.length) = cs.toList.drop (off + (us.length + 1)) := by
      rw [List.drop_set, if_pos (by omega)]
      congr 1; omega
    rw [e1, e2, e3, List.append_assoc (cs.toList.take off) [u] us, List.length_cons]
    rfl
theorem HR.heap [Sig] {C : CC} {B : Nat} {w0 w w' : World} {X : List Nat} {ρ : Ren} {s : St} (h : HR C B w0 X ρ s w) (hw : w'.heap = w.heap) (hio : w'.os = w.os ∧ w'.output = w.output) : HR C B w0 X ρ s w' := by
  refine ⟨h.wr.more (by rw [hw]; exact Nat.le_refl _) (fun b _ => by rw [hw]) hio, ⟨?_, h.ty.fresh, ?_⟩⟩
  · intro n t b o hn hρ
    obtain ⟨cells, fz, h1, h2⟩ := h.ty.is n t b o hn hρ
    exact ⟨cells, fz, by rw [hw]; exact h1, h2⟩
  · intro b hb'
    have := h.ty.df b hb'
    rw [hw]; exact this
end A3
namespace A3
open Go Go.Proofs Go.RowKit
theorem first_eq {s : St} {size n m : Nat} {p : Pos} {o l c : Nat} {f : Option Nat} {cs : List AV} (h : s.first size (.slice (some (p, o)) l c f) (n + 1) = some cs) (hm : m = (n + 1) * size) :
    ∃ cs0, s.cells p = some cs0 ∧ o + m ≤ max o cs0.length ∧ cs = (cs0.drop o).take m ∧ cs.length = m := by
  subst hm
  unfold St.first at h
  simp only at h
  split at h
  · cases h
  · rename_i cs0 hc
    split at h
    · rename_i hat
      simp only [Option.some.injEq] at h; subst h
      rw [dropN_eq, atLeast_iff, List.length_drop] at hat
      refine ⟨cs0, hc, by omega, by rw [takeN_eq, dropN_eq], ?_⟩
      rw [takeN_eq, dropN_eq, List.length_take, List.length_drop]; omega
    · cases h
theorem row_heap [Sig] (w : World) (ROW : Array Value) (E i sz : Nat) (vs us : List Value) (hR : ∀ j, j < i → ROW[j]? = us[j]?) (hi : i ≤ us.length) (hvl : vs.length = sz) (hsz : us.length + sz ≤ ROW.size) :
    ∃ (arr : Array Value) (rest : List Value), arr.toList = (us.take i ++ vs ++ us.drop i) ++ rest ∧ arr.size = ROW.size ∧
      (World.setCells (World.drew (World.setCells (World.drew (w.alloc (.cells ROW E))) w.heap.size i vs)) w.heap.size (i + sz) (us.drop i)).heap = (w.alloc (.cells arr E (0, 0))).heap := by
  have h0 : ((w.alloc (.cells ROW E)).drew).heap[w.heap.size]? = some (.cells ROW E (0, 0)) := heap_alloc_new w _
  have h1 := setCells_block w.heap.size E vs ((w.alloc (.cells ROW E)).drew) i ROW h0 (by omega)
  obtain ⟨R1, hR1⟩ : ∃ R1 : Array Value, R1 = (ROW.toList.take i ++ vs ++ ROW.toList.drop (i + vs.length)).toArray := ⟨_, rfl⟩
  rw [← hR1] at h1
  have hs1 : R1.size = ROW.size := by
    rw [hR1]; simp only [List.size_toArray, List.length_append, List.length_take, List.length_drop, Array.length_toList]; omega
  have h2 := setCells_block w.heap.size E (us.drop i) ((setCells ((w.alloc (.cells ROW E)).drew) w.heap.size i vs).drew) (i + sz) R1 h1 (by rw [List.length_drop, hs1]; omega)
  have hl1 : R1.toList.take (i + sz) = us.take i ++ vs := by
    have : ROW.toList.take i = us.take i := by
      apply List.ext_getElem?
      intro j
      rw [List.getElem?_take, List.getElem?_take]
      split
      · rw [Array.getElem?_toList]; exact hR j (by assumption)
      · rfl
    rw [hR1, this]
    rw [show (us.take i ++ vs ++ ROW.toList.drop (i + vs.length)).toArray.toList = (us.take i ++ vs) ++ ROW.toList.drop (i + vs.length) from rfl]
    rw [List.take_append_of_le_length (by rw [List.length_append, List.length_take]; omega), List.take_of_length_le (by rw [List.length_append, List.length_take]; omega)]
  rw [hl1] at h2
  refine ⟨(us.take i ++ vs ++ us.drop i ++ R1.toList.drop (i + sz + (us.drop i).length)).toArray, R1.toList.drop (i + sz + (us.drop i).length), rfl, ?_, ?_⟩
  rotate_left
  · rw [kit_setCells, kit_setCells]
    apply Array.ext_getElem?
    intro c
    by_cases hc : c = w.heap.size
    · subst hc
      rw [h2, heap_alloc_new]
    · rw [setCells_ne _ hc]
      show (setCells ((w.alloc (.cells ROW E)).drew) w.heap.size i vs).heap[c]? = _
      rw [setCells_ne _ hc]
      show (w.alloc (.cells ROW E)).heap[c]? = _
      rw [heap_alloc_ne hc, heap_alloc_ne hc]
  · simp only [List.size_toArray, List.length_append, List.length_take, List.length_drop, Array.length_toList, hs1]
    omega
structure InsWalk (G E sz : Nat) : Prop where
  pos : 0 < sz
  shift : ∀ (b off n c i vb voff vc : Nat) (cs vs : List Value) (w : World), i < n → n + 1 ≤ c → n ≤ 100000 → vb ≠ b → cs.length = n * sz → vs.length = sz →
    (∀ j v, cs[j]? = some v → w.cell? ⟨b, off + j, none⟩ = some v) → (∀ j, j < (n + 1) * sz → (w.cell? ⟨b, off + j, none⟩).isSome = true) → (∀ j, j < (n + 1) * sz → w.frozen? ⟨b, off + j, none⟩ = false) →
    (∀ j v, vs[j]? = some v → w.cell? ⟨vb, voff + j, none⟩ = some v) → (∀ v ∈ cs, v.oneCell' = true) → (∀ v ∈ vs, v.oneCell' = true) →
    ∀ (tA tB : TypeId) (kA kB : Nat), w.shape? vb = some (tA, kA) → w.shape? b = some (tB, kB) → kB ≠ 0 → w.frozen? ⟨vb, voff, none⟩ = false → w.frozen? ⟨vb, kA, none⟩ = false →
    Calls Tryz.prog G #[.slice (some ⟨b, off, none⟩) n c, .int .i64 i, .slice (some ⟨vb, voff, none⟩) 1 vc] w fun e w' =>
      e = .returned (.slice (some ⟨b, off, none⟩) (n + 1) c) ∧ w' = (w.drew.setCells b (off + (i + 1) * sz) (cs.drop (i * sz))).setCells b (off + i * sz) vs
  grow : ∀ (b off n c i vb voff vc : Nat) (cs vs : List Value) (w : World), i < n → n ≤ c → c < n + 1 → n ≤ 100000 → cs.length = n * sz → vs.length = sz →
    (∀ j v, cs[j]? = some v → w.cell? ⟨b, off + j, none⟩ = some v) →
    (∀ j v, vs[j]? = some v → w.cell? ⟨vb, voff + j, none⟩ = some v) → (∀ v ∈ cs, v.oneCell' = true) → (∀ v ∈ vs, v.oneCell' = true) →
    Calls Tryz.prog G #[.slice (some ⟨b, off, none⟩) n c, .int .i64 i, .slice (some ⟨vb, voff, none⟩) 1 vc] w fun e w' =>
      ∃ (GG : Nat) (ROW : Array Value), e = .returned (.slice (some ⟨w.heap.size, 0, none⟩) (n + 1) GG) ∧ n + 1 ≤ GG ∧ ROW.size = GG * sz ∧ (∀ j, j < i * sz → ROW[j]? = cs[j]?) ∧
      w' = (((w.alloc (.cells ROW E)).drew.setCells w.heap.size (i * sz) vs).drew).setCells w.heap.size ((i + 1) * sz) (cs.drop (i * sz))
theorem ins_get {α : Type} {cs vs : List α} {i m : Nat} (hi : i ≤ cs.length) (hvl : vs.length = m) (j : Nat) :
    (cs.take i ++ (vs ++ cs.drop i))[j]? = if j < i then cs[j]? else if j < i + m then vs[j - i]? else cs[j - m]? := by
  by_cases h1 : j < i
  · rw [if_pos h1, List.getElem?_append_left (by rw [List.length_take]; omega), List.getElem?_take, if_pos h1]
  · rw [if_neg h1, List.getElem?_append_right (by rw [List.length_take]; omega), List.length_take, Nat.min_eq_left hi]
    by_cases h2 : j < i + m
    · rw [if_pos h2, List.getElem?_append_left (by omega)]
    · rw [if_neg h2, List.getElem?_append_right (by omega), List.getElem?_drop]
      congr 1; omega
set_option maxHeartbeats 1000000 in
theorem insert_prim_of [Sig] {G E sz : Nat} {F : Func} (W : InsWalk G E sz) (hF : Tryz.prog.funcs[G]? = some F) (hbd : F.body.isSome = true) (hnm : (F.name == "runtime.NumGoroutine") = false) (B : Nat) (w0 : World) :
    PrimOk Tryz.prog B w0 G (insertPrim sz) := by
  intro args s v s' he X ρ w us c cs' ha h hpt
  unfold insertPrim at he
  split at he
  · rename_i p len cap szq i vsrc vc
    split at he
    · cases he
    · rename_i hchk
      split at he
      · rename_i cs g k hp
        split at he
        · rename_i csv hv
          split at he
          · rename_i cur floor vs hg hfirst
            split at he
            · rename_i hchk2
              simp only [Bool.and_eq_true, Nat.beq_eq, Nat.ble_eq, lenN_eq] at hchk2
              obtain ⟨hck, hfk, hcl⟩ := hchk2
              have hchk' : (Nat.ble (i + 1) len && (Nat.beq szq sz && (Nat.ble len cap && Nat.ble len 100000))) = true := hchk
              simp only [Bool.and_eq_true, Nat.beq_eq, Nat.ble_eq] at hchk'
              obtain ⟨hil, hszq, hlc, hl5⟩ := hchk'
              subst hck; subst hszq
              simp only [Option.some.injEq, Prod.mk.injEq] at he
              obtain ⟨rfl, rfl⟩ := he
              obtain ⟨vp, vo⟩ := vsrc
              obtain ⟨u1, u2, u3, husl, hu1, hu2, hu3⟩ : ∃ u1 u2 u3, us = #[u1, u2, u3] ∧ VR ρ (.slice (some (p, 0)) len cap (some szq)) u1 ∧ VR ρ (.int .i64 (.ofNat i)) u2 ∧ VR ρ (.slice (some (vp, vo)) 1 vc none) u3 := by
                obtain ⟨us⟩ := us
                cases ha with
                | cons h1 t => cases t with
                  | cons h2 t => cases t with
                    | cons h3 t => cases t; exact ⟨_, _, _, rfl, h1, h2, h3⟩
              subst husl
              cases hu2
              obtain ⟨A, c', rfl, hl, hc, _, hA⟩ := hu1.of_slice
              obtain ⟨b, bs, hb, rfl, hcap⟩ := hA (by omega)
              have hcap := hcap _ rfl
              obtain ⟨A3', vc', rfl, hl3, hc3, hs3, hA3⟩ := hu3.of_slice
              have hs3 := hs3 rfl
              subst hs3
              obtain ⟨vb, vbs, hvb, rfl, _⟩ := hA3 (by omega)
              have hvalid : s.valid (some (g, cur)) = true := by simp only [St.valid, hg]; exact Nat.ble_eq_true_of_le hfk
              have hcells : s.cells p = some cs := by simp only [St.cells, hp, hvalid]
              obtain ⟨cl, hcll, hclr, hclf, hclc⟩ := h.wr.read hb hcells 0 cs.length (by omega)
              simp only [List.drop_zero, List.take_length] at hclr hclf
              obtain ⟨cs0, hcs0, hvle, hvse, hvsl⟩ := first_eq hfirst rfl
              simp only [Nat.zero_add, Nat.one_mul] at hvle hvse hvsl
              obtain ⟨vl, hvll, hvlr, hvlf, hvlc⟩ := h.wr.read hvb hcs0 vo szq (by have := W.pos; omega)
              rw [← hvse] at hvlr hvlf
              have hpv : p ≠ vp := by intro e; subst e; rw [hp] at hv; cases hv
              have hbne : vb ≠ b := by
                intro e; subst e
                rcases h.wr.sep p vp _ bs vbs cs csv false false _ _ hpv hb hvb hp hv with ⟨e, _⟩ | ⟨_, _, _, _, e⟩
                · cases e
                · cases e
              have hpl := W.pos
              have hi1 : i * szq + szq ≤ cs.length := by
                rw [← hcl, ← Nat.succ_mul]; exact Nat.mul_le_mul_right _ hil
              have hpg : g ≠ p := by intro e; subst e; rw [hp] at hg; cases hg
              obtain ⟨h1, h2, hsame, hty⟩ := h.growOver hg (by omega) (app (takeN cs (i * szq)) (app vs (dropN cs (i * szq))))
              rw [app_eq, app_eq, takeN_eq, dropN_eq] at h1 h2 hsame hty ⊢
              obtain ⟨new, hnew⟩ : ∃ new, new = cs.take (i * szq) ++ (vs ++ cs.drop (i * szq)) := ⟨_, rfl⟩
              rw [← hnew] at h1 h2 hsame hty ⊢
              have hnf : new.all AV.flat = true := by
                rw [hnew]
                simp only [List.all_append, Bool.and_eq_true]
                refine ⟨?_, hvlf, ?_⟩
                · rw [List.all_eq_true] at hclf ⊢; exact fun x hx => hclf x (List.mem_of_mem_take hx)
                · rw [List.all_eq_true] at hclf ⊢; exact fun x hx => hclf x (List.mem_of_mem_drop hx)
              have hnr : VRs ρ new (cl.take (i * szq) ++ (vl ++ cl.drop (i * szq))) := by
                rw [hnew]; exact (hclr.take _).append (hvlr.append (hclr.drop _))
              have hnl : new.length = (len + 1) * szq := by
                rw [hnew]; simp only [List.length_append, List.length_take, List.length_drop, hvsl, Nat.add_mul]; omega
              have hρ := (h.wr.nxt s.next (Nat.le_refl _)).2
              have hplt := h.wr.bound hp
              have hglt := h.wr.bound hg
              have hnget : (s.version g cur (cur + 1) new).heap.get s.next = some (.cells new false (some (g, cur + 1))) := by
                rw [St.version_get, if_pos rfl]
              have hgget' : (s.version g cur (cur + 1) new).heap.get g = some (.grp (cur + 1) (cur + 1) false) := by
                rw [St.version_get, if_neg (toNat_ne (by omega)), if_pos rfl]
              have hpget' := (hsame p hplt (Ne.symm hpg)).trans hp
              have hcl1 := hclr.oneCell hclf
              have hvl1 := hvlr.oneCell hvlf
              have hclc' : ∀ j v, cl[j]? = some v → w.cell? ⟨b, bs.off + 0 + j, none⟩ = some v := hclc
              show ∃ ρ' w' u, Ext ρ s ρ' (s.version g cur (cur + 1) new) ∧ HR (CCof Tryz.prog) B w0 X ρ' (s.version g cur (cur + 1) new) w' ∧ VR ρ' (.slice (some (s.next, 0)) (len + 1) (len + 1) (some szq)) u ∧ _
              rcases Nat.lt_or_ge c' (len + 1) with hc' | hc'
              ·
                obtain ⟨u, w', ⟨GG, ROW, rfl, hGG, hRs, hRc, hw'⟩, hgo⟩ := goes_of_calls (R := fun u w' => ∃ (GG : Nat) (ROW : Array Value), u = .slice (some ⟨w.heap.size, 0, none⟩) (len + 1) GG ∧ len + 1 ≤ GG ∧ ROW.size = GG * szq ∧ (∀ j, j < i * szq → ROW[j]? = cl[j]?) ∧
                    w' = (((w.alloc (.cells ROW E)).drew.setCells w.heap.size (i * szq) vl).drew).setCells w.heap.size ((i + 1) * szq) (cl.drop (i * szq))) hF hbd hnm
                  ((W.grow b (bs.off + 0) len c' i vb (vbs.off + vo) vc cl vl w hil (by omega) hc' hl5 (by omega) hvll hclc' hvlc hcl1 hvl1).mono fun e w' ⟨GG, ROW, he, hR⟩ => ⟨_, he, GG, ROW, rfl, hR⟩) (c := c) (cs := cs') hpt
                have hGm : (len + 1) * szq ≤ GG * szq := Nat.mul_le_mul_right _ hGG
                have hlm : (len + 1) * szq = len * szq + szq := Nat.succ_mul _ _
                obtain ⟨arr, rest, harr, hars, hheap⟩ := row_heap w ROW E (i * szq) szq vl cl hRc (by omega) hvll (by omega)
                rw [← show (i + 1) * szq = i * szq + szq from Nat.succ_mul _ _] at hheap
                rw [List.append_assoc (cl.take (i * szq))] at harr
                have hb1 := h1.bindCells hnget hρ E arr (0, 0) _ rest harr hnr hnf (.inl rfl) (by
                  intro t' ht'
                  rw [hty, h.ty.fresh _ (Nat.le_refl _)] at ht'; cases ht') (by simp)
                refine ⟨_, w', _, h2.bind h.wr _ (Nat.le_refl _) hρ, hb1.heap (by rw [hw']; exact hheap) (by rw [hw', kit_setCells, kit_setCells]; exact ⟨(setCells_io _ _ _ _).1.trans (setCells_io _ _ _ _).1, (setCells_io _ _ _ _).2.trans (setCells_io _ _ _ _).2⟩), ?_, hgo⟩
                refine .slice (Nat.le_refl _) hGG (by simp) fun _ => ⟨_, _, Ren.ext_same, rfl, fun sz' hsz' => ?_⟩
                simp only [Option.some.injEq] at hsz'; subst hsz'
                show 0 + 0 + GG * szq ≤ arr.size
                omega
              ·
                have hlm : (len + 1) * szq = len * szq + szq := Nat.succ_mul _ _
                have him : (i + 1) * szq = i * szq + szq := Nat.succ_mul _ _
                have hmul : (len + 1) * szq ≤ c' * szq := Nat.mul_le_mul_right _ hc'
                have hspc : ∀ j, j < (len + 1) * szq → ∃ x, w.cell? ⟨b, bs.off + 0 + j, none⟩ = some x := fun j hj =>
                  h.wr.tot p b bs cs false _ hb hp (bs.off + 0 + j) (by omega)
                have hrw : s.rw (some (g, cur)) = true := by simp only [St.rw, hg]
                have shp : ∀ {b j : Nat} {x : Value}, w.cell? ⟨b, j, none⟩ = some x → ∃ t k, w.shape? b = some (t, k) ∧ k ≠ 0 := by
                  intro b j x hx
                  unfold World.cell? at hx
                  unfold World.shape?
                  simp only at hx
                  split at hx
                  · rename_i cells e f hb
                    refine ⟨_, _, by first | rfl | rw [hb], ?_⟩
                    intro e0
                    rw [Array.getElem?_eq_none (by omega)] at hx; simp at hx
                  all_goals first | (cases hx; done) | (simp at hx; done)
                obtain ⟨tA, kA, hsA, _⟩ := shp (hvlc 0 _ (List.getElem?_eq_getElem (by omega)))
                obtain ⟨tB, kB, hsB, hkB⟩ := shp (hclc' 0 _ (List.getElem?_eq_getElem (by omega)))
                obtain ⟨u, w', ⟨rfl, hw'⟩, hgo⟩ := goes_of_calls (R := fun u w' => u = .slice (some ⟨b, bs.off + 0, none⟩) (len + 1) c' ∧ w' = (w.drew.setCells b (bs.off + 0 + (i + 1) * szq) (cl.drop (i * szq))).setCells b (bs.off + 0 + i * szq) vl) hF hbd hnm
                  ((W.shift b (bs.off + 0) len c' i vb (vbs.off + vo) vc cl vl w hil hc' hl5 hbne (by omega) hvll hclc' (fun j hj => by obtain ⟨x, hx⟩ := hspc j hj; rw [hx]; rfl)
                    (fun j hj => by obtain ⟨x, hx⟩ := hspc j hj; exact h.wr.thaw p b bs cs _ hb hp hrw _ _ hx) hvlc hcl1 hvl1 tA tB kA kB hsA hsB hkB (h.wr.plain vp vb vbs csv hvb hv _) (h.wr.plain vp vb vbs csv hvb hv _)).mono fun e w' ⟨he, hR⟩ => ⟨_, he, rfl, hR⟩) (c := c) (cs := cs') hpt
                rw [kit_setCells, kit_setCells] at hw'
                obtain ⟨w1, hw1⟩ : ∃ w1, w1 = setCells w.drew b (bs.off + 0 + (i + 1) * szq) (cl.drop (i * szq)) := ⟨_, rfl⟩
                rw [← hw1] at hw'
                have hk1 : ∀ c i x, w.cell? ⟨c, i, none⟩ = some x → ∃ y, w1.cell? ⟨c, i, none⟩ = some y := fun c i x hx => by
                  rw [hw1]; exact setCells_keep b c i _ _ _ x hx
                have hk2 : ∀ c i x, w.cell? ⟨c, i, none⟩ = some x → ∃ y, w'.cell? ⟨c, i, none⟩ = some y := fun c i x hx => by
                  obtain ⟨y, hy⟩ := hk1 c i x hx
                  rw [hw']; exact setCells_keep b c i _ _ _ y hy
                have hk3 : ∀ c i x, w'.cell? ⟨c, i, none⟩ = some x → ∃ y, w.cell? ⟨c, i, none⟩ = some y := fun c i x hx => by
                  rw [hw'] at hx
                  obtain ⟨y, hy⟩ := setCells_some b c i _ _ _ x hx
                  rw [hw1] at hy
                  exact setCells_some b c i _ w.drew _ y hy
                have hfzw : ∀ c i, w'.frozen? ⟨c, i, none⟩ = w.frozen? ⟨c, i, none⟩ := fun c i => by
                  rw [hw', setCells_frozen, hw1, setCells_frozen]; rfl
                have hszw : w'.heap.size = w.heap.size := by rw [hw', setCells_size, hw1, setCells_size]; rfl
                have hnew' : ∀ j u, (cl.take (i * szq) ++ (vl ++ cl.drop (i * szq)))[j]? = some u → w'.cell? ⟨b, bs.off + j, none⟩ = some u := by
                  intro j u hj
                  rw [ins_get (by omega) hvll] at hj
                  split at hj
                  · rename_i h3
                    rw [hw', setCells_out _ _ _ _ _ (.inl (by omega)), hw1, setCells_out _ _ _ _ _ (.inl (by omega))]
                    exact hclc' j u hj
                  · rename_i h3
                    split at hj
                    · rename_i h4
                      rw [hw', show bs.off + j = bs.off + 0 + i * szq + (j - i * szq) from by omega]
                      refine setCells_in _ _ _ _ _ _ hj fun t ht => ?_
                      obtain ⟨x, hx⟩ := hspc (i * szq + t) (by omega)
                      exact hk1 _ _ x (by rw [Nat.add_assoc]; exact hx)
                    · rename_i h4
                      rw [hw', setCells_out _ _ _ _ _ (.inr (by omega)), hw1, show bs.off + j = bs.off + 0 + (i + 1) * szq + (j - (i + 1) * szq) from by omega]
                      refine setCells_in _ _ _ _ _ _ (by rw [List.getElem?_drop, show i * szq + (j - (i + 1) * szq) = j - szq from by omega]; exact hj) fun t ht => ?_
                      rw [List.length_drop] at ht
                      obtain ⟨x, hx⟩ := hspc ((i + 1) * szq + t) (by omega)
                      exact ⟨x, by rw [Nat.add_assoc]; exact hx⟩
                have hw2 := h1.wr.bindOver hnget hρ hgget' hpget' hb (by omega) (w2 := w') (by rw [hw', hw1]; exact ⟨(setCells_io _ _ _ _).1.trans (setCells_io _ _ _ _).1, (setCells_io _ _ _ _).2.trans (setCells_io _ _ _ _).2⟩) (by omega) (fun c _ hc => by rw [hw', setCells_ne _ hc, hw1, setCells_ne _ hc]; rfl) (fun i x hx => hk3 b i x hx) (fun i x hx => hk2 b i x hx) (fun i => hfzw b i) (by
                  intro j v hj
                  obtain ⟨u, hu, hvr⟩ := hnr.get j v hj
                  refine ⟨?_, u, hnew' j u hu, hvr⟩
                  rw [List.all_eq_true] at hnf
                  exact hnf v (List.mem_of_getElem? hj))
                have htys : Tys w w' := by
                  rw [hw', hw1]
                  exact Tys.trans (b := setCells w.drew b (bs.off + 0 + (i + 1) * szq) (cl.drop (i * szq))) (Tys.setCells b _ w.drew _) (Tys.setCells b _ _ _)
                refine ⟨_, w', _, h2.bind h.wr _ (Nat.le_refl _) hρ, ⟨hw2, ?_, h1.ty.fresh, fun x hx => htys.2.2 x _ (h1.ty.df x hx)⟩, ?_, hgo⟩
                · intro n' t' b' o' hn' hb'
                  rcases Ren.ext_cases hb' with ⟨rfl, e'⟩ | ⟨hne, hb'⟩
                  · rw [hty, h.ty.fresh _ (Nat.le_refl _)] at hn'; cases hn'
                  · obtain ⟨cells, fz, hcells, hl'⟩ := h1.ty.is n' t' b' o' hn' hb'
                    obtain ⟨cells', fz', hcells', hsz'⟩ := htys.2.1 b' cells t' fz hcells
                    exact ⟨cells', fz', hcells', fun cs' ro hcs' => by rw [hsz']; exact hl' cs' ro hcs'⟩
                · refine .slice (Nat.le_refl _) hc' (by simp) fun _ => ⟨_, _, Ren.ext_same, rfl, fun sz hsz => ?_⟩
                  simp only [Option.some.injEq] at hsz; subst hsz
                  show bs.off + 0 + c' * szq ≤ bs.tot
                  omega
            · cases he
          · cases he
        · cases he
      · cases he
  · cases he
theorem walk1 : InsWalk 501 3 1 where
  pos := by omega
  shift := fun b off n c i vb voff vc cs vs w h1 h2 h3 h4 h5 h6 h7 h8 h9 h10 h11 h12 tA tB kA kB h13 h14 h15 h16 h17 => Tryz.insert1_shift b off n c i vb voff vc cs vs w h1 h2 h3 h4 h5 h6 h7 h8 h9 h10 h11 h12 tA tB kA kB h13 h14 h15 h16 h17
  grow := fun b off n c i vb voff vc cs vs w h1 h2 h3 h4 h5 h6 h7 h8 h9 h10 => Tryz.insert1_grow b off n c i vb voff vc cs vs w h1 h2 h3 h4 h5 h6 h7 h8 h9 h10
theorem walk22 : InsWalk 416 276 22 where
  pos := by omega
  shift := fun b off n c i vb voff vc cs vs w h1 h2 h3 h4 h5 h6 h7 h8 h9 h10 h11 h12 tA tB kA kB h13 h14 h15 h16 h17 => Tryz.insert22_shift b off n c i vb voff vc cs vs w h1 h2 h3 h4 h5 h6 h7 h8 h9 h10 h11 h12 tA tB kA kB h13 h14 h15 h16 h17
  grow := fun b off n c i vb voff vc cs vs w h1 h2 h3 h4 h5 h6 h7 h8 h9 h10 => Tryz.insert22_grow b off n c i vb voff vc cs vs w h1 h2 h3 h4 h5 h6 h7 h8 h9 h10
theorem insert1_prim [Sig] (B : Nat) (w0 : World) : PrimOk Tryz.prog B w0 501 (insertPrim 1) := insert_prim_of walk1 Tryz.func501 (by kernel_rfl) (by kernel_rfl) B w0
theorem insert22_prim [Sig] (B : Nat) (w0 : World) : PrimOk Tryz.prog B w0 416 (insertPrim 22) := insert_prim_of walk22 Tryz.func416 (by kernel_rfl) (by kernel_rfl) B w0
end A3
