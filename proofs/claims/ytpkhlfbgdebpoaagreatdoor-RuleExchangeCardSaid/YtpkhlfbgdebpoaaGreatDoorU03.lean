/- The heap of the abstract machine related to the world, and how each change of both keeps it. -/
import Derived.Test.YtpkhlfbgdebpoaaGreatDoorU02
import Derived.Laws.Sem
import Derived.Laws.Cells
import Derived.Laws.Rows
namespace A3
open Go
def St.rw (s : St) (g : Option (Pos × Nat)) : Bool :=
  match g with
  | none => true
  | some (g, _) => match s.heap.get g with
    | some (.grp _ _ false) => true
    | _ => false
def TR [Sig] (ρ : Ren) (N : Nat) (t : Tmps) (a : Array Value) : Prop :=
  a.size = N ∧ ∀ i v, i < N → t.get (posOf i) = some v → ∃ u, a[i]? = some u ∧ VR ρ v u
theorem TR.mono [Sig] {ρ ρ' : Ren} {N : Nat} {t : Tmps} {a : Array Value} (h : TR ρ N t a) (hr : ρ.le ρ') : TR ρ' N t a :=
  ⟨h.1, fun i v hi hv => let ⟨u, hu, hr'⟩ := h.2 i v hi hv; ⟨u, hu, hr'.mono hr⟩⟩
inductive MapR [Sig] (ρ : Ren) : List (AV × AV) → List MapEntry → Prop where
  | nil : MapR ρ [] []
  | cons {k v : AV} {e : MapEntry} {l : List (AV × AV)} {m : List MapEntry} (hk : VR ρ k e.key) (hv : VR ρ v e.val) (t : MapR ρ l m) : MapR ρ ((k, v) :: l) (e :: m)
theorem MapR.mono [Sig] {ρ ρ' : Ren} (hr : ρ.le ρ') : ∀ {l : List (AV × AV)} {m : List MapEntry}, MapR ρ l m → MapR ρ' l m
  | _, _, .nil => .nil
  | _, _, .cons hk hv t => .cons (hk.mono hr) (hv.mono hr) (t.mono hr)
structure MapW [Sig] (ρ : Ren) (l : List (AV × AV)) (m : Array MapEntry) (clock : Nat) : Prop where
  r : MapR ρ l m.toList
  born : ∀ (i : Nat) (e : MapEntry), m[i]? = some e → e.born = i
  clock : clock = m.size
theorem MapW.mono [Sig] {ρ ρ' : Ren} (hr : ρ.le ρ') {l : List (AV × AV)} {m : Array MapEntry} {c : Nat} (h : MapW ρ l m c) : MapW ρ' l m c := ⟨h.r.mono hr, h.born, h.clock⟩
def LSR : LState → LoopState → Prop
  | .ready, .ready | .busy, .busy | .done, .done | .exhausted, .exhausted => True
  | _, _ => False
inductive PendR : Option Ex → Option Code → Prop where
  | none : PendR none none
  | exit (id : Nat) : PendR (some (.exit id)) (some (.exit id))
  | ret : PendR (some .ret) (some .ret)
structure CC where
  code : Nat → Code → ACode → Prop
  fn : FuncId → Prop
structure LoopR [Sig] (C : CC) (ρ : Ren) (l : ALoop) (L : Loop) : Prop where
  st : LSR l.st L.state
  pend : PendR l.pending L.pending
  tmps : TR ρ L.tmps.size l.tmps L.tmps
  params : l.params = L.params.toList.map posOf
  inside : ∀ t ∈ L.params.toList, t < L.tmps.size
  assign : C.code L.tmps.size L.assign l.assign
  body : C.code L.tmps.size L.body l.body
  fn : C.fn L.fn
theorem LoopR.mono [Sig] {C : CC} {ρ ρ' : Ren} {l : ALoop} {L : Loop} (h : LoopR C ρ l L) (hr : ρ.le ρ') : LoopR C ρ' l L :=
  { h with tmps := h.tmps.mono hr }
structure WR [Sig] (C : CC) (B : Nat) (w0 : World) (ρ : Ren) (s : St) (w : World) : Prop where
  keep : ∀ b, b < B → w.heap[b]? = w0.heap[b]?
  size : B ≤ w.heap.size
  nxt : ∀ n : Pos, s.next.toNat ≤ n.toNat → s.heap.get n = none ∧ ρ n = none
  dom : ∀ n b o, ρ n = some (b, o) → b < w.heap.size
  cells : ∀ n b o cs ro g, ρ n = some (b, o) → s.heap.get n = some (.cells cs ro g) → s.valid g = true →
    ∀ (i : Nat) (v : AV), cs[i]? = some v → v.flat = true ∧ ∃ u, w.cell? ⟨b, o.off + i, none⟩ = some u ∧ VR ρ v u
  own : ∀ n b o cs g, ρ n = some (b, o) → s.heap.get n = some (.cells cs false g) → B ≤ b
  thaw : ∀ n b o cs g, ρ n = some (b, o) → s.heap.get n = some (.cells cs false g) → s.rw g = true →
    ∀ off u, w.cell? ⟨b, off, none⟩ = some u → w.frozen? ⟨b, off, none⟩ = false
  tot : ∀ n b o cs ro g, ρ n = some (b, o) → s.heap.get n = some (.cells cs ro g) → ∀ i, i < o.tot → ∃ u, w.cell? ⟨b, i, none⟩ = some u
  sep : ∀ n m b o o' cs cs' ro ro' g g', n ≠ m → ρ n = some (b, o) → ρ m = some (b, o') → s.heap.get n = some (.cells cs ro g) →
    s.heap.get m = some (.cells cs' ro' g') → (ro = true ∧ ro' = true) ∨ (∃ gg k k', g = some (gg, k) ∧ g' = some (gg, k'))
  grp : ∀ n cs ro g k, s.heap.get n = some (.cells cs ro (some (g, k))) →
    ro = false ∧ g.toNat < s.next.toNat ∧ (s.heap.get g = some .lost ∨ ∃ cur fl r, s.heap.get g = some (.grp cur fl r) ∧ k ≤ cur)
  ver : ∀ n m cs cs' ro ro' g k, s.heap.get n = some (.cells cs ro (some (g, k))) → s.heap.get m = some (.cells cs' ro' (some (g, k))) → n = m
  ends : ∀ n m b o o' cs cs' ro ro' g k k', ρ n = some (b, o) → ρ m = some (b, o') → s.heap.get n = some (.cells cs ro (some (g, k))) →
    s.heap.get m = some (.cells cs' ro' (some (g, k'))) → k ≤ k' → o.off + cs.length ≤ o'.off + cs'.length
  map : ∀ n b o es, ρ n = some (b, o) → s.heap.get n = some (.map es) → o = ⟨0, 0⟩ ∧ B ≤ b ∧ ∃ ces clock, w.heap[b]? = some (.map ces clock) ∧ MapW ρ es ces clock
  loop : ∀ n b o l, ρ n = some (b, o) → s.heap.get n = some (.loop l) → o = ⟨0, 0⟩ ∧ B ≤ b ∧ ∃ L, w.heap[b]? = some (.loop L) ∧ LoopR C ρ l L
  inj : ∀ n m b o o', n ≠ m → ρ n = some (b, o) → ρ m = some (b, o') → (∀ es, s.heap.get n ≠ some (.map es)) ∧ (∀ l, s.heap.get n ≠ some (.loop l))
  plain : ∀ n b o cs, ρ n = some (b, o) → s.heap.get n = some (.cells cs false none) → ∀ off, w.frozen? ⟨b, off, none⟩ = false
  io : w.os = w0.os ∧ w.output = w0.output
variable {C : CC} {B : Nat} {w0 : World} {ρ : Ren} {s : St} {w : World}
theorem St.cells_eq {s : St} {n : Pos} {cs : List AV} (h : s.cells n = some cs) : ∃ ro g, s.heap.get n = some (.cells cs ro g) ∧ s.valid g = true := by
  unfold St.cells at h
  split at h
  · rename_i cs' ro g hg
    split at h
    · rename_i hv; simp at h; subst h; exact ⟨ro, g, hg, hv⟩
    · simp at h
  · simp at h
theorem WR.read [Sig] (h : WR C B w0 ρ s w) {n : Pos} {b : Nat} {o : Bs} {cs : List AV} (hn : ρ n = some (b, o)) (hc : s.cells n = some cs) (i : Nat) (k : Nat) (hk : i + k ≤ cs.length) :
    ∃ us : List Value, us.length = k ∧ VRs ρ ((cs.drop i).take k) us ∧ ((cs.drop i).take k).all AV.flat = true ∧
      ∀ j v, us[j]? = some v → w.cell? ⟨b, o.off + i + j, none⟩ = some v := by
  obtain ⟨ro, g, hg, hv⟩ := St.cells_eq hc
  induction k with
  | zero => exact ⟨[], rfl, by simp; exact .nil, by simp, by simp⟩
  | succ k ih =>
    obtain ⟨us, hl, hr, hf, hu⟩ := ih (by omega)
    have hlt : i + k < cs.length := by omega
    obtain ⟨hfl, u, hcell, hvr⟩ := h.cells n b o cs ro g hn hg hv (i + k) cs[i + k] (by simp [hlt])
    refine ⟨us ++ [u], by simp [hl], ?_, ?_, ?_⟩
    · have e : (cs.drop i).take (k + 1) = (cs.drop i).take k ++ [cs[i + k]] := by
        rw [List.take_succ_eq_append_getElem (by simp; omega)]; simp
      rw [e]; exact hr.append (.cons hvr .nil)
    · have e : (cs.drop i).take (k + 1) = (cs.drop i).take k ++ [cs[i + k]] := by
        rw [List.take_succ_eq_append_getElem (by simp; omega)]; simp
      rw [e, List.all_append, hf]; simp [hfl]
    · intro j v hj
      by_cases hjk : j < us.length
      · rw [List.getElem?_append_left hjk] at hj; exact hu j v hj
      · have hj' : j = us.length := by
          have : j < (us ++ [u]).length := by
            rcases Nat.lt_or_ge j (us ++ [u]).length with h1 | h1
            · exact h1
            · rw [List.getElem?_eq_none h1] at hj; simp at hj
          simp at this; omega
        subst hj'
        simp at hj
        subst hj
        rw [hl, Nat.add_assoc]; exact hcell
theorem St.alloc_get (s : St) (o : Obj) (n : Pos) : (s.alloc o).heap.get n = if s.next = n then some o else s.heap.get n := T.get_set _ _ _ _
theorem St.put_get (s : St) (m : Pos) (o : Obj) (n : Pos) : (s.put m o).heap.get n = if m = n then some o else s.heap.get n := T.get_set _ _ _ _
theorem toNat_ne {p q : Pos} (h : p.toNat ≠ q.toNat) : p ≠ q := fun e => h (by rw [e])
end A3
namespace A3
open Go
variable {C : CC} {B : Nat} {w0 : World} {ρ : Ren} {s : St} {w : World}
theorem WR.bound [Sig] (h : WR C B w0 ρ s w) {n : Pos} {o : Obj} (hn : s.heap.get n = some o) : n.toNat < s.next.toNat := by
  rcases Nat.lt_or_ge n.toNat s.next.toNat with h1 | h1
  · exact h1
  · have := (h.nxt n h1).1; rw [hn] at this; cases this
theorem St.valid_congr {s s' : St} {g : Option (Pos × Nat)} (h : ∀ n k, g = some (n, k) → s'.heap.get n = s.heap.get n) : s'.valid g = s.valid g := by
  cases g with
  | none => rfl
  | some x => obtain ⟨n, k⟩ := x; simp only [St.valid, h n k rfl]
theorem St.rw_congr {s s' : St} {g : Option (Pos × Nat)} (h : ∀ n k, g = some (n, k) → s'.heap.get n = s.heap.get n) : s'.rw g = s.rw g := by
  cases g with
  | none => rfl
  | some x => obtain ⟨n, k⟩ := x; simp only [St.rw, h n k rfl]
def Obj.plain : Obj → Bool
  | .cells _ false none => true
  | .map _ => true
  | .loop _ => true
  | .grp _ _ _ => true
  | .lost => true
  | _ => false
theorem WR.old_alloc [Sig] (h : WR C B w0 ρ s w) (o : Obj) {n : Pos} {x : Obj} (hn : s.heap.get n = some x) : (s.alloc o).heap.get n = some x := by
  rw [St.alloc_get, if_neg]
  · exact hn
  · intro e; subst e; have := (h.nxt _ (Nat.le_refl _)).1; rw [hn] at this; cases this
theorem WR.back_alloc [Sig] (h : WR C B w0 ρ s w) (o : Obj) {n : Pos} {x : Nat × Bs} (hn : ρ n = some x) : (s.alloc o).heap.get n = s.heap.get n := by
  rw [St.alloc_get, if_neg]
  intro e; subst e; have := (h.nxt _ (Nat.le_refl _)).2; rw [hn] at this; cases this
theorem WR.grow [Sig] (h : WR C B w0 ρ s w) (o : Obj) (ho : o.plain = true) : WR C B w0 ρ (s.alloc o) w := by
  have hb : ∀ {n : Pos} {x : Nat × Bs}, ρ n = some x → (s.alloc o).heap.get n = s.heap.get n := fun hn => h.back_alloc o hn
  have hg : ∀ {n : Pos} {cs ro g k}, (s.alloc o).heap.get n = some (.cells cs ro (some (g, k))) → s.heap.get n = some (.cells cs ro (some (g, k))) := by
    intro n cs ro g k hn
    rw [St.alloc_get] at hn
    split at hn
    · simp at hn; subst hn; simp [Obj.plain] at ho
    · exact hn
  have hgr : ∀ {n : Pos} {cs ro} {g : Pos} {k : Nat}, s.heap.get n = some (.cells cs ro (some (g, k))) → (s.alloc o).heap.get g = s.heap.get g := by
    intro n cs ro g k hn
    obtain ⟨_, hlt, _⟩ := h.grp n cs ro g k hn
    rw [St.alloc_get, if_neg (toNat_ne (by omega))]
  have hval : ∀ {n : Pos} {cs ro g}, s.heap.get n = some (.cells cs ro g) → (s.alloc o).valid g = s.valid g := by
    intro n cs ro g hn
    apply St.valid_congr
    intro gg k e; subst e; exact hgr hn
  have hrw : ∀ {n : Pos} {cs ro g}, s.heap.get n = some (.cells cs ro g) → (s.alloc o).rw g = s.rw g := by
    intro n cs ro g hn
    apply St.rw_congr
    intro gg k e; subst e; exact hgr hn
  constructor
  · exact h.keep
  · exact h.size
  · intro n hn
    have hn' : s.next.toNat + 1 ≤ n.toNat := by have := Pos.toNat_succ s.next; simp only [St.alloc] at hn; omega
    refine ⟨?_, (h.nxt n (by omega)).2⟩
    rw [St.alloc_get, if_neg (toNat_ne (by omega))]; exact (h.nxt n (by omega)).1
  · exact h.dom
  · intro n b o' cs ro g hn hc hv
    rw [hb hn] at hc
    exact h.cells n b o' cs ro g hn hc (by rwa [hval hc] at hv)
  · intro n b o' cs g hn hc; rw [hb hn] at hc; exact h.own n b o' cs g hn hc
  · intro n b o' cs g hn hc hr
    rw [hb hn] at hc
    exact h.thaw n b o' cs g hn hc (by rwa [hrw hc] at hr)
  · intro n b o' cs ro g hn hc; rw [hb hn] at hc; exact h.tot n b o' cs ro g hn hc
  · intro n m b o1 o2 cs cs' ro ro' g g' hnm hn hm hc hc'
    rw [hb hn] at hc; rw [hb hm] at hc'
    exact h.sep n m b o1 o2 cs cs' ro ro' g g' hnm hn hm hc hc'
  · intro n cs ro g k hn
    have hn' := hg hn
    obtain ⟨h1, h2, h3⟩ := h.grp n cs ro g k hn'
    refine ⟨h1, ?_, ?_⟩
    · have := Pos.toNat_succ s.next; simp only [St.alloc]; omega
    · rw [hgr hn']; exact h3
  · intro n m cs cs' ro ro' g k hn hm
    exact h.ver n m cs cs' ro ro' g k (hg hn) (hg hm)
  · intro n m b o1 o2 cs cs' ro ro' g k k' hn hm hc hc'
    exact h.ends n m b o1 o2 cs cs' ro ro' g k k' hn hm (hg hc) (hg hc')
  · intro n b o' es hn hc; rw [hb hn] at hc; exact h.map n b o' es hn hc
  · intro n b o' l hn hc; rw [hb hn] at hc; exact h.loop n b o' l hn hc
  · intro n m b o1 o2 hnm hn hm; rw [hb hn]; exact h.inj n m b o1 o2 hnm hn hm
  · intro n b o' cs hn hc; rw [hb hn] at hc; exact h.plain n b o' cs hn hc
  · exact h.io
def Ren.ext (ρ : Ren) (n : Pos) (x : Nat × Bs) : Ren := fun m => if m = n then some x else ρ m
theorem Ren.ext_le {ρ : Ren} {n : Pos} {x : Nat × Bs} (h : ρ n = none) : ρ.le (ρ.ext n x) := by
  intro m y hm
  unfold Ren.ext
  split
  · rename_i e; subst e; rw [h] at hm; cases hm
  · exact hm
theorem Ren.ext_same {ρ : Ren} {n : Pos} {x : Nat × Bs} : ρ.ext n x n = some x := by simp [Ren.ext]
theorem Ren.ext_cases {ρ : Ren} {n m : Pos} {x y : Nat × Bs} (h : ρ.ext n x m = some y) : (m = n ∧ y = x) ∨ (m ≠ n ∧ ρ m = some y) := by
  unfold Ren.ext at h
  split at h
  · rename_i e; simp at h; exact .inl ⟨e, h.symm⟩
  · rename_i e; exact .inr ⟨e, h⟩
theorem WR.bindCells [Sig] (h : WR C B w0 ρ s w) {n : Pos} {cs : List AV} {g : Option (Pos × Nat)} (hn : s.heap.get n = some (.cells cs false g)) (hρ : ρ n = none)
    (elem : TypeId) (arr : Array Value) (fz : Nat × Nat) (us rest : List Value) (harr : arr.toList = us ++ rest) (hr : VRs ρ cs us) (hf : cs.all AV.flat = true)
    (hfz : fz.1 = fz.2 ∨ (arr.size ≤ fz.1 ∧ g ≠ none)) :
    WR C B w0 (ρ.ext n (w.heap.size, ⟨0, arr.size⟩)) s (w.alloc (.cells arr elem fz)) := by
  have hle : ρ.le (ρ.ext n (w.heap.size, ⟨0, arr.size⟩)) := Ren.ext_le hρ
  have hne : ∀ {m : Pos} {b : Nat} {o : Bs}, ρ m = some (b, o) → b ≠ w.heap.size := fun hm => Nat.ne_of_lt (h.dom _ _ _ hm)
  have hold : ∀ {b : Nat}, b ≠ w.heap.size → (w.alloc (.cells arr elem fz)).heap[b]? = w.heap[b]? := by
    intro b hb
    simp only [World.alloc]
    rcases Nat.lt_or_ge b w.heap.size with h1 | h1
    · rw [Array.getElem?_push_lt h1, Array.getElem?_eq_getElem h1]
    · rw [Array.getElem?_eq_none (by simp; omega), Array.getElem?_eq_none (by omega)]
  have hcold : ∀ {b off : Nat}, b ≠ w.heap.size → (w.alloc (.cells arr elem fz)).cell? ⟨b, off, none⟩ = w.cell? ⟨b, off, none⟩ := by
    intro b off hb; simp only [World.cell?, hold hb]
  have hfold : ∀ {b off : Nat}, b ≠ w.heap.size → (w.alloc (.cells arr elem fz)).frozen? ⟨b, off, none⟩ = w.frozen? ⟨b, off, none⟩ := by
    intro b off hb; simp only [World.frozen?, hold hb]
  have hnew : (w.alloc (.cells arr elem fz)).heap[w.heap.size]? = some (.cells arr elem fz) := heap_alloc_new w _
  constructor
  · intro b hb; rw [hold (by have := h.size; omega)]; exact h.keep b hb
  · have := h.size; simp; omega
  · intro m hm
    refine ⟨(h.nxt m hm).1, ?_⟩
    unfold Ren.ext
    split
    · rename_i e; subst e; have := (h.nxt m hm).1; rw [hn] at this; cases this
    · exact (h.nxt m hm).2
  · intro m b o hm
    rcases Ren.ext_cases hm with ⟨_, e⟩ | ⟨_, e⟩
    · cases e; simp
    · have := h.dom m b o e; simp; omega
  · intro m b o cs' ro g' hm hc hv i v hi
    rcases Ren.ext_cases hm with ⟨e, e'⟩ | ⟨e, e'⟩
    · subst e; cases e'
      rw [hn] at hc; cases hc
      obtain ⟨u, hu, hvr⟩ := hr.get i v hi
      refine ⟨List.all_eq_true.1 hf v (List.mem_of_getElem? hi), u, ?_, hvr.mono hle⟩
      simp only [World.cell?, hnew, Option.isSome_none, Bool.false_eq_true, if_false, Nat.zero_add]
      have hlt : i < us.length := by
        rcases Nat.lt_or_ge i us.length with h1 | h1
        · exact h1
        · rw [List.getElem?_eq_none h1] at hu; cases hu
      rw [← Array.getElem?_toList, harr, List.getElem?_append_left hlt]; exact hu
    · obtain ⟨h1, u, h2, h3⟩ := h.cells m b o cs' ro g' e' hc hv i v hi
      exact ⟨h1, u, by rw [hcold (hne e')]; exact h2, h3.mono hle⟩
  · intro m b o cs' g' hm hc
    rcases Ren.ext_cases hm with ⟨e, e'⟩ | ⟨e, e'⟩
    · cases e'; exact h.size
    · exact h.own m b o cs' g' e' hc
  · intro m b o cs' g' hm hc hrw off u hu
    rcases Ren.ext_cases hm with ⟨e, e'⟩ | ⟨e, e'⟩
    · cases e'
      simp only [World.cell?, hnew, Option.isSome_none, Bool.false_eq_true, if_false] at hu
      have hlt : off < arr.size := by
        rcases Nat.lt_or_ge off arr.size with h1 | h1
        · exact h1
        · rw [Array.getElem?_eq_none h1] at hu; cases hu
      simp only [World.frozen?, hnew]
      rcases hfz with h1 | ⟨h1, _⟩
      · simp; omega
      · simp; omega
    · rw [hcold (hne e')] at hu; rw [hfold (hne e')]; exact h.thaw m b o cs' g' e' hc hrw off u hu
  · intro m b o cs' ro g' hm hc i hi
    rcases Ren.ext_cases hm with ⟨e, e'⟩ | ⟨e, e'⟩
    · cases e'
      refine ⟨arr[i]'(by simpa using hi), ?_⟩
      simp only [World.cell?, hnew, Option.isSome_none, Bool.false_eq_true, if_false]
      exact Array.getElem?_eq_getElem _
    · rw [hcold (hne e')]; exact h.tot m b o cs' ro g' e' hc i hi
  · intro m m' b o1 o2 cs1 cs2 ro1 ro2 g1 g2 hmm hm hm' hc hc'
    rcases Ren.ext_cases hm with ⟨e, e'⟩ | ⟨e, e'⟩
    · rcases Ren.ext_cases hm' with ⟨f, f'⟩ | ⟨f, f'⟩
      · exact absurd (e.trans f.symm) hmm
      · cases e'; exact absurd rfl (hne f')
    · rcases Ren.ext_cases hm' with ⟨f, f'⟩ | ⟨f, f'⟩
      · cases f'; exact absurd rfl (hne e')
      · exact h.sep m m' b o1 o2 cs1 cs2 ro1 ro2 g1 g2 hmm e' f' hc hc'
  · exact h.grp
  · exact h.ver
  · intro m m' b o1 o2 cs1 cs2 ro1 ro2 g' k k' hm hm' hc hc' hk
    rcases Ren.ext_cases hm with ⟨e, e'⟩ | ⟨e, e'⟩
    · rcases Ren.ext_cases hm' with ⟨f, f'⟩ | ⟨f, f'⟩
      · subst e; subst f; cases e'; cases f'; rw [hc] at hc'; cases hc'; omega
      · cases e'; exact absurd rfl (hne f')
    · rcases Ren.ext_cases hm' with ⟨f, f'⟩ | ⟨f, f'⟩
      · cases f'; exact absurd rfl (hne e')
      · exact h.ends m m' b o1 o2 cs1 cs2 ro1 ro2 g' k k' e' f' hc hc' hk
  · intro m b o es hm hc
    rcases Ren.ext_cases hm with ⟨e, e'⟩ | ⟨e, e'⟩
    · subst e; rw [hn] at hc; cases hc
    · obtain ⟨h1, h2, ces, clock, h3, h4⟩ := h.map m b o es e' hc
      exact ⟨h1, h2, ces, clock, by rw [hold (hne e')]; exact h3, h4.mono hle⟩
  · intro m b o l hm hc
    rcases Ren.ext_cases hm with ⟨e, e'⟩ | ⟨e, e'⟩
    · subst e; rw [hn] at hc; cases hc
    · obtain ⟨h1, h2, L, h3, h4⟩ := h.loop m b o l e' hc
      exact ⟨h1, h2, L, by rw [hold (hne e')]; exact h3, h4.mono hle⟩
  · intro m m' b o1 o2 hmm hm hm'
    rcases Ren.ext_cases hm with ⟨e, e'⟩ | ⟨e, e'⟩
    · subst e; rw [hn]; exact ⟨fun _ => (by simp), fun _ => (by simp)⟩
    · rcases Ren.ext_cases hm' with ⟨f, f'⟩ | ⟨f, f'⟩
      · cases f'; exact absurd rfl (hne e')
      · exact h.inj m m' b o1 o2 hmm e' f'
  · intro m b o cs' hm hc off
    rcases Ren.ext_cases hm with ⟨e, e'⟩ | ⟨e, e'⟩
    · subst e; cases e'
      rw [hn] at hc; cases hc
      simp only [World.frozen?, hnew]
      rcases hfz with h1 | ⟨_, h1⟩
      · simp; omega
      · exact absurd rfl h1
    · rw [hfold (hne e')]; exact h.plain m b o cs' e' hc off
  · exact h.io
end A3
namespace A3
open Go
variable {C : CC} {B : Nat} {w0 : World} {ρ : Ren} {s : St} {w : World}
theorem heap_alloc_ne {w : World} {o : Go.Obj} {b : Nat} (hb : b ≠ w.heap.size) : (w.alloc o).heap[b]? = w.heap[b]? := by
  simp only [World.alloc]
  rcases Nat.lt_or_ge b w.heap.size with h1 | h1
  · rw [Array.getElem?_push_lt h1, Array.getElem?_eq_getElem h1]
  · rw [Array.getElem?_eq_none (by simp; omega), Array.getElem?_eq_none (by omega)]
theorem cell_congr {w w' : World} {b : Nat} (h : w'.heap[b]? = w.heap[b]?) (off : Nat) : w'.cell? ⟨b, off, none⟩ = w.cell? ⟨b, off, none⟩ := by
  simp only [World.cell?, h]
theorem frozen_congr {w w' : World} {b : Nat} (h : w'.heap[b]? = w.heap[b]?) (off : Nat) : w'.frozen? ⟨b, off, none⟩ = w.frozen? ⟨b, off, none⟩ := by
  simp only [World.frozen?, h]
theorem WR.more [Sig] (h : WR C B w0 ρ s w) {w' : World} (hs : w.heap.size ≤ w'.heap.size) (hk : ∀ b, b < w.heap.size → w'.heap[b]? = w.heap[b]?) (hio : w'.os = w.os ∧ w'.output = w.output) : WR C B w0 ρ s w' := by
  have hd : ∀ {n : Pos} {b : Nat} {o : Bs}, ρ n = some (b, o) → w'.heap[b]? = w.heap[b]? := fun hn => hk _ (h.dom _ _ _ hn)
  constructor
  · intro b hb; rw [hk b (by have := h.size; omega)]; exact h.keep b hb
  · have := h.size; omega
  · exact h.nxt
  · intro n b o hn; have := h.dom n b o hn; omega
  · intro n b o cs ro g hn hc hv i v hi
    obtain ⟨h1, u, h2, h3⟩ := h.cells n b o cs ro g hn hc hv i v hi
    exact ⟨h1, u, by rw [cell_congr (hd hn)]; exact h2, h3⟩
  · exact h.own
  · intro n b o cs g hn hc hrw off u hu
    rw [cell_congr (hd hn)] at hu; rw [frozen_congr (hd hn)]; exact h.thaw n b o cs g hn hc hrw off u hu
  · intro n b o cs ro g hn hc i hi
    rw [cell_congr (hd hn)]; exact h.tot n b o cs ro g hn hc i hi
  · exact h.sep
  · exact h.grp
  · exact h.ver
  · exact h.ends
  · intro n b o es hn hc
    obtain ⟨h1, h2, ces, clock, h3, h4⟩ := h.map n b o es hn hc
    exact ⟨h1, h2, ces, clock, by rw [hd hn]; exact h3, h4⟩
  · intro n b o l hn hc
    obtain ⟨h1, h2, L, h3, h4⟩ := h.loop n b o l hn hc
    exact ⟨h1, h2, L, by rw [hd hn]; exact h3, h4⟩
  · exact h.inj
  · intro n b o cs hn hc off; rw [frozen_congr (hd hn)]; exact h.plain n b o cs hn hc off
  · exact ⟨hio.1.trans h.io.1, hio.2.trans h.io.2⟩
theorem WR.drew [Sig] (h : WR C B w0 ρ s w) : WR C B w0 ρ s { w with drawn := w.drawn + 1 } := h.more (Nat.le_refl _) (fun _ _ => rfl) ⟨rfl, rfl⟩
theorem WR.bindObj [Sig] (h : WR C B w0 ρ s w) {n : Pos} (O : Go.Obj) (hρ : ρ n = none) (hs : ∃ x, s.heap.get n = some x)
    (hno : ∀ cs ro g, s.heap.get n ≠ some (.cells cs ro g))
    (hmap : ∀ es, s.heap.get n = some (.map es) → ∃ ces clock, O = .map ces clock ∧ MapW (ρ.ext n (w.heap.size, ⟨0, 0⟩)) es ces clock)
    (hloop : ∀ l, s.heap.get n = some (.loop l) → ∃ L, O = .loop L ∧ LoopR C (ρ.ext n (w.heap.size, ⟨0, 0⟩)) l L) :
    WR C B w0 (ρ.ext n (w.heap.size, ⟨0, 0⟩)) s (w.alloc O) := by
  have hle : ρ.le (ρ.ext n (w.heap.size, ⟨0, 0⟩)) := Ren.ext_le hρ
  have hne : ∀ {m : Pos} {b : Nat} {o : Bs}, ρ m = some (b, o) → b ≠ w.heap.size := fun hm => Nat.ne_of_lt (h.dom _ _ _ hm)
  have hold : ∀ {m : Pos} {b : Nat} {o : Bs}, ρ m = some (b, o) → (w.alloc O).heap[b]? = w.heap[b]? := fun hm => heap_alloc_ne (hne hm)
  have hnew : (w.alloc O).heap[w.heap.size]? = some O := heap_alloc_new w _
  obtain ⟨x, hx⟩ := hs
  constructor
  · intro b hb; rw [heap_alloc_ne (by have := h.size; omega)]; exact h.keep b hb
  · have := h.size; simp; omega
  · intro m hm
    refine ⟨(h.nxt m hm).1, ?_⟩
    unfold Ren.ext
    split
    · rename_i e; subst e; have := (h.nxt m hm).1; rw [hx] at this; cases this
    · exact (h.nxt m hm).2
  · intro m b o hm
    rcases Ren.ext_cases hm with ⟨_, e⟩ | ⟨_, e⟩
    · cases e; simp
    · have := h.dom m b o e; simp; omega
  · intro m b o cs' ro g' hm hc hv i v hi
    rcases Ren.ext_cases hm with ⟨e, e'⟩ | ⟨e, e'⟩
    · subst e; exact absurd hc (hno _ _ _)
    · obtain ⟨h1, u, h2, h3⟩ := h.cells m b o cs' ro g' e' hc hv i v hi
      exact ⟨h1, u, by rw [cell_congr (hold e')]; exact h2, h3.mono hle⟩
  · intro m b o cs' g' hm hc
    rcases Ren.ext_cases hm with ⟨e, e'⟩ | ⟨e, e'⟩
    · cases e'; exact h.size
    · exact h.own m b o cs' g' e' hc
  · intro m b o cs' g' hm hc hrw off u hu
    rcases Ren.ext_cases hm with ⟨e, e'⟩ | ⟨e, e'⟩
    · subst e; exact absurd hc (hno _ _ _)
    · rw [cell_congr (hold e')] at hu; rw [frozen_congr (hold e')]; exact h.thaw m b o cs' g' e' hc hrw off u hu
  · intro m b o cs' ro g' hm hc i hi
    rcases Ren.ext_cases hm with ⟨e, e'⟩ | ⟨e, e'⟩
    · subst e; exact absurd hc (hno _ _ _)
    · rw [cell_congr (hold e')]; exact h.tot m b o cs' ro g' e' hc i hi
  · intro m m' b o1 o2 cs1 cs2 ro1 ro2 g1 g2 hmm hm hm' hc hc'
    rcases Ren.ext_cases hm with ⟨e, e'⟩ | ⟨e, e'⟩
    · subst e; exact absurd hc (hno _ _ _)
    · rcases Ren.ext_cases hm' with ⟨f, f'⟩ | ⟨f, f'⟩
      · cases f'; exact absurd rfl (hne e')
      · exact h.sep m m' b o1 o2 cs1 cs2 ro1 ro2 g1 g2 hmm e' f' hc hc'
  · exact h.grp
  · exact h.ver
  · intro m m' b o1 o2 cs1 cs2 ro1 ro2 g' k k' hm hm' hc hc' hk
    rcases Ren.ext_cases hm with ⟨e, e'⟩ | ⟨e, e'⟩
    · subst e; exact absurd hc (hno _ _ _)
    · rcases Ren.ext_cases hm' with ⟨f, f'⟩ | ⟨f, f'⟩
      · cases f'; exact absurd rfl (hne e')
      · exact h.ends m m' b o1 o2 cs1 cs2 ro1 ro2 g' k k' e' f' hc hc' hk
  · intro m b o es hm hc
    rcases Ren.ext_cases hm with ⟨e, e'⟩ | ⟨e, e'⟩
    · subst e; cases e'
      obtain ⟨ces, clock, e1, e2⟩ := hmap es hc
      exact ⟨rfl, h.size, ces, clock, by rw [hnew, e1], e2⟩
    · obtain ⟨h1, h2, ces, clock, h3, h4⟩ := h.map m b o es e' hc
      exact ⟨h1, h2, ces, clock, by rw [hold e']; exact h3, h4.mono hle⟩
  · intro m b o l hm hc
    rcases Ren.ext_cases hm with ⟨e, e'⟩ | ⟨e, e'⟩
    · subst e; cases e'
      obtain ⟨L, e1, e2⟩ := hloop l hc
      exact ⟨rfl, h.size, L, by rw [hnew, e1], e2⟩
    · obtain ⟨h1, h2, L, h3, h4⟩ := h.loop m b o l e' hc
      exact ⟨h1, h2, L, by rw [hold e']; exact h3, h4.mono hle⟩
  · intro m m' b o1 o2 hmm hm hm'
    rcases Ren.ext_cases hm with ⟨e, e'⟩ | ⟨e, e'⟩
    · rcases Ren.ext_cases hm' with ⟨f, f'⟩ | ⟨f, f'⟩
      · exact absurd (e.trans f.symm) hmm
      · cases e'; exact absurd rfl (hne f')
    · rcases Ren.ext_cases hm' with ⟨f, f'⟩ | ⟨f, f'⟩
      · cases f'; exact absurd rfl (hne e')
      · exact h.inj m m' b o1 o2 hmm e' f'
  · intro m b o cs hm hc off
    rcases Ren.ext_cases hm with ⟨e, e'⟩ | ⟨e, e'⟩
    · subst e; exact absurd hc (hno _ _ _)
    · rw [frozen_congr (hold e')]; exact h.plain m b o cs e' hc off
  · exact h.io
theorem heap_set_same {w : World} {b : Nat} {O : Go.Obj} (hb : b < w.heap.size) : ({ w with heap := w.heap.setIfInBounds b O } : World).heap[b]? = some O := by
  simp [hb]
theorem heap_set_ne {w : World} {b c : Nat} {O : Go.Obj} (hb : c ≠ b) : ({ w with heap := w.heap.setIfInBounds b O } : World).heap[c]? = w.heap[c]? := by
  simp [hb.symm]
theorem WR.putObj [Sig] (h : WR C B w0 ρ s w) {n : Pos} {b : Nat} {o : Obj} (O : Go.Obj) (hn : ρ n = some (b, ⟨0, 0⟩))
    (hwas : (∃ es, s.heap.get n = some (.map es)) ∨ (∃ l, s.heap.get n = some (.loop l)))
    (his : (∃ es ces clock, o = .map es ∧ O = .map ces clock ∧ MapW ρ es ces clock) ∨ (∃ l L, o = .loop l ∧ O = .loop L ∧ LoopR C ρ l L)) :
    WR C B w0 ρ (s.put n o) { w with heap := w.heap.setIfInBounds b O } := by
  have hB : B ≤ b := by
    rcases hwas with ⟨es, e⟩ | ⟨l, e⟩
    · exact (h.map n b _ es hn e).2.1
    · exact (h.loop n b _ l hn e).2.1
  have hb := h.dom n b _ hn
  have hno : ∀ cs ro g, o ≠ .cells cs ro g := by
    rcases his with ⟨es, ces, clock, e, _⟩ | ⟨l, L, e, _⟩ <;> (intro cs ro g; rw [e]; simp)
  have hng : ∀ c f r, s.heap.get n ≠ some (.grp c f r) := by
    rcases hwas with ⟨es, e⟩ | ⟨l, e⟩ <;> (intro c f r; rw [e]; simp)
  have hnl : s.heap.get n ≠ some .lost := by
    rcases hwas with ⟨es, e⟩ | ⟨l, e⟩ <;> (rw [e]; simp)
  have hnc : ∀ cs ro g, s.heap.get n ≠ some (.cells cs ro g) := by
    rcases hwas with ⟨es, e⟩ | ⟨l, e⟩ <;> (intro cs ro g; rw [e]; simp)
  have hother : ∀ {m : Pos} {c : Nat} {d : Bs}, m ≠ n → ρ m = some (c, d) → c ≠ b := by
    intro m c d hm hc e
    subst e
    have := h.inj n m c _ d (Ne.symm hm) hn hc
    rcases hwas with ⟨es, e⟩ | ⟨l, e⟩
    · exact this.1 es e
    · exact this.2 l e
  have hc : ∀ {m : Pos} {cs ro g}, (s.put n o).heap.get m = some (.cells cs ro g) → m ≠ n ∧ s.heap.get m = some (.cells cs ro g) := by
    intro m cs ro g hm
    rw [St.put_get] at hm
    split at hm
    · simp at hm; exact absurd hm (hno _ _ _)
    · rename_i e; exact ⟨fun e' => e e'.symm, hm⟩
  have hgg : ∀ {m : Pos} {cs ro} {g : Pos} {k : Nat}, s.heap.get m = some (.cells cs ro (some (g, k))) → (s.put n o).heap.get g = s.heap.get g := by
    intro m cs ro g k hm
    rw [St.put_get, if_neg]
    intro e; subst e
    obtain ⟨_, _, h3⟩ := h.grp m cs ro _ k hm
    rcases h3 with h3 | ⟨c, f, r, h3, _⟩
    · exact hnl h3
    · exact hng _ _ _ h3
  have hval : ∀ {m : Pos} {cs ro g}, s.heap.get m = some (.cells cs ro g) → (s.put n o).valid g = s.valid g := by
    intro m cs ro g hm; apply St.valid_congr; intro gg k e; subst e; exact hgg hm
  have hrw : ∀ {m : Pos} {cs ro g}, s.heap.get m = some (.cells cs ro g) → (s.put n o).rw g = s.rw g := by
    intro m cs ro g hm; apply St.rw_congr; intro gg k e; subst e; exact hgg hm
  constructor
  · intro c hc'; rw [heap_set_ne (by omega)]; exact h.keep c hc'
  · have := h.size; simp; omega
  · intro m hm
    refine ⟨?_, (h.nxt m hm).2⟩
    rw [St.put_get, if_neg]
    · exact (h.nxt m hm).1
    · intro e; subst e; have := (h.nxt _ hm).2; rw [hn] at this; cases this
  · intro m c d hm; have := h.dom m c d hm; simpa using this
  · intro m c d cs ro g hm hm' hv i v hi
    obtain ⟨e, hm''⟩ := hc hm'
    obtain ⟨h1, u, h2, h3⟩ := h.cells m c d cs ro g hm hm'' (by rwa [hval hm''] at hv) i v hi
    exact ⟨h1, u, by rw [cell_congr (heap_set_ne (hother e hm))]; exact h2, h3⟩
  · intro m c d cs g hm hm'; exact h.own m c d cs g hm (hc hm').2
  · intro m c d cs g hm hm' hr off u hu
    obtain ⟨e, hm''⟩ := hc hm'
    rw [cell_congr (heap_set_ne (hother e hm))] at hu; rw [frozen_congr (heap_set_ne (hother e hm))]
    exact h.thaw m c d cs g hm hm'' (by rwa [hrw hm''] at hr) off u hu
  · intro m c d cs ro g hm hm' i hi
    obtain ⟨e, hm''⟩ := hc hm'
    rw [cell_congr (heap_set_ne (hother e hm))]; exact h.tot m c d cs ro g hm hm'' i hi
  · intro m m' c o1 o2 cs1 cs2 ro1 ro2 g1 g2 hmm hm hm' h1 h2
    exact h.sep m m' c o1 o2 cs1 cs2 ro1 ro2 g1 g2 hmm hm hm' (hc h1).2 (hc h2).2
  · intro m cs ro g k hm
    obtain ⟨_, hm''⟩ := hc hm
    obtain ⟨h1, h2, h3⟩ := h.grp m cs ro g k hm''
    exact ⟨h1, h2, by rw [hgg hm'']; exact h3⟩
  · intro m m' cs cs' ro ro' g k h1 h2; exact h.ver m m' cs cs' ro ro' g k (hc h1).2 (hc h2).2
  · intro m m' c o1 o2 cs1 cs2 ro1 ro2 g k k' hm hm' h1 h2
    exact h.ends m m' c o1 o2 cs1 cs2 ro1 ro2 g k k' hm hm' (hc h1).2 (hc h2).2
  · intro m c d es hm hm'
    rw [St.put_get] at hm'
    split at hm'
    · rename_i e; subst e
      rw [hn] at hm; cases hm
      simp at hm'
      rcases his with ⟨es', ces, clock, e1, e2, e3⟩ | ⟨l, L, e1, e2, e3⟩
      · rw [e1] at hm'; cases hm'
        exact ⟨rfl, hB, ces, clock, by rw [heap_set_same hb, e2], e3⟩
      · rw [e1] at hm'; cases hm'
    · rename_i e
      obtain ⟨h1, h2, ces, clock, h3, h4⟩ := h.map m c d es hm hm'
      exact ⟨h1, h2, ces, clock, by rw [heap_set_ne (hother (fun e' => e e'.symm) hm)]; exact h3, h4⟩
  · intro m c d l hm hm'
    rw [St.put_get] at hm'
    split at hm'
    · rename_i e; subst e
      rw [hn] at hm; cases hm
      simp at hm'
      rcases his with ⟨es', ces, clock, e1, e2, e3⟩ | ⟨l', L, e1, e2, e3⟩
      · rw [e1] at hm'; cases hm'
      · rw [e1] at hm'; cases hm'
        exact ⟨rfl, hB, L, by rw [heap_set_same hb, e2], e3⟩
    · rename_i e
      obtain ⟨h1, h2, L, h3, h4⟩ := h.loop m c d l hm hm'
      exact ⟨h1, h2, L, by rw [heap_set_ne (hother (fun e' => e e'.symm) hm)]; exact h3, h4⟩
  · intro m m' c o1 o2 hmm hm hm'
    rw [St.put_get]
    split
    · rename_i e; subst e
      rw [hn] at hm; cases hm
      exact absurd rfl (hother (Ne.symm hmm) hm')
    · exact h.inj m m' c o1 o2 hmm hm hm'
  · intro m c d cs hm hc off
    rw [St.put_get] at hc
    split at hc
    · rename_i e; subst e
      simp at hc
      rcases his with ⟨es', ces, clock, e1, e2, e3⟩ | ⟨l', L, e1, e2, e3⟩
      · rw [e1] at hc; cases hc
      · rw [e1] at hc; cases hc
    · rename_i e
      rw [frozen_congr (heap_set_ne (hother (fun e' => e e'.symm) hm))]; exact h.plain m c d cs hm hc off
  · exact h.io
end A3
namespace A3
open Go
variable {C : CC} {B : Nat} {w0 : World} {ρ : Ren} {s : St} {w : World}
def setCells (w : World) (b : Nat) : Nat → List Value → World
  | _, [] => w
  | off, u :: us => setCells (w.setCell ⟨b, off, none⟩ u) b (off + 1) us
theorem setCells_size (b : Nat) : ∀ (us : List Value) (w : World) (off : Nat), (setCells w b off us).heap.size = w.heap.size
  | [], _, _ => rfl
  | u :: us, w, off => by simp only [setCells]; rw [setCells_size b us]; simp
theorem setCells_io (b : Nat) : ∀ (us : List Value) (w : World) (off : Nat), (setCells w b off us).os = w.os ∧ (setCells w b off us).output = w.output
  | [], _, _ => ⟨rfl, rfl⟩
  | u :: us, w, off => setCells_io b us (w.setCell ⟨b, off, none⟩ u) (off + 1)
theorem setCell_heap_ne {w : World} {b off c : Nat} {u : Value} (h : c ≠ b) : (w.setCell ⟨b, off, none⟩ u).heap[c]? = w.heap[c]? := heap_setCell_other w _ c u h
theorem setCells_ne [Sig] (b : Nat) {c : Nat} (h : c ≠ b) : ∀ (us : List Value) (w : World) (off : Nat), (setCells w b off us).heap[c]? = w.heap[c]?
  | [], _, _ => rfl
  | u :: us, w, off => by simp only [setCells]; rw [setCells_ne b h us, setCell_heap_ne h]
theorem setCells_frozen (b c i : Nat) : ∀ (us : List Value) (w : World) (off : Nat), (setCells w b off us).frozen? ⟨c, i, none⟩ = w.frozen? ⟨c, i, none⟩
  | [], _, _ => rfl
  | u :: us, w, off => by simp only [setCells]; rw [setCells_frozen b c i us]; simp
theorem addr_ne {b i j : Nat} (h : i ≠ j) : (⟨b, i, none⟩ : Addr) ≠ ⟨b, j, none⟩ := by simp [h]
theorem setCells_out [Sig] (b : Nat) (i : Nat) : ∀ (us : List Value) (w : World) (off : Nat), (i < off ∨ off + us.length ≤ i) → (setCells w b off us).cell? ⟨b, i, none⟩ = w.cell? ⟨b, i, none⟩
  | [], _, _, _ => rfl
  | u :: us, w, off, h => by
    simp only [setCells]
    rw [setCells_out b i us _ (off + 1) (by simp at h; omega), World.cell?_setCell_other]
    exact addr_ne (by simp at h; omega)
theorem setCells_in [Sig] (b : Nat) : ∀ (us : List Value) (w : World) (off j : Nat) (u : Value), us[j]? = some u → (∀ j, j < us.length → ∃ x, w.cell? ⟨b, off + j, none⟩ = some x) →
    (setCells w b off us).cell? ⟨b, off + j, none⟩ = some u
  | [], _, _, _, _, h, _ => by simp at h
  | v :: us, w, off, 0, u, h, hc => by
    simp at h; subst h
    simp only [setCells]
    simp only [Nat.add_zero]
    rw [setCells_out b off us _ (off + 1) (by omega)]
    obtain ⟨x, hx⟩ := hc 0 (by simp)
    exact World.cell?_setCell_same _ _ _ hx
  | v :: us, w, off, j + 1, u, h, hc => by
    simp only [setCells]
    rw [show off + (j + 1) = (off + 1) + j from by omega]
    refine setCells_in b us _ (off + 1) j u (by simpa using h) fun k hk => ?_
    obtain ⟨x, hx⟩ := hc (k + 1) (by simp; omega)
    refine ⟨x, ?_⟩
    rw [World.cell?_setCell_other _ _ _ _ (addr_ne (by omega)), show off + 1 + k = off + (k + 1) from by omega]
    exact hx
theorem setCell_some {w : World} {a c : Addr} {u x : Value} (h : (w.setCell a u).cell? c = some x) : ∃ y, w.cell? c = some y := by
  by_cases e : a = c
  · subst e
    simp only [World.cell?, World.setCell, Array.getElem?_modify, if_true] at h ⊢
    cases hb : w.heap[a.block]? with
    | none => rw [hb] at h; simp at h
    | some O =>
      rw [hb] at h
      cases O <;> simp at h
      rename_i c' e' f'
      obtain ⟨hs, h⟩ := h
      simp only [hs, Option.isSome_none, Bool.false_eq_true, if_false] at h ⊢
      have hlt : a.off < c'.size := by
        rcases Nat.lt_or_ge a.off c'.size with h1 | h1
        · exact h1
        · rw [Array.getElem?_eq_none (by simpa using h1)] at h; cases h
      exact ⟨c'[a.off], Array.getElem?_eq_getElem hlt⟩
  · rw [World.cell?_setCell_other _ _ _ _ e] at h; exact ⟨x, h⟩
theorem setCell_keep {w : World} {a c : Addr} {u x : Value} (h : w.cell? c = some x) : ∃ y, (w.setCell a u).cell? c = some y := by
  by_cases e : a = c
  · subst e; exact ⟨u, World.cell?_setCell_same _ _ _ h⟩
  · exact ⟨x, by rw [World.cell?_setCell_other _ _ _ _ e]; exact h⟩
theorem setCells_keep [Sig] (b c i : Nat) : ∀ (us : List Value) (w : World) (off : Nat) (x : Value), w.cell? ⟨c, i, none⟩ = some x → ∃ y, (setCells w b off us).cell? ⟨c, i, none⟩ = some y
  | [], _, _, x, h => ⟨x, h⟩
  | u :: us, w, off, x, h => by
    simp only [setCells]
    obtain ⟨y, hy⟩ := setCell_keep (a := ⟨b, off, none⟩) (u := u) h
    exact setCells_keep b c i us _ _ y hy
theorem setCells_some [Sig] (b c i : Nat) : ∀ (us : List Value) (w : World) (off : Nat) (x : Value), (setCells w b off us).cell? ⟨c, i, none⟩ = some x → ∃ y, w.cell? ⟨c, i, none⟩ = some y
  | [], _, _, x, h => ⟨x, h⟩
  | u :: us, w, off, x, h => by
    simp only [setCells] at h
    obtain ⟨y, hy⟩ := setCells_some b c i us _ _ _ h
    exact setCell_some hy
theorem addr_add (b off i : Nat) : (⟨b, off, none⟩ : Addr).add i = ⟨b, off + i, none⟩ := by
  unfold Addr.add; split
  · rename_i h; subst h; rfl
  · rfl
theorem run_storeCells [Sig] (P : Program) (b : Nat) : ∀ (us : List Value) (w : World) (off i : Nat), (∀ u ∈ us, Value.oneCell' u = true) →
    (∀ j, j < us.length → ∃ x, w.cell? ⟨b, off + i + j, none⟩ = some x) → (∀ j, j < us.length → w.frozen? ⟨b, off + i + j, none⟩ = false) →
    (storeCells ⟨b, off, none⟩ us i).run P w = .ok () (setCells w b (off + i) us)
  | [], w, off, i, _, _, _ => rfl
  | u :: us, w, off, i, h1, h2, h3 => by
    simp only [storeCells, Sem.run_bind, addr_add]
    obtain ⟨x, hx⟩ := h2 0 (by simp)
    have hf := h3 0 (by simp)
    rw [Nat.add_zero] at hx hf
    rw [run_store P w _ u _ (h1 u (by simp)), hx]
    simp only [hf, Bool.false_eq_true, if_false, Result.andThen_ok]
    rw [run_storeCells P b us _ off (i + 1) (fun v hv => h1 v (by simp [hv]))]
    · simp only [setCells, Nat.add_assoc]
    · intro j hj
      obtain ⟨y, hy⟩ := h2 (j + 1) (by simp; omega)
      refine ⟨y, ?_⟩
      rw [World.cell?_setCell_other _ _ _ _ (addr_ne (by omega)), show off + (i + 1) + j = off + i + (j + 1) from by omega]; exact hy
    · intro j hj
      rw [World.frozen?_setCell, show off + (i + 1) + j = off + i + (j + 1) from by omega]; exact h3 (j + 1) (by simp; omega)
theorem flat_oneCell [Sig] {ρ : Ren} {v : AV} {u : Value} (h : VR ρ v u) (hf : v.flat = true) : Value.oneCell' u = true := by
  cases h <;> simp_all [AV.flat, Value.oneCell']
theorem VRs.oneCell [Sig] {ρ : Ren} : ∀ {l : List AV} {m : List Value}, VRs ρ l m → l.all AV.flat = true → ∀ u ∈ m, Value.oneCell' u = true
  | _, _, .nil, _, u, hu => by simp at hu
  | _, _, .cons h t, hf, u, hu => by
    simp at hf
    rcases List.mem_cons.1 hu with e | e
    · subst e; exact flat_oneCell h hf.1
    · exact t.oneCell (by simpa using hf.2) u e
theorem St.store_eq {s s' : St} {n : Pos} {off : Nat} {vs : List AV} (h : s.store (n, off) vs = some s') :
    ∃ cs cs' g, s.heap.get n = some (.cells cs false g) ∧ over cs off vs = some cs' ∧
      ((g = none ∧ s' = s.put n (.cells cs' false none)) ∨
       (∃ gg k fl, g = some (gg, k) ∧ s.heap.get gg = some (.grp k fl false) ∧ fl ≤ k ∧ s' = (s.put n (.cells cs' false (some (gg, k)))).put gg (.grp k k false))) := by
  unfold St.store at h
  split at h
  · rename_i cs g hn
    split at h
    · cases h
    · rename_i cs' ho
      split at h
      · simp at h; exact ⟨cs, cs', none, hn, ho, .inl ⟨rfl, h.symm⟩⟩
      · rename_i gg k
        split at h
        · rename_i cur fl hg
          split at h
          · rename_i hb
            simp only [Bool.and_eq_true] at hb
            have hl := Nat.le_of_ble_eq_true hb.2
            have hb := Nat.eq_of_beq_eq_true hb.1
            subst hb
            simp at h
            exact ⟨cs, cs', _, hn, ho, .inr ⟨gg, _, fl, rfl, hg, hl, h.symm⟩⟩
          · cases h
        · cases h
  · cases h
theorem WR.store [Sig] (h : WR C B w0 ρ s w) {n : Pos} {off b : Nat} {o : Bs} {vs : List AV} {us : List Value} {s' : St} (hs : s.store (n, off) vs = some s') (hn : ρ n = some (b, o))
    (hv : VRs ρ vs us) (hf : vs.all AV.flat = true) :
    WR C B w0 ρ s' (setCells w b (o.off + off) us) ∧ (∀ j, j < us.length → ∃ x, w.cell? ⟨b, o.off + off + j, none⟩ = some x) ∧ (∀ j, j < us.length → w.frozen? ⟨b, o.off + off + j, none⟩ = false) := by
  obtain ⟨cs, cs', g, hget, hov, hcase⟩ := St.store_eq hs
  obtain ⟨hlen, hcs'⟩ := over_eq cs off vs cs' hov
  have hul : us.length = vs.length := hv.length.symm
  have hvalid : s.valid g = true := by
    rcases hcase with ⟨e, _⟩ | ⟨gg, k, fl, e, e', hle, _⟩
    · subst e; rfl
    · subst e; simp [St.valid, e', hle]
  have hrw : s.rw g = true := by
    rcases hcase with ⟨e, _⟩ | ⟨gg, k, fl, e, e', _, _⟩
    · subst e; rfl
    · subst e; simp [St.rw, e']
  have hB : B ≤ b := h.own n b o cs g hn hget
  have hb := h.dom n b o hn
  have hcell : ∀ j, j < us.length → ∃ x, w.cell? ⟨b, o.off + off + j, none⟩ = some x := by
    intro j hj
    have hlt : off + j < cs.length := by omega
    obtain ⟨_, u, hu, _⟩ := h.cells n b o cs false g hn hget hvalid (off + j) cs[off + j] (by simp [hlt])
    exact ⟨u, by rw [Nat.add_assoc]; exact hu⟩
  have hfz : ∀ j, j < us.length → w.frozen? ⟨b, o.off + off + j, none⟩ = false := by
    intro j hj; obtain ⟨x, hx⟩ := hcell j hj; exact h.thaw n b o cs g hn hget hrw _ x hx
  refine ⟨?_, hcell, hfz⟩
  have hnewn : s'.heap.get n = some (.cells cs' false g) := by
    rcases hcase with ⟨e, e'⟩ | ⟨gg, k, fl, e, e', _, e''⟩
    · subst e; rw [e', St.put_get]; simp
    · subst e; rw [e'', St.put_get, if_neg, St.put_get]; · simp
      intro e; subst e; rw [hget] at e'; cases e'
  have hnext : s'.next = s.next := by
    rcases hcase with ⟨e, e'⟩ | ⟨gg, k, fl, e, e', _, e''⟩ <;> (first | rw [e'] | rw [e'']) <;> rfl
  have hother : ∀ {m : Pos} {x : Obj}, m ≠ n → (∀ c f r, x ≠ .grp c f r) → (s'.heap.get m = some x ↔ s.heap.get m = some x) := by
    intro m x hm hx
    rcases hcase with ⟨e, e'⟩ | ⟨gg, k, fl, e, e', _, e''⟩
    · rw [e', St.put_get, if_neg (Ne.symm hm)]
    · rw [e'', St.put_get]
      split
      · rename_i e2; subst e2
        rw [e']
        constructor
        · intro h2; simp at h2; exact absurd h2.symm (hx _ _ _)
        · intro h2; simp at h2; exact absurd h2.symm (hx _ _ _)
      · rw [St.put_get, if_neg (Ne.symm hm)]
  have hgrp : ∀ {m : Pos} {c f : Nat} {r : Bool}, s.heap.get m = some (.grp c f r) → ∃ f', s'.heap.get m = some (.grp c f' r) ∧ f ≤ max f' f ∧ (∀ k fl, g = some (m, k) → s.heap.get m = some (.grp k fl false) → f' = k) ∧ ((∀ k, g ≠ some (m, k)) → f' = f) := by
    intro m c f r hm
    have hmn : m ≠ n := by intro e; subst e; rw [hget] at hm; cases hm
    rcases hcase with ⟨e, e'⟩ | ⟨gg, k, fl, e, e', _, e''⟩
    · refine ⟨f, ?_, by omega, ?_, fun _ => rfl⟩
      · rw [e', St.put_get, if_neg (Ne.symm hmn)]; exact hm
      · intro k fl h2; rw [e] at h2; cases h2
    · by_cases hgm : gg = m
      · subst hgm
        have e3 : Obj.grp k fl false = Obj.grp c f r := by rw [e'] at hm; exact Option.some.inj hm
        injection e3 with a1 a2 a3
        subst a1; subst a2; subst a3
        refine ⟨k, ?_, by omega, ?_, ?_⟩
        · rw [e'', St.put_get]; simp
        · intro k' fl' h2 _; rw [e] at h2; cases h2; rfl
        · intro h2; exact absurd e (h2 k)
      · refine ⟨f, ?_, by omega, ?_, fun _ => rfl⟩
        · rw [e'', St.put_get, if_neg hgm, St.put_get, if_neg (Ne.symm hmn)]; exact hm
        · intro k' fl' h2 _; rw [e] at h2; cases h2; exact absurd rfl hgm
  have hvals : ∀ {m : Pos} {cs1 : List AV} {ro1 : Bool} {g1 : Option (Pos × Nat)}, s.heap.get m = some (.cells cs1 ro1 g1) → s'.valid g1 = true →
      s.valid g1 = true ∧ (m = n ∨ ∀ gg k k1, g = some (gg, k) → g1 ≠ some (gg, k1)) := by
    intro m cs1 ro1 g1 hm hv1
    cases g1 with
    | none => exact ⟨rfl, .inr fun _ _ _ _ => by simp⟩
    | some x =>
      obtain ⟨gm, km⟩ := x
      obtain ⟨_, _, h3⟩ := h.grp m cs1 ro1 gm km hm
      rcases h3 with h3 | ⟨cur, f, r, h3, hle⟩
      · exfalso
        have : s'.heap.get gm = some .lost := by
          have hmn : gm ≠ n := by intro e; subst e; rw [hget] at h3; cases h3
          exact (hother hmn (by simp)).2 h3
        simp [St.valid, this] at hv1
      · obtain ⟨f', h4, _, h6, h7⟩ := hgrp h3
        simp [St.valid, h4] at hv1
        rcases hcase with ⟨e, e'⟩ | ⟨gg, k, fl, e, e', _, e''⟩
        · have := h7 (by intro k; rw [e]; simp)
          subst this
          exact ⟨by simp [St.valid, h3, hv1], .inr fun _ _ _ h8 => by rw [e] at h8; cases h8⟩
        · by_cases hgm : gg = gm
          · subst hgm
            have e3 : Obj.grp k fl false = Obj.grp cur f r := by rw [e'] at h3; exact Option.some.inj h3
            injection e3 with a1 a2 a3
            have := h6 _ _ e e'
            have : km = k := by omega
            subst this
            subst e
            have hmn := h.ver m n cs1 cs ro1 false gg _ hm hget
            subst hmn
            exact ⟨hvalid, .inl rfl⟩
          · have := h7 (by intro k'; rw [e]; simp; intro h8; exact absurd h8 hgm)
            subst this
            refine ⟨by simp [St.valid, h3, hv1], .inr fun _ _ k1 h8 h9 => ?_⟩
            rw [e] at h8; cases h8; simp at h9; exact hgm h9.1.symm
  have hrws : ∀ {m : Pos} {cs1 : List AV} {ro1 : Bool} {g1 : Option (Pos × Nat)}, s.heap.get m = some (.cells cs1 ro1 g1) → s'.rw g1 = true → s.rw g1 = true := by
    intro m cs1 ro1 g1 hm hv1
    cases g1 with
    | none => rfl
    | some x =>
      obtain ⟨gm, km⟩ := x
      obtain ⟨_, _, h3⟩ := h.grp m cs1 ro1 gm km hm
      rcases h3 with h3 | ⟨cur, f, r, h3, hle⟩
      · exfalso
        have : s'.heap.get gm = some .lost := by
          have hmn : gm ≠ n := by intro e; subst e; rw [hget] at h3; cases h3
          exact (hother hmn (by simp)).2 h3
        simp [St.rw, this] at hv1
      · obtain ⟨f', h4, _⟩ := hgrp h3
        cases r with
        | true => simp [St.rw, h4] at hv1
        | false => simp [St.rw, h3]
  have hcback : ∀ {m : Pos} {cs1 : List AV} {ro1 : Bool} {g1 : Option (Pos × Nat)}, s'.heap.get m = some (.cells cs1 ro1 g1) →
      ∃ cs2, s.heap.get m = some (.cells cs2 ro1 g1) ∧ cs2.length = cs1.length ∧ (m ≠ n → cs2 = cs1) := by
    intro m cs1 ro1 g1 hm
    by_cases e : m = n
    · subst e; rw [hnewn] at hm; cases hm
      refine ⟨cs, hget, ?_, fun h2 => absurd rfl h2⟩
      rw [hcs']; simp; omega
    · exact ⟨cs1, (hother e (by simp)).1 hm, rfl, fun _ => rfl⟩
  have hapart : ∀ {m : Pos} {c : Nat} {d : Bs} {cs1 : List AV} {ro1 : Bool} {g1 : Option (Pos × Nat)}, m ≠ n → ρ m = some (c, d) → s.heap.get m = some (.cells cs1 ro1 g1) → s'.valid g1 = true → c ≠ b := by
    intro m c d cs1 ro1 g1 hmn hm hm' hv1 e
    subst e
    rcases h.sep n m _ o d cs cs1 false ro1 g g1 (Ne.symm hmn) hn hm hget hm' with ⟨h1, _⟩ | ⟨gg, k, k', h1, h2⟩
    · cases h1
    · rcases (hvals hm' hv1).2 with h3 | h3
      · exact hmn h3
      · exact h3 gg k k' h1 h2
  constructor
  · intro c hc; rw [setCells_ne b (by omega)]; exact h.keep c hc
  · rw [setCells_size]; exact h.size
  · intro m hm
    rw [hnext] at hm
    refine ⟨?_, (h.nxt m hm).2⟩
    have hnone := (h.nxt m hm).1
    have hmn : m ≠ n := by intro e; subst e; rw [hget] at hnone; cases hnone
    rcases hcase with ⟨e, e'⟩ | ⟨gg, k, fl, e, e', _, e''⟩
    · rw [e', St.put_get, if_neg (Ne.symm hmn)]; exact hnone
    · rw [e'', St.put_get, if_neg, St.put_get, if_neg (Ne.symm hmn)]
      · exact hnone
      · intro e2; subst e2; rw [e'] at hnone; cases hnone
  · intro m c d hm; rw [setCells_size]; exact h.dom m c d hm
  · intro m c d cs1 ro1 g1 hm hc hv1 i v hi
    by_cases e : m = n
    · subst e
      rw [hn] at hm; cases hm
      rw [hnewn] at hc; cases hc
      by_cases hin : off ≤ i ∧ i < off + vs.length
      · have hvi : vs[i - off]? = some v := by
          rw [hcs'] at hi
          rw [List.append_assoc, List.getElem?_append_right (by simp; omega), List.getElem?_append_left (by simp; omega)] at hi
          simpa [Nat.min_eq_left (show off ≤ cs.length by omega)] using hi
        obtain ⟨u, hu, hvr⟩ := hv.get (i - off) v hvi
        refine ⟨List.all_eq_true.1 hf v (List.mem_of_getElem? hvi), u, ?_, hvr⟩
        have := setCells_in b us w (o.off + off) (i - off) u hu hcell
        rwa [show o.off + off + (i - off) = o.off + i from by omega] at this
      · have hci : cs[i]? = some v := by
          rw [hcs'] at hi
          by_cases h1 : i < off
          · rw [List.append_assoc, List.getElem?_append_left (by simp; omega)] at hi
            simpa [List.getElem?_take, h1] using hi
          · rw [List.append_assoc, List.getElem?_append_right (by simp; omega), List.getElem?_append_right (by simp; omega)] at hi
            simp [Nat.min_eq_left (show off ≤ cs.length by omega)] at hi
            rwa [show off + vs.length + (i - off - vs.length) = i from by omega] at hi
        obtain ⟨h1, u, h2, h3⟩ := h.cells m b o cs false g hn hget hvalid i v hci
        refine ⟨h1, u, ?_, h3⟩
        rw [setCells_out b (o.off + i) us w (o.off + off) (by omega)]; exact h2
    · have hc' := (hother e (by simp)).1 hc
      obtain ⟨h1, u, h2, h3⟩ := h.cells m c d cs1 ro1 g1 hm hc' (hvals hc' hv1).1 i v hi
      refine ⟨h1, u, ?_, h3⟩
      rw [cell_congr (setCells_ne b (hapart e hm hc' hv1) us w _)]; exact h2
  · intro m c d cs1 g1 hm hc
    obtain ⟨cs2, hc', _⟩ := hcback hc
    exact h.own m c d cs2 g1 hm hc'
  · intro m c d cs1 g1 hm hc hr x u hu
    obtain ⟨cs2, hc', _⟩ := hcback hc
    obtain ⟨y, hy⟩ := setCells_some b c x us w _ u hu
    rw [setCells_frozen]
    exact h.thaw m c d cs2 g1 hm hc' (hrws hc' hr) x y hy
  · intro m c d cs1 ro1 g1 hm hc i hi
    obtain ⟨cs2, hc', _⟩ := hcback hc
    obtain ⟨u, hu⟩ := h.tot m c d cs2 ro1 g1 hm hc' i hi
    exact setCells_keep b c i us w _ u hu
  · intro m m' c o1 o2 cs1 cs2 ro1 ro2 g1 g2 hmm hm hm' hc hc'
    obtain ⟨cs3, h1, _⟩ := hcback hc
    obtain ⟨cs4, h2, _⟩ := hcback hc'
    exact h.sep m m' c o1 o2 cs3 cs4 ro1 ro2 g1 g2 hmm hm hm' h1 h2
  · intro m cs1 ro1 g1 k1 hm
    obtain ⟨cs2, h1, _⟩ := hcback hm
    obtain ⟨h2, h3, h4⟩ := h.grp m cs2 ro1 g1 k1 h1
    refine ⟨h2, by rw [hnext]; exact h3, ?_⟩
    rcases h4 with h4 | ⟨cur, f, r, h4, h5⟩
    · have hmn : g1 ≠ n := by intro e; subst e; rw [hget] at h4; cases h4
      exact .inl ((hother hmn (by simp)).2 h4)
    · obtain ⟨f', h6, _⟩ := hgrp h4
      exact .inr ⟨cur, f', r, h6, h5⟩
  · intro m m' cs1 cs2 ro1 ro2 g1 k1 hm hm'
    obtain ⟨cs3, h1, _⟩ := hcback hm
    obtain ⟨cs4, h2, _⟩ := hcback hm'
    exact h.ver m m' cs3 cs4 ro1 ro2 g1 k1 h1 h2
  · intro m m' c o1 o2 cs1 cs2 ro1 ro2 g1 k1 k2 hm hm' hc hc' hk
    obtain ⟨cs3, h1, e1, _⟩ := hcback hc
    obtain ⟨cs4, h2, e2, _⟩ := hcback hc'
    have := h.ends m m' c o1 o2 cs3 cs4 ro1 ro2 g1 k1 k2 hm hm' h1 h2 hk
    omega
  · intro m c d es hm hc
    have e : m ≠ n := by intro e; subst e; rw [hnewn] at hc; cases hc
    have hc' := (hother e (by simp)).1 hc
    obtain ⟨h1, h2, ces, clock, h3, h4⟩ := h.map m c d es hm hc'
    refine ⟨h1, h2, ces, clock, ?_, h4⟩
    rw [setCells_ne b]
    · exact h3
    · intro e'; subst e'; exact (h.inj m n _ d o e hm hn).1 es hc'
  · intro m c d l hm hc
    have e : m ≠ n := by intro e; subst e; rw [hnewn] at hc; cases hc
    have hc' := (hother e (by simp)).1 hc
    obtain ⟨h1, h2, L, h3, h4⟩ := h.loop m c d l hm hc'
    refine ⟨h1, h2, L, ?_, h4⟩
    rw [setCells_ne b]
    · exact h3
    · intro e'; subst e'; exact (h.inj m n _ d o e hm hn).2 l hc'
  · intro m m' c o1 o2 hmm hm hm'
    have := h.inj m m' c o1 o2 hmm hm hm'
    by_cases e : m = n
    · subst e; rw [hnewn]; exact ⟨by simp, by simp⟩
    · exact ⟨fun es hc => this.1 es ((hother e (by simp)).1 hc), fun l hc => this.2 l ((hother e (by simp)).1 hc)⟩
  · intro m c d cs1 hm hc x
    obtain ⟨cs2, hc', _⟩ := hcback hc
    rw [setCells_frozen]; exact h.plain m c d cs2 hm hc' x
  · exact ⟨(setCells_io _ _ _ _).1.trans h.io.1, (setCells_io _ _ _ _).2.trans h.io.2⟩
end A3
namespace A3
open Go
variable {C : CC} {B : Nat} {w0 : World} {ρ : Ren} {s : St} {w : World}
theorem St.allocSoft_get [Sig] (s : St) (cs : List AV) (n : Pos) :
    (s.allocSoft cs).heap.get n = if s.next.succ = n then some (.grp 0 0 false) else if s.next = n then some (.cells cs false (some (s.next.succ, 0))) else s.heap.get n := by
  unfold St.allocSoft
  rw [St.alloc_get, St.alloc_get]; rfl
theorem succ_ne [Sig] (p : Pos) : p.succ ≠ p := toNat_ne (by rw [Pos.toNat_succ]; omega)
theorem WR.growSoft [Sig] (h : WR C B w0 ρ s w) (cs : List AV) : WR C B w0 ρ (s.allocSoft cs) w := by
  have hsucc := Pos.toNat_succ s.next
  have hget : ∀ {n : Pos}, n.toNat < s.next.toNat → (s.allocSoft cs).heap.get n = s.heap.get n := by
    intro n hn
    rw [St.allocSoft_get, if_neg (toNat_ne (by omega)), if_neg (toNat_ne (by omega))]
  have hb : ∀ {n : Pos} {x : Nat × Bs}, ρ n = some x → (s.allocSoft cs).heap.get n = s.heap.get n := by
    intro n x hn
    rcases Nat.lt_or_ge n.toNat s.next.toNat with h1 | h1
    · exact hget h1
    · have := (h.nxt n h1).2; rw [hn] at this; cases this
  have hg : ∀ {n : Pos} {cs1 ro g k}, (s.allocSoft cs).heap.get n = some (.cells cs1 ro (some (g, k))) →
      s.heap.get n = some (.cells cs1 ro (some (g, k))) ∨ (n = s.next ∧ cs1 = cs ∧ ro = false ∧ g = s.next.succ ∧ k = 0) := by
    intro n cs1 ro g k hn
    rw [St.allocSoft_get] at hn
    split at hn
    · cases hn
    · split at hn
      · rename_i e; cases hn; exact .inr ⟨e.symm, rfl, rfl, rfl, rfl⟩
      · exact .inl hn
  have hgr : ∀ {n : Pos} {cs1 ro} {g : Pos} {k : Nat}, s.heap.get n = some (.cells cs1 ro (some (g, k))) → (s.allocSoft cs).heap.get g = s.heap.get g := by
    intro n cs1 ro g k hn
    exact hget (h.grp n cs1 ro g k hn).2.1
  have hval : ∀ {n : Pos} {cs1 ro g}, s.heap.get n = some (.cells cs1 ro g) → (s.allocSoft cs).valid g = s.valid g := by
    intro n cs1 ro g hn; apply St.valid_congr; intro gg k e; subst e; exact hgr hn
  have hrw : ∀ {n : Pos} {cs1 ro g}, s.heap.get n = some (.cells cs1 ro g) → (s.allocSoft cs).rw g = s.rw g := by
    intro n cs1 ro g hn; apply St.rw_congr; intro gg k e; subst e; exact hgr hn
  have hnew : ∀ {x : Nat × Bs}, ρ s.next = some x → False := by
    intro x hx; have := (h.nxt s.next (Nat.le_refl _)).2; rw [hx] at this; cases this
  constructor
  · exact h.keep
  · exact h.size
  · intro n hn
    have hn' : s.next.toNat + 2 ≤ n.toNat := by
      simp only [St.allocSoft, St.alloc] at hn; have := Pos.toNat_succ s.next.succ; omega
    refine ⟨?_, (h.nxt n (by omega)).2⟩
    rw [St.allocSoft_get, if_neg (toNat_ne (by omega)), if_neg (toNat_ne (by omega))]; exact (h.nxt n (by omega)).1
  · exact h.dom
  · intro n b o cs1 ro g hn hc hv
    rw [hb hn] at hc
    exact h.cells n b o cs1 ro g hn hc (by rwa [hval hc] at hv)
  · intro n b o cs1 g hn hc; rw [hb hn] at hc; exact h.own n b o cs1 g hn hc
  · intro n b o cs1 g hn hc hr
    rw [hb hn] at hc
    exact h.thaw n b o cs1 g hn hc (by rwa [hrw hc] at hr)
  · intro n b o cs1 ro g hn hc; rw [hb hn] at hc; exact h.tot n b o cs1 ro g hn hc
  · intro n m b o1 o2 cs1 cs2 ro ro' g g' hnm hn hm hc hc'
    rw [hb hn] at hc; rw [hb hm] at hc'
    exact h.sep n m b o1 o2 cs1 cs2 ro ro' g g' hnm hn hm hc hc'
  · intro n cs1 ro g k hn
    have hlt : s.next.succ.toNat < (s.allocSoft cs).next.toNat := by
      simp only [St.allocSoft, St.alloc]; have := Pos.toNat_succ s.next.succ; omega
    rcases hg hn with hn' | ⟨_, _, e1, e2, e3⟩
    · obtain ⟨h1, h2, h3⟩ := h.grp n cs1 ro g k hn'
      exact ⟨h1, by omega, by rw [hgr hn']; exact h3⟩
    · subst e2; subst e3
      exact ⟨e1, hlt, .inr ⟨0, 0, false, by rw [St.allocSoft_get]; simp, Nat.le_refl _⟩⟩
  · intro n m cs1 cs2 ro ro' g k hn hm
    rcases hg hn with hn' | ⟨e1, _, _, e2, _⟩
    · rcases hg hm with hm' | ⟨f1, _, _, f2, _⟩
      · exact h.ver n m cs1 cs2 ro ro' g k hn' hm'
      · have := (h.grp n cs1 ro g k hn').2.1; rw [f2] at this; omega
    · rcases hg hm with hm' | ⟨f1, _, _, f2, _⟩
      · have := (h.grp m cs2 ro' g k hm').2.1; rw [e2] at this; omega
      · rw [e1, f1]
  · intro n m b o1 o2 cs1 cs2 ro ro' g k k' hn hm hc hc'
    rcases hg hc with hn' | ⟨e1, _⟩
    · rcases hg hc' with hm' | ⟨f1, _⟩
      · exact h.ends n m b o1 o2 cs1 cs2 ro ro' g k k' hn hm hn' hm'
      · subst f1; exact (hnew hm).elim
    · subst e1; exact (hnew hn).elim
  · intro n b o es hn hc; rw [hb hn] at hc; exact h.map n b o es hn hc
  · intro n b o l hn hc; rw [hb hn] at hc; exact h.loop n b o l hn hc
  · intro n m b o1 o2 hnm hn hm; rw [hb hn]; exact h.inj n m b o1 o2 hnm hn hm
  · intro n b o cs1 hn hc; rw [hb hn] at hc; exact h.plain n b o cs1 hn hc
  · exact h.io
def St.version (s : St) (g : Pos) (cur floor : Nat) (cs : List AV) : St :=
  (s.put g (.grp (cur + 1) floor false)).alloc (.cells cs false (some (g, cur + 1)))
theorem St.version_get [Sig] (s : St) (g : Pos) (cur floor : Nat) (cs : List AV) (n : Pos) :
    (s.version g cur floor cs).heap.get n = if s.next = n then some (.cells cs false (some (g, cur + 1))) else if g = n then some (.grp (cur + 1) floor false) else s.heap.get n := by
  unfold St.version
  rw [St.alloc_get, St.put_get]; rfl
theorem WR.growVersion [Sig] (h : WR C B w0 ρ s w) {g : Pos} {cur floor : Nat} (hgrp : s.heap.get g = some (.grp cur floor false)) (cs : List AV) :
    WR C B w0 ρ (s.version g cur floor cs) w := by
  have hsucc := Pos.toNat_succ s.next
  have hglt := h.bound hgrp
  have hgne : s.next ≠ g := toNat_ne (by omega)
  have hget : ∀ {n : Pos}, n.toNat < s.next.toNat → n ≠ g → (s.version g cur floor cs).heap.get n = s.heap.get n := by
    intro n hn hne
    rw [St.version_get, if_neg (toNat_ne (by omega)), if_neg (Ne.symm hne)]
  have hgg : (s.version g cur floor cs).heap.get g = some (.grp (cur + 1) floor false) := by
    rw [St.version_get, if_neg hgne]; simp
  have hb : ∀ {n : Pos} {x : Nat × Bs} {y : Obj}, ρ n = some x → (∀ a b c, y ≠ .grp a b c) → ((s.version g cur floor cs).heap.get n = some y ↔ s.heap.get n = some y) := by
    intro n x y hn hy
    rcases Nat.lt_or_ge n.toNat s.next.toNat with h1 | h1
    · by_cases e : n = g
      · subst e; rw [hgg, hgrp]
        constructor
        · intro h2; cases h2; exact absurd rfl (hy _ _ _)
        · intro h2; cases h2; exact absurd rfl (hy _ _ _)
      · rw [hget h1 e]
    · have := (h.nxt n h1).2; rw [hn] at this; cases this
  have hcell : ∀ {n : Pos} {cs1 ro g1 k}, (s.version g cur floor cs).heap.get n = some (.cells cs1 ro (some (g1, k))) →
      s.heap.get n = some (.cells cs1 ro (some (g1, k))) ∨ (n = s.next ∧ cs1 = cs ∧ ro = false ∧ g1 = g ∧ k = cur + 1) := by
    intro n cs1 ro g1 k hn
    rw [St.version_get] at hn
    split at hn
    · rename_i e; cases hn; exact .inr ⟨e.symm, rfl, rfl, rfl, rfl⟩
    · split at hn
      · cases hn
      · exact .inl hn
  have hval : ∀ {n : Pos} {cs1 ro g1}, s.heap.get n = some (.cells cs1 ro g1) → (s.version g cur floor cs).valid g1 = s.valid g1 := by
    intro n cs1 ro g1 hn
    cases g1 with
    | none => rfl
    | some x =>
      obtain ⟨g2, k⟩ := x
      by_cases e : g2 = g
      · subst e; simp only [St.valid, hgg, hgrp]
      · simp only [St.valid, hget (h.grp n cs1 ro g2 k hn).2.1 e]
  have hrw : ∀ {n : Pos} {cs1 ro g1}, s.heap.get n = some (.cells cs1 ro g1) → (s.version g cur floor cs).rw g1 = s.rw g1 := by
    intro n cs1 ro g1 hn
    cases g1 with
    | none => rfl
    | some x =>
      obtain ⟨g2, k⟩ := x
      by_cases e : g2 = g
      · subst e; simp only [St.rw, hgg, hgrp]
      · simp only [St.rw, hget (h.grp n cs1 ro g2 k hn).2.1 e]
  have hnew : ∀ {x : Nat × Bs}, ρ s.next = some x → False := by
    intro x hx; have := (h.nxt s.next (Nat.le_refl _)).2; rw [hx] at this; cases this
  have hfresh : ∀ {n : Pos} {cs1 ro}, s.heap.get n = some (.cells cs1 ro (some (g, cur + 1))) → False := by
    intro n cs1 ro hn
    rcases (h.grp n cs1 ro g (cur + 1) hn).2.2 with h1 | ⟨c, f, r, h1, h2⟩
    · rw [hgrp] at h1; cases h1
    · rw [hgrp] at h1; cases h1; omega
  constructor
  · exact h.keep
  · exact h.size
  · intro n hn
    have hn' : s.next.toNat + 1 ≤ n.toNat := by
      simp only [St.version, St.alloc, St.put] at hn; omega
    refine ⟨?_, (h.nxt n (by omega)).2⟩
    rw [St.version_get, if_neg (toNat_ne (by omega)), if_neg (toNat_ne (by omega))]; exact (h.nxt n (by omega)).1
  · exact h.dom
  · intro n b o cs1 ro g1 hn hc hv
    rw [hb hn (by simp)] at hc
    exact h.cells n b o cs1 ro g1 hn hc (by rwa [hval hc] at hv)
  · intro n b o cs1 g1 hn hc; rw [hb hn (by simp)] at hc; exact h.own n b o cs1 g1 hn hc
  · intro n b o cs1 g1 hn hc hr
    rw [hb hn (by simp)] at hc
    exact h.thaw n b o cs1 g1 hn hc (by rwa [hrw hc] at hr)
  · intro n b o cs1 ro g1 hn hc; rw [hb hn (by simp)] at hc; exact h.tot n b o cs1 ro g1 hn hc
  · intro n m b o1 o2 cs1 cs2 ro ro' g1 g2 hnm hn hm hc hc'
    rw [hb hn (by simp)] at hc; rw [hb hm (by simp)] at hc'
    exact h.sep n m b o1 o2 cs1 cs2 ro ro' g1 g2 hnm hn hm hc hc'
  · intro n cs1 ro g1 k hn
    have hlt : s.next.toNat < (s.version g cur floor cs).next.toNat := by
      simp only [St.version, St.alloc, St.put]; omega
    rcases hcell hn with hn' | ⟨_, _, e1, e2, e3⟩
    · obtain ⟨h1, h2, h3⟩ := h.grp n cs1 ro g1 k hn'
      refine ⟨h1, by omega, ?_⟩
      by_cases e : g1 = g
      · subst e
        rcases h3 with h3 | ⟨c, f, r, h3, h4⟩
        · rw [hgrp] at h3; cases h3
        · rw [hgrp] at h3; cases h3
          exact .inr ⟨_, _, _, hgg, by omega⟩
      · rw [hget h2 e]; exact h3
    · subst e2; subst e3
      exact ⟨e1, by omega, .inr ⟨_, _, _, hgg, Nat.le_refl _⟩⟩
  · intro n m cs1 cs2 ro ro' g1 k hn hm
    rcases hcell hn with hn' | ⟨e1, _, _, e2, e3⟩
    · rcases hcell hm with hm' | ⟨f1, _, _, f2, f3⟩
      · exact h.ver n m cs1 cs2 ro ro' g1 k hn' hm'
      · subst f2; subst f3; exact (hfresh hn').elim
    · rcases hcell hm with hm' | ⟨f1, _, _, f2, f3⟩
      · subst e2; subst e3; exact (hfresh hm').elim
      · rw [e1, f1]
  · intro n m b o1 o2 cs1 cs2 ro ro' g1 k k' hn hm hc hc'
    rw [hb hn (by simp)] at hc; rw [hb hm (by simp)] at hc'
    exact h.ends n m b o1 o2 cs1 cs2 ro ro' g1 k k' hn hm hc hc'
  · intro n b o es hn hc; rw [hb hn (by simp)] at hc; exact h.map n b o es hn hc
  · intro n b o l hn hc; rw [hb hn (by simp)] at hc; exact h.loop n b o l hn hc
  · intro n m b o1 o2 hnm hn hm
    have := h.inj n m b o1 o2 hnm hn hm
    exact ⟨fun es hc => this.1 es ((hb hn (by simp)).1 hc), fun l hc => this.2 l ((hb hn (by simp)).1 hc)⟩
  · intro n b o cs1 hn hc; rw [hb hn (by simp)] at hc; exact h.plain n b o cs1 hn hc
  · exact h.io
theorem WR.bindBehind [Sig] (h : WR C B w0 ρ s w) {n m g : Pos} {k cur : Nat} {cs csm : List AV} {b : Nat} {o : Bs} {off : Nat} {us : List Value} {old : List AV}
    (hn : s.heap.get n = some (.cells cs false (some (g, k + 1)))) (hρ : ρ n = none) (hgrp : s.heap.get g = some (.grp (k + 1) cur false))
    (hm : s.heap.get m = some (.cells csm false (some (g, k)))) (hmρ : ρ m = some (b, o)) (hval : s.valid (some (g, k)) = true)
    (hcs : cs = csm.drop off ++ old) (hoff : off ≤ csm.length) (hr : VRs ρ old us) (hf : old.all AV.flat = true)
    (hroom : o.off + csm.length + us.length ≤ o.tot) :
    WR C B w0 (ρ.ext n (b, ⟨o.off + off, o.tot⟩)) s (setCells w b (o.off + csm.length) us) ∧
      (∀ j, j < us.length → ∃ x, w.cell? ⟨b, o.off + csm.length + j, none⟩ = some x) ∧ (∀ j, j < us.length → w.frozen? ⟨b, o.off + csm.length + j, none⟩ = false) := by
  have hle : ρ.le (ρ.ext n (b, ⟨o.off + off, o.tot⟩)) := Ren.ext_le hρ
  have hrw : s.rw (some (g, k)) = true := by simp [St.rw, hgrp]
  have hrw' : s.rw (some (g, k + 1)) = true := by simp [St.rw, hgrp]
  have hlen : us.length = old.length := hr.length.symm
  have hcell : ∀ j, j < us.length → ∃ x, w.cell? ⟨b, o.off + csm.length + j, none⟩ = some x := by
    intro j hj; exact h.tot m b o csm false _ hmρ hm _ (by omega)
  have hfz : ∀ j, j < us.length → w.frozen? ⟨b, o.off + csm.length + j, none⟩ = false := by
    intro j hj; obtain ⟨x, hx⟩ := hcell j hj; exact h.thaw m b o csm _ hmρ hm hrw _ x hx
  refine ⟨?_, hcell, hfz⟩
  have hnm : n ≠ m := by intro e; subst e; rw [hρ] at hmρ; cases hmρ
  have hB := h.own m b o csm _ hmρ hm
  have hb := h.dom m b o hmρ
  have hend : ∀ {p : Pos} {d : Bs} {csp : List AV} {ro : Bool} {gp : Option (Pos × Nat)}, ρ p = some (b, d) → s.heap.get p = some (.cells csp ro gp) →
      (∃ kp, gp = some (g, kp) ∧ kp ≤ k + 1) ∧ d.off + csp.length ≤ o.off + csm.length := by
    intro p d csp ro gp hp hp'
    by_cases e : p = m
    · subst e; rw [hmρ] at hp; cases hp; rw [hm] at hp'; cases hp'; exact ⟨⟨k, rfl, by omega⟩, by omega⟩
    · rcases h.sep p m b d o csp csm ro false gp _ e hp hmρ hp' hm with ⟨_, h1⟩ | ⟨gg, k1, k2, h1, h2⟩
      · cases h1
      · cases h2; subst h1
        have hk1 : k1 ≤ k := by
          rcases (h.grp p csp ro g k1 hp').2.2 with h3 | ⟨c, f, r, h3, h4⟩
          · rw [hgrp] at h3; cases h3
          · rw [hgrp] at h3; cases h3
            rcases Nat.lt_or_ge k k1 with h5 | h5
            · have : k1 = k + 1 := by omega
              subst this
              have := h.ver p n csp cs ro false g (k + 1) hp' hn
              subst this; rw [hρ] at hp; cases hp
            · exact h5
        exact ⟨⟨k1, rfl, by omega⟩, h.ends p m b d o csp csm ro false g k1 k hp hmρ hp' hm hk1⟩
  have hother : ∀ {p : Pos} {c : Nat} {d : Bs}, ρ p = some (c, d) → (∀ es, s.heap.get p = some (.map es) → c ≠ b) ∧ (∀ l, s.heap.get p = some (.loop l) → c ≠ b) := by
    intro p c d hp
    constructor
    · intro es hc e; subst e
      have hpm : p ≠ m := by intro e; subst e; rw [hm] at hc; cases hc
      exact (h.inj p m _ d o hpm hp hmρ).1 es hc
    · intro l hc e; subst e
      have hpm : p ≠ m := by intro e; subst e; rw [hm] at hc; cases hc
      exact (h.inj p m _ d o hpm hp hmρ).2 l hc
  constructor
  · intro c hc; rw [setCells_ne b (by omega)]; exact h.keep c hc
  · rw [setCells_size]; exact h.size
  · intro p hp
    refine ⟨(h.nxt p hp).1, ?_⟩
    unfold Ren.ext
    split
    · rename_i e; subst e; have := (h.nxt p hp).1; rw [hn] at this; cases this
    · exact (h.nxt p hp).2
  · intro p c d hp
    rw [setCells_size]
    rcases Ren.ext_cases hp with ⟨_, e⟩ | ⟨_, e⟩
    · cases e; exact hb
    · exact h.dom p c d e
  · intro p c d csp ro gp hp hc hv i v hi
    rcases Ren.ext_cases hp with ⟨e, e'⟩ | ⟨e, e'⟩
    · subst e; cases e'
      rw [hn] at hc; cases hc
      rw [hcs] at hi
      by_cases hlt : i < (csm.drop off).length
      · rw [List.getElem?_append_left hlt, List.getElem?_drop] at hi
        obtain ⟨h1, u, h2, h3⟩ := h.cells m b o csm false _ hmρ hm hval (off + i) v hi
        refine ⟨h1, u, ?_, h3.mono hle⟩
        rw [Nat.add_assoc, setCells_out b (o.off + (off + i)) us w _ (by simp at hlt; omega)]; exact h2
      · rw [List.getElem?_append_right (by omega)] at hi
        obtain ⟨u, hu, hvr⟩ := hr.get _ v hi
        refine ⟨List.all_eq_true.1 hf v (List.mem_of_getElem? hi), u, ?_, hvr.mono hle⟩
        have := setCells_in b us w (o.off + csm.length) _ u hu hcell
        simp at hlt this
        rwa [show o.off + csm.length + (i - (csm.length - off)) = o.off + off + i from by omega] at this
    · obtain ⟨h1, u, h2, h3⟩ := h.cells p c d csp ro gp e' hc hv i v hi
      refine ⟨h1, u, ?_, h3.mono hle⟩
      by_cases hcb : c = b
      · subst hcb
        have := (hend e' hc).2
        have hilt : i < csp.length := by
          rcases Nat.lt_or_ge i csp.length with h4 | h4
          · exact h4
          · rw [List.getElem?_eq_none h4] at hi; cases hi
        rw [setCells_out _ _ us w _ (by omega)]; exact h2
      · rw [cell_congr (setCells_ne b hcb us w _)]; exact h2
  · intro p c d csp gp hp hc
    rcases Ren.ext_cases hp with ⟨e, e'⟩ | ⟨e, e'⟩
    · cases e'; exact hB
    · exact h.own p c d csp gp e' hc
  · intro p c d csp gp hp hc hr1 x u hu
    obtain ⟨y, hy⟩ := setCells_some b c x us w _ u hu
    rw [setCells_frozen]
    rcases Ren.ext_cases hp with ⟨e, e'⟩ | ⟨e, e'⟩
    · cases e'; exact h.thaw m b o csm _ hmρ hm hrw x y hy
    · exact h.thaw p c d csp gp e' hc hr1 x y hy
  · intro p c d csp ro gp hp hc i hi
    rcases Ren.ext_cases hp with ⟨e, e'⟩ | ⟨e, e'⟩
    · cases e'
      obtain ⟨u, hu⟩ := h.tot m b o csm false _ hmρ hm i hi
      exact setCells_keep b b i us w _ u hu
    · obtain ⟨u, hu⟩ := h.tot p c d csp ro gp e' hc i hi
      exact setCells_keep b c i us w _ u hu
  · intro p q c d1 d2 cs1 cs2 ro1 ro2 g1 g2 hpq hp hq hc hc'
    rcases Ren.ext_cases hp with ⟨e, e'⟩ | ⟨e, e'⟩
    · rcases Ren.ext_cases hq with ⟨f, f'⟩ | ⟨f, f'⟩
      · exact absurd (e.trans f.symm) hpq
      · subst e; cases e'
        rw [hn] at hc; cases hc
        obtain ⟨⟨kp, h1, _⟩, _⟩ := hend f' hc'
        exact .inr ⟨g, _, kp, rfl, h1⟩
    · rcases Ren.ext_cases hq with ⟨f, f'⟩ | ⟨f, f'⟩
      · subst f; cases f'
        rw [hn] at hc'; cases hc'
        obtain ⟨⟨kp, h1, _⟩, _⟩ := hend e' hc
        exact .inr ⟨g, kp, _, h1, rfl⟩
      · exact h.sep p q c d1 d2 cs1 cs2 ro1 ro2 g1 g2 hpq e' f' hc hc'
  · exact h.grp
  · exact h.ver
  · intro p q c d1 d2 cs1 cs2 ro1 ro2 g1 k1 k2 hp hq hc hc' hk
    rcases Ren.ext_cases hp with ⟨e, e'⟩ | ⟨e, e'⟩
    · rcases Ren.ext_cases hq with ⟨f, f'⟩ | ⟨f, f'⟩
      · subst e; subst f; cases e'; cases f'; rw [hc] at hc'; cases hc'; omega
      · subst e; cases e'
        rw [hn] at hc; cases hc
        exfalso
        obtain ⟨⟨kp, h1, h2⟩, _⟩ := hend f' hc'
        cases h1
        have e5 : k2 = k + 1 := by omega
        rw [e5] at hc'
        have := h.ver q p cs2 cs ro2 false g (k + 1) hc' hn
        exact f this
    · rcases Ren.ext_cases hq with ⟨f, f'⟩ | ⟨f, f'⟩
      · subst f; cases f'
        rw [hn] at hc'; cases hc'
        obtain ⟨_, h2⟩ := hend e' hc
        rw [hcs]; simp; omega
      · exact h.ends p q c d1 d2 cs1 cs2 ro1 ro2 g1 k1 k2 e' f' hc hc' hk
  · intro p c d es hp hc
    rcases Ren.ext_cases hp with ⟨e, e'⟩ | ⟨e, e'⟩
    · subst e; rw [hn] at hc; cases hc
    · obtain ⟨h1, h2, ces, clock, h3, h4⟩ := h.map p c d es e' hc
      exact ⟨h1, h2, ces, clock, by rw [setCells_ne b ((hother e').1 es hc)]; exact h3, h4.mono hle⟩
  · intro p c d l hp hc
    rcases Ren.ext_cases hp with ⟨e, e'⟩ | ⟨e, e'⟩
    · subst e; rw [hn] at hc; cases hc
    · obtain ⟨h1, h2, L, h3, h4⟩ := h.loop p c d l e' hc
      exact ⟨h1, h2, L, by rw [setCells_ne b ((hother e').2 l hc)]; exact h3, h4.mono hle⟩
  · intro p q c d1 d2 hpq hp hq
    rcases Ren.ext_cases hp with ⟨e, e'⟩ | ⟨e, e'⟩
    · subst e; rw [hn]; exact ⟨by simp, by simp⟩
    · rcases Ren.ext_cases hq with ⟨f, f'⟩ | ⟨f, f'⟩
      · cases f'
        exact ⟨fun es hc => (hother e').1 es hc rfl, fun l hc => (hother e').2 l hc rfl⟩
      · exact h.inj p q c d1 d2 hpq e' f'
  · intro p c d csp hp hc x
    rw [setCells_frozen]
    rcases Ren.ext_cases hp with ⟨e, e'⟩ | ⟨e, e'⟩
    · subst e; rw [hn] at hc; cases hc
    · exact h.plain p c d csp e' hc x
  · exact ⟨(setCells_io _ _ _ _).1.trans h.io.1, (setCells_io _ _ _ _).2.trans h.io.2⟩
end A3
namespace A3
open Go
variable {C : CC} {B : Nat} {w0 : World} {ρ : Ren} {s : St} {w : World}
theorem freeze_ne {w : World} {a : Addr} {k c : Nat} (h : c ≠ a.block) : (w.freeze a k).heap[c]? = w.heap[c]? := by
  unfold World.freeze
  split
  · rfl
  · simp [Array.getElem?_modify, Ne.symm h]
theorem freeze_size {w : World} {a : Addr} {k : Nat} : (w.freeze a k).heap.size = w.heap.size := by
  unfold World.freeze; split <;> simp
theorem freeze_cell {w : World} {a : Addr} {k : Nat} (c : Addr) : (w.freeze a k).cell? c = w.cell? c := by
  unfold World.freeze
  split
  · rfl
  · simp only [World.cell?, Array.getElem?_modify]
    by_cases e : a.block = c.block
    · rw [if_pos e, ← e]
      cases hb : w.heap[a.block]? with
      | none => simp
      | some O => cases O <;> simp
    · rw [if_neg e]
theorem freeze_io (w : World) (a : Addr) (k : Nat) : (w.freeze a k).os = w.os ∧ (w.freeze a k).output = w.output := by
  unfold World.freeze
  split <;> exact ⟨rfl, rfl⟩
theorem WR.freeze [Sig] (h : WR C B w0 ρ s w) {n : Pos} {s' : St} (hs : freeze s n = some s') {b : Nat} {o : Bs} (hn : ρ n = some (b, o)) (hB : B ≤ b) (off k : Nat) :
    WR C B w0 ρ s' (w.freeze ⟨b, off, none⟩ k) := by
  have hshape : (∃ cs ro, s.heap.get n = some (.cells cs ro none) ∧ s' = s.put n (.cells cs true none)) ∨
      (∃ cs ro g kk cur fl r, s.heap.get n = some (.cells cs ro (some (g, kk))) ∧ s.heap.get g = some (.grp cur fl r) ∧ s' = s.put g (.grp cur fl true)) := by
    unfold A3.freeze at hs
    split at hs
    · rename_i cs ro g hget
      split at hs
      · simp at hs; exact .inl ⟨cs, ro, hget, hs.symm⟩
      · rename_i g kk
        split at hs
        · rename_i cur fl r hg
          simp at hs; exact .inr ⟨cs, ro, g, kk, cur, fl, r, hget, hg, hs.symm⟩
        · cases hs
    · cases hs
  have hnext : s'.next = s.next := by rcases hshape with ⟨_, _, _, e⟩ | ⟨_, _, _, _, _, _, _, _, _, e⟩ <;> rw [e] <;> rfl
  have hback : ∀ {m : Pos} {cs1 ro1 g1}, s'.heap.get m = some (.cells cs1 ro1 g1) → ∃ ro2, s.heap.get m = some (.cells cs1 ro2 g1) ∧ (ro1 = false → ro2 = false ∧ (m = n → g1 ≠ none)) ∧ (ro2 = true → ro1 = true) ∧ (g1 ≠ none → ro1 = ro2) := by
    intro m cs1 ro1 g1 hm
    rcases hshape with ⟨cs, ro, hget, e⟩ | ⟨cs, ro, g, kk, cur, fl, r, hget, hg, e⟩
    · rw [e, St.put_get] at hm
      split at hm
      · rename_i e2; subst e2; cases hm; exact ⟨ro, hget, by simp, by simp, by simp⟩
      · rename_i e2; exact ⟨ro1, hm, fun e3 => ⟨e3, fun e4 => absurd e4.symm e2⟩, id, fun _ => rfl⟩
    · rw [e, St.put_get] at hm
      split at hm
      · cases hm
      · refine ⟨ro1, hm, fun e3 => ⟨e3, fun e4 => ?_⟩, id, fun _ => rfl⟩
        subst e4; rw [hget] at hm; cases hm; simp
  have hgrp : ∀ {m : Pos} {c f r}, s.heap.get m = some (.grp c f r) → ∃ r', s'.heap.get m = some (.grp c f r') ∧ (r' = false → r = false) := by
    intro m c f r hm
    rcases hshape with ⟨cs, ro, hget, e⟩ | ⟨cs, ro, g, kk, cur, fl, r0, hget, hg, e⟩
    · refine ⟨r, ?_, id⟩
      rw [e, St.put_get, if_neg]; · exact hm
      intro e2; subst e2; rw [hget] at hm; cases hm
    · by_cases e2 : g = m
      · subst e2; rw [hg] at hm; cases hm
        exact ⟨true, by rw [e, St.put_get]; simp, by simp⟩
      · exact ⟨r, by rw [e, St.put_get, if_neg e2]; exact hm, id⟩
  have hlost : ∀ {m : Pos}, s.heap.get m = some .lost → s'.heap.get m = some .lost := by
    intro m hm
    rcases hshape with ⟨cs, ro, hget, e⟩ | ⟨cs, ro, g, kk, cur, fl, r0, hget, hg, e⟩
    · rw [e, St.put_get, if_neg]; · exact hm
      intro e2; subst e2; rw [hget] at hm; cases hm
    · rw [e, St.put_get, if_neg]; · exact hm
      intro e2; subst e2; rw [hg] at hm; cases hm
  have hval : ∀ {m : Pos} {cs1 ro1 g1}, s.heap.get m = some (.cells cs1 ro1 g1) → s'.valid g1 = true → s.valid g1 = true := by
    intro m cs1 ro1 g1 hm hv
    cases g1 with
    | none => rfl
    | some x =>
      obtain ⟨g, kk⟩ := x
      rcases (h.grp m cs1 ro1 g kk hm).2.2 with h1 | ⟨c, f, r, h1, _⟩
      · simp [St.valid, hlost h1] at hv
      · obtain ⟨r', h2, _⟩ := hgrp h1
        simp [St.valid, h2] at hv; simp [St.valid, h1, hv]
  have hrw : ∀ {m : Pos} {cs1 ro1 g1}, s.heap.get m = some (.cells cs1 ro1 g1) → s'.rw g1 = true → s.rw g1 = true := by
    intro m cs1 ro1 g1 hm hv
    cases g1 with
    | none => rfl
    | some x =>
      obtain ⟨g, kk⟩ := x
      rcases (h.grp m cs1 ro1 g kk hm).2.2 with h1 | ⟨c, f, r, h1, _⟩
      · simp [St.rw, hlost h1] at hv
      · obtain ⟨r', h2, h3⟩ := hgrp h1
        cases r' with
        | true => simp [St.rw, h2] at hv
        | false => rw [h3 rfl] at h1; simp [St.rw, h1]
  have hfree : ∀ {m : Pos} {c : Nat} {d : Bs} {cs1 g1}, ρ m = some (c, d) → s'.heap.get m = some (.cells cs1 false g1) → s'.rw g1 = true → c ≠ b := by
    intro m c d cs1 g1 hm hc hr e
    subst e
    obtain ⟨ro2, hc', h2, _⟩ := hback hc
    obtain ⟨h2, h3⟩ := h2 rfl
    subst h2
    by_cases e : m = n
    · subst e
      rcases hshape with ⟨cs, ro, hget, e⟩ | ⟨cs, ro, g, kk, cur, fl, r, hget, hg, e⟩
      · rw [hget] at hc'; cases hc'; exact h3 rfl rfl
      · rw [hget] at hc'; cases hc'
        rw [e] at hr
        simp [St.rw, St.put_get] at hr
    · rcases hshape with ⟨cs, ro, hget, e4⟩ | ⟨cs, ro, g, kk, cur, fl, r, hget, hg, e4⟩
      · rcases h.sep m n _ d o cs1 cs false ro g1 none e hm hn hc' hget with ⟨h5, _⟩ | ⟨_, _, _, _, h5⟩ <;> cases h5
      · rcases h.sep m n _ d o cs1 cs false ro g1 _ e hm hn hc' hget with ⟨h5, _⟩ | ⟨gg, k1, k2, h5, h6⟩
        · cases h5
        · cases h6; subst h5
          rw [e4] at hr
          simp [St.rw, St.put_get] at hr
  have hother : ∀ {m : Pos} {x : Obj}, (∀ a b c, x ≠ .cells a b c) → (∀ a b c, x ≠ .grp a b c) → s'.heap.get m = some x → s.heap.get m = some x := by
    intro m x h1 h2 hm
    rcases hshape with ⟨cs, ro, hget, e⟩ | ⟨cs, ro, g, kk, cur, fl, r, hget, hg, e⟩
    · rw [e, St.put_get] at hm
      split at hm
      · cases hm; exact absurd rfl (h1 _ _ _)
      · exact hm
    · rw [e, St.put_get] at hm
      split at hm
      · cases hm; exact absurd rfl (h2 _ _ _)
      · exact hm
  constructor
  · intro c hc; rw [freeze_ne (by simp; omega)]; exact h.keep c hc
  · rw [freeze_size]; exact h.size
  · intro m hm
    rw [hnext] at hm
    refine ⟨?_, (h.nxt m hm).2⟩
    have h0 := (h.nxt m hm).1
    rcases hshape with ⟨cs, ro, hget, e⟩ | ⟨cs, ro, g, kk, cur, fl, r, hget, hg, e⟩
    · rw [e, St.put_get, if_neg]; · exact h0
      intro e2; subst e2; rw [hget] at h0; cases h0
    · rw [e, St.put_get, if_neg]; · exact h0
      intro e2; subst e2; rw [hg] at h0; cases h0
  · intro m c d hm; rw [freeze_size]; exact h.dom m c d hm
  · intro m c d cs1 ro1 g1 hm hc hv i v hi
    obtain ⟨ro2, hc', _⟩ := hback hc
    obtain ⟨h1, u, h2, h3⟩ := h.cells m c d cs1 ro2 g1 hm hc' (hval hc' hv) i v hi
    exact ⟨h1, u, by rw [freeze_cell]; exact h2, h3⟩
  · intro m c d cs1 g1 hm hc
    obtain ⟨ro2, hc', h2, _⟩ := hback hc
    obtain ⟨h2, _⟩ := h2 rfl; subst h2
    exact h.own m c d cs1 g1 hm hc'
  · intro m c d cs1 g1 hm hc hr x u hu
    have hne := hfree hm hc hr
    obtain ⟨ro2, hc', h2, _⟩ := hback hc
    obtain ⟨h2, _⟩ := h2 rfl; subst h2
    rw [freeze_cell] at hu
    rw [frozen_congr (freeze_ne hne)]
    exact h.thaw m c d cs1 g1 hm hc' (hrw hc' hr) x u hu
  · intro m c d cs1 ro1 g1 hm hc i hi
    obtain ⟨ro2, hc', _⟩ := hback hc
    rw [freeze_cell]; exact h.tot m c d cs1 ro2 g1 hm hc' i hi
  · intro m m' c o1 o2 cs1 cs2 ro1 ro2 g1 g2 hmm hm hm' hc hc'
    obtain ⟨ro3, h1, _, h1', _⟩ := hback hc
    obtain ⟨ro4, h2, _, h2', _⟩ := hback hc'
    rcases h.sep m m' c o1 o2 cs1 cs2 ro3 ro4 g1 g2 hmm hm hm' h1 h2 with ⟨a, a'⟩ | h3
    · exact .inl ⟨h1' a, h2' a'⟩
    · exact .inr h3
  · intro m cs1 ro1 g1 k1 hm
    obtain ⟨ro2, h1, _, _, h1'⟩ := hback hm
    obtain ⟨h2, h3, h4⟩ := h.grp m cs1 ro2 g1 k1 h1
    refine ⟨by rw [h1' (by simp)]; exact h2, by rw [hnext]; exact h3, ?_⟩
    rcases h4 with h4 | ⟨c, f, r, h4, h5⟩
    · exact .inl (hlost h4)
    · obtain ⟨r', h6, _⟩ := hgrp h4
      exact .inr ⟨c, f, r', h6, h5⟩
  · intro m m' cs1 cs2 ro1 ro2 g1 k1 hm hm'
    obtain ⟨_, h1, _⟩ := hback hm
    obtain ⟨_, h2, _⟩ := hback hm'
    exact h.ver m m' _ _ _ _ g1 k1 h1 h2
  · intro m m' c o1 o2 cs1 cs2 ro1 ro2 g1 k1 k2 hm hm' hc hc' hk
    obtain ⟨_, h1, _⟩ := hback hc
    obtain ⟨_, h2, _⟩ := hback hc'
    exact h.ends m m' c o1 o2 _ _ _ _ g1 k1 k2 hm hm' h1 h2 hk
  · intro m c d es hm hc
    have hc' := hother (by simp) (by simp) hc
    obtain ⟨h1, h2, ces, clock, h3, h4⟩ := h.map m c d es hm hc'
    refine ⟨h1, h2, ces, clock, ?_, h4⟩
    rw [freeze_ne]; · exact h3
    intro e
    simp at e; subst e
    have hmn : m ≠ n := by
      intro e; subst e
      rcases hshape with ⟨cs, ro, hget, _⟩ | ⟨cs, ro, g, kk, cur, fl, r, hget, _⟩ <;> (rw [hget] at hc'; cases hc')
    exact (h.inj m n _ d o hmn hm hn).1 es hc'
  · intro m c d l hm hc
    have hc' := hother (by simp) (by simp) hc
    obtain ⟨h1, h2, L, h3, h4⟩ := h.loop m c d l hm hc'
    refine ⟨h1, h2, L, ?_, h4⟩
    rw [freeze_ne]; · exact h3
    intro e
    simp at e; subst e
    have hmn : m ≠ n := by
      intro e; subst e
      rcases hshape with ⟨cs, ro, hget, _⟩ | ⟨cs, ro, g, kk, cur, fl, r, hget, _⟩ <;> (rw [hget] at hc'; cases hc')
    exact (h.inj m n _ d o hmn hm hn).2 l hc'
  · intro m m' c o1 o2 hmm hm hm'
    have := h.inj m m' c o1 o2 hmm hm hm'
    exact ⟨fun es hc => this.1 es (hother (by simp) (by simp) hc), fun l hc => this.2 l (hother (by simp) (by simp) hc)⟩
  · intro m c d cs1 hm hc x
    have hne := hfree hm hc rfl
    obtain ⟨ro2, hc', h2, _⟩ := hback hc
    obtain ⟨h2, _⟩ := h2 rfl; subst h2
    rw [frozen_congr (freeze_ne hne)]
    exact h.plain m c d cs1 hm hc' x
  · exact ⟨(freeze_io _ _ _).1.trans h.io.1, (freeze_io _ _ _).2.trans h.io.2⟩
end A3
namespace A3
open Go
section
variable {P : Program} {N : Nat}
theorem run_under {t : TypeId} {d : TypeDesc} (h : P.underlying t = some d) (w : World) : (underlying t).run P w = .ok d w := by simp [underlying, h]
theorem run_info {t : TypeId} {i : TypeInfo} (h : P.info? t = some i) (w : World) : (typeInfo t).run P w = .ok i w := by simp [typeInfo, h]
theorem sizeC_eq {t : TypeId} {n : Nat} (h : sizeC P t = some n) : ∃ i, P.info? t = some i ∧ i.size = n := by
  unfold sizeC at h
  split at h
  · rename_i i hi; exact ⟨i, hi, by simpa using h⟩
  · cases h
theorem run_sizeC [Sig] {t : TypeId} {n : Nat} (h : sizeC P t = some n) (w : World) : (Go.sizeOf t).run P w = .ok n w := by
  obtain ⟨i, hi, hn⟩ := sizeC_eq h
  simp [Go.sizeOf, run_info hi, hn]
theorem run_zero [Sig] {t : TypeId} {i : TypeInfo} {v : Value} (h : P.info? t = some i) (hz : i.zero = some v) (w : World) : (zeroValue t).run P w = .ok v w := by
  simp [zeroValue, run_info h, hz]
theorem zeroC_eq {t : TypeId} {a : AV} (h : zeroC P t = some a) : ∃ i v, P.info? t = some i ∧ i.zero = some v ∧ constOf v = some a := by
  unfold zeroC at h
  split at h
  · rename_i i hi
    split at h
    · rename_i v hv; exact ⟨i, v, hi, hv, h⟩
    · cases h
  · cases h
theorem zeroCells_eq {t : TypeId} {z : List AV} (h : zeroCells P t = some z) : ∃ i v, P.info? t = some i ∧ i.zero = some v ∧ constFlats v.cells.toList = some z := by
  unfold zeroCells at h
  split at h
  · rename_i i hi
    split at h
    · rename_i v hv; exact ⟨i, v, hi, hv, h⟩
    · cases h
  · cases h
theorem run_isAgg [Sig] {t : TypeId} {n : Option Nat} (h : aggC P t = some n) (w : World) : (isAgg t).run P w = .ok n.isSome w := by
  unfold aggC at h
  split at h
  · rename_i fs hu
    split at h
    · simp at h; subst h; simp [isAgg, run_under hu]
    · cases h
  · rename_i k e hu
    split at h
    · simp at h; subst h; simp [isAgg, run_under hu]
    · cases h
  · rename_i d h1 h2 hu
    simp at h; subst h
    cases d <;> first | (simp [isAgg, run_under hu]; done) | exact (h1 _ rfl).elim | exact (h2 _ _ rfl).elim
  · cases h
theorem aggC_size {t : TypeId} {n : Nat} (h : aggC P t = some (some n)) : sizeC P t = some n := by
  unfold aggC at h
  split at h
  · split at h
    · simp at h; subst h; assumption
    · cases h
  · split at h
    · simp at h; subst h; assumption
    · cases h
  · simp at h
  · cases h
end
section
theorem constFlat_VR [Sig] {ρ : Ren} {v : Value} {a : AV} (h : constFlat v = some a) : VR ρ a v ∧ a.flat = true := by
  unfold constFlat at h
  split at h <;> simp at h <;> subst h
  · exact ⟨.bool _, rfl⟩
  · exact ⟨.int _ _, rfl⟩
  · rename_i b
    have hl : ∀ c ∈ bytesL b, c < 256 := by
      intro c hc
      simp only [bytesL, List.mem_map] at hc
      obtain ⟨x, _, rfl⟩ := hc
      exact x.toNat_lt
    refine ⟨.str (Ref.lit hl) ?_, rfl⟩
    rw [expand_lit hl]
    rfl
  · exact ⟨.flt _ _, rfl⟩
  · exact ⟨.ptrN, rfl⟩
  · exact ⟨.sliceN _, rfl⟩
  · exact ⟨.mapN, rfl⟩
  · exact ⟨.nilFunc, rfl⟩
  · exact ⟨.nilIface, rfl⟩
theorem constFlats_VR [Sig] {ρ : Ren} : ∀ {vs : List Value} {l : List AV}, constFlats vs = some l → VRs ρ l vs ∧ l.all AV.flat = true
  | [], l, h => by simp [constFlats] at h; subst h; exact ⟨.nil, rfl⟩
  | v :: vs, l, h => by
    simp only [constFlats] at h
    split at h
    · rename_i a m ha hm
      simp at h; subst h
      obtain ⟨h1, h2⟩ := constFlat_VR (ρ := ρ) ha
      obtain ⟨h3, h4⟩ := constFlats_VR (ρ := ρ) hm
      exact ⟨.cons h1 h3, by simp [h2]; simpa using h4⟩
    · cases h
theorem constOf_VR [Sig] {ρ : Ren} {v : Value} {a : AV} (h : constOf v = some a) : VR ρ a v := by
  unfold constOf at h
  split at h
  · rename_i cs
    split at h
    · rename_i l hl
      simp at h; subst h
      obtain ⟨h1, h2⟩ := constFlats_VR (ρ := ρ) hl
      exact .agg h1 h2
    · cases h
  · split at h
    · simp at h; subst h; exact .dead _
    · cases h
  · exact (constFlat_VR h).1
end
section
variable {P : Program} {N : Nat} {ρ : Ren} {t : Tmps} {ev : Operand → Value}
def ER [Sig] (ρ : Ren) (N : Nat) (t : Tmps) (ev : Operand → Value) (x : Operand) : Prop := ∀ a, cOpd N x = some a → VR ρ (a.eval t) (ev x)
theorem opd1_eq {f : Opd → AOp} {x : Operand} {a : AOp} (h : opd1 N f x = some a) : ∃ y, cOpd N x = some y ∧ a = f y := by
  unfold opd1 at h
  split at h
  · rename_i y hy; simp at h; exact ⟨y, hy, h.symm⟩
  · cases h
theorem opd2_eq {f : Opd → Opd → AOp} {x y : Operand} {a : AOp} (h : opd2 N f x y = some a) : ∃ x' y', cOpd N x = some x' ∧ cOpd N y = some y' ∧ a = f x' y' := by
  unfold opd2 at h
  split at h
  · rename_i x' y' hx hy; simp at h; exact ⟨x', y', hx, hy, h.symm⟩
  · cases h
theorem opd3_eq {f : Opd → Opd → Opd → AOp} {x y z : Operand} {a : AOp} (h : opd3 N f x y z = some a) :
    ∃ x' y' z', cOpd N x = some x' ∧ cOpd N y = some y' ∧ cOpd N z = some z' ∧ a = f x' y' z' := by
  unfold opd3 at h
  split at h
  · rename_i x' y' z' hx hy hz; simp at h; exact ⟨x', y', z', hx, hy, hz, h.symm⟩
  · cases h
theorem cOpds_VR [Sig] : ∀ {l : List Operand} {as : List Opd}, cOpds N l = some as → (∀ x ∈ l, ER ρ N t ev x) → VRs ρ (evals t as) (l.map ev)
  | [], as, h, _ => by simp [cOpds] at h; subst h; exact .nil
  | x :: l, as, h, he => by
    simp only [cOpds] at h
    split at h
    · rename_i a m ha hm
      simp at h; subst h
      exact .cons (he x (by simp) a ha) (cOpds_VR hm fun y hy => he y (by simp [hy]))
    · cases h
end
section
variable {ρ : Ren}
theorem VR.of_bool [Sig] {b : Bool} {u : Value} (h : VR ρ (.bool b) u) : u = .bool b := by cases h; rfl
theorem VR.of_int [Sig] {k : IntKind} {n : Int} {u : Value} (h : VR ρ (.int k n) u) : u = .int k n := by cases h; rfl
theorem VR.of_str [Sig] {s : List Nat} {u : Value} (h : VR ρ (.str s) u) : ∃ b s', u = .string b ∧ Ref s s' ∧ bytesNat b = expand s' := by cases h with | str hr h => exact ⟨_, _, rfl, hr, h⟩
theorem VR.of_strF [Sig] {s : List Nat} {u : Value} (h : VR ρ (.str s) u) (hf : fixedS s = true) : ∃ b s', u = .string b ∧ Ref s s' ∧ s.length = s'.length ∧ fixedS s' = true ∧ bytesNat b = s'.map byteN := by
  obtain ⟨b, s', rfl, hr, hb⟩ := h.of_str
  exact ⟨b, s', rfl, hr, hr.length, hr.fixed hf, by rw [hb, expand_fixed hr hf]⟩
theorem VR.of_ptr [Sig] {n : Pos} {o : Nat} {u : Value} (h : VR ρ (.ptr (some (n, o))) u) : ∃ b base, ρ n = some (b, base) ∧ u = .pointer (some ⟨b, base.off + o, none⟩) := by
  cases h with | ptr h => exact ⟨_, _, h, rfl⟩
theorem VR.of_ptrN [Sig] {u : Value} (h : VR ρ (.ptr none) u) : u = .pointer none := by cases h; rfl
theorem VR.of_agg [Sig] {cs : List AV} {u : Value} (h : VR ρ (.agg cs) u) : ∃ cs', u = .agg cs' ∧ VRs ρ cs cs'.toList ∧ cs.all AV.flat = true := by
  cases h with | agg h hf => exact ⟨_, rfl, h, hf⟩
theorem VR.of_tuple [Sig] {cs : List AV} {u : Value} (h : VR ρ (.tuple cs) u) : ∃ cs', u = .tuple cs' ∧ VRs ρ cs cs'.toList := by
  cases h with | tuple h => exact ⟨_, rfl, h⟩
theorem VR.of_map [Sig] {n : Pos} {u : Value} (h : VR ρ (.map (some n)) u) : ∃ b, ρ n = some (b, ⟨0, 0⟩) ∧ u = .map (some b) := by
  cases h with | map h => exact ⟨_, h, rfl⟩
theorem VR.of_mapN [Sig] {u : Value} (h : VR ρ (.map none) u) : u = .map none := by cases h; rfl
theorem VR.of_iface [Sig] {t : Nat} {v : AV} {u : Value} (h : VR ρ (.iface t v) u) : ∃ x, u = .iface t x ∧ VR ρ v x := by cases h with | iface h => exact ⟨_, rfl, h⟩
theorem VR.of_nilIface [Sig] {u : Value} (h : VR ρ .nilIface u) : u = .nilIface := by cases h; rfl
theorem natOf_eq {v : AV} {n : Nat} (h : natOf v = some n) : ∃ k, v = .int k (n : Int) := by
  unfold natOf at h
  split at h
  · rename_i k m; simp at h; subst h; exact ⟨k, rfl⟩
  · cases h
theorem VR.of_nat [Sig] {v : AV} {u : Value} {n : Nat} (h : VR ρ v u) (hn : natOf v = some n) : ∃ k, u = .int k (n : Int) := by
  obtain ⟨k, rfl⟩ := natOf_eq hn
  exact ⟨k, h.of_int⟩
theorem VR.cells [Sig] {v : AV} {u : Value} (h : VR ρ v u) (hv : v.cells? ≠ none) : VRs ρ v.cells u.cells.toList := by
  cases hc : v.cells? with
  | none => exact absurd hc hv
  | some cs =>
    have := (h.cells? hc).1
    cases v <;> simp [AV.cells?] at hc <;> subst hc <;> exact this
end
section
variable {P : Program} {N : Nat} {C : CC} {B : Nat} {w0 : World} {ρ : Ren} {s : St} {w : World}
theorem part_some {cs : List AV} {off : Nat} {n : Option Nat} {v : AV} (h : part cs off n = some v) :
    (n = none ∧ cs[off]? = some v) ∨ ∃ k, n = some k ∧ off + k ≤ cs.length + (if k = 0 then off else 0) ∧ k ≤ (cs.drop off).length ∧ v = .agg ((cs.drop off).take k) := by
  unfold part at h
  split at h
  · rw [nth_eq] at h; exact .inl ⟨rfl, h⟩
  · rename_i k
    split at h
    · rename_i ha
      rw [dropN_eq, atLeast_iff] at ha
      simp [takeN_eq, dropN_eq] at h
      refine .inr ⟨k, rfl, ?_, ha, h.symm⟩
      simp at ha
      split <;> omega
    · cases h
theorem run_loadVar [Sig] {t : TypeId} {n : Option Nat} {a : Pos × Nat} {b : Nat} {o : Bs} {v : AV} (hw : WR C B w0 ρ s w) (ht : aggC P t = some n) (hn : ρ a.1 = some (b, o)) (hl : s.load a n = some v) :
    ∃ u, (loadVar t ⟨b, o.off + a.2, none⟩).run P w = .ok u w ∧ VR ρ v u := by
  unfold St.load at hl
  split at hl
  · cases hl
  · rename_i cs hcs
    rcases part_some hl with ⟨rfl, hv⟩ | ⟨k, rfl, _, hk, rfl⟩
    · have hlt : a.2 < cs.length := by
        rcases Nat.lt_or_ge a.2 cs.length with h1 | h1
        · exact h1
        · rw [List.getElem?_eq_none h1] at hv; cases hv
      obtain ⟨ro, g, hg, hval⟩ := St.cells_eq hcs
      obtain ⟨_, u, hu, hr⟩ := hw.cells _ _ _ _ _ _ hn hg hval a.2 v hv
      refine ⟨u, ?_, hr⟩
      simp [loadVar, run_isAgg ht, hu]
    · have hle : a.2 + k ≤ cs.length ∨ k = 0 := by simp at hk; omega
      rcases hle with hle | rfl
      · obtain ⟨us, hul, hur, huf, hcell⟩ := hw.read hn hcs a.2 k hle
        refine ⟨.agg us.toArray, ?_, ?_⟩
        · have hrun := run_loadCells_list (P := P) w ⟨b, o.off + a.2, none⟩ us (fun j v hj => by rw [addr_add]; exact hcell j v hj)
          rw [hul] at hrun
          simp [loadVar, run_isAgg ht, run_sizeC (aggC_size ht), hrun]
        · exact .agg (by simpa using hur) huf
      · refine ⟨.agg #[], ?_, .agg (by simp; exact .nil) (by simp)⟩
        simp [loadVar, run_isAgg ht, run_sizeC (aggC_size ht), loadCells, loadCellsFrom]
theorem VRs.part_run [Sig] {t : TypeId} {n : Option Nat} {cs : List AV} {cs' : Array Value} {off : Nat} {v : AV} (h : VRs ρ cs cs'.toList) (hf : cs.all AV.flat = true) (ht : aggC P t = some n) (hp : part cs off n = some v) :
    ∃ u, (Go.part t cs' off).run P w = .ok u w ∧ VR ρ v u := by
  rcases part_some hp with ⟨rfl, hv⟩ | ⟨k, rfl, _, hk, rfl⟩
  · obtain ⟨u, hu, hr⟩ := h.get off v hv
    refine ⟨u, ?_, hr⟩
    have hu' : cs'[off]? = some u := by simpa using hu
    simp [Go.part, run_isAgg ht, hu']
  · refine ⟨.agg (cs'.extract off (off + k)), ?_, ?_⟩
    · simp [Go.part, run_isAgg ht, run_sizeC (aggC_size ht)]
    · refine .agg ?_ ?_
      · have := (h.drop off).take k
        simpa [Array.toList_extract, List.extract] using this
      · rw [List.all_eq_true] at hf ⊢
        intro x hx
        exact hf x (List.mem_of_mem_drop (List.mem_of_mem_take hx))
end
end A3
namespace A3
open Go
set_option maxRecDepth 20000
theorem wrap_range (k : IntKind) (n : Int) : k.min ≤ k.wrap n ∧ k.wrap n ≤ k.max := by
  cases k <;> simp [IntKind.wrap, IntKind.bits, IntKind.signed, IntKind.min, IntKind.max] <;> (try split) <;> omega
theorem wrap_of_range {k : IntKind} {n : Int} (h1 : k.min ≤ n) (h2 : n ≤ k.max) : k.wrap n = n := by
  cases k <;> simp [IntKind.wrap, IntKind.bits, IntKind.signed, IntKind.min, IntKind.max] at * <;> (try split) <;> omega
theorem wrap_wrap [Sig] (k : IntKind) (n : Int) : k.wrap (k.wrap n) = k.wrap n := wrap_of_range (wrap_range k n).1 (wrap_range k n).2
theorem range_of_wrap [Sig] {k : IntKind} {n : Int} (h : k.wrap n = n) : k.min ≤ n ∧ n ≤ k.max := by
  have := wrap_range k n
  rw [h] at this; exact this
theorem wrap_i64_σ [Sig] (i : Nat) : IntKind.i64.wrap (Sig.σ i) = Sig.σ i := wrap_of_range (by simp [IntKind.min, IntKind.signed, IntKind.bits]; exact Sig.lo i) (by simp [IntKind.max, IntKind.signed, IntKind.bits]; have := Sig.hi i; omega)
theorem wrap_i64_u64 [Sig] (i : Nat) : IntKind.i64.wrap (IntKind.u64.wrap (Sig.σ i)) = Sig.σ i := by
  have h1 := Sig.lo i
  have h2 := Sig.hi i
  simp [IntKind.wrap, IntKind.bits, IntKind.signed]
  split <;> omega
theorem wrap_add_off [Sig] (i : Nat) : IntKind.u64.wrap (IntKind.u64.wrap (Sig.σ i) + 9223372036854775808) = Sig.σ i + 9223372036854775808 := by
  have h1 := Sig.lo i
  have h2 := Sig.hi i
  simp [IntKind.wrap, IntKind.bits, IntKind.signed]
  omega
theorem byteN_lt [Sig] {c : Nat} : byteN c < 256 := by
  unfold byteN
  split
  · assumption
  · exact byteAt_lt _ _
theorem σ_lt [Sig] {i j : Nat} (h : i / 2 = j / 2) : Sig.σ i < Sig.σ j ↔ i < j := by
  constructor
  · intro hlt
    rcases Nat.lt_trichotomy i j with h1 | h1 | h1
    · exact h1
    · subst h1; omega
    · have := Sig.mono j i h.symm h1; omega
  · exact Sig.mono i j h
theorem σ_eq [Sig] {i j : Nat} (h : i / 2 = j / 2) : Sig.σ i = Sig.σ j ↔ i = j := by
  constructor
  · intro he
    rcases Nat.lt_trichotomy i j with h1 | h1 | h1
    · have := Sig.mono i j h h1; omega
    · exact h1
    · have := Sig.mono j i h.symm h1; omega
  · rintro rfl; rfl
theorem off_lt [Sig] (i : Nat) : off i < 256 ^ 8 := by
  have h1 := Sig.lo i
  have h2 := Sig.hi i
  have : (256 : Nat) ^ 8 = 18446744073709551616 := by decide
  unfold off; omega
theorem off_eq [Sig] (i : Nat) : (off i : Int) = Sig.σ i + 9223372036854775808 := by
  have h1 := Sig.lo i
  unfold off; omega
theorem VR.of_sym [Sig] {ρ : Ren} {f i : Nat} {u : Value} (h : VR ρ (.sym f i) u) : ∃ k n, formV f i = some (k, n) ∧ u = .int k n := by
  cases h with | sym h => exact ⟨_, _, h, rfl⟩
theorem VR.of_sym0 [Sig] {ρ : Ren} {i : Nat} {u : Value} (h : VR ρ (.sym 0 i) u) : ∃ n, n = Sig.σ i ∧ u = .int .i64 (Sig.σ i) := by
  obtain ⟨k, n, hf, rfl⟩ := h.of_sym
  simp [formV] at hf
  obtain ⟨rfl, rfl⟩ := hf
  exact ⟨_, rfl, rfl⟩
theorem VR.sym0 [Sig] {ρ : Ren} (i : Nat) : VR ρ (.sym 0 i) (.int .i64 (Sig.σ i)) := .sym (by simp [formV])
theorem VR.sym1 [Sig] {ρ : Ren} (i : Nat) : VR ρ (.sym 1 i) (.int .u64 (off i : Nat)) := .sym (by simp [formV])
theorem VR.sym2 [Sig] {ρ : Ren} (i : Nat) : VR ρ (.sym 2 i) (.int .u64 (IntKind.u64.wrap (Sig.σ i))) := .sym (by simp [formV])
theorem pow_split {t : Nat} (h : t ≤ 8) : 256 ^ (8 - t) * 256 ^ t = 256 ^ 8 := by
  rw [← Nat.pow_add]; congr 1; omega
theorem div_lt_pow [Sig] {n t : Nat} (hn : n < 256 ^ 8) (h : t ≤ 8) : n / 256 ^ t < 256 ^ (8 - t) := by
  rw [Nat.div_lt_iff_lt_mul (Nat.pow_pos (by omega)), pow_split h]; exact hn
theorem u64_of_lt [Sig] {n : Nat} (h : n < 256 ^ 8) : IntKind.u64.wrap (n : Int) = n := by
  have : (256 : Nat) ^ 8 = 18446744073709551616 := by decide
  refine wrap_of_range (by simp [IntKind.min, IntKind.signed]) (by simp [IntKind.max, IntKind.signed, IntKind.bits]; omega)
theorem form_up [Sig] {n t : Nat} (hn : n < 256 ^ 8) (h1 : 1 ≤ t) (h : t ≤ 8) : n / 256 ^ t * 256 < 256 ^ 8 := by
  have h2 := div_lt_pow hn h
  have h3 : 256 ^ (8 - t) * 256 ≤ 256 ^ 8 := by
    rw [← Nat.pow_succ]
    exact Nat.pow_le_pow_right (by omega) (by omega)
  omega
theorem formV_u64 [Sig] {f i : Nat} {k : IntKind} {n : Int} (hf0 : f ≠ 0) (h : formV f i = some (k, n)) : k = .u64 ∧ k.wrap n = n := by
  have hlt := off_lt i
  unfold formV at h
  rw [if_neg hf0] at h
  split at h
  · simp at h; obtain ⟨rfl, rfl⟩ := h; exact ⟨rfl, u64_of_lt hlt⟩
  · split at h
    · simp at h; obtain ⟨rfl, rfl⟩ := h; exact ⟨rfl, wrap_wrap _ _⟩
    · split at h
      · simp only [Option.some.injEq, Prod.mk.injEq] at h; obtain ⟨rfl, rfl⟩ := h
        exact ⟨rfl, u64_of_lt (Nat.lt_of_le_of_lt (Nat.div_le_self _ _) hlt)⟩
      · split at h
        · simp only [Option.some.injEq, Prod.mk.injEq] at h; obtain ⟨rfl, rfl⟩ := h
          exact ⟨rfl, u64_of_lt (form_up hlt (by omega) (by omega))⟩
        · split at h
          · simp only [Option.some.injEq, Prod.mk.injEq] at h; obtain ⟨rfl, rfl⟩ := h
            refine ⟨rfl, u64_of_lt (Nat.lt_trans (byteAt_lt _ _) (by decide))⟩
          · cases h
theorem kindV_VR [Sig] {ρ : Ren} {x : AV} {u : Value} {k : IntKind} (h : kindV x = some k) (hx : VR ρ x u) : ∃ n, u = .int k n ∧ ((∃ m, x = .int k m) ∨ k.wrap n = n) := by
  unfold kindV at h
  split at h <;> simp at h <;> subst h
  · have := hx.of_int; subst this; exact ⟨_, rfl, .inl ⟨_, rfl⟩⟩
  · cases hx with | any h => exact ⟨_, rfl, .inr h⟩
  · obtain ⟨n, hf, rfl⟩ := hx.of_sym0
    exact ⟨_, rfl, .inr (wrap_i64_σ _)⟩
  · rename_i f i hf0
    obtain ⟨k, n, hf, rfl⟩ := hx.of_sym
    obtain ⟨rfl, hw⟩ := formV_u64 (fun e => hf0 e) hf
    exact ⟨_, rfl, .inr hw⟩
  · cases hx with
    | byt h hf =>
      rename_i c
      refine ⟨_, rfl, .inr ?_⟩
      have := byteN_lt (c := c)
      exact wrap_of_range (by simp [IntKind.min, IntKind.signed]) (by simp [IntKind.max, IntKind.signed, IntKind.bits]; omega)
theorem byteV_VR [Sig] {ρ : Ren} {c d : Nat} (h : fixedB c = true) (hr : (known c = true ∧ d = c) ∨ (known c = false ∧ d < 256)) : VR ρ (byteV c) (.int .u8 (byteN d : Nat)) := by
  have hany : VR ρ (.any .u8) (.int .u8 (byteN d : Nat)) := by
    have := byteN_lt (c := d)
    exact .any (wrap_of_range (by simp [IntKind.min, IntKind.signed]) (by simp [IntKind.max, IntKind.signed, IntKind.bits]; omega))
  unfold byteV
  split
  · rename_i hlt
    have := blt_iff.1 hlt
    rcases hr with ⟨_, rfl⟩ | ⟨hk, _⟩
    · have e : byteN d = d := by simp [byteN, this]
      rw [e]; exact .int _ _
    · rw [known_iff.2 (.inl this)] at hk; cases hk
  · rename_i hlt
    have hge : 256 ≤ c := by
      rcases Nat.lt_or_ge c 256 with h1 | h1
      · rw [blt_iff.2 h1] at hlt; cases hlt
      · exact h1
    split
    · rename_i h8
      have h8 := blt_iff.1 h8
      rcases hr with ⟨_, rfl⟩ | ⟨hk, _⟩
      · exact .byt hge h8
      · rw [known_iff.2 (.inr (by omega))] at hk; cases hk
    · exact hany
theorem byteV_flat (c : Nat) : (byteV c).flat = true := by
  unfold byteV
  split
  · rfl
  · split <;> rfl
theorem byteCells_VR [Sig] {ρ : Ren} : ∀ {l m : List Nat}, Ref l m → fixedS l = true → VRs ρ (byteCells l) ((m.map byteN).map fun n : Nat => Value.int .u8 (n : Int)) ∧ (byteCells l).all AV.flat = true
  | [], _, .nil, _ => ⟨.nil, rfl⟩
  | c :: l, _, .same hk t, h => by
    have h1 := fixedS_iff.1 h c List.mem_cons_self
    obtain ⟨h2, h3⟩ := byteCells_VR (ρ := ρ) t (fixedS_iff.2 fun d hd => fixedS_iff.1 h d (List.mem_cons_of_mem _ hd))
    exact ⟨.cons (byteV_VR h1 (.inl ⟨hk, rfl⟩)) h2, by simp only [byteCells, List.all_cons, byteV_flat, h3, Bool.and_self]⟩
  | c :: l, _, .byte hk hd t, h => by
    have h1 := fixedS_iff.1 h c List.mem_cons_self
    obtain ⟨h2, h3⟩ := byteCells_VR (ρ := ρ) t (fixedS_iff.2 fun d hd => fixedS_iff.1 h d (List.mem_cons_of_mem _ hd))
    exact ⟨.cons (byteV_VR h1 (.inr ⟨hk, hd⟩)) h2, by simp only [byteCells, List.all_cons, byteV_flat, h3, Bool.and_self]⟩
theorem map_data (bs : ByteArray) : (bs.data.toList.map fun b => Value.int .u8 b.toNat) = (bytesNat bs).map fun n : Nat => Value.int .u8 (n : Int) := by
  simp [bytesNat]
theorem ltStr_irrefl [Sig] : ∀ l : List Nat, ltStr l l = false
  | [] => rfl
  | a :: l => by
    have : Nat.blt a a = false := by
      cases h : Nat.blt a a with
      | false => rfl
      | true => have := blt_iff.1 h; omega
    simp [ltStr, this, ltStr_irrefl l]
theorem ltStr_append [Sig] : ∀ (p x y : List Nat), ltStr (p ++ x) (p ++ y) = ltStr x y
  | [], _, _ => rfl
  | a :: p, x, y => by
    have : Nat.blt a a = false := by
      cases h : Nat.blt a a with
      | false => rfl
      | true => have := blt_iff.1 h; omega
    simp [ltStr, this, ltStr_append p x y]
def be (n : Nat) : Nat → List Nat
  | 0 => []
  | k + 1 => (n / 256 ^ k % 256) :: be n k
theorem be_lt [Sig] {n m : Nat} (r r' : List Nat) : ∀ k, n % 256 ^ k < m % 256 ^ k → ltStr (be n k ++ r) (be m k ++ r') = true
  | 0, h => by simp [Nat.mod_one] at h
  | k + 1, h => by
    rw [Nat.mod_pow_succ, Nat.mod_pow_succ] at h
    simp only [be, List.cons_append, ltStr]
    have h1 : n % 256 ^ k < 256 ^ k := Nat.mod_lt _ (Nat.pow_pos (by omega))
    have h2 : m % 256 ^ k < 256 ^ k := Nat.mod_lt _ (Nat.pow_pos (by omega))
    rcases Nat.lt_trichotomy (n / 256 ^ k % 256) (m / 256 ^ k % 256) with h3 | h3 | h3
    · rw [blt_iff.2 h3]
    · rw [h3] at h
      have hb : Nat.blt (n / 256 ^ k % 256) (m / 256 ^ k % 256) = false := by
        cases h4 : Nat.blt (n / 256 ^ k % 256) (m / 256 ^ k % 256) with
        | false => rfl
        | true => have := blt_iff.1 h4; omega
      rw [hb, h3, Nat.beq_refl]
      exact be_lt r r' k (by omega)
    · exfalso
      have : 256 ^ k * (m / 256 ^ k % 256 + 1) ≤ 256 ^ k * (n / 256 ^ k % 256) := Nat.mul_le_mul_left _ h3
      rw [Nat.mul_add] at this
      omega
theorem off_mono [Sig] {i j : Nat} (h : i / 2 = j / 2) (hlt : i < j) : off i < off j := by
  have h1 := Sig.lo i
  have h2 := Sig.mono i j h hlt
  unfold off; omega
theorem goesOn_cons {c n d : Nat} {l : List Nat} (h : goesOn c (n + 1) (d :: l) = true) : d = c + 1 ∧ goesOn (c + 1) n l = true := by
  simp only [goesOn] at h
  split at h
  · rename_i he; exact ⟨Nat.eq_of_beq_eq_true he, h⟩
  · cases h
theorem goesOn_rest [Sig] : ∀ {n : Nat} {l : List Nat} {c : Nat}, goesOn c n l = true → ∃ r, l = (List.range' (c + 1) n) ++ r
  | 0, l, c, _ => ⟨l, by simp⟩
  | n + 1, [], c, h => by simp [goesOn] at h
  | n + 1, d :: l, c, h => by
    obtain ⟨hd, h⟩ := goesOn_cons h
    obtain ⟨r, hr⟩ := goesOn_rest h
    exact ⟨r, by rw [hr, hd]; simp [List.range'_succ]⟩
theorem expB_byte [Sig] {c t : Nat} (hc : 256 ≤ c) (h0 : (c - 256) % 16 = 0) (ht : t < 8) : expB (c + t) = [off ((c - 256) / 16) / 256 ^ (7 - t) % 256] := by
  unfold expB
  rw [if_neg (by omega), if_pos (by omega)]
  have h1 : (c + t - 256) / 16 = (c - 256) / 16 := by omega
  have h2 : (c + t - 256) % 16 = t := by omega
  rw [h1, h2]; rfl
theorem expand_eight [Sig] {c : Nat} {l : List Nat} (hc : 256 ≤ c) (h0 : (c - 256) % 16 = 0) (hg : goesOn c 7 l = true) : ∃ r, expand (c :: l) = be (off ((c - 256) / 16)) 8 ++ r := by
  obtain ⟨r, rfl⟩ := goesOn_rest hg
  refine ⟨expand r, ?_⟩
  have h : c :: (List.range' (c + 1) 7 ++ r) = [c, c + 1, c + 2, c + 3, c + 4, c + 5, c + 6, c + 7] ++ r := by simp [List.range'_succ]
  rw [h, expand_append]
  congr 1
  have e0 := expB_byte (t := 0) hc h0 (by omega)
  have e1 := expB_byte (t := 1) hc h0 (by omega)
  have e2 := expB_byte (t := 2) hc h0 (by omega)
  have e3 := expB_byte (t := 3) hc h0 (by omega)
  have e4 := expB_byte (t := 4) hc h0 (by omega)
  have e5 := expB_byte (t := 5) hc h0 (by omega)
  have e6 := expB_byte (t := 6) hc h0 (by omega)
  have e7 := expB_byte (t := 7) hc h0 (by omega)
  rw [Nat.add_zero] at e0
  simp only [expand, e0, e1, e2, e3, e4, e5, e6, e7, be, List.append_nil, List.cons_append, List.nil_append]
theorem decNat_lt {n : Nat} (h : n < 10) : decNat n = [48 + n] := by rw [decNat]; simp [h]
theorem decNat_ge {n : Nat} (h : ¬ n < 10) : decNat n = decNat (n / 10) ++ [48 + n % 10] := by rw [decNat]; simp [h]
theorem decNat_digit [Sig] (n : Nat) : ∀ c ∈ decNat n, 48 ≤ c ∧ c < 58 := by
  induction n using Nat.strongRecOn with
  | _ n ih =>
    intro c hc
    by_cases h : n < 10
    · rw [decNat_lt h] at hc; simp at hc; omega
    · rw [decNat_ge h] at hc
      rcases List.mem_append.1 hc with hc | hc
      · exact ih (n / 10) (by omega) c hc
      · simp at hc; omega
theorem decNat_ne [Sig] (n : Nat) : decNat n ≠ [] := by
  by_cases h : n < 10
  · rw [decNat_lt h]; simp
  · rw [decNat_ge h]; simp
def decVal (l : List Nat) : Nat := l.foldl (fun a c => 10 * a + (c - 48)) 0
theorem decVal_decNat [Sig] (n : Nat) : decVal (decNat n) = n := by
  induction n using Nat.strongRecOn with
  | _ n ih =>
    by_cases h : n < 10
    · rw [decNat_lt h]; simp [decVal]
    · rw [decNat_ge h]
      have := ih (n / 10) (by omega)
      unfold decVal at this ⊢
      rw [List.foldl_append, this]
      simp; omega
theorem decNat_length [Sig] {n : Nat} : ∀ {k : Nat}, n < 10 ^ (k + 1) → (decNat n).length ≤ k + 1
  | 0, h => by rw [decNat_lt (by simpa using h)]; simp
  | k + 1, h => by
    by_cases h1 : n < 10
    · rw [decNat_lt h1]; simp
    · rw [decNat_ge h1]
      have := decNat_length (n := n / 10) (k := k) (by rw [Nat.pow_succ] at h; omega)
      simp; omega
theorem decimal_length [Sig] (i : Nat) : (decimal (Sig.σ i)).length ≤ 20 := by
  have h1 := Sig.lo i
  have h2 := Sig.hi i
  have : (Sig.σ i).natAbs < 10 ^ (18 + 1) := by
    have : (10 : Nat) ^ 19 = 10000000000000000000 := by decide
    omega
  have := decNat_length this
  unfold decimal
  split <;> simp <;> omega
theorem decimal_ne [Sig] (x : Int) : decimal x ≠ [] := by
  unfold decimal
  split
  · simp
  · exact decNat_ne _
theorem decimal_no [Sig] (x : Int) : 32 ∉ decimal x := by
  unfold decimal
  intro h
  split at h
  · rcases List.mem_cons.1 h with h | h
    · cases h
    · have := decNat_digit _ _ h; omega
  · have := decNat_digit _ _ h; omega
theorem decimal_inj [Sig] {x y : Int} (h : decimal x = decimal y) : x = y := by
  unfold decimal at h
  have neg : ∀ {a b : Nat}, 45 :: decNat a = decNat b → False := by
    intro a b e
    have := decNat_digit b 45 (by rw [← e]; simp)
    omega
  split at h <;> split at h
  · simp at h
    have := congrArg decVal h
    rw [decVal_decNat, decVal_decNat] at this
    omega
  · exact (neg h).elim
  · exact (neg h.symm).elim
  · have := congrArg decVal h
    rw [decVal_decNat, decVal_decNat] at this
    omega
theorem expB_ne [Sig] (c : Nat) : expB c ≠ [] := by
  unfold expB
  split
  · simp
  · split
    · simp
    · exact decimal_ne _
theorem expB_length [Sig] (c : Nat) : (expB c).length ≤ 20 := by
  unfold expB
  split
  · simp
  · split
    · simp
    · exact decimal_length _
theorem expand_length [Sig] (l : List Nat) : (expand l).length ≤ 20 * l.length := by
  induction l with
  | nil => simp [expand]
  | cons c l ih =>
    have := expB_length c
    simp [expand]; omega
theorem rival_eq {c d : Nat} (h : rival c d = true) : 256 ≤ c ∧ 256 ≤ d ∧ (c - 256) % 16 = (d - 256) % 16 ∧ ((c - 256) / 16) / 2 = ((d - 256) / 16) / 2 := by
  simp only [rival, Bool.and_eq_true, Nat.blt_eq, Nat.beq_eq] at h
  omega
theorem split_space : ∀ {p q r r' : List Nat}, 32 ∉ p → 32 ∉ q → p ++ 32 :: r = q ++ 32 :: r' → p = q
  | [], [], _, _, _, _, _ => rfl
  | [], b :: q, _, _, _, hq, h => by simp at h; exact absurd h.1 (fun e => hq (by rw [e]; simp))
  | a :: p, [], _, _, hp, _, h => by simp at h; exact absurd h.1 (fun e => hp (by rw [e]; simp))
  | a :: p, b :: q, _, _, hp, hq, h => by
    simp at h
    rw [h.1, split_space (fun e => hp (List.mem_cons_of_mem _ e)) (fun e => hq (List.mem_cons_of_mem _ e)) h.2]
theorem space_eq [Sig] {l : List Nat} (h : space l = true) : ∃ r, expand l = 32 :: expand r := by
  unfold space at h
  split at h
  · rename_i r; exact ⟨r, by simp [expand, expB]⟩
  · cases h
theorem eight_lt [Sig] {c d : Nat} {x y : List Nat} (hr : rival c d = true) (h0 : (c - 256) % 16 = 0) (hx : goesOn c 7 x = true) (hy : goesOn d 7 y = true) (hlt : c < d) : ltStr (expand (c :: x)) (expand (d :: y)) = true := by
  obtain ⟨h1, h2, h3, h4⟩ := rival_eq hr
  obtain ⟨r, e1⟩ := expand_eight h1 h0 hx
  obtain ⟨r', e2⟩ := expand_eight h2 (by omega) hy
  rw [e1, e2]
  refine be_lt _ _ 8 ?_
  rw [Nat.mod_eq_of_lt (off_lt _), Nat.mod_eq_of_lt (off_lt _)]
  exact off_mono h4 (by omega)
theorem ltStr_asymm [Sig] : ∀ {x y : List Nat}, ltStr x y = true → ltStr y x = false
  | [], [], h => by simp [ltStr] at h
  | [], _ :: _, _ => rfl
  | _ :: _, [], h => by simp [ltStr] at h
  | a :: x, b :: y, h => by
    simp only [ltStr] at h ⊢
    split at h
    · rename_i hb
      have hab := blt_iff.1 hb
      have h1 : Nat.blt b a = false := by
        cases hq : Nat.blt b a with
        | false => rfl
        | true => have := blt_iff.1 hq; omega
      have h2 : Nat.beq b a = false := by
        cases hq : Nat.beq b a with
        | false => rfl
        | true => have := Nat.eq_of_beq_eq_true hq; omega
      rw [h1, h2]
    · split at h
      · rename_i hb
        have := Nat.eq_of_beq_eq_true hb
        subst this
        have h1 : Nat.blt a a = false := by
          cases hq : Nat.blt a a with
          | false => rfl
          | true => have := blt_iff.1 hq; omega
        rw [h1, Nat.beq_refl]
        exact ltStr_asymm h
      · cases h
theorem ltC_known [Sig] : ∀ {a b : List Nat} {r : Bool}, (∀ c ∈ a, known c = true) → ltC a b = some r → ltStr (expand a) (expand b) = r
  | [], [], r, _, h => by simp [ltC] at h; subst h; rfl
  | [], d :: y, r, _, h => by
    simp [ltC] at h; subst h
    simp only [expand]
    cases hq : expB d with
    | nil => exact absurd hq (expB_ne d)
    | cons e l => rfl
  | c :: x, [], r, _, h => by
    simp [ltC] at h; subst h
    simp only [expand]
    cases hq : expB c with
    | nil => exact absurd hq (expB_ne c)
    | cons e l => rfl
  | c :: x, d :: y, r, hk, h => by
    have hk0 := hk c List.mem_cons_self
    simp only [ltC] at h
    split at h
    · rename_i he
      have := Nat.eq_of_beq_eq_true (Bool.and_eq_true _ _ ▸ he).1; subst this
      simp only [expand]
      rw [ltStr_append]; exact ltC_known (fun e he => hk e (List.mem_cons_of_mem _ he)) h
    · rename_i hne
      have hne : c ≠ d := Nat.ne_of_beq_eq_false (by rw [hk0, Bool.and_true] at hne; exact hne)
      split at h
      · rename_i hlit
        simp only [Bool.and_eq_true, Nat.blt_eq] at hlit
        simp at h; subst h
        simp only [expand, expB_lit hlit.1, expB_lit hlit.2, List.cons_append, List.nil_append, ltStr]
        cases hb : Nat.blt c d with
        | true => rfl
        | false =>
          cases hq : Nat.beq c d with
          | false => rfl
          | true => exact absurd (Nat.eq_of_beq_eq_true hq) hne
      · split at h
        · cases h
        · rename_i hr
          split at h
          · rename_i h0
            split at h
            · rename_i hg
              simp only [Bool.and_eq_true] at hg
              simp at h; subst h
              obtain ⟨h1, h2, h3, h4⟩ := rival_eq hr
              have hr' : rival d c = true := by simp only [rival, Bool.and_eq_true, Nat.blt_eq, Nat.beq_eq] at hr ⊢; omega
              cases hb : Nat.blt c d with
              | true => exact eight_lt hr h0 hg.1 hg.2 (blt_iff.1 hb)
              | false =>
                have : d < c := by
                  rcases Nat.lt_trichotomy c d with h5 | h5 | h5
                  · rw [blt_iff.2 h5] at hb; cases hb
                  · exact absurd h5 hne
                  · exact h5
                exact ltStr_asymm (eight_lt hr' (by omega) hg.2 hg.1 this)
            · cases h
          · cases h
theorem eqC_known [Sig] : ∀ {a b : List Nat} {r : Bool}, (∀ c ∈ a, known c = true) → eqC a b = some r → (expand a = expand b ↔ r = true)
  | [], [], r, _, h => by simp [eqC] at h; subst h; simp
  | [], d :: y, r, _, h => by
    simp [eqC] at h; subst h
    simp only [expand, Bool.false_eq_true, iff_false]
    intro e
    have := expB_ne d
    simp at e; exact this e.1
  | c :: x, [], r, _, h => by
    simp [eqC] at h; subst h
    simp only [expand, Bool.false_eq_true, iff_false]
    intro e
    have := expB_ne c
    simp at e; exact this e.1
  | c :: x, d :: y, r, hk, h => by
    have hk0 := hk c List.mem_cons_self
    simp only [eqC] at h
    split at h
    · rename_i he
      have := Nat.eq_of_beq_eq_true (Bool.and_eq_true _ _ ▸ he).1; subst this
      simp only [expand, List.append_cancel_left_eq]
      exact eqC_known (fun e he => hk e (List.mem_cons_of_mem _ he)) h
    · rename_i hne
      have hne : c ≠ d := Nat.ne_of_beq_eq_false (by rw [hk0, Bool.and_true] at hne; exact hne)
      split at h
      · rename_i hlit
        simp only [Bool.and_eq_true, Nat.blt_eq] at hlit
        simp at h; subst h
        simp only [expand, expB_lit hlit.1, expB_lit hlit.2, List.cons_append, List.nil_append, List.cons.injEq, Bool.false_eq_true, iff_false]
        exact fun e => hne e.1
      · split at h
        · cases h
        · rename_i hr
          obtain ⟨h1, h2, h3, h4⟩ := rival_eq hr
          split at h
          · rename_i h0
            split at h
            · rename_i hg
              simp only [Bool.and_eq_true] at hg
              simp at h; subst h
              have hr' : rival d c = true := by simp only [rival, Bool.and_eq_true, Nat.blt_eq, Nat.beq_eq] at hr ⊢; omega
              simp only [Bool.false_eq_true, iff_false]
              intro e
              rcases Nat.lt_trichotomy c d with h5 | h5 | h5
              · have := eight_lt hr h0 hg.1 hg.2 h5
                rw [e, ltStr_irrefl] at this; cases this
              · exact hne h5
              · have := eight_lt hr' (by omega) hg.2 hg.1 h5
                rw [e, ltStr_irrefl] at this; cases this
            · cases h
          · rename_i h0
            split at h
            · rename_i hg
              simp only [Bool.and_eq_true] at hg
              simp at h; subst h
              simp only [Bool.false_eq_true, iff_false]
              intro e
              obtain ⟨r, e1⟩ := space_eq hg.1
              obtain ⟨r', e2⟩ := space_eq hg.2
              have ec : expB c = decimal (Sig.σ ((c - 256) / 16)) := by unfold expB; rw [if_neg (by omega), if_neg (by omega)]
              have ed : expB d = decimal (Sig.σ ((d - 256) / 16)) := by unfold expB; rw [if_neg (by omega), if_neg (by omega)]
              simp only [expand, ec, ed, e1, e2] at e
              have := decimal_inj (split_space (decimal_no _) (decimal_no _) e)
              have := (σ_eq h4).1 this
              omega
            · cases h
          · cases h
theorem goesOn_ref [Sig] : ∀ {n c : Nat} {l m : List Nat}, Ref l m → (∀ j, 1 ≤ j → j ≤ n → known (c + j) = true) → goesOn c n l = true → goesOn c n m = true
  | 0, _, _, _, _, _, _ => rfl
  | n + 1, c, _, _, .nil, _, h => by simp [goesOn] at h
  | n + 1, c, _, _, .same (c := d) k t, hk, h => by
    obtain ⟨e, h'⟩ := goesOn_cons h
    subst e
    simp only [goesOn, Nat.beq_refl]
    exact goesOn_ref t (fun j h1 h2 => by have := hk (1 + j) (by omega) (by omega); rwa [← Nat.add_assoc] at this) h'
  | n + 1, c, _, _, .byte (c := d) k hd t, hk, h => by
    obtain ⟨e, h'⟩ := goesOn_cons h
    subst e
    rw [hk 1 (by omega) (by omega)] at k; cases k
theorem space_ref {l m : List Nat} (hr : Ref l m) (h : space l = true) : space m = true := by
  unfold space at h
  split at h
  · cases hr with
    | same _ _ => rfl
    | byte k _ _ => cases k
  · cases h
theorem unknown_ge [Sig] {c : Nat} (h : known c = false) : 256 ≤ c ∧ 8 < (c - 256) % 16 := by
  rcases Nat.lt_or_ge c 256 with h1 | h1
  · rw [known_iff.2 (.inl h1)] at h; cases h
  · refine ⟨h1, ?_⟩
    rcases Nat.lt_or_ge 8 ((c - 256) % 16) with h2 | h2
    · exact h2
    · rw [known_iff.2 (.inr h2)] at h; cases h
theorem goes_ref [Sig] {c : Nat} {x x' : List Nat} (hx : Ref x x') (h0 : (c - 256) % 16 = 0) (hc : 256 ≤ c) (h : goesOn c 7 x = true) : goesOn c 7 x' = true :=
  goesOn_ref hx (fun j h1 h2 => known_iff.2 (.inr (by omega))) h
theorem eqC_ref [Sig] : ∀ {a b a' b' : List Nat} {r : Bool}, Ref a a' → Ref b b' → eqC a b = some r → eqC a' b' = some r
  | _, _, _, _, _, .nil, .nil, h => h
  | _, _, _, _, _, .nil, .same _ _, h => h
  | _, _, _, _, _, .nil, .byte _ _ _, h => h
  | _, _, _, _, _, .same _ _, .nil, h => h
  | _, _, _, _, _, .byte _ _ _, .nil, h => h
  | c :: x, d :: y, _, _, r, .byte k hd t, hb, h => by
    exfalso
    have ⟨h1, h2⟩ := unknown_ge k
    simp only [eqC, k, Bool.and_false] at h
    split at h
    · rename_i hq; simp only [Bool.and_eq_true, Nat.blt_eq] at hq; omega
    · split at h
      · cases h
      · split at h
        · omega
        · omega
        · cases h
  | c :: x, d :: y, _, _, r, .same k t, .byte k' hd t', h => by
    exfalso
    have ⟨h1, h2⟩ := unknown_ge k'
    simp only [eqC] at h
    split at h
    · rename_i hq
      simp only [Bool.and_eq_true] at hq
      have := Nat.eq_of_beq_eq_true hq.1
      subst this; rw [k] at k'; cases k'
    · split at h
      · rename_i hq; simp only [Bool.and_eq_true, Nat.blt_eq] at hq; omega
      · split at h
        · cases h
        · rename_i hr
          obtain ⟨_, _, h3, _⟩ := rival_eq hr
          split at h
          · omega
          · omega
          · cases h
  | c :: x, d :: y, _, _, r, .same k t, .same k' t', h => by
    simp only [eqC] at h ⊢
    split at h
    · exact eqC_ref t t' h
    · split at h
      · exact h
      · split at h
        · cases h
        · rename_i hr
          obtain ⟨h1, h2, h3, _⟩ := rival_eq hr
          split at h
          · rename_i h0
            split at h
            · rename_i hg
              simp only [Bool.and_eq_true] at hg
              rw [goes_ref t h0 h1 hg.1, goes_ref t' (by omega) h2 hg.2]; exact h
            · cases h
          · split at h
            · rename_i hg
              simp only [Bool.and_eq_true] at hg
              rw [space_ref t hg.1, space_ref t' hg.2]; exact h
            · cases h
          · cases h
theorem ltC_ref [Sig] : ∀ {a b a' b' : List Nat} {r : Bool}, Ref a a' → Ref b b' → ltC a b = some r → ltC a' b' = some r
  | _, _, _, _, _, .nil, .nil, h => h
  | _, _, _, _, _, .nil, .same _ _, h => h
  | _, _, _, _, _, .nil, .byte _ _ _, h => h
  | _, _, _, _, _, .same _ _, .nil, h => h
  | _, _, _, _, _, .byte _ _ _, .nil, h => h
  | c :: x, d :: y, _, _, r, .byte k hd t, hb, h => by
    exfalso
    have ⟨h1, h2⟩ := unknown_ge k
    simp only [ltC, k, Bool.and_false] at h
    split at h
    · rename_i hq; simp only [Bool.and_eq_true, Nat.blt_eq] at hq; omega
    · split at h
      · cases h
      · split at h
        · omega
        · cases h
  | c :: x, d :: y, _, _, r, .same k t, .byte k' hd t', h => by
    exfalso
    have ⟨h1, h2⟩ := unknown_ge k'
    simp only [ltC] at h
    split at h
    · rename_i hq
      simp only [Bool.and_eq_true] at hq
      have := Nat.eq_of_beq_eq_true hq.1
      subst this; rw [k] at k'; cases k'
    · split at h
      · rename_i hq; simp only [Bool.and_eq_true, Nat.blt_eq] at hq; omega
      · split at h
        · cases h
        · rename_i hr
          obtain ⟨_, _, h3, _⟩ := rival_eq hr
          split at h
          · omega
          · cases h
  | c :: x, d :: y, _, _, r, .same k t, .same k' t', h => by
    simp only [ltC] at h ⊢
    split at h
    · exact ltC_ref t t' h
    · split at h
      · exact h
      · split at h
        · cases h
        · rename_i hr
          obtain ⟨h1, h2, h3, _⟩ := rival_eq hr
          split at h
          · rename_i h0
            split at h
            · rename_i hg
              simp only [Bool.and_eq_true] at hg
              rw [goes_ref t h0 h1 hg.1, goes_ref t' (by omega) h2 hg.2]; exact h
            · cases h
          · cases h
theorem ltC_ok [Sig] {a b a' b' : List Nat} {r : Bool} (ha : Ref a a') (hb : Ref b b') (h : ltC a b = some r) : ltStr (expand a') (expand b') = r :=
  ltC_known ha.knows (ltC_ref ha hb h)
theorem eqC_ok [Sig] {a b a' b' : List Nat} {r : Bool} (ha : Ref a a') (hb : Ref b b') (h : eqC a b = some r) : (expand a' = expand b' ↔ r = true) :=
  eqC_known ha.knows (eqC_ref ha hb h)
end A3
