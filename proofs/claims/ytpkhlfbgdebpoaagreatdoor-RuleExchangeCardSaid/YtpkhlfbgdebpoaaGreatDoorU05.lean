/- The operations of the abstract machine are sound, second part. -/
import Derived.Test.YtpkhlfbgdebpoaaGreatDoorU04
import Derived.Great.FillDense
import Derived.Laws.BytesString
namespace A3
open Go
section
variable {P : Program} {X : List Nat} {N : Nat} {C : CC} {B : Nat} {w0 : World} {ρ : Ren} {s : St} {w : World} {v v1 v2 v3 : AV} {u1 u2 u3 : Value} {t : Tmps} {ev : Operand → Value}
theorem foldl_toList (us : Array Value) (off : Nat) (cells : Array Value) (h : off + us.size ≤ cells.size) :
    (us.zipIdx.foldl (fun cs (x : Value × Nat) => cs.setIfInBounds (off + x.2) x.1) cells).toList = cells.toList.take off ++ us.toList ++ cells.toList.drop (off + us.size) := by
  rw [← Array.foldl_toList, Array.toList_zipIdx]
  obtain ⟨h1, h2⟩ := Great.foldl_set off us.toList 0 cells
  apply List.ext_getElem?
  intro k
  rw [Array.getElem?_toList, h2 k]
  simp only [Nat.add_zero, Array.length_toList]
  by_cases hk : off ≤ k ∧ k < off + us.size ∧ k < cells.size
  · rw [if_pos hk, List.append_assoc, List.getElem?_append_right (by simp; omega), List.getElem?_append_left (by simp; omega)]
    congr 1
    simp; omega
  · rw [if_neg hk]
    rcases Nat.lt_or_ge k off with h3 | h3
    · rw [List.append_assoc, List.getElem?_append_left (by simp; omega), List.getElem?_take_of_lt h3]
      simp
    · rw [List.append_assoc, List.getElem?_append_right (by simp; omega), List.getElem?_append_right (by simp; omega), List.getElem?_drop]
      simp only [List.length_take, Array.length_toList]
      rw [Array.getElem?_toList.symm]
      congr 1
      omega
theorem over_VR [Sig] {cs m vs : List AV} {us cells : Array Value} {i : Nat} (h : over cs i vs = some m) (hc : VRs ρ cs cells.toList) (hf : cs.all AV.flat = true) (hv : VRs ρ vs us.toList) (hvf : vs.all AV.flat = true) :
    i + us.size ≤ cells.size ∧ VRs ρ m (us.zipIdx.foldl (fun cs (x : Value × Nat) => cs.setIfInBounds (i + x.2) x.1) cells).toList ∧ m.all AV.flat = true ∧ m.length = cs.length := by
  obtain ⟨hl, rfl⟩ := over_eq cs i vs m h
  have h1 : cs.length = cells.size := by simpa using hc.length
  have h2 : vs.length = us.size := by simpa using hv.length
  have hle : i + us.size ≤ cells.size := by omega
  refine ⟨hle, ?_, ?_, ?_⟩
  · rw [foldl_toList us i cells hle, h2]
    exact ((hc.take i).append hv).append (hc.drop _)
  · simp only [List.all_append, Bool.and_eq_true]
    rw [List.all_eq_true] at hf
    exact ⟨⟨List.all_eq_true.2 fun x hx => hf x (List.mem_of_mem_take hx), hvf⟩, List.all_eq_true.2 fun x hx => hf x (List.mem_of_mem_drop hx)⟩
  · simp; omega
theorem foldl_size (us : Array Value) (off : Nat) (cells : Array Value) : (us.zipIdx.foldl (fun cs (x : Value × Nat) => cs.setIfInBounds (off + x.2) x.1) cells).size = cells.size := by
  rw [← Array.foldl_toList, Array.toList_zipIdx]
  exact (Great.foldl_set off us.toList 0 cells).1
theorem fill_VR [Sig] {place place' : Nat → Option (Nat × Nat)} (hp : ∀ i o, place i = some o → place' i = some o) : ∀ {parts : List (Nat × Operand)} {ps : List (Nat × Nat × Opd)} {cs cs' : List AV} {cells : Array Value},
    cParts N place parts = some ps → (∀ p ∈ parts, ER ρ N t ev p.2) → VRs ρ cs cells.toList → cs.all AV.flat = true → A3.fill cs (evalParts t ps) = some cs' →
    ∃ cells', Instr.fill place' cells (parts.map fun p => (p.1, ev p.2)) = some cells' ∧ VRs ρ cs' cells'.toList ∧ cs'.all AV.flat = true ∧ cs'.length = cs.length
  | [], ps, cs, cs', cells, hc, _, hr, hf, h => by
    simp [cParts] at hc; subst hc
    simp [evalParts, A3.fill] at h; subst h
    exact ⟨cells, rfl, hr, hf, rfl⟩
  | (i, x) :: parts, ps, cs, cs', cells, hc, he, hr, hf, h => by
    simp only [cParts] at hc
    split at hc
    · rename_i o a m ho ha hm
      simp at hc; subst hc
      simp only [evalParts, A3.fill] at h
      split at h
      · cases h
      · rename_i vs hvs
        split at h
        · cases h
        · rename_i hlen
          have hlen : vs.length = o.2 := by have := Nat.eq_of_beq_eq_true hlen; rwa [lenN_eq] at this
          split at h
          · cases h
          · rename_i cs1 hov
            have hxr := he (i, x) (by simp) a ha
            obtain ⟨hv1, hv2⟩ := hxr.cells? hvs
            obtain ⟨hle, hr1, hf1, hl1⟩ := over_VR hov hr hf hv1 hv2
            obtain ⟨cells', hfill, hr2, hf2, hl2⟩ := fill_VR hp hm (fun p hp => he p (by simp [hp])) hr1 hf1 h
            refine ⟨cells', ?_, hr2, hf2, by omega⟩
            have hsz : (ev x).cells.size = o.2 := by rw [← hlen]; simpa using hv1.length.symm
            simp only [List.map_cons, Instr.fill, hp i o ho]
            rw [if_neg (by simp [hsz] at *; omega)]
            exact hfill
    · cases hc
theorem mapM_placesL [Sig] : ∀ (fs : List Field), fieldsC P fs = true → ∃ places : List (Nat × Nat), (fs.mapM fun (f : Field) => (do Pure.pure (f.offset, ← Go.sizeOf f.type) : Sem (Nat × Nat))).run P w = .ok places w ∧
    ∀ (i : Nat) (f : Field) (k : Nat), fs[i]? = some f → sizeC P f.type = some k → places[i]? = some (f.offset, k)
  | [], _ => ⟨[], by simp, by simp⟩
  | f :: fs, h => by
    simp only [fieldsC, List.all_cons, Bool.and_eq_true] at h
    obtain ⟨h1, h2⟩ := h
    obtain ⟨k, hk⟩ := Option.isSome_iff_exists.1 h1
    obtain ⟨ps, hps, hget⟩ := mapM_placesL fs h2
    refine ⟨(f.offset, k) :: ps, ?_, ?_⟩
    · simp only [List.mapM_cons, Sem.run_bind, run_sizeC hk, Result.andThen_ok, Sem.run_pure, hps]
    · intro i g k' hg hk'
      cases i with
      | zero => simp at hg; subst hg; rw [hk] at hk'; simp at hk'; subst hk'; rfl
      | succ i => simpa using hget i g k' (by simpa using hg) hk'
theorem mapM_places [Sig] (fs : Array Field) (h : fieldsC P fs.toList = true) : ∃ places : Array (Nat × Nat), (fs.mapM fun (f : Field) => (do Pure.pure (f.offset, ← Go.sizeOf f.type) : Sem (Nat × Nat))).run P w = .ok places w ∧
    ∀ i o, fieldC P fs i = some o → places[i]? = some o := by
  obtain ⟨ps, hps, hget⟩ := mapM_placesL (P := P) (w := w) fs.toList h
  refine ⟨ps.toArray, ?_, ?_⟩
  · rw [Array.mapM_eq_mapM_toList, Sem.run_map, hps]; rfl
  · intro i o ho
    unfold fieldC at ho
    split at ho
    · rename_i f hf
      split at ho
      · rename_i k hk
        simp at ho; subst ho
        simpa using hget i f k (by simpa using hf) hk
      · cases ho
    · cases ho
theorem build_yield [Sig] {ty : TypeId} {parts : Array (Nat × Operand)} {zero : List AV} {ps : List (Nat × Nat × Opd)} (hz : zeroCells P ty = some zero)
    (ht : (∃ fs, P.underlying ty = some (.struct fs) ∧ fieldsC P fs.toList = true ∧ cParts N (fieldC P fs) parts.toList = some ps) ∨
      (∃ n e k, P.underlying ty = some (.array n e) ∧ sizeC P e = some k ∧ cParts N (fun i => some (i * k, k)) parts.toList = some ps))
    (he : ∀ p ∈ parts.toList, ER ρ N t ev p.2) (h : buildV (A3.fill zero (evalParts t ps)) = some v) : Yield P ρ w (Instr.build ty (parts.map fun (i, x) => (i, ev x))) v := by
  obtain ⟨i, zv, hi, hzv, hc⟩ := zeroCells_eq hz
  obtain ⟨hzr, hzf⟩ := constFlats_VR (ρ := ρ) hc
  unfold buildV at h
  split at h
  · cases h
  · rename_i cs hcs
    simp at h; subst h
    have hm : (parts.map fun (i, x) => (i, ev x)).toList = parts.toList.map fun p => (p.1, ev p.2) := by simp
    rcases ht with ⟨fs, hu, hfs, hp⟩ | ⟨n, e, k, hu, hk, hp⟩
    · obtain ⟨places, hpl, hget⟩ := mapM_places (P := P) (w := w) fs hfs
      obtain ⟨cells', hfill, hr, hf, _⟩ := fill_VR (place' := (places[·]?)) hget hp he hzr hzf hcs
      refine ⟨.agg cells', ?_, .agg hr hf⟩
      simp only [Instr.build, Sem.run_bind, run_zero hi hzv, run_under hu, Result.andThen_ok, hpl, hm, hfill, Sem.run_pure]
    · obtain ⟨cells', hfill, hr, hf, _⟩ := fill_VR (place' := fun i => some (i * k, k)) (fun i o h => h) hp he hzr hzf hcs
      refine ⟨.agg cells', ?_, .agg hr hf⟩
      simp only [Instr.build, Sem.run_bind, run_zero hi hzv, run_under hu, Result.andThen_ok, run_sizeC hk, hm, hfill, Sem.run_pure]
def Makes [Sig] (P : Program) (ρ : Ren) (w : World) (m : Sem Value) (cs : List AV) (mk : Pos → AV) (elem : TypeId) : Prop :=
  ∃ (arr : Array Value) (u : Value), VRs ρ cs arr.toList ∧ cs.all AV.flat = true ∧ m.run P w = .ok u (w.alloc (.cells arr elem (0, 0))) ∧
    ∀ (ρ' : Ren) (n : Pos), ρ' n = some (w.heap.size, ⟨0, arr.size⟩) → VR ρ' (mk n) u
theorem run_newRow (elem : TypeId) (arr : Array Value) : (newRow elem arr).run P w = .ok ⟨w.heap.size, 0, none⟩ (w.alloc (.cells arr elem (0, 0))) := by
  simp [newRow]
theorem alloc_makes [Sig] {e : TypeId} {z : List AV} (hz : zeroCells P e = some z) : Makes P ρ w (Instr.alloc e true (.tuple #[])) z (fun n => .ptr (some (n, 0))) e := by
  obtain ⟨i, zv, hi, hzv, hc⟩ := zeroCells_eq hz
  obtain ⟨hzr, hzf⟩ := constFlats_VR (ρ := ρ) hc
  refine ⟨zv.cells, .pointer (some ⟨w.heap.size, 0, none⟩), hzr, hzf, ?_, fun ρ' n h => VR.ptr (o := 0) h⟩
  simp only [Instr.alloc, Sem.run_bind, run_zero hi hzv, Result.andThen_ok, newVar, run_newRow, Sem.run_pure]
theorem box_makes [Sig] {e : TypeId} {cs : List AV} (hx : VR ρ v1 u1) (h : v1.cells? = some cs) : Makes P ρ w (Instr.box e u1) cs (fun n => .ptr (some (n, 0))) e := by
  obtain ⟨h1, h2⟩ := hx.cells? h
  refine ⟨u1.cells, .pointer (some ⟨w.heap.size, 0, none⟩), h1, h2, ?_, fun ρ' n h => VR.ptr (o := 0) h⟩
  simp only [Instr.box, Sem.run_bind, Result.andThen_ok, newVar, run_newRow, Sem.run_pure]
end
end A3
namespace A3
open Go
section
variable {P : Program} {X : List Nat} {N : Nat} {C : CC} {B : Nat} {w0 : World} {ρ : Ren} {s : St} {w : World} {v v1 v2 v3 : AV} {u1 u2 u3 : Value} {t : Tmps} {ev : Operand → Value}
theorem rep_length (z : List AV) : ∀ n, (rep z n).length = n * z.length
  | 0 => by simp [rep]
  | n + 1 => by simp only [rep, app_eq, List.length_append, rep_length z n, Nat.add_mul, Nat.one_mul]; omega
theorem rep_get (z : List AV) : ∀ (n i : Nat), i < n * z.length → (rep z n)[i]? = z[i % z.length]?
  | 0, i, h => by simp at h
  | n + 1, i, h => by
    simp only [rep, app_eq]
    rcases Nat.lt_or_ge i z.length with h1 | h1
    · rw [List.getElem?_append_left h1, Nat.mod_eq_of_lt h1]
    · rw [List.getElem?_append_right h1, rep_get z n (i - z.length) (by rw [Nat.add_mul, Nat.one_mul] at h; omega)]
      congr 1
      exact (Nat.mod_eq_sub_mod h1).symm
theorem rep_flat {z : List AV} (h : z.all AV.flat = true) : ∀ n, (rep z n).all AV.flat = true
  | 0 => rfl
  | n + 1 => by simp only [rep, app_eq, List.all_append, h, rep_flat h n, Bool.and_self]
theorem rep_VR [Sig] {z : List AV} {zc : Array Value} (h : VRs ρ z zc.toList) (n : Nat) : VRs ρ (rep z n) ((Array.range (n * zc.size)).map fun i => zc[i % zc.size]!).toList := by
  have hl : z.length = zc.size := by simpa using h.length
  apply VRs.of_get
  · simp [rep_length, hl]
  · intro i a u ha hu
    have hlt : i < n * z.length := by
      rcases Nat.lt_or_ge i (n * z.length) with h1 | h1
      · exact h1
      · rw [List.getElem?_eq_none (by rw [rep_length]; exact h1)] at ha; cases ha
    rw [rep_get z n i hlt] at ha
    obtain ⟨u', hu', hr⟩ := h.get _ _ ha
    have hpos : 0 < zc.size := by
      rcases Nat.eq_zero_or_pos zc.size with h0 | h0
      · rw [hl, h0] at hlt; simp at hlt
      · exact h0
    have hlt' : i < n * zc.size := by rw [← hl]; exact hlt
    have hm : i % zc.size < zc.size := Nat.mod_lt _ hpos
    rw [Array.getElem?_toList, Array.getElem?_map, Array.getElem?_range, if_pos hlt'] at hu
    simp only [Option.map_some, Option.some.injEq] at hu
    rw [hl, Array.getElem?_toList] at hu'
    rw [getElem!_pos zc _ hm] at hu
    rw [Array.getElem?_eq_getElem hm] at hu'
    simp only [Option.some.injEq] at hu'
    rw [← hu, hu']; exact hr
theorem buildSlice_makes [Sig] {ty e : TypeId} {parts : Array (Nat × Operand)} {z : List AV} {ps : List (Nat × Nat × Opd)} {len k : Nat} {cs : List AV} (hu : P.underlying ty = some (.slice e)) (hz : zeroCells P e = some z) (hk : sizeC P e = some k)
    (hlim : len * k ≤ 16777216) (hzk : z.length = k) (hp : cParts N (fun i => some (i * k, k)) parts.toList = some ps) (he : ∀ p ∈ parts.toList, ER ρ N t ev p.2) (h : A3.fill (rep z len) (evalParts t ps) = some cs) :
    Makes P ρ w (Instr.buildSlice ty len (parts.map fun (i, x) => (i, ev x))) cs (fun n => .slice (some (n, 0)) len len none) e := by
  obtain ⟨i, zv, hi, hzv, hc⟩ := zeroCells_eq hz
  obtain ⟨hzr, hzf⟩ := constFlats_VR (ρ := ρ) hc
  have hzs : zv.cells.size = k := by rw [← hzk]; simpa using hzr.length.symm
  have hm : (parts.map fun (i, x) => (i, ev x)).toList = parts.toList.map fun p => (p.1, ev p.2) := by simp
  have hrep := rep_VR hzr len
  obtain ⟨cells', hfill, hr, hf, hlen⟩ := fill_VR (place' := fun i => some (i * k, k)) (fun i o h => h) hp he hrep (rep_flat hzf len) h
  refine ⟨cells', .slice (some ⟨w.heap.size, 0, none⟩) len len, hr, hf, ?_, fun ρ' n hn => .slice (Nat.le_refl _) (Nat.le_refl _) (fun _ => rfl) fun _ => ⟨_, _, hn, rfl, by simp⟩⟩
  have hlim' : ¬ len * k > 2 ^ 24 := by omega
  by_cases h0 : len * k = 0
  · have hz0 : (Array.range (len * k)).map (fun i => (#[] : Array Value)[i % (#[] : Array Value).size]!) = (Array.range (len * zv.cells.size)).map fun i => zv.cells[i % zv.cells.size]! := by
      rw [hzs, h0]; simp
    simp only [Instr.buildSlice, Sem.run_bind, run_under hu, Result.andThen_ok, run_sizeC hk, Sem.run_ite, if_neg hlim', Sem.run_pure, if_pos h0, hm, hz0, hfill, run_newRow]
  · have hz0 : (Array.range (len * k)).map (fun i => zv.cells[i % zv.cells.size]!) = (Array.range (len * zv.cells.size)).map fun i => zv.cells[i % zv.cells.size]! := by
      rw [hzs]
    simp only [Instr.buildSlice, Sem.run_bind, run_under hu, Result.andThen_ok, run_sizeC hk, Sem.run_ite, if_neg hlim', Sem.run_pure, if_neg h0, run_zero hi hzv, hm, hz0, hfill, run_newRow]
theorem makeSlice_makes [Sig] {ty e : TypeId} {z : List AV} {l c : Nat} {i : TypeInfo} (hu : P.underlying ty = some (.slice e)) (hz : zeroCells P e = some z) (hi : P.info? e = some i) (hb : i.bytes ≤ 100000) (hzk : z.length = i.size)
    (h1 : VR ρ v1 u1) (h2 : VR ρ v2 u2) (hl : natOf v1 = some l) (hc : natOf v2 = some c) (hlc : l ≤ c) (hc' : c ≤ 100000) :
    Makes P ρ w (Instr.makeSlice ty u1 u2) (rep z c) (fun n => .slice (some (n, 0)) l c none) e := by
  obtain ⟨i', zv, hi', hzv, hcz⟩ := zeroCells_eq hz
  rw [hi] at hi'; simp only [Option.some.injEq] at hi'; subst hi'
  obtain ⟨hzr, hzf⟩ := constFlats_VR (ρ := ρ) hcz
  have hzs : zv.cells.size = i.size := by rw [← hzk]; simpa using hzr.length.symm
  obtain ⟨k1, rfl⟩ := h1.of_nat hl
  obtain ⟨k2, rfl⟩ := h2.of_nat hc
  have hwl : IntKind.i64.wrap (l : Int) = l := by
    have : (l : Int) < 2 ^ 63 := by omega
    simp [IntKind.wrap, IntKind.bits, IntKind.signed]; omega
  have hwc : IntKind.i64.wrap (c : Int) = c := by
    have : (c : Int) < 2 ^ 63 := by omega
    simp [IntKind.wrap, IntKind.bits, IntKind.signed]; omega
  have hmul : (i.bytes : Int) * (c : Int) ≤ 100000 * 100000 := by
    have : i.bytes * c ≤ 100000 * 100000 := Nat.mul_le_mul hb hc'
    omega
  have hbad : ¬ ((decide ((c : Int) < 0) || decide ((i.bytes : Int) * (c : Int) > 2 ^ 48) || decide ((l : Int) < 0) || decide ((l : Int) > (c : Int))) = true) := by
    simp only [Bool.or_eq_true, decide_eq_true_eq, not_or]
    omega
  refine ⟨(Array.range (c * zv.cells.size)).map fun j => zv.cells[j % zv.cells.size]!, .slice (some ⟨w.heap.size, 0, none⟩) l c, rep_VR hzr c, rep_flat hzf c, ?_, fun ρ' n hn => .slice hlc (Nat.le_refl _) (fun _ => rfl) fun _ => ⟨_, _, hn, rfl, by simp⟩⟩
  have hsz : sizeC P e = some i.size := by simp [sizeC, hi]
  simp only [Instr.makeSlice, asInt, Sem.run_bind, run_under hu, asIntOf_nat, Result.andThen_ok, Sem.run_pure, run_info hi, hwl, hwc]
  rw [if_neg hbad]
  by_cases h0 : c * i.size = 0
  · have hz0 : (Array.range (c * i.size)).map (fun x => (#[] : Array Value)[x % (#[] : Array Value).size]!) = (Array.range (c * zv.cells.size)).map fun j => zv.cells[j % zv.cells.size]! := by
      rw [hzs, h0]; simp
    simp only [Sem.run_bind, run_askRoom, Result.andThen_ok, run_sizeC hsz, Int.toNat_natCast, Sem.run_ite, if_pos h0, Sem.run_pure, hz0, run_newRow]
  · have hz0 : (Array.range (c * i.size)).map (fun j => zv.cells[j % zv.cells.size]!) = (Array.range (c * zv.cells.size)).map fun j => zv.cells[j % zv.cells.size]! := by
      rw [hzs]
    simp only [Sem.run_bind, run_askRoom, Result.andThen_ok, run_sizeC hsz, Int.toNat_natCast, Sem.run_ite, if_neg h0, Sem.run_pure, run_zero hi hzv, hz0, run_newRow]
theorem makeMap_run [Sig] {ty kt e : TypeId} {r : Option Operand} (hu : P.underlying ty = some (.map kt e)) (hr : r = none ∨ ∃ k n, r = some (.const (.int k n))) (hev : ∀ c, ev (.const c) = c) :
    (Instr.makeMap ty (r.map ev)).run P w = .ok (.map (some w.heap.size)) (w.alloc (.map #[] 0)) := by
  rcases hr with rfl | ⟨k, n, rfl⟩
  · simp [Instr.makeMap]
  · simp [Instr.makeMap, run_under hu, hev, asInt, asIntOf]
theorem storeR_run [Sig] {ty : TypeId} {n : Nat} {s' : St} (hs : sizeC P ty = some n) (hw : WR C B w0 ρ s w) (hx : VR ρ v1 u1) (hy : VR ρ v2 u2) (h : storeR n v1 v2 s = some (v, s')) :
    ∃ w', v = .dead ∧ (Instr.storeAt ty u1 u2).run P w = .ok () w' ∧ WR C B w0 ρ s' w' ∧ ((s' = s ∧ w' = w) ∨ ∃ m off b o vs us, ρ m = some (b, o) ∧ s.store (m, off) vs = some s' ∧ w' = setCells w b (o.off + off) us) := by
  unfold storeR at h
  split at h
  · rename_i a vs hvs
    obtain ⟨m, off⟩ := a
    obtain ⟨b, base, hb, rfl⟩ := hx.of_ptr
    obtain ⟨hv1, hv2⟩ := hy.cells? hvs
    split at h
    · rename_i hlen
      have hlen : vs.length = n := by have := Nat.eq_of_beq_eq_true hlen; rwa [lenN_eq] at this
      have hsz : u2.cells.size = n := by rw [← hlen]; simpa using hv1.length.symm
      have hsv : ∀ w, (storeVar ty ⟨b, base.off + off, none⟩ u2).run P w = (storeCells ⟨b, base.off + off, none⟩ u2.cells.toList 0).run P w := by
        intro w
        simp only [storeVar, Sem.run_bind, run_sizeC hs, Result.andThen_ok, Sem.run_ite, hsz, ne_eq, not_true_eq_false, if_false]
      split at h
      · simp at h
        obtain ⟨rfl, rfl⟩ := h
        have : u2.cells.toList = [] := by
          have : u2.cells.toList.length = 0 := by simpa using hsz
          exact List.length_eq_zero_iff.1 this
        exact ⟨w, rfl, by simp only [Instr.storeAt, Instr.sureAddr, Sem.run_bind, Sem.run_pure, Result.andThen_ok, hsv, this, storeCells], hw, .inl ⟨rfl, rfl⟩⟩
      · split at h
        · cases h
        · rename_i s1 hst
          simp at h
          obtain ⟨rfl, rfl⟩ := h
          obtain ⟨hw', hc, hf⟩ := hw.store hst hb hv1 hv2
          refine ⟨_, rfl, ?_, hw', .inr ⟨m, off, b, base, vs, u2.cells.toList, hb, hst, rfl⟩⟩
          have := run_storeCells P b u2.cells.toList w (base.off + off) 0 (hv1.oneCell hv2) (by simpa using hc) (by simpa using hf)
          simp only [Instr.storeAt, Instr.sureAddr, Sem.run_bind, Sem.run_pure, Result.andThen_ok, hsv, this, Nat.add_zero]
    · cases h
  · cases h
theorem first_run [Sig] {size : Nat} {n : Nat} {cs : List AV} (hw : WR C B w0 ρ s w) (hx : VR ρ v1 u1) (h : s.first size v1 n = some cs) (hn : ∀ a l c f, v1 = .slice a l c f → n ≤ l) :
    ∃ us, (Builtin.firstCells size n u1).run P w = .ok us w ∧ VRs ρ cs us.toList ∧ cs.all AV.flat = true := by
  unfold St.first at h
  split at h
  · rename_i a l c f
    have hnl := hn _ _ _ _ rfl
    cases n with
    | zero =>
      simp at h; subst h
      cases hx with
      | sliceN => exact ⟨#[], rfl, .nil, rfl⟩
      | slice => exact ⟨#[], by simp [Builtin.firstCells, loadCells, loadCellsFrom], .nil, rfl⟩
    | succ n =>
      simp only at h
      split at h
      · cases h
      · rename_i a
        obtain ⟨m, off⟩ := a
        obtain ⟨A, c', rfl, hl, hc, hs, hA⟩ := hx.of_slice
        obtain ⟨b, base, hb, rfl, _⟩ := hA (by omega)
        split at h
        · cases h
        · rename_i cs0 hcs
          split at h
          · rename_i hat
            simp at h; subst h
            rw [dropN_eq, atLeast_iff, List.length_drop] at hat
            rw [dropN_eq, takeN_eq]
            rcases Nat.eq_zero_or_pos ((n + 1) * size) with h0 | h0
            · refine ⟨#[], ?_, by rw [h0]; simp; exact .nil, by rw [h0]; simp⟩
              simp only [Builtin.firstCells, h0, loadCells, loadCellsFrom, Sem.run_pure]
            · obtain ⟨us, hul, hur, huf, hcell⟩ := hw.read hb hcs off ((n + 1) * size) (by omega)
              have hrun := run_loadCells_list (P := P) w ⟨b, base.off + off, none⟩ us (fun j v hj => by rw [addr_add]; exact hcell j v hj)
              rw [hul] at hrun
              exact ⟨us.toArray, by simp only [Builtin.firstCells, hrun], by simpa using hur, huf⟩
          · cases h
  · rename_i b
    split at h
    · skip
      simp at h; subst h
      rename_i hfix
      simp only [Bool.and_eq_true] at hfix
      obtain ⟨bs, b', rfl, href, hlen, hfix', hb⟩ := hx.of_strF hfix.2
      obtain ⟨h1, h2⟩ := byteCells_VR (ρ := ρ) (href.take n) (fixedS_take hfix.2 n)
      refine ⟨(bs.extract 0 n).data.map fun b => .int .u8 b.toNat, by simp [Builtin.firstCells], ?_, ?_⟩
      · have : (bs.extract 0 n).data.toList = bs.data.toList.take n := by simp [ByteArray.data_extract, List.extract]
        rw [Array.toList_map, this, takeN_eq]
        have hm : ((bs.data.toList.take n).map fun b => Value.int .u8 b.toNat) = ((b'.take n).map byteN).map fun n : Nat => Value.int .u8 (n : Int) := by
          rw [List.map_take, map_data, hb, ← List.map_take, ← List.map_take]
        rw [hm]; exact h1
      · rw [takeN_eq]; exact h2
    · cases h
  · cases h
end
end A3
namespace A3
open Go
def Tys (w w' : World) : Prop := w.heap.size ≤ w'.heap.size ∧ (∀ (b : Nat) (cells : Array Value) (e : TypeId) (fz : Nat × Nat), w.heap[b]? = some (Go.Obj.cells cells e fz) →
    ∃ (cells' : Array Value) (fz' : Nat × Nat), w'.heap[b]? = some (Go.Obj.cells cells' e fz') ∧ cells'.size = cells.size) ∧ ∀ (b : Nat) (d : Option (List Deferred)), w.heap[b]? = some (Go.Obj.deferred d) → w'.heap[b]? = some (Go.Obj.deferred d)
theorem Tys.refl (w : World) : Tys w w := ⟨Nat.le_refl _, fun _ c _ f h => ⟨c, f, h, rfl⟩, fun _ _ h => h⟩
theorem Tys.trans {a b c : World} (h : Tys a b) (h' : Tys b c) : Tys a c :=
  ⟨Nat.le_trans h.1 h'.1, fun n cells e fz hn => let ⟨c1, f1, h1, s1⟩ := h.2.1 n cells e fz hn; let ⟨c2, f2, h2, s2⟩ := h'.2.1 n c1 e f1 h1; ⟨c2, f2, h2, by rw [s2, s1]⟩, fun n d hn => h'.2.2 n d (h.2.2 n d hn)⟩
theorem Tys.alloc [Sig] (w : World) (o : Go.Obj) : Tys w (w.alloc o) := by
  have key : ∀ (b : Nat) (x : Go.Obj), w.heap[b]? = some x → (w.alloc o).heap[b]? = some x := by
    intro b x h
    rw [heap_alloc_ne]
    · exact h
    · intro e'; subst e'
      rw [Array.getElem?_eq_none (Nat.le_refl _)] at h; cases h
  exact ⟨by simp, fun b cells e fz h => ⟨cells, fz, key _ _ h, rfl⟩, fun b d h => key _ _ h⟩
theorem Tys.setCell (w : World) (a : Addr) (v : Value) : Tys w (w.setCell a v) := by
  refine ⟨by simp [World.setCell], fun b cells e fz h => ?_, fun b d h => ?_⟩
  · simp only [World.setCell, Array.getElem?_modify, h]
    split
    · exact ⟨_, _, rfl, by split <;> simp⟩
    · exact ⟨_, _, rfl, rfl⟩
  · simp only [World.setCell, Array.getElem?_modify, h]
    split <;> rfl
theorem Tys.setCells [Sig] (b : Nat) : ∀ (us : List Value) (w : World) (off : Nat), Tys w (setCells w b off us)
  | [], w, _ => Tys.refl w
  | u :: us, w, _ => (Tys.setCell w _ u).trans (Tys.setCells b us _ _)
theorem Tys.freeze [Sig] (w : World) (a : Addr) (k : Nat) : Tys w (w.freeze a k) := by
  refine ⟨by rw [freeze_size]; exact Nat.le_refl _, fun b cells e fz h => ?_, fun b d h => ?_⟩
  · unfold World.freeze
    split
    · exact ⟨_, _, h, rfl⟩
    · simp only [Array.getElem?_modify, h]
      split
      · exact ⟨_, _, rfl, rfl⟩
      · exact ⟨_, _, rfl, rfl⟩
  · unfold World.freeze
    split
    · exact h
    · simp only [Array.getElem?_modify, h]
      split <;> rfl
theorem Tys.setObj [Sig] {w : World} {r : Nat} {o : Go.Obj} (h : ∀ c e f, w.heap[r]? ≠ some (.cells c e f)) (h' : ∀ d, w.heap[r]? ≠ some (.deferred d)) : Tys w { w with heap := w.heap.setIfInBounds r o } := by
  refine ⟨by simp, fun b cells e fz hb => ?_, fun b d hb => ?_⟩
  · rw [heap_set_ne]
    · exact ⟨_, _, hb, rfl⟩
    · intro e'; subst e'; exact absurd hb (h _ _ _)
  · rw [heap_set_ne]
    · exact hb
    · intro e'; subst e'; exact absurd hb (h' _)
section
variable {P : Program} {X : List Nat} {C : CC} {B : Nat} {w0 : World} {ρ ρ' : Ren} {s s' : St} {w w' : World}
structure HR [Sig] (C : CC) (B : Nat) (w0 : World) (X : List Nat) (ρ : Ren) (s : St) (w : World) : Prop where
  wr : WR C B w0 ρ s w
  ty : TyR X ρ s w
def Obj.loose : Obj → Bool
  | .cells _ false none => true
  | .map _ => true
  | _ => false
structure Ext (ρ : Ren) (s : St) (ρ' : Ren) (s' : St) : Prop where
  le : ρ.le ρ'
  next : s.next.toNat ≤ s'.next.toNat
  loose : ∀ n o, ρ n = none → s.heap.get n = some o → o.loose = true → ρ' n = none ∧ s'.heap.get n = some o
  ty : ∀ n : Pos, n.toNat < s.next.toNat → s'.ty.get n = s.ty.get n
theorem Ext.refl (ρ : Ren) (s : St) : Ext ρ s ρ s := ⟨Ren.le_refl ρ, Nat.le_refl _, fun _ _ h h' _ => ⟨h, h'⟩, fun _ _ => rfl⟩
theorem Ext.trans {ρ'' : Ren} {s'' : St} (h : Ext ρ s ρ' s') (h' : Ext ρ' s' ρ'' s'') : Ext ρ s ρ'' s'' :=
  ⟨Ren.le_trans h.le h'.le, Nat.le_trans h.next h'.next, fun n o hn ho hl => let ⟨h1, h2⟩ := h.loose n o hn ho hl; h'.loose n o h1 h2 hl,
    fun n hn => by rw [h'.ty n (by have := h.next; omega), h.ty n hn]⟩
theorem TyR.step (h : TyR X ρ s w) (ht : Tys w w') (hty : s'.ty = s.ty) (hn : s.next.toNat ≤ s'.next.toNat)
    (hh : ∀ n b o cs ro, ρ n = some (b, o) → s'.heap.get n = some (.cells cs ro none) → ∃ cs0 ro0, s.heap.get n = some (.cells cs0 ro0 none) ∧ cs0.length = cs.length) : TyR X ρ s' w' := by
  constructor
  · intro n t b o hnt hρ
    rw [hty] at hnt
    obtain ⟨cells, fz, hc, hl⟩ := h.is n t b o hnt hρ
    obtain ⟨cells', fz', hc', hs⟩ := ht.2.1 b cells t fz hc
    refine ⟨cells', fz', hc', fun cs ro hcs => ?_⟩
    obtain ⟨cs0, ro0, h0, hlen⟩ := hh n b o cs ro hρ hcs
    obtain ⟨h1, h2⟩ := hl cs0 ro0 h0
    exact ⟨h1, by rw [hs, ← h2, hlen]⟩
  · intro n hn'
    rw [hty]; exact h.fresh n (by omega)
  · intro b hb; exact ht.2.2 b _ (h.df b hb)
theorem St.tag_heap (s : St) (t : Option Nat) : (s.tag t).heap = s.heap := by cases t <;> rfl
theorem St.tag_next (s : St) (t : Option Nat) : (s.tag t).next = s.next := by cases t <;> rfl
theorem St.tag_ty (s : St) (t : Option Nat) (n : Pos) : (s.tag t).ty.get n = if n = s.next ∧ t.isSome then t else s.ty.get n := by
  cases t with
  | none => simp [St.tag]
  | some t =>
    simp only [St.tag, T.get_set, Option.isSome_some, and_true]
    by_cases h : s.next = n
    · subst h; simp
    · rw [if_neg h, if_neg (Ne.symm h)]
theorem WR.tag [Sig] (h : WR C B w0 ρ s w) (t : Option Nat) : WR C B w0 ρ (s.tag t) w := by
  cases t with
  | none => exact h
  | some t => exact ⟨h.keep, h.size, h.nxt, h.dom, h.cells, h.own, h.thaw, h.tot, h.sep, h.grp, h.ver, h.ends, h.map, h.loop, h.inj, h.plain, h.io⟩
theorem HR.grow [Sig] (h : HR C B w0 X ρ s w) (t : Option Nat) (o : Obj) (ho : o.plain = true) : HR C B w0 X ρ ((s.tag t).alloc o) w ∧ Ext ρ s ρ ((s.tag t).alloc o) := by
  have hsucc := Pos.toNat_succ s.next
  have hnx : ((s.tag t).alloc o).next = s.next.succ := by simp [St.alloc, St.tag_next]
  have hty : ∀ n, ((s.tag t).alloc o).ty.get n = if n = s.next ∧ t.isSome then t else s.ty.get n := fun n => St.tag_ty s t n
  refine ⟨⟨(h.wr.tag t).grow o ho, ⟨?_, ?_, h.ty.df⟩⟩, ⟨Ren.le_refl ρ, by rw [hnx]; omega, ?_, ?_⟩⟩
  · intro n t' b o' hn hρ
    have hne : n ≠ s.next := by
      intro e; subst e
      have := (h.wr.nxt _ (Nat.le_refl _)).2
      rw [hρ] at this; cases this
    rw [hty, if_neg (fun hh => hne hh.1)] at hn
    obtain ⟨cells, fz, hc, hl⟩ := h.ty.is n t' b o' hn hρ
    refine ⟨cells, fz, hc, fun cs ro hcs => hl cs ro ?_⟩
    rw [St.alloc_get, St.tag_next, if_neg (Ne.symm hne), St.tag_heap] at hcs
    exact hcs
  · intro n hn
    rw [hnx] at hn
    rw [hty, if_neg, h.ty.fresh n (by omega)]
    rintro ⟨rfl, _⟩; omega
  · intro n o' hρ hn _
    refine ⟨hρ, ?_⟩
    rw [St.alloc_get, St.tag_next, if_neg, St.tag_heap]
    · exact hn
    · intro e; subst e
      have := (h.wr.nxt _ (Nat.le_refl _)).1
      rw [hn] at this; cases this
  · intro n hn
    rw [hty, if_neg]
    rintro ⟨rfl, _⟩; omega
theorem HR.bindCells [Sig] (h : HR C B w0 X ρ s w) {n : Pos} {cs : List AV} {g : Option (Pos × Nat)} (hn : s.heap.get n = some (.cells cs false g)) (hρ : ρ n = none)
    (elem : TypeId) (arr : Array Value) (fz : Nat × Nat) (us rest : List Value) (harr : arr.toList = us ++ rest) (hr : VRs ρ cs us) (hf : cs.all AV.flat = true) (hfz : fz.1 = fz.2 ∨ (arr.size ≤ fz.1 ∧ g ≠ none))
    (ht : ∀ t, s.ty.get n = some t → t = elem) (hg : g = none → rest = []) :
    HR C B w0 X (ρ.ext n (w.heap.size, ⟨0, arr.size⟩)) s (w.alloc (.cells arr elem fz)) := by
  refine ⟨h.wr.bindCells hn hρ elem arr fz us rest harr hr hf hfz, ⟨?_, h.ty.fresh, fun b hb => (Tys.alloc w _).2.2 b _ (h.ty.df b hb)⟩⟩
  intro m t b o hm hb
  rcases Ren.ext_cases hb with ⟨rfl, e⟩ | ⟨hne, hb⟩
  · simp only [Prod.mk.injEq] at e
    obtain ⟨rfl, rfl⟩ := e
    have := ht t hm; subst this
    refine ⟨arr, fz, heap_alloc_new w _, fun cs' ro hcs => ?_⟩
    rw [hn] at hcs
    simp only [Option.some.injEq, Obj.cells.injEq] at hcs
    obtain ⟨rfl, _, rfl⟩ := hcs
    have hrest := hg rfl
    subst hrest
    have h1 := hr.length
    have h2 : arr.toList.length = us.length := by rw [harr]; simp
    exact ⟨rfl, by rw [h1, ← h2]; simp⟩
  · obtain ⟨cells, fz', hc, hl⟩ := h.ty.is m t b o hm hb
    refine ⟨cells, fz', ?_, hl⟩
    rw [heap_alloc_ne (Nat.ne_of_lt (h.wr.dom _ _ _ hb))]; exact hc
theorem Makes.late [Sig] {m : Sem Value} {cs : List AV} {mk : Pos → AV} {elem : TypeId} (hm : Makes P ρ w m cs mk elem) (h : HR C B w0 X ρ s w) {n : Pos} (hn : s.heap.get n = some (fresh cs)) (hρ : ρ n = none)
    (ht : ∀ t, s.ty.get n = some t → t = elem) : ∃ x u w', m.run P w = .ok u w' ∧ HR C B w0 X (ρ.ext n x) s w' ∧ VR (ρ.ext n x) (mk n) u := by
  obtain ⟨arr, u, hr, hf, hrun, hv⟩ := hm
  exact ⟨_, u, _, hrun, h.bindCells hn hρ elem arr (0, 0) arr.toList [] (by simp) hr hf (.inl rfl) ht (fun _ => rfl), hv _ _ Ren.ext_same⟩
theorem HR.store [Sig] (h : HR C B w0 X ρ s w) {n : Pos} {off b : Nat} {o : Bs} {vs : List AV} {us : List Value} (hs : s.store (n, off) vs = some s') (hn : ρ n = some (b, o)) (hv : VRs ρ vs us) (hf : vs.all AV.flat = true) :
    HR C B w0 X ρ s' (setCells w b (o.off + off) us) ∧ Ext ρ s ρ s' ∧ (∀ j, j < us.length → ∃ x, w.cell? ⟨b, o.off + off + j, none⟩ = some x) ∧ (∀ j, j < us.length → w.frozen? ⟨b, o.off + off + j, none⟩ = false) := by
  obtain ⟨hw', hc, hfz⟩ := h.wr.store hs hn hv hf
  obtain ⟨cs, cs', g, hget, hov, hcase⟩ := St.store_eq hs
  obtain ⟨hlen, hcs'⟩ := over_eq cs off vs cs' hov
  have hsame : cs'.length = cs.length := by rw [hcs']; simp; omega
  have hty : s'.ty = s.ty := by rcases hcase with ⟨_, e⟩ | ⟨_, _, _, _, _, _, e⟩ <;> rw [e] <;> rfl
  have hnx : s'.next = s.next := by rcases hcase with ⟨_, e⟩ | ⟨_, _, _, _, _, _, e⟩ <;> rw [e] <;> rfl
  have hold : ∀ m x, m ≠ n → (∀ a b c, x ≠ .grp a b c) → (s'.heap.get m = some x ↔ s.heap.get m = some x) := by
    intro m x hm hx
    rcases hcase with ⟨_, e⟩ | ⟨gg, k, fl, hg, hgg, _, e⟩
    · subst e; rw [St.put_get, if_neg (Ne.symm hm)]
    · subst e
      rw [St.put_get]
      by_cases hmg : gg = m
      · subst hmg
        rw [if_pos rfl]
        constructor
        · intro hh; simp only [Option.some.injEq] at hh; exact absurd hh.symm (hx _ _ _)
        · intro hh; rw [hgg] at hh; simp only [Option.some.injEq] at hh; exact absurd hh.symm (hx _ _ _)
      · rw [if_neg hmg, St.put_get, if_neg (Ne.symm hm)]
  refine ⟨⟨hw', h.ty.step (Tys.setCells b us w _) hty (by rw [hnx]; exact Nat.le_refl _) ?_⟩, ⟨Ren.le_refl ρ, by rw [hnx]; exact Nat.le_refl _, ?_, fun m _ => by rw [hty]⟩, hc, hfz⟩
  · intro m b' o' cs1 ro hm h1
    by_cases hmn : m = n
    · subst hmn
      rcases hcase with ⟨hg, e⟩ | ⟨gg, k, fl, hg, hgg, _, e⟩
      · subst e; subst hg
        rw [St.put_get, if_pos rfl] at h1
        simp only [Option.some.injEq, Obj.cells.injEq] at h1
        obtain ⟨rfl, _, _⟩ := h1
        exact ⟨cs, false, hget, hsame.symm⟩
      · subst e
        rw [St.put_get] at h1
        split at h1
        · cases h1
        · rw [St.put_get, if_pos rfl] at h1
          simp at h1
    · exact ⟨cs1, ro, (hold m _ hmn (by intros; simp)).1 h1, rfl⟩
  · intro m x hm hx hl
    refine ⟨hm, ?_⟩
    have hmn : m ≠ n := by intro e; subst e; rw [hn] at hm; cases hm
    exact (hold m x hmn (by intro a b c e; subst e; simp [Obj.loose] at hl)).2 hx
theorem storeR_acts [Sig] {ty : TypeId} {n : Nat} {v v1 v2 : AV} {u1 u2 : Value} (hs : sizeC P ty = some n) (h : HR C B w0 X ρ s w) (hx : VR ρ v1 u1) (hy : VR ρ v2 u2) (hst : storeR n v1 v2 s = some (v, s')) :
    ∃ w', v = .dead ∧ (Instr.storeAt ty u1 u2).run P w = .ok () w' ∧ HR C B w0 X ρ s' w' ∧ Ext ρ s ρ s' := by
  unfold storeR at hst
  split at hst
  · rename_i a vs hvs
    obtain ⟨m, off⟩ := a
    obtain ⟨b, base, hb, rfl⟩ := hx.of_ptr
    obtain ⟨hv1, hv2⟩ := hy.cells? hvs
    split at hst
    · rename_i hlen
      have hlen : vs.length = n := by have := Nat.eq_of_beq_eq_true hlen; rwa [lenN_eq] at this
      have hsz : u2.cells.size = n := by rw [← hlen]; simpa using hv1.length.symm
      have hsv : ∀ w, (storeVar ty ⟨b, base.off + off, none⟩ u2).run P w = (storeCells ⟨b, base.off + off, none⟩ u2.cells.toList 0).run P w := by
        intro w
        simp only [storeVar, Sem.run_bind, run_sizeC hs, Result.andThen_ok, Sem.run_ite, hsz, ne_eq, not_true_eq_false, if_false]
      split at hst
      · simp at hst
        obtain ⟨rfl, rfl⟩ := hst
        have : u2.cells.toList = [] := by
          have : u2.cells.toList.length = 0 := by simpa using hsz
          exact List.length_eq_zero_iff.1 this
        exact ⟨w, rfl, by simp only [Instr.storeAt, Instr.sureAddr, Sem.run_bind, Sem.run_pure, Result.andThen_ok, hsv, this, storeCells], h, Ext.refl _ _⟩
      · split at hst
        · cases hst
        · rename_i s1 hst1
          simp at hst
          obtain ⟨rfl, rfl⟩ := hst
          obtain ⟨hw', hext, hc, hf⟩ := h.store hst1 hb hv1 hv2
          refine ⟨_, rfl, ?_, hw', hext⟩
          have := run_storeCells P b u2.cells.toList w (base.off + off) 0 (hv1.oneCell hv2) (by simpa using hc) (by simpa using hf)
          simp only [Instr.storeAt, Instr.sureAddr, Sem.run_bind, Sem.run_pure, Result.andThen_ok, hsv, this, Nat.add_zero]
    · cases hst
  · cases hst
theorem run_lenOf [Sig] {v : AV} {u : Value} {n : Nat} (hx : VR ρ v u) (h : lenOf v = some n) : (Builtin.lenOf u).run P w = .ok n w := by
  unfold A3.lenOf at h
  split at h
  · simp at h; subst h; cases hx <;> rfl
  · rename_i b
    split at h
    · rename_i hfix
      simp at h; subst h
      obtain ⟨bs, b', rfl, href, hlen, hfix', hb⟩ := hx.of_strF hfix
      have hsz : lenN b = bs.size := by rw [← bytesNat_length, hb, lenN_eq, List.length_map, hlen]
      rw [hsz]; rfl
    · cases h
  · cases h
theorem copy_acts [Sig] {dt e : TypeId} {ts : Array TypeId} {ty : TypeId} {size : Nat} {v v1 v2 : AV} {u1 u2 : Value} (h0 : ts[0]? = some dt) (hu : P.underlying dt = some (.slice e)) (hs : sizeC P e = some size)
    (h : HR C B w0 X ρ s w) (hx : VR ρ v1 u1) (hy : VR ρ v2 u2) (hr : copyR size v1 v2 s = some (v, s')) :
    ∃ u w', (Builtin.copy_ ts ty #[u1, u2]).run P w = .ok u w' ∧ VR ρ v u ∧ HR C B w0 X ρ s' w' ∧ Ext ρ s ρ s' := by
  unfold copyR at hr
  split at hr
  · rename_i base dLen c f
    split at hr
    · cases hr
    · rename_i n hn
      split at hr
      · cases hr
      · rename_i cs hcs
        obtain ⟨us, hus, hur, huf⟩ := first_run (P := P) h.wr hy hcs (by
          intro a l c f e; subst e
          simp [A3.lenOf] at hn
          subst hn
          exact Nat.min_le_left _ _)
        split at hr
        · rename_i hmin
          simp at hr
          obtain ⟨rfl, rfl⟩ := hr
          rw [hmin] at hus hcs
          have husz : us = #[] := by
            have : cs = [] := by
              unfold St.first at hcs
              split at hcs
              · simp at hcs; exact hcs
              · split at hcs
                · simp [takeN_eq, byteCells] at hcs; exact hcs
                · cases hcs
              · cases hcs
            subst this
            have := hur.length
            simp at this
            exact Array.eq_empty_of_size_eq_zero this.symm
          subst husz
          refine ⟨goInt (0 : Nat), w, ?_, .int _ _, h, Ext.refl _ _⟩
          cases hx with
          | sliceN => simp only [Builtin.copy_, List.getElem?_toArray, List.getElem?_cons_zero, List.getElem?_cons_succ, h0, Sem.run_bind, run_under hu, Result.andThen_ok, run_lenOf hy hn, run_sizeC hs, hmin, hus, Sem.run_pure]
          | slice => simp only [Builtin.copy_, List.getElem?_toArray, List.getElem?_cons_zero, List.getElem?_cons_succ, h0, Sem.run_bind, run_under hu, Result.andThen_ok, run_lenOf hy hn, run_sizeC hs, hmin, hus, Sem.run_pure, storeCells]
        · cases hr
        · rename_i m a hmin
          obtain ⟨n', off⟩ := a
          split at hr
          · cases hr
          · rename_i s1 hst
            simp at hr
            obtain ⟨rfl, rfl⟩ := hr
            obtain ⟨A, c', rfl, hl, hc, hs', hA⟩ := hx.of_slice
            have hpos : dLen ≠ 0 := by
              intro e; subst e
              simp at hmin
            obtain ⟨b, base, hb, rfl, _⟩ := hA (by omega)
            obtain ⟨hw', hext, hcell, hfz⟩ := h.store hst hb hur huf
            refine ⟨goInt ((m + 1 : Nat) : Int), _, ?_, .int _ _, hw', hext⟩
            have hrun := run_storeCells P b us.toList w (base.off + off) 0 (hur.oneCell huf) (by simpa using hcell) (by simpa using hfz)
            simp only [Nat.add_zero] at hrun
            rw [hmin] at hus
            simp only [Builtin.copy_, List.getElem?_toArray, List.getElem?_cons_zero, List.getElem?_cons_succ, h0, Sem.run_bind, run_under hu, Result.andThen_ok, run_lenOf hy hn, run_sizeC hs, hmin, hus, hrun, Sem.run_pure]
  · cases hr
end
end A3
namespace A3
open Go
section
variable {P : Program} {X : List Nat} {C : CC} {B : Nat} {w0 : World} {ρ ρ' : Ren} {s s' : St} {w w' : World} {v v1 v2 v3 : AV} {u1 u2 u3 : Value}
theorem HR.putMap [Sig] (h : HR C B w0 X ρ s w) {r : Pos} {b : Nat} {es es' : List (AV × AV)} {O : Go.Obj} (hb : ρ r = some (b, ⟨0, 0⟩)) (hget : s.heap.get r = some (.map es))
    (hw : WR C B w0 ρ (s.put r (.map es')) { w with heap := w.heap.setIfInBounds b O }) :
    HR C B w0 X ρ (s.put r (.map es')) { w with heap := w.heap.setIfInBounds b O } ∧ Ext ρ s ρ (s.put r (.map es')) := by
  obtain ⟨_, _, ces, clock, hheap, _⟩ := h.wr.map _ _ _ _ hb hget
  refine ⟨⟨hw, h.ty.step (Tys.setObj (by rw [hheap]; simp) (by rw [hheap]; simp)) rfl (Nat.le_refl _) ?_⟩, ⟨Ren.le_refl ρ, Nat.le_refl _, ?_, fun _ _ => rfl⟩⟩
  · intro n b' o cs ro hn hcs
    rw [St.put_get] at hcs
    split at hcs
    · simp at hcs
    · exact ⟨cs, ro, hcs, rfl⟩
  · intro n o hn ho _
    refine ⟨hn, ?_⟩
    rw [St.put_get, if_neg]
    · exact ho
    · intro e; subst e; rw [hb] at hn; cases hn
theorem mapUpdate_acts [Sig] {t kt e : TypeId} {l : Cmp} (ht : P.underlying t = some (.map kt e)) (hk : cKey P kt = some l) (h : HR C B w0 X ρ s w)
    (hx : VR ρ v1 u1) (hkey : VR ρ v2 u2) (hval : VR ρ v3 u3) (hr : mapUpdateR l v1 v2 v3 s = some (v, s')) :
    ∃ w', v = .dead ∧ (Instr.mapUpdate t u1 u2 u3).run P w = .ok () w' ∧ HR C B w0 X ρ s' w' ∧ Ext ρ s ρ s' := by
  obtain ⟨r, b, es, es', O, hv, hb, hget, rfl, hrun, hw⟩ := mapUpdate_run (P := P) ht hk h.wr hx hkey hval hr
  obtain ⟨h1, h2⟩ := h.putMap hb hget hw
  exact ⟨_, hv, hrun, h1, h2⟩
theorem mapEntry_acts [Sig] {t kt e : TypeId} {l : Cmp} {z : AV} (ht : P.underlying t = some (.map kt e)) (hk : cKey P kt = some l) (hz : zeroC P e = some z) (h : HR C B w0 X ρ s w)
    (hx : VR ρ v1 u1) (hkey : VR ρ v2 u2) (hr : mapEntryR l z v1 v2 s = some (v, s')) :
    ∃ u w', (Instr.mapEntry t u1 u2).run P w = .ok u w' ∧ VR ρ v u ∧ HR C B w0 X ρ s' w' ∧ Ext ρ s ρ s' := by
  obtain ⟨r, b, es, es', O, u, hb, hget, rfl, hrun, hv, hw⟩ := mapEntry_run (P := P) ht hk hz h.wr hx hkey hr
  obtain ⟨h1, h2⟩ := h.putMap hb hget hw
  exact ⟨_, _, hrun, hv, h1, h2⟩
theorem entryStore_acts [Sig] {t : TypeId} (h : HR C B w0 X ρ s w)
    (hx : VR ρ v1 u1) (hi : VR ρ v2 u2) (hval : VR ρ v3 u3) (hr : entryStoreR v1 v2 v3 s = some (v, s')) :
    ∃ w', v = .dead ∧ (Instr.entryStore t u1 u2 u3).run P w = .ok () w' ∧ HR C B w0 X ρ s' w' ∧ Ext ρ s ρ s' := by
  obtain ⟨r, b, es, es', O, hv, hb, hget, rfl, hrun, hw⟩ := entryStore_run (P := P) (t := t) h.wr hx hi hval hr
  obtain ⟨h1, h2⟩ := h.putMap hb hget hw
  exact ⟨_, hv, hrun, h1, h2⟩
theorem zeroCells_eq' (zc : Array Value) (n : Nat) : Builtin.zeroCells zc n = (Array.range (n * zc.size)).map fun i => zc[i % zc.size]! := rfl
theorem clear_acts [Sig] {t ty : TypeId} {ts : Array TypeId} {k : Kd} {z : List AV} (h0 : ts[0]? = some t)
    (ht : (k = .slice ∧ ∃ e, P.underlying t = some (.slice e) ∧ zeroCells P e = some z) ∨ (k = .map ∧ ∃ kt e, P.underlying t = some (.map kt e)))
    (h : HR C B w0 X ρ s w) (hx : VR ρ v1 u1) (hr : clearR k z v1 s = some (v, s')) :
    ∃ u w', (Builtin.clear_ ts ty #[u1]).run P w = .ok u w' ∧ VR ρ v u ∧ HR C B w0 X ρ s' w' ∧ Ext ρ s ρ s' := by
  unfold clearR at hr
  split at hr
  · simp at hr
    obtain ⟨rfl, rfl⟩ := hr
    rcases ht with ⟨_, e, hu, _⟩ | ⟨hk, _⟩
    · refine ⟨.tuple #[], w, ?_, .tuple .nil, h, Ext.refl _ _⟩
      cases hx <;> simp [Builtin.clear_, h0, run_under hu]
    · cases hk
  · rename_i a n c f
    obtain ⟨m, off⟩ := a
    rcases ht with ⟨_, e, hu, hz⟩ | ⟨hk, _⟩
    · split at hr
      · cases hr
      · rename_i s1 hst
        simp at hr
        obtain ⟨rfl, rfl⟩ := hr
        obtain ⟨i, zv, hi, hzv, hc⟩ := zeroCells_eq hz
        obtain ⟨hzr, hzf⟩ := constFlats_VR (ρ := ρ) hc
        obtain ⟨A, c', rfl, hl, hcc, hs', hA⟩ := hx.of_slice
        obtain ⟨b, base, hb, rfl, _⟩ := hA (by omega)
        have hrep := rep_VR hzr (n + 1)
        obtain ⟨hw', hext, hcell, hfz⟩ := h.store hst hb hrep (rep_flat hzf _)
        have hrun := run_storeCells P b _ w (base.off + off) 0 (hrep.oneCell (rep_flat hzf _)) (by simpa using hcell) (by simpa using hfz)
        simp only [Nat.add_zero] at hrun
        refine ⟨.tuple #[], _, ?_, .tuple .nil, hw', hext⟩
        simp only [Builtin.clear_, List.getElem?_toArray, List.getElem?_cons_zero, h0, Sem.run_bind, run_under hu, Result.andThen_ok, run_zero hi hzv, zeroCells_eq', hrun, Sem.run_pure]
    · cases hk
  · simp at hr
    obtain ⟨rfl, rfl⟩ := hr
    have := hx.of_mapN; subst this
    rcases ht with ⟨hk, _⟩ | ⟨_, kt, e, hu⟩
    · cases hk
    · exact ⟨.tuple #[], w, by simp [Builtin.clear_, h0, run_under hu], .tuple .nil, h, Ext.refl _ _⟩
  · cases hr
theorem cellBytes_eq [Sig] : ∀ {cs : List AV} {us : List Value} {b : List Nat}, VRs ρ cs us → cellBytes cs = some b →
    ∃ b', Ref b b' ∧ us = (b'.map byteN).map (fun n : Nat => Value.int .u8 (n : Int)) ∧ fixedS b = true
  | [], _, b, .nil, h => by simp [cellBytes] at h; subst h; exact ⟨[], .nil, rfl, rfl⟩
  | v :: cs, _, b, .cons (u := u) (m := m) hv ht, h => by
    unfold cellBytes at h
    split at h
    · rename_i heq; cases heq
    · rename_i n l heq
      simp only [List.cons.injEq] at heq
      obtain ⟨rfl, rfl⟩ := heq
      split at h
      · rename_i m' hlt hm
        simp at h; subst h
        obtain ⟨b', hr, h1, h2⟩ := cellBytes_eq ht hm
        have := hv.of_int; subst this
        have hlt : n < 256 := by simpa using hlt
        have hb : byteN n = n := by simp [byteN, hlt]
        refine ⟨n :: b', .same (known_iff.2 (.inl hlt)) hr, by rw [h1, List.map_cons, List.map_cons, hb]; rfl, ?_⟩
        rw [fixedS_iff] at h2 ⊢
        intro c hc
        rcases List.mem_cons.1 hc with rfl | hc
        · exact fixedB_iff.2 (.inl hlt)
        · exact h2 c hc
      · cases h
    · rename_i c l heq
      simp only [List.cons.injEq] at heq
      obtain ⟨rfl, rfl⟩ := heq
      split at h
      · rename_i m' hm
        simp at h; subst h
        obtain ⟨b', hr, h1, h2⟩ := cellBytes_eq ht hm
        cases hv with
        | byt hc hf =>
          have hfx : fixedS (c :: m') = true := by
            rw [fixedS_iff] at h2 ⊢
            intro d hd
            rcases List.mem_cons.1 hd with rfl | hd
            · exact fixedB_iff.2 (.inr (by omega))
            · exact h2 d hd
          exact ⟨c :: b', .same (known_iff.2 (.inr (by omega))) hr, by rw [h1]; rfl, hfx⟩
      · cases h
    · rename_i l heq
      simp only [List.cons.injEq] at heq
      obtain ⟨rfl, rfl⟩ := heq
      split at h
      · rename_i m' hm
        simp at h; subst h
        obtain ⟨b', hr, h1, h2⟩ := cellBytes_eq ht hm
        cases hv with
        | any hw =>
          rename_i n
          have h3 := range_of_wrap hw
          simp [IntKind.min, IntKind.max, IntKind.signed, IntKind.bits] at h3
          have hlt : n.toNat < 256 := by omega
          refine ⟨n.toNat :: b', .byte (by decide) hlt hr, ?_, ?_⟩
          · have : byteN n.toNat = n.toNat := by simp [byteN, hlt]
            rw [h1, List.map_cons, List.map_cons, this]
            have : ((n.toNat : Nat) : Int) = n := by omega
            rw [this]
          · rw [fixedS_iff] at h2 ⊢
            intro d hd
            rcases List.mem_cons.1 hd with rfl | hd
            · decide
            · exact h2 d hd
      · cases h
    · cases h
theorem bytes_lt [Sig] (b : List Nat) : ∀ n ∈ b.map byteN, n < 256 := by
  intro n hn
  obtain ⟨c, _, rfl⟩ := List.mem_map.1 hn
  exact byteN_lt
theorem bytes_fold : ∀ (b : List Nat) (acc : ByteArray), (∀ n ∈ b, n < 256) → bytesNat ((b.map fun n : Nat => (n : Int)).foldl (fun r n => r.push (UInt8.ofNat n.toNat)) acc) = bytesNat acc ++ b
  | [], acc, _ => by simp
  | n :: b, acc, h => by
    simp only [List.map_cons, List.foldl_cons]
    rw [bytes_fold b _ fun m hm => h m (by simp [hm])]
    have hn : n < 256 := h n (by simp)
    have : bytesNat (acc.push (UInt8.ofNat ((n : Int)).toNat)) = bytesNat acc ++ [n] := by
      simp only [bytesNat, ByteArray.data_push, Array.toList_push, List.map_append, List.map_cons, List.map_nil, Int.toNat_natCast]
      congr 2
      exact UInt8.toNat_ofNat_of_lt hn
    rw [this]; simp
theorem map_ints (b : List Nat) : b.map (fun n : Nat => Value.int .u8 (n : Int)) = (b.map fun n : Nat => (n : Int)).map (Value.int .u8) := by simp
theorem convStr_yield [Sig] {src dst e : TypeId} (hs : P.underlying src = some (.slice e)) (he : P.underlying e = some (.int .u8)) (hd : P.underlying dst = some .string) (h : WR C B w0 ρ s w) (hx : VR ρ v1 u1)
    (hr : convStrV v1 s = some v) : Yield P ρ w (convert src dst u1) v := by
  unfold convStrV at hr
  split at hr
  · rename_i a len c f
    unfold bytesStr at hr
    split at hr
    · cases hr
    · rename_i cs hcs
      split at hr
      · cases hr
      · rename_i b hb
        simp at hr; subst hr
        cases hx with
        | sliceN =>
          have : cs = [] := by simp [St.first] at hcs; exact hcs
          subst this
          simp [cellBytes] at hb; subst hb
          exact ⟨.string .empty, by rw [run_convert_bytes_string w src dst e _ _ _ hs he hd]; rfl, .str .nil rfl⟩
        | slice hl hc hs' hA =>
          rename_i n o A c'
          obtain ⟨us, hus, hur, huf⟩ := first_run (P := P) (u1 := .slice (some A) len c') h (.slice hl hc hs' hA) hcs (by intro a l c f e; simp at e; omega)
          obtain ⟨b', href, h1, h2⟩ := cellBytes_eq hur hb
          rw [map_ints] at h1
          have hlc : (loadCells A len).run P w = .ok (((b'.map byteN).map fun n : Nat => (n : Int)).map (Value.int .u8)).toArray w := by
            have : us = (((b'.map byteN).map fun n : Nat => (n : Int)).map (Value.int .u8)).toArray := by rw [← h1]
            rw [← this]
            simpa [Builtin.firstCells] using hus
          refine ⟨_, by rw [run_convert_bytes_string w src dst e _ _ _ hs he hd, run_bytesToString w A len c' _ hlc], .str href ?_⟩
          rw [bytes_fold _ _ (bytes_lt b'), expand_fixed href h2]; rfl
  · cases hr
theorem run_shape_cells {b : Nat} {cells : Array Value} {e : TypeId} {fz : Nat × Nat} (h : w.heap[b]? = some (.cells cells e fz)) : (shape b).run P w = .ok (some (e, cells.size)) w := by
  simp [World.shape?, h]
theorem WR.row [Sig] (h : WR C B w0 ρ s w) {n : Pos} {b : Nat} {o : Bs} {cs : List AV} (hn : ρ n = some (b, o)) (hc : s.cells n = some cs) {i : Nat} (hi : i < cs.length) :
    ∃ cells e fz, w.heap[b]? = some (.cells cells e fz) ∧ o.off + i < cells.size := by
  obtain ⟨ro, g, hg, hv⟩ := St.cells_eq hc
  obtain ⟨_, u, hu, _⟩ := h.cells _ _ _ _ _ _ hn hg hv i cs[i] (by simp [hi])
  unfold World.cell? at hu
  split at hu
  · rename_i c e f hb
    simp at hu
    obtain ⟨hlt, _⟩ := Array.getElem?_eq_some_iff.1 hu
    exact ⟨c, e, f, hb, hlt⟩
  · cases hu
theorem toUnsafe_yield [Sig] {src dst t : TypeId} {k : Nat} (hs : P.underlying src = some (.pointer t)) (hd : P.underlying dst = some .unsafePointer) (hk : sizeC P t = some (k + 1)) (h : WR C B w0 ρ s w) (hx : VR ρ v1 u1)
    (hr : toUnsafeV v1 s = some v) : Yield P ρ w (convert src dst u1) v := by
  unfold toUnsafeV at hr
  split at hr
  · rename_i a
    obtain ⟨n, off⟩ := a
    split at hr
    · cases hr
    · rename_i cs hcs
      split at hr
      · rename_i hlt
        have hlt : off < cs.length := by rw [← lenN_eq]; simpa using hlt
        simp at hr; subst hr
        obtain ⟨b, base, hb, rfl⟩ := hx.of_ptr
        obtain ⟨cells, e, fz, hrow, hin⟩ := h.row hb hcs hlt
        refine ⟨.pointer (some ⟨b, base.off + off, none⟩), ?_, .ptr hb⟩
        have h1 : (convert src dst (.pointer (some ⟨b, base.off + off, none⟩))).run P w = (Conv.unsafePointer src dst (.pointer (some ⟨b, base.off + off, none⟩))).run P w := by
          simp [convert, run_under hs, run_under hd]
        have hva : (viewAt b).run P w = .ok none w := by simp [viewAt, World.shape?, hrow]
        have hci : (cellsIn b).run P w = .ok (some cells.size) w := by simp [cellsIn, World.shape?, hrow]
        have hsee : (Conv.seenAt ⟨b, base.off + off, none⟩).run P w = .ok ⟨b, base.off + off, none⟩ w := by simp [Conv.seenAt, hva]
        have hno : ¬ (base.off + off ≥ cells.size) := by omega
        rw [h1]
        simp [Conv.unsafePointer, run_under hs, run_under hd, hsee, hci, hno, run_sizeC hk]
      · cases hr
  · simp at hr; subst hr
    have := hx.of_ptrN; subst this
    refine ⟨.pointer none, ?_, .ptrN⟩
    simp [convert, run_under hs, run_under hd, Conv.unsafePointer]
  · cases hr
end
end A3
namespace A3
open Go
section
variable {P : Program} {X : List Nat} {C : CC} {B : Nat} {w0 : World} {ρ ρ' : Ren} {s s' : St} {w w' : World} {v v1 v2 v3 : AV} {u1 u2 u3 : Value}
theorem HR.drew [Sig] (h : HR C B w0 X ρ s w) : HR C B w0 X ρ s { w with drawn := w.drawn + 1 } := ⟨h.wr.drew, ⟨h.ty.is, h.ty.fresh, h.ty.df⟩⟩
theorem Ext.bind [Sig] (h : Ext ρ s ρ s') (hw : WR C B w0 ρ s w) {n : Pos} (x : Nat × Bs) (hn : s.next.toNat ≤ n.toNat) (hρ : ρ n = none) : Ext ρ s (ρ.ext n x) s' :=
  ⟨Ren.ext_le hρ, h.next, fun m o hm ho hl => by
    obtain ⟨_, h2⟩ := h.loose m o hm ho hl
    refine ⟨?_, h2⟩
    have := hw.bound ho
    unfold Ren.ext
    rw [if_neg]
    · exact hm
    · intro e; subst e; omega, h.ty⟩
theorem St.allocSoft_next (s : St) (cs : List AV) : (s.allocSoft cs).next = s.next.succ.succ := rfl
theorem St.allocSoft_ty (s : St) (cs : List AV) : (s.allocSoft cs).ty = s.ty := rfl
theorem HR.growSoft [Sig] (h : HR C B w0 X ρ s w) (t : Option Nat) (cs : List AV) : HR C B w0 X ρ ((s.tag t).allocSoft cs) w ∧ Ext ρ s ρ ((s.tag t).allocSoft cs) := by
  have h1 := Pos.toNat_succ s.next
  have h2 := Pos.toNat_succ s.next.succ
  have hnx : ((s.tag t).allocSoft cs).next = s.next.succ.succ := by rw [St.allocSoft_next, St.tag_next]
  have hty : ∀ n, ((s.tag t).allocSoft cs).ty.get n = if n = s.next ∧ t.isSome then t else s.ty.get n := fun n => by rw [St.allocSoft_ty]; exact St.tag_ty s t n
  have hold : ∀ n : Pos, n.toNat < s.next.toNat → ((s.tag t).allocSoft cs).heap.get n = s.heap.get n := by
    intro n hn
    rw [St.allocSoft_get, St.tag_next, if_neg (toNat_ne (by omega)), if_neg (toNat_ne (by omega)), St.tag_heap]
  refine ⟨⟨(h.wr.tag t).growSoft cs, ⟨?_, ?_, h.ty.df⟩⟩, ⟨Ren.le_refl ρ, by rw [hnx]; omega, ?_, ?_⟩⟩
  · intro n t' b o' hn hρ
    have hlt : n.toNat < s.next.toNat := by
      rcases Nat.lt_or_ge n.toNat s.next.toNat with h3 | h3
      · exact h3
      · have := (h.wr.nxt n h3).2; rw [hρ] at this; cases this
    rw [hty, if_neg (by rintro ⟨rfl, _⟩; omega)] at hn
    obtain ⟨cells, fz, hc, hl⟩ := h.ty.is n t' b o' hn hρ
    exact ⟨cells, fz, hc, fun cs' ro hcs => hl cs' ro (by rw [← hold n hlt]; exact hcs)⟩
  · intro n hn
    rw [hnx] at hn
    rw [hty, if_neg, h.ty.fresh n (by omega)]
    rintro ⟨rfl, _⟩; omega
  · intro n o' hρ hn _
    exact ⟨hρ, by rw [hold n (h.wr.bound hn)]; exact hn⟩
  · intro n hn
    rw [hty, if_neg]
    rintro ⟨rfl, _⟩; omega
theorem HR.newSoft [Sig] (h : HR C B w0 X ρ s w) (t : Option Nat) {cs : List AV} (elem : TypeId) (arr : Array Value) (fz : Nat × Nat) (us rest : List Value) (harr : arr.toList = us ++ rest) (hr : VRs ρ cs us) (hf : cs.all AV.flat = true)
    (hfz : fz.1 = fz.2 ∨ arr.size ≤ fz.1) (ht : ∀ t', t = some t' → t' = elem) :
    HR C B w0 X (ρ.ext s.next (w.heap.size, ⟨0, arr.size⟩)) ((s.tag t).allocSoft cs) (w.alloc (.cells arr elem fz)) ∧ Ext ρ s (ρ.ext s.next (w.heap.size, ⟨0, arr.size⟩)) ((s.tag t).allocSoft cs) := by
  obtain ⟨h1, h2⟩ := h.growSoft t cs
  have hρ := (h.wr.nxt s.next (Nat.le_refl _)).2
  have hne : s.next.succ ≠ s.next := succ_ne _
  have hget : ((s.tag t).allocSoft cs).heap.get s.next = some (.cells cs false (some (s.next.succ, 0))) := by
    rw [St.allocSoft_get, St.tag_next, if_neg hne, if_pos rfl]
  refine ⟨h1.bindCells hget hρ elem arr fz us rest harr hr hf (hfz.imp id fun h => ⟨h, by simp⟩) ?_ (by simp), h2.bind h.wr _ (Nat.le_refl _) hρ⟩
  intro t' ht'
  rw [St.allocSoft_ty, St.tag_ty] at ht'
  split at ht'
  · exact ht t' ht'
  · rw [h.ty.fresh _ (Nat.le_refl _)] at ht'; cases ht'
theorem freeze_alloc (w : World) (arr : Array Value) (e : TypeId) : ((w.alloc (.cells arr e (0, 0))).freeze ⟨w.heap.size, arr.size, none⟩ 1) = w.alloc (.cells arr e (arr.size, arr.size + 1)) := by
  unfold World.freeze
  simp only [Nat.one_ne_zero, if_false, World.alloc]
  congr 1
  apply Array.ext_getElem?
  intro i
  rw [Array.getElem?_modify]
  by_cases hi : w.heap.size = i
  · subst hi; simp
  · rw [if_neg hi]
    rcases Nat.lt_or_ge i w.heap.size with h1 | h1
    · rw [Array.getElem?_push_lt h1, Array.getElem?_push_lt h1]
    · rw [Array.getElem?_eq_none (by simp; omega), Array.getElem?_eq_none (by simp; omega)]
theorem convBytes_acts [Sig] {src dst e : TypeId} (hs : P.underlying src = some .string) (hd : P.underlying dst = some (.slice e)) (he : P.underlying e = some (.int .u8)) (h : HR C B w0 X ρ s w) (hx : VR ρ v1 u1)
    (hr : convBytesR (some e) v1 s = some (v, s')) :
    ∃ ρ' u w', (convert src dst u1).run P w = .ok u w' ∧ VR ρ' v u ∧ HR C B w0 X ρ' s' w' ∧ Ext ρ s ρ' s' := by
  unfold convBytesR at hr
  split at hr
  · rename_i b
    split at hr
    case h_2 => cases hr
    rename_i hfix
    obtain ⟨bs, b', rfl, href, hlen, hfix', hb⟩ := hx.of_strF hfix
    simp only [Option.some.injEq, Prod.mk.injEq] at hr
    obtain ⟨rfl, rfl⟩ := hr
    obtain ⟨hc1, hc2⟩ := byteCells_VR (ρ := ρ) href hfix
    rw [← hb, ← map_data] at hc1
    generalize hcap : (Question.appendCap bs.size 0 e).cut (w.tape w.drawn (.appendCap bs.size 0 e)) = cap
    have hcap' : bs.size ≤ cap := by rw [← hcap]; simp only [Question.cut]; omega
    let arr : Array Value := (bs.data.map fun b => Value.int .u8 b.toNat) ++ Array.replicate (cap - bs.size) (Value.int .u8 0)
    have harr : arr.toList = (bs.data.toList.map fun b => Value.int .u8 b.toNat) ++ List.replicate (cap - bs.size) (Value.int .u8 0) := by simp [arr]
    have hsz : arr.size = cap := by simp [arr]; show bs.size + _ = _; omega
    obtain ⟨h1, h2⟩ := h.drew.newSoft (some e) e arr (arr.size, arr.size + 1) _ _ harr hc1 hc2 (.inr (Nat.le_refl _)) (by simp)
    refine ⟨_, .slice (some ⟨w.heap.size, 0, none⟩) bs.size cap, _, ?_, ?_, h1, h2⟩
    · have hrun : (Conv.stringToBytes e bs).run P w = .ok (.slice (some ⟨w.heap.size, 0, none⟩) bs.size cap) ((({ w with drawn := w.drawn + 1 } : World).alloc (.cells arr e (0, 0))).freeze ⟨w.heap.size, arr.size, none⟩ 1) := by
        simp only [Conv.stringToBytes, Sem.run_bind, run_choose, Question.forced, Bool.false_eq_true, if_false, Result.andThen_ok, hcap, run_newRow, markStringish, run_shape]
        have : (({ w with drawn := w.drawn + 1 } : World).alloc (.cells ((bs.data.map fun b => Value.int .u8 b.toNat) ++ Array.replicate (cap - bs.size) (Value.int .u8 0)) e (0, 0))).shape? w.heap.size = some (e, arr.size) := by
          simp [World.shape?, World.alloc, arr]
        rw [this]
        simp only [run_freeze, Result.andThen_ok, Sem.run_pure]
        rfl
      have hconv : (convert src dst (.string bs)).run P w = (Conv.stringToBytes e bs).run P w := by simp [convert, run_under hs, run_under hd, run_under he]
      rw [hconv, hrun]
      have := freeze_alloc ({ w with drawn := w.drawn + 1 } : World) arr e
      exact congrArg _ this
    · have hl : lenN b = bs.size := by rw [← bytesNat_length, hb, lenN_eq, List.length_map, hlen]
      rw [hl]
      refine .slice (Nat.le_refl _) hcap' (by simp) fun _ => ⟨_, _, Ren.ext_same, rfl, fun sz hsz' => ?_⟩
      simp at hsz'; subst hsz'
      show 0 + 0 + cap * 1 ≤ arr.size
      omega
  · cases hr
end
end A3
namespace A3
open Go
section
variable {P : Program} {X : List Nat} {C : CC} {B : Nat} {w0 : World} {ρ ρ' : Ren} {s s' : St} {w w' : World} {v v1 v2 v3 : AV} {u1 u2 u3 : Value}
def Mode (P : Program) (ts : Array TypeId) (zv : Value) (size : Nat) (zeros : Bool) (u2 : Value) (n : Nat) (arr : Array Value) (w : World) : Prop :=
  ∃ xt d, ts[1]? = some xt ∧ P.underlying xt = some d ∧
   ((zeros = false ∧ (∀ k, d ≠ .int k) ∧ (Builtin.lenOf u2).run P w = .ok n w ∧ (Builtin.firstCells size n u2).run P w = .ok arr w) ∨
    (zeros = true ∧ (∃ k, d = .int k) ∧ (∃ k, u2 = .int k (n : Int)) ∧ n ≤ 100000 ∧ arr = Builtin.zeroCells zv.cells n))
theorem notInt {d : TypeDesc} (h : ∀ k, d ≠ .int k) : (match d with | .int _ => true | _ => false) = false := by
  cases d <;> first | rfl | exact absurd rfl (h _)
theorem wrap_small {n : Nat} (h : n ≤ 100000) : IntKind.i64.wrap (n : Int) = n := by
  have h0 : (0 : Int) ≤ n := by omega
  have h1 : (n : Int) < 9223372036854775808 := by omega
  generalize (n : Int) = x at h0 h1
  unfold IntKind.wrap
  simp only [IntKind.bits, IntKind.signed]
  have h2 : x % (2 ^ 64 : Int) = x := Int.emod_eq_of_lt h0 (by omega)
  simp only [h2]
  split
  · rename_i hh; simp at hh; omega
  · rfl
theorem zeroCells_none {zc : Array Value} {n : Nat} (h : n * zc.size = 0) : Builtin.zeroCells zc n = #[] := by
  unfold Builtin.zeroCells; rw [h]; simp
theorem append_in [Sig] {ts : Array TypeId} {ty st e : TypeId} {i : TypeInfo} {zv : Value} {zeros : Bool} {base : Option Addr} {sLen sCap n : Nat} {arr : Array Value}
    (h0 : ts[0]? = some st) (hu : P.underlying st = some (.slice e)) (hi : P.info? e = some i) (hzv : i.zero = some zv) (hsz : zv.cells.size = i.size) (hb : i.bytes ≤ 100000)
    (hm : Mode P ts zv i.size zeros u2 n arr w) (hle : sLen + n ≤ sCap)
    (hst : (match base with | some a => storeCells (a.add (sLen * i.size)) arr.toList 0 | none => Pure.pure () : Sem Unit).run P w = .ok () w') :
    (Builtin.append_ ts ty #[.slice base sLen sCap, u2]).run P w = .ok (.slice base (sLen + n) sCap) w' := by
  have hsC : sizeC P e = some i.size := by simp [sizeC, hi]
  obtain ⟨xt, d, h1, hd, hcase⟩ := hm
  have key : ∀ w'', ((Pure.pure arr : Sem (Array Value)) >>= fun a => match base with
      | some b => (do storeCells (b.add (sLen * i.size)) a.toList; Pure.pure (Value.slice base (sLen + n) sCap))
      | _ => Pure.pure (Value.slice base (sLen + n) sCap)).run P w = .ok (.slice base (sLen + n) sCap) w'' ↔ w'' = w' := by
    intro w''
    cases base with
    | none => simp at hst; subst hst; simp [eq_comm]
    | some a => simp at hst ⊢; rw [hst]; simp [eq_comm]
  have key := (key w').2 rfl
  rcases hcase with ⟨rfl, hnd, hlen, harr⟩ | ⟨rfl, ⟨k, rfl⟩, ⟨k', rfl⟩, hn, rfl⟩
  · have hz := notInt hnd
    simp only [Builtin.append_, List.getElem?_toArray, List.getElem?_cons_zero, List.getElem?_cons_succ, h0, h1, Sem.run_bind, run_under hu, run_under hd, Result.andThen_ok, run_sizeC hsC, run_info hi, Sem.run_pure,
      Bool.false_eq_true, if_false, hlen, Sem.run_ite, Bool.not_false, if_true, false_or, if_pos hle, harr]
    simp only [Sem.run_bind, Sem.run_pure, Result.andThen_ok] at key
    exact key
  · have hw := wrap_small hn
    have h1' : ¬ (n : Int) < 0 := by omega
    have h2' : ¬ (n : Int) * (i.bytes : Int) > 2 ^ 48 := by
      have : n * i.bytes ≤ 100000 * 100000 := Nat.mul_le_mul hn hb
      have h3 : (n : Int) * (i.bytes : Int) ≤ ((100000 * 100000 : Nat) : Int) := by rw [← Int.natCast_mul]; exact Int.ofNat_le.2 this
      omega
    simp only [Builtin.append_, List.getElem?_toArray, List.getElem?_cons_zero, List.getElem?_cons_succ, h0, h1, Sem.run_bind, run_under hu, run_under hd, Result.andThen_ok, run_sizeC hsC, run_info hi, Sem.run_pure,
      if_true, asInt, asIntOf, hw, Sem.run_ite, if_neg h1', if_neg h2', Int.toNat_natCast, Bool.not_true, Bool.false_eq_true, if_false, true_or, if_pos hle]
    by_cases h3 : n * i.size = 0
    · have : Builtin.zeroCells zv.cells n = #[] := zeroCells_none (by rw [hsz]; exact h3)
      rw [this] at key
      simp only [Sem.run_bind, Sem.run_pure, Result.andThen_ok] at key
      simp only [if_pos h3, Result.andThen_ok]
      exact key
    · simp only [Sem.run_bind, Sem.run_pure, Result.andThen_ok] at key
      simp only [if_neg h3, run_zero hi hzv, Result.andThen_ok]
      exact key
theorem growBy_le (newLen : Nat) : ∀ (r c : Nat), c ≤ 2 * newLen + 768 → Builtin.growBy newLen r c ≤ 2 * newLen + 768
  | 0, c, h => h
  | r + 1, c, h => by
    unfold Builtin.growBy
    split
    · exact h
    · exact growBy_le newLen r _ (by omega)
theorem nextcap_le [Sig] {need old : Nat} (h : old < need) : Builtin.nextslicecap need old ≤ 2 * need + 768 := by
  unfold Builtin.nextslicecap
  split
  · omega
  · split
    · omega
    · exact growBy_le need 4 old (by omega)
theorem append_grow [Sig] {ts : Array TypeId} {ty st e : TypeId} {i : TypeInfo} {zv : Value} {zeros : Bool} {base : Option Addr} {sLen sCap n : Nat} {arr0 arr old : Array Value} {w1 : World} {newCap : Nat}
    (h0 : ts[0]? = some st) (hu : P.underlying st = some (.slice e)) (hi : P.info? e = some i) (hzv : i.zero = some zv) (hsz : zv.cells.size = i.size) (hb : i.bytes ≤ 100000)
    (hm : Mode P ts zv i.size zeros u2 n arr0 w) (hm1 : Mode P ts zv i.size zeros u2 n arr w1) (hgt : sCap < sLen + n) (hlim : sLen + n ≤ 1000000000)
    (hw1 : w1 = { w with drawn := w.drawn + 1 }) (hcap : newCap = (Question.appendCap (sLen + n) sCap e).cut (w.tape w.drawn (.appendCap (sLen + n) sCap e)))
    (hold : (Builtin.firstCells i.size sLen (.slice base sLen sCap)).run P w1 = .ok old w1) :
    (Builtin.append_ ts ty #[.slice base sLen sCap, u2]).run P w = .ok (.slice (some ⟨w.heap.size, 0, none⟩) (sLen + n) newCap) (w1.alloc (.cells (old ++ arr ++ Builtin.zeroCells zv.cells (newCap - (sLen + n))) e (0, 0))) := by
  have hsC : sizeC P e = some i.size := by simp [sizeC, hi]
  have hle : ¬ sLen + n ≤ sCap := by omega
  have hmax : ¬ ((sLen + n : Nat) : Int) > IntKind.i64.max := by
    show ¬ _ > (9223372036854775807 : Int); omega
  have hnext : ¬ Builtin.nextslicecap (sLen + n) sCap * i.bytes > 2 ^ 48 := by
    have h1 := nextcap_le hgt
    have h2 : Builtin.nextslicecap (sLen + n) sCap * i.bytes ≤ 2000000768 * 100000 := Nat.mul_le_mul (by omega) hb
    omega
  have hsize : w1.heap.size = w.heap.size := by rw [hw1]
  obtain ⟨xt, d, h1, hd, hcase⟩ := hm
  obtain ⟨xt', d', h1', hd', hcase'⟩ := hm1
  rcases hcase with ⟨rfl, hnd, hlen, harr⟩ | ⟨rfl, ⟨k, rfl⟩, ⟨k', rfl⟩, hn, _⟩
  · rcases hcase' with ⟨_, _, _, harr1⟩ | ⟨hf, _⟩
    · have hz := notInt hnd
      simp only [Builtin.append_, List.getElem?_toArray, List.getElem?_cons_zero, List.getElem?_cons_succ, h0, h1, Sem.run_bind, run_under hu, run_under hd, Result.andThen_ok, run_sizeC hsC, run_info hi, Sem.run_pure,
        Bool.false_eq_true, if_false, hlen, Sem.run_ite, Bool.not_false, if_true, false_or, if_neg hle, hmax, false_and, if_neg hnext, run_choose, Question.forced, ← hcap, ← hw1, run_askRoom, hold, harr1, run_zero hi hzv, run_newRow, hsize]
    · cases hf
  · rcases hcase' with ⟨hf, _⟩ | ⟨_, _, _, _, harr⟩
    · cases hf
    · have hw := wrap_small hn
      have h1'' : ¬ (n : Int) < 0 := by omega
      have h2' : ¬ (n : Int) * (i.bytes : Int) > 2 ^ 48 := by
        have : n * i.bytes ≤ 100000 * 100000 := Nat.mul_le_mul hn hb
        have h3 : (n : Int) * (i.bytes : Int) ≤ ((100000 * 100000 : Nat) : Int) := by rw [← Int.natCast_mul]; exact Int.ofNat_le.2 this
        omega
      simp only [Builtin.append_, List.getElem?_toArray, List.getElem?_cons_zero, List.getElem?_cons_succ, h0, h1, Sem.run_bind, run_under hu, run_under hd, Result.andThen_ok, run_sizeC hsC, run_info hi, Sem.run_pure,
        if_true, asInt, asIntOf, hw, Sem.run_ite, if_neg h1'', if_neg h2', Int.toNat_natCast, Bool.not_true, Bool.false_eq_true, if_false, true_or, if_neg hle, hmax, false_and, if_neg hnext, run_choose, Question.forced, ← hcap, ← hw1, run_askRoom, hold,
        run_zero hi hzv, run_newRow]
      by_cases h3 : n * i.size = 0
      · have : arr = #[] := by rw [harr]; exact zeroCells_none (by rw [hsz]; exact h3)
        rw [if_pos h3, this]; simp only [Result.andThen_ok, hsize]
      · rw [if_neg h3, harr]; simp only [Result.andThen_ok, hsize]
end
end A3
namespace A3
open Go
section
variable {P : Program} {X : List Nat} {C : CC} {B : Nat} {w0 : World} {ρ ρ' : Ren} {s s' : St} {w w' : World} {v v1 v2 v3 : AV} {u1 u2 u3 : Value}
structure AppT (P : Program) (ts : Array TypeId) (e : TypeId) (i : TypeInfo) (zv : Value) (z : List AV) (zeros : Bool) (tag : Option Nat) : Prop where
  st : ∃ st, ts[0]? = some st ∧ P.underlying st = some (.slice e)
  info : P.info? e = some i
  zero : i.zero = some zv
  cells : constFlats zv.cells.toList = some z
  size : z.length = i.size
  bytes : i.bytes ≤ 100000
  second : ∃ xt d, ts[1]? = some xt ∧ P.underlying xt = some d ∧ ((zeros = false ∧ ∀ k, d ≠ .int k) ∨ (zeros = true ∧ ∃ k, d = .int k))
  tag : ∀ t, tag = some t → t = e
theorem AppT.zsize [Sig] {ts : Array TypeId} {e : TypeId} {i : TypeInfo} {zv : Value} {z : List AV} {zeros : Bool} {tag : Option Nat} (h : AppT P ts e i zv z zeros tag) : zv.cells.size = i.size := by
  have := (constFlats_VR (ρ := fun _ => none) h.cells).1.length
  rw [← h.size, this]; simp
def Has [Sig] (P : Program) (C : CC) (B : Nat) (w0 : World) (X : List Nat) (ρ : Ren) (s : St) (ts : Array TypeId) (zv : Value) (size : Nat) (zeros : Bool) (u2 : Value) (n : Nat) (new : List AV) : Prop :=
  new.all AV.flat = true ∧ new.length = n * size ∧ ∀ w, HR C B w0 X ρ s w → ∃ arr : Array Value, Mode P ts zv size zeros u2 n arr w ∧ VRs ρ new arr.toList
theorem first_length {size n : Nat} {a : Option (Pos × Nat)} {l c : Nat} {f : Option Nat} {cs : List AV} (h : s.first size (.slice a l c f) n = some cs) : cs.length = n * size := by
  unfold St.first at h
  cases n with
  | zero => simp at h; subst h; simp
  | succ n =>
    simp only at h
    split at h
    · cases h
    · split at h
      · cases h
      · rename_i cs0 _
        split at h
        · rename_i hat
          simp only [Option.some.injEq] at h; subst h
          rw [atLeast_iff] at hat
          rw [takeN_eq, List.length_take]; omega
        · cases h
theorem has_eq {n : Pos} {t : Option Nat} {e : Nat} (h : s.has n t = some e) : t = some e ∧ s.ty.get n = some e := by
  unfold St.has at h
  split at h
  · rename_i t' u' hu
    split at h
    · rename_i hb
      have := Nat.eq_of_beq_eq_true hb
      subst this
      simp only [Option.some.injEq] at h; subst h
      exact ⟨rfl, hu⟩
    · cases h
  · cases h
theorem HR.growVersion [Sig] (h : HR C B w0 X ρ s w) (t : Option Nat) {g : Pos} {cur floor : Nat} (hgrp : s.heap.get g = some (.grp cur floor false)) (cs : List AV) :
    HR C B w0 X ρ ((s.tag t).version g cur floor cs) w ∧ Ext ρ s ρ ((s.tag t).version g cur floor cs) ∧
      (∀ n : Pos, n.toNat < s.next.toNat → n ≠ g → ((s.tag t).version g cur floor cs).heap.get n = s.heap.get n) ∧
      (∀ n, ((s.tag t).version g cur floor cs).ty.get n = if n = s.next ∧ t.isSome then t else s.ty.get n) := by
  have h1 := Pos.toNat_succ s.next
  have hg := h.wr.bound hgrp
  have hty : ∀ n, ((s.tag t).version g cur floor cs).ty.get n = if n = s.next ∧ t.isSome then t else s.ty.get n := fun n => St.tag_ty s t n
  have hnx : ((s.tag t).version g cur floor cs).next = s.next.succ := by show (s.tag t).next.succ = _; rw [St.tag_next]
  have hold : ∀ n : Pos, n.toNat < s.next.toNat → n ≠ g → ((s.tag t).version g cur floor cs).heap.get n = s.heap.get n := by
    intro n hn hng
    rw [St.version_get, St.tag_next, if_neg (toNat_ne (by omega)), if_neg (Ne.symm hng), St.tag_heap]
  refine ⟨⟨(h.wr.tag t).growVersion (by rw [St.tag_heap]; exact hgrp) cs, ⟨?_, ?_, h.ty.df⟩⟩, ⟨Ren.le_refl ρ, by rw [hnx]; omega, ?_, ?_⟩, hold, hty⟩
  · intro n t' b o hn hρ
    have hlt : n.toNat < s.next.toNat := by
      rcases Nat.lt_or_ge n.toNat s.next.toNat with h3 | h3
      · exact h3
      · have := (h.wr.nxt n h3).2; rw [hρ] at this; cases this
    rw [hty, if_neg (by rintro ⟨rfl, _⟩; omega)] at hn
    obtain ⟨cells, fz, hc, hl⟩ := h.ty.is n t' b o hn hρ
    refine ⟨cells, fz, hc, fun cs' ro hcs => hl cs' ro ?_⟩
    by_cases hng : n = g
    · subst hng
      rw [St.version_get, St.tag_next, if_neg (toNat_ne (by omega)), if_pos rfl] at hcs
      simp at hcs
    · rw [← hold n hlt hng]; exact hcs
  · intro n hn
    rw [hnx] at hn
    rw [hty, if_neg, h.ty.fresh n (by omega)]
    rintro ⟨rfl, _⟩; omega
  · intro n o hρ hn hl
    refine ⟨hρ, ?_⟩
    rw [hold n (h.wr.bound hn)]
    · exact hn
    · intro e; subst e
      rw [hgrp] at hn
      simp only [Option.some.injEq] at hn
      subst hn; simp [Obj.loose] at hl
  · intro n hn
    rw [hty, if_neg]
    rintro ⟨rfl, _⟩; omega
theorem zeros_length (zc : Array Value) (n : Nat) : (Builtin.zeroCells zc n).size = n * zc.size := by simp [Builtin.zeroCells]
theorem appendGo_acts [Sig] {ts : Array TypeId} {ty e : TypeId} {i : TypeInfo} {zv : Value} {z : List AV} {zeros : Bool} {tag : Option Nat} (ht : AppT P ts e i zv z zeros tag) {base : Option (Pos × Nat)} {sLen sCap n : Nat} {soft : Option Nat} {new : List AV}
    (hnew : Has P C B w0 X ρ s ts zv i.size zeros u2 n new) (h : HR C B w0 X ρ s w) (hx : VR ρ (.slice base sLen sCap soft) u1) (hr : appendGo s i.size tag base sLen sCap soft n new = some (v, s')) :
    ∃ ρ' u w', (Builtin.append_ ts ty #[u1, u2]).run P w = .ok u w' ∧ VR ρ' v u ∧ HR C B w0 X ρ' s' w' ∧ Ext ρ s ρ' s' := by
  obtain ⟨st, h0, hu⟩ := ht.st
  have hzs := ht.zsize
  obtain ⟨hnf, hnl, hnew⟩ := hnew
  obtain ⟨arr, hm, harr⟩ := hnew w h
  have hal : arr.size = n * i.size := by rw [← hnl]; simpa using harr.length.symm
  unfold appendGo at hr
  split at hr
  ·
    split at hr
    · rename_i hle
      have hle := Nat.le_of_ble_eq_true hle
      simp only [Option.some.injEq, Prod.mk.injEq] at hr
      obtain ⟨rfl, rfl⟩ := hr
      have harr0 : arr.toList = [] := by
        apply List.length_eq_zero_iff.1
        simp [hal]
      cases hx with
      | sliceN =>
        exact ⟨ρ, _, w, append_in h0 hu ht.info ht.zero hzs ht.bytes hm (Nat.le_refl _) rfl, .sliceN _, h, Ext.refl _ _⟩
      | slice hl hc hs hA =>
        exact ⟨ρ, _, w, append_in h0 hu ht.info ht.zero hzs ht.bytes hm (by omega) (by rw [harr0]; rfl), .slice hl hc hs hA, h, Ext.refl _ _⟩
    · cases hr
  · rename_i n
    split at hr
    ·
      rename_i hle
      have hle := Nat.le_of_ble_eq_true hle
      split at hr
      · cases hr
      · rename_i a
        obtain ⟨m, off⟩ := a
        split at hr
        · rename_i s1 hst
          simp only [Option.some.injEq, Prod.mk.injEq] at hr
          obtain ⟨rfl, rfl⟩ := hr
          obtain ⟨A, c', rfl, hl, hc, hs, hA⟩ := hx.of_slice
          obtain ⟨b, bs, hb, rfl, hcap⟩ := hA (by omega)
          obtain ⟨hw', hext, hcell, hfz⟩ := h.store hst hb harr hnf
          have hrun := run_storeCells P b arr.toList w (bs.off + (off + sLen * i.size)) 0 (harr.oneCell hnf) (by simpa using hcell) (by simpa using hfz)
          refine ⟨ρ, _, _, append_in (w' := setCells w b (bs.off + (off + sLen * i.size)) arr.toList) h0 hu ht.info ht.zero hzs ht.bytes hm (by omega) ?_, .slice (by omega) hc hs hA, hw', hext⟩
          simp only [addr_add, Nat.add_assoc] at hrun ⊢
          simpa using hrun
        · cases hr
    ·
      rename_i hgt
      split at hr
      · cases hr
      · cases hr
      · rename_i old hlim hold
        have hlim := Nat.le_of_ble_eq_true hlim
        have hgt : sCap < sLen + (n + 1) := by
          rcases Nat.lt_or_ge sCap (sLen + (n + 1)) with h1 | h1
          · exact h1
          · rw [Nat.ble_eq_true_of_le h1] at hgt; cases hgt
        have holdl : old.length = sLen * i.size := first_length hold
        have hof : old.all AV.flat = true := by
          obtain ⟨_, _, _, hf⟩ := first_run (P := P) h.wr hx hold (by intro a l c f e; simp at e; omega)
          exact hf
        have hsl : ∀ a l c f, AV.slice base sLen sCap soft = .slice a l c f → sLen ≤ l := by
          intro a l c f e; simp at e; omega
        have grow : ∀ (c' : Nat) (B' : Option Addr), u1 = .slice B' sLen c' → c' < sLen + (n + 1) → ∀ (ρ1 : Ren), ρ1 = ρ →
            ∃ (arr1 oldv : Array Value) (cap : Nat), sLen + (n + 1) ≤ cap ∧ VRs ρ (old ++ new) (oldv ++ arr1).toList ∧
              (Builtin.append_ ts ty #[u1, u2]).run P w = .ok (.slice (some ⟨w.heap.size, 0, none⟩) (sLen + (n + 1)) cap)
                (({ w with drawn := w.drawn + 1 } : World).alloc (.cells (oldv ++ arr1 ++ Builtin.zeroCells zv.cells (cap - (sLen + (n + 1)))) e (0, 0))) ∧
              (oldv ++ arr1).size + (cap - (sLen + (n + 1))) * i.size = cap * i.size := by
          intro c' B' hu1 hc' ρ1 _
          obtain ⟨arr1, hm1, harr1⟩ := hnew _ h.drew
          obtain ⟨oldv, holdr, holdv, _⟩ := first_run (P := P) h.drew.wr hx hold hsl
          subst hu1
          generalize hcap : (Question.appendCap (sLen + (n + 1)) c' e).cut (w.tape w.drawn (.appendCap (sLen + (n + 1)) c' e)) = cap
          have hcap' : sLen + (n + 1) ≤ cap := by rw [← hcap]; simp only [Question.cut]; omega
          refine ⟨arr1, oldv, cap, hcap', by simpa using holdv.append harr1, append_grow h0 hu ht.info ht.zero hzs ht.bytes hm hm1 hc' hlim rfl hcap.symm holdr, ?_⟩
          have e1 : oldv.size = sLen * i.size := by rw [← holdl]; simpa using holdv.length.symm
          have e2 : arr1.size = (n + 1) * i.size := by rw [← hnl]; simpa using harr1.length.symm
          rw [Array.size_append, e1, e2, ← Nat.add_mul, ← Nat.add_mul]
          congr 1; omega
        split at hr
        ·
          simp only [Option.some.injEq, Prod.mk.injEq] at hr
          obtain ⟨rfl, rfl⟩ := hr
          have hexact : ∃ B' , u1 = .slice B' sLen sCap := by
            cases hx with
            | sliceN => exact ⟨_, rfl⟩
            | slice hl hc hs hA => have := hs rfl; subst this; exact ⟨_, rfl⟩
          obtain ⟨B', hu1⟩ := hexact
          obtain ⟨arr1, oldv, cap, hcap, hvr, hrun, hsize⟩ := grow sCap B' hu1 hgt ρ rfl
          obtain ⟨h1, h2⟩ := h.drew.newSoft tag e (oldv ++ arr1 ++ Builtin.zeroCells zv.cells (cap - (sLen + (n + 1)))) (0, 0) (oldv ++ arr1).toList (Builtin.zeroCells zv.cells (cap - (sLen + (n + 1)))).toList (by simp)
            (cs := app old new) (by rw [app_eq]; exact hvr) (by rw [app_eq, List.all_append, hnf, Bool.and_true]; exact hof) (.inl rfl) ht.tag
          refine ⟨_, _, _, hrun, ?_, h1, h2⟩
          refine .slice (Nat.le_refl _) hcap (by simp) fun _ => ⟨_, _, Ren.ext_same, rfl, fun sz hsz => ?_⟩
          simp only [Option.some.injEq] at hsz; subst hsz
          show 0 + 0 + cap * i.size ≤ (oldv ++ arr1 ++ Builtin.zeroCells zv.cells (cap - (sLen + (n + 1)))).size
          rw [Array.size_append, zeros_length, hzs, hsize]; omega
        ·
          rename_i sz a
          obtain ⟨m, off⟩ := a
          split at hr
          · rename_i csm g k hmget
            split at hr
            · rename_i cur floor hgget
              split at hr
              · rename_i hchk
                simp only [Bool.and_eq_true, Nat.beq_eq, Nat.ble_eq, Bool.not_eq_true', lenN_eq] at hchk
                obtain ⟨hck, hfk, hend, hs0, hszs⟩ := hchk
                subst hck; subst hszs
                simp only [Option.some.injEq, Prod.mk.injEq] at hr
                obtain ⟨rfl, rfl⟩ := hr
                have hs0 : sLen ≠ 0 := by intro e; subst e; simp at hs0
                have hgm : g ≠ m := by intro e; subst e; rw [hmget] at hgget; cases hgget
                obtain ⟨A, c', rfl, hl, hc, _, hA⟩ := hx.of_slice
                obtain ⟨b, bs, hb, rfl, hcap⟩ := hA (by omega)
                have hcap := hcap _ rfl
                obtain ⟨h1, h2, hsame, hty⟩ := h.growVersion (s.has m tag) hgget (app old new)
                have hρ := (h.wr.nxt s.next (Nat.le_refl _)).2
                have hmlt := h.wr.bound hmget
                have hglt := h.wr.bound hgget
                have hnget : ((s.tag (s.has m tag)).version g cur floor (app old new)).heap.get s.next = some (.cells (app old new) false (some (g, cur + 1))) := by
                  rw [St.version_get, St.tag_next, if_pos rfl]
                have hgget' : ((s.tag (s.has m tag)).version g cur floor (app old new)).heap.get g = some (.grp (cur + 1) floor false) := by
                  rw [St.version_get, St.tag_next, if_neg (toNat_ne (by omega)), if_pos rfl]
                have hmget' := (hsame m hmlt (Ne.symm hgm)).trans hmget
                show ∃ ρ' u w', _ ∧ _ ∧ HR C B w0 X ρ' ((s.tag (s.has m tag)).version g cur floor (app old new)) w' ∧ Ext ρ s ρ' ((s.tag (s.has m tag)).version g cur floor (app old new))
                rcases Nat.lt_or_ge c' (sLen + (n + 1)) with hc' | hc'
                ·
                  obtain ⟨arr1, oldv, cap, hcap', hvr, hrun, hsize⟩ := grow c' _ rfl hc' ρ rfl
                  have hb1 := h1.drew.bindCells hnget hρ e (oldv ++ arr1 ++ Builtin.zeroCells zv.cells (cap - (sLen + (n + 1)))) (0, 0) (oldv ++ arr1).toList (Builtin.zeroCells zv.cells (cap - (sLen + (n + 1)))).toList (by simp)
                    (by rw [app_eq]; exact hvr) (by rw [app_eq, List.all_append, hnf, Bool.and_true]; exact hof) (.inl rfl) (by
                      intro t' ht'
                      rw [hty] at ht'
                      split at ht'
                      · exact ht.tag t' (has_eq ht').1
                      · rw [h.ty.fresh _ (Nat.le_refl _)] at ht'; cases ht') (by simp)
                  refine ⟨_, _, _, hrun, ?_, hb1, h2.bind h.wr _ (Nat.le_refl _) hρ⟩
                  refine .slice (Nat.le_refl _) hcap' (by simp) fun _ => ⟨_, _, Ren.ext_same, rfl, fun sz hsz => ?_⟩
                  simp only [Option.some.injEq] at hsz; subst hsz
                  show 0 + 0 + cap * i.size ≤ (oldv ++ arr1 ++ Builtin.zeroCells zv.cells (cap - (sLen + (n + 1)))).size
                  rw [Array.size_append, zeros_length, hzs, hsize]; omega
                ·
                  have holdeq : old = csm.drop off := by
                    unfold St.first at hold
                    cases hsl0 : sLen with
                    | zero => exact absurd hsl0 hs0
                    | succ sl =>
                      rw [hsl0] at hold
                      simp only at hold
                      split at hold
                      · cases hold
                      · rename_i cs0 hcs0
                        split at hold
                        · simp only [Option.some.injEq] at hold; subst hold
                          obtain ⟨ro, g', hget0, _⟩ := St.cells_eq hcs0
                          rw [hmget] at hget0
                          simp only [Option.some.injEq, Obj.cells.injEq] at hget0
                          obtain ⟨rfl, _, _⟩ := hget0
                          rw [takeN_eq, dropN_eq, List.take_of_length_le]
                          rw [List.length_drop, ← hsl0]; omega
                        · cases hold
                  have hmul : (sLen + (n + 1)) * i.size ≤ c' * i.size := Nat.mul_le_mul_right _ hc'
                  rw [Nat.add_mul] at hmul
                  have hal' : arr.toList.length = (n + 1) * i.size := by simpa using hal
                  obtain ⟨hw', hcell, hfz⟩ := h1.wr.bindBehind (us := arr.toList) (old := new) hnget hρ hgget' hmget' hb (by simp [St.valid, hgget', hfk]) (by rw [app_eq, holdeq]) (by omega) harr hnf (by rw [hal']; omega)
                  have hrun := run_storeCells P b arr.toList w (bs.off + csm.length) 0 (harr.oneCell hnf) (by simpa using hcell) (by simpa using hfz)
                  refine ⟨_, _, _, append_in (w' := setCells w b (bs.off + csm.length) arr.toList) h0 hu ht.info ht.zero hzs ht.bytes hm hc' ?_, ?_, ⟨hw', ?_, h1.ty.fresh, fun x hx => (Tys.setCells b arr.toList w (bs.off + csm.length)).2.2 x _ (h1.ty.df x hx)⟩, h2.bind h.wr _ (Nat.le_refl _) hρ⟩
                  · simp only [addr_add]
                    rw [show bs.off + off + sLen * i.size = bs.off + csm.length from by omega]
                    simpa using hrun
                  · refine .slice (Nat.le_refl _) hc' (by simp) fun _ => ⟨_, _, Ren.ext_same, rfl, fun sz hsz => ?_⟩
                    simp only [Option.some.injEq] at hsz; subst hsz
                    show bs.off + off + 0 + c' * i.size ≤ bs.tot
                    omega
                  · intro n' t' b' o' hn' hb'
                    have htys := (Tys.setCells b arr.toList w (bs.off + csm.length)).2.1
                    rcases Ren.ext_cases hb' with ⟨rfl, e'⟩ | ⟨hne, hb'⟩
                    · simp only [Prod.mk.injEq] at e'
                      obtain ⟨rfl, rfl⟩ := e'
                      rw [hty] at hn'
                      split at hn'
                      · obtain ⟨_, hmt⟩ := has_eq hn'
                        obtain ⟨cells, fz, hcells, _⟩ := h.ty.is m t' _ bs hmt hb
                        obtain ⟨cells', fz', hcells', _⟩ := htys _ cells t' fz hcells
                        refine ⟨cells', fz', hcells', fun cs' ro hcs' => ?_⟩
                        rw [hnget] at hcs'; simp at hcs'
                      · rw [h.ty.fresh _ (Nat.le_refl _)] at hn'; cases hn'
                    · obtain ⟨cells, fz, hcells, hl'⟩ := h1.ty.is n' t' b' o' hn' hb'
                      obtain ⟨cells', fz', hcells', hsz'⟩ := htys b' cells t' fz hcells
                      exact ⟨cells', fz', hcells', fun cs' ro hcs' => by rw [hsz']; exact hl' cs' ro hcs'⟩
              · cases hr
            · cases hr
          · cases hr
        · cases hr
end
end A3
namespace A3
open Go
section
variable {P : Program} {X : List Nat} {C : CC} {B : Nat} {w0 : World} {ρ ρ' : Ren} {s s' : St} {w w' : World} {v v1 v2 v3 : AV} {u1 u2 u3 : Value}
theorem byteCells_length : ∀ b : List Nat, (byteCells b).length = b.length
  | [] => rfl
  | _ :: b => by simp [byteCells, byteCells_length b]
theorem append_acts [Sig] {ts : Array TypeId} {ty e : TypeId} {i : TypeInfo} {zv : Value} {z : List AV} {zeros : Bool} {tag : Option Nat} (ht : AppT P ts e i zv z zeros tag)
    (h : HR C B w0 X ρ s w) (hx : VR ρ v1 u1) (hy : VR ρ v2 u2) (hr : s.append i.size z zeros tag v1 v2 = some (v, s')) :
    ∃ ρ' u w', (Builtin.append_ ts ty #[u1, u2]).run P w = .ok u w' ∧ VR ρ' v u ∧ HR C B w0 X ρ' s' w' ∧ Ext ρ s ρ' s' := by
  obtain ⟨xt, d, h1, hd, hcase⟩ := ht.second
  unfold St.append at hr
  split at hr
  · rename_i base sLen sCap soft
    split at hr
    ·
      split at hr
      · rename_i n hn
        split at hr
        · rename_i hle
          have hle := Nat.le_of_ble_eq_true hle
          rcases hcase with ⟨hf, _⟩ | ⟨_, hk⟩
          · cases hf
          · obtain ⟨k', rfl⟩ := hy.of_nat hn
            obtain ⟨hzr, hzf⟩ := constFlats_VR (ρ := ρ) ht.cells
            refine appendGo_acts ht ⟨rep_flat hzf n, by rw [rep_length, ht.size], fun w1 _ => ⟨Builtin.zeroCells zv.cells n, ⟨xt, d, h1, hd, .inr ⟨rfl, hk, ⟨k', rfl⟩, hle, rfl⟩⟩, ?_⟩⟩ h hx hr
            rw [zeroCells_eq']; exact rep_VR hzr n
        · cases hr
      · cases hr
    · split at hr
      · cases hr
      · rename_i n hn
        split at hr
        · cases hr
        · rename_i new hnew
          rcases hcase with ⟨_, hnk⟩ | ⟨hf, _⟩
          · have hlen : ∀ a l c f, v2 = .slice a l c f → n ≤ l := by
              intro a l c f e'; subst e'
              simp [A3.lenOf] at hn; omega
            have hnf : new.all AV.flat = true := by
              obtain ⟨_, _, _, hf⟩ := first_run (P := P) h.wr hy hnew hlen
              exact hf
            have hnl : new.length = n * i.size := by
              unfold A3.lenOf at hn
              split at hn
              · exact first_length hnew
              · rename_i b
                split at hn
                case h_2 => cases hn
                simp only [Option.some.injEq] at hn; subst hn
                unfold St.first at hnew
                simp only at hnew
                split at hnew
                · rename_i hs1
                  simp only [Bool.and_eq_true] at hs1
                  have hs1 := Nat.eq_of_beq_eq_true hs1.1
                  simp only [Option.some.injEq] at hnew; subst hnew
                  rw [hs1, takeN_eq, lenN_eq, List.take_length, byteCells_length]; omega
                · cases hnew
              · cases hn
            refine appendGo_acts ht ⟨hnf, hnl, fun w1 hw1 => ?_⟩ h hx hr
            obtain ⟨arr, harr, hvr, _⟩ := first_run (P := P) hw1.wr hy hnew hlen
            exact ⟨arr, ⟨xt, d, h1, hd, .inl ⟨rfl, hnk, run_lenOf hy hn, harr⟩⟩, hvr⟩
          · cases hf
  · cases hr
theorem hasTy_eq {tys : List Nat} {t : Option Nat} (h : hasTy tys t = true) : ∃ e, t = some e ∧ e ∈ tys := by
  unfold hasTy at h
  split at h
  · cases h
  · rename_i t
    rw [List.any_eq_true] at h
    obtain ⟨x, hx, he⟩ := h
    have := Nat.eq_of_beq_eq_true he
    exact ⟨t, rfl, by rw [this]; exact hx⟩
theorem loadBytes_run [Sig] {b : Nat} : ∀ (bs : List Nat) (off : Nat) (acc : ByteArray), (∀ (j n : Nat), bs[j]? = some n → w.cell? ⟨b, off + j, none⟩ = some (.int .u8 (n : Int))) →
    (loadBytes ⟨b, off, none⟩ acc bs.length).run P w = .ok ((bs.map fun n : Nat => (n : Int)).foldl (fun r n => r.push (UInt8.ofNat n.toNat)) acc) w
  | [], off, acc, _ => rfl
  | n :: bs, off, acc, h => by
    have h0 := h 0 n rfl
    simp only [Nat.add_zero] at h0
    have ih := loadBytes_run bs (off + 1) (acc.push (UInt8.ofNat n)) fun j m hj => by
      have := h (j + 1) m (by simpa using hj)
      rw [show off + 1 + j = off + (j + 1) from by omega]; exact this
    simp only [List.length_cons, loadBytes, Sem.run_bind, run_load, h0, Result.andThen_ok, addr_add]
    simpa using ih
theorem freeze_eq {n : Pos} (hs : freeze s n = some s') : (∃ cs ro, s.heap.get n = some (.cells cs ro none) ∧ s' = s.put n (.cells cs true none)) ∨
      (∃ cs ro g kk cur fl r, s.heap.get n = some (.cells cs ro (some (g, kk))) ∧ s.heap.get g = some (.grp cur fl r) ∧ s' = s.put g (.grp cur fl true)) := by
  unfold A3.freeze at hs
  split at hs
  · rename_i cs ro g hget
    split at hs
    · simp at hs; exact .inl ⟨cs, ro, hget, hs.symm⟩
    · rename_i g kk
      split at hs
      · rename_i cur fl r hg
        simp at hs; exact .inr ⟨cs, ro, g, kk, cur, fl, r, hget, hg, hs.symm⟩
      · cases hs
  · cases hs
theorem HR.freeze [Sig] (h : HR C B w0 X ρ s w) {n : Pos} (hs : freeze s n = some s') {b : Nat} {o : Bs} (hn : ρ n = some (b, o)) (hB : B ≤ b) (off k : Nat) :
    HR C B w0 X ρ s' (w.freeze ⟨b, off, none⟩ k) ∧ Ext ρ s ρ s' := by
  have hcase := freeze_eq hs
  have hty : s'.ty = s.ty := by rcases hcase with ⟨_, _, _, e⟩ | ⟨_, _, _, _, _, _, _, _, _, e⟩ <;> rw [e] <;> rfl
  have hnx : s'.next = s.next := by rcases hcase with ⟨_, _, _, e⟩ | ⟨_, _, _, _, _, _, _, _, _, e⟩ <;> rw [e] <;> rfl
  refine ⟨⟨h.wr.freeze hs hn hB off k, h.ty.step (Tys.freeze w _ k) hty (by rw [hnx]; exact Nat.le_refl _) ?_⟩, ⟨Ren.le_refl ρ, by rw [hnx]; exact Nat.le_refl _, ?_, fun m _ => by rw [hty]⟩⟩
  · intro m b' o' cs1 ro1 _ h1
    rcases hcase with ⟨cs, ro, hget, e⟩ | ⟨cs, ro, g, kk, cur, fl, r, hget, hg, e⟩
    · subst e
      rw [St.put_get] at h1
      split at h1
      · rename_i e2; subst e2
        simp only [Option.some.injEq, Obj.cells.injEq] at h1
        obtain ⟨rfl, _, _⟩ := h1
        exact ⟨cs, ro, hget, rfl⟩
      · exact ⟨cs1, ro1, h1, rfl⟩
    · subst e
      rw [St.put_get] at h1
      split at h1
      · simp at h1
      · exact ⟨cs1, ro1, h1, rfl⟩
  · intro m x hm hx hl
    refine ⟨hm, ?_⟩
    have hmn : m ≠ n := by intro e; subst e; rw [hn] at hm; cases hm
    rcases hcase with ⟨cs, ro, hget, e⟩ | ⟨cs, ro, g, kk, cur, fl, r, hget, hg, e⟩
    · subst e; rw [St.put_get, if_neg (Ne.symm hmn)]; exact hx
    · subst e
      rw [St.put_get, if_neg]
      · exact hx
      · intro e; subst e
        rw [hg] at hx
        simp only [Option.some.injEq] at hx
        subst hx; simp [Obj.loose] at hl
theorem depth_succ (P : Program) : ∃ d, P.depth = d + 1 := ⟨_, rfl⟩
theorem sizeC_cells [Sig] {t k : Nat} (h : sizeC P t = some k) : P.cellsOf t = k := by
  obtain ⟨i, hi, hk⟩ := sizeC_eq h
  simp [Program.cellsOf, hi, hk]
theorem liesAt_bytes [Sig] {t e off n count : Nat} (ht : P.underlying t = some (.int .u8)) (hk : sizeC P t = some 1) (he : P.underlying e = some (.int .u8)) (h : off + n ≤ count) : liesAt P P.depth t count off e n = true := by
  obtain ⟨d, hd⟩ := depth_succ P
  rw [hd]
  unfold liesAt
  rw [hd]
  have hs : sameLayout P (d + 1) t e = true := by
    unfold sameLayout
    simp [ht, he]
  have : rowAt P (sameLayout P (d + 1) · e) (d + 1) t count off n = true := by
    unfold rowAt
    simp [sizeC_cells hk, hs, h, Nat.mod_one]
  simp [this]
theorem unsafeString_none {ts : Array TypeId} {pt ty : TypeId} {k : IntKind} {p : Option Addr} (h0 : ts[0]? = some pt) : (Builtin.unsafeString_ ts ty #[.pointer p, .int k ((0 : Nat) : Int)]).run P w = .ok (.string .empty) w := by
  have hmax : IntKind.i64.max = 9223372036854775807 := rfl
  cases p with
  | none =>
    change (asInt (.int k ((0 : Nat) : Int)) >>= _).run P w = _
    simp [asInt, asIntOf, hmax, h0]
  | some a =>
    change (asInt (.int k ((0 : Nat) : Int)) >>= _).run P w = _
    simp [asInt, asIntOf, hmax, h0]
theorem unsafeString_some [Sig] {ts : Array TypeId} {pt e ty t' : TypeId} {k : IntKind} {b off n : Nat} {cells : Array Value} {fz : Nat × Nat} (h0 : ts[0]? = some pt) (hp : P.underlying pt = some (.pointer e)) (hu1 : P.underlying t' = some (.int .u8))
    (hu2 : sizeC P t' = some 1) (he : P.underlying e = some (.int .u8)) (hrow : w.heap[b]? = some (.cells cells t' fz)) (hn : n + 1 ≤ 1000000000) (bl : List Nat) (hbl : bl.length = n + 1) (_h2 : ∀ n ∈ bl, n < 256)
    (hcell : ∀ (j x : Nat), bl[j]? = some x → w.cell? ⟨b, off + j, none⟩ = some (.int .u8 (x : Int))) (hlast : off + (n + 1) ≤ cells.size) :
    (Builtin.unsafeString_ ts ty #[.pointer (some ⟨b, off, none⟩), .int k ((n + 1 : Nat) : Int)]).run P w = .ok (.string ((bl.map fun n : Nat => (n : Int)).foldl (fun r n => r.push (UInt8.ofNat n.toNat)) .empty)) (w.freeze ⟨b, off, none⟩ (n + 1)) := by
  have hlb := loadBytes_run (P := P) (b := b) bl off .empty hcell
  rw [hbl] at hlb
  have hlies := liesAt_bytes (P := P) (n := n + 1) (off := off) (count := cells.size / P.cellsOf t') hu1 hu2 he (by rw [sizeC_cells hu2]; simpa using hlast)
  have hmax : IntKind.i64.max = 9223372036854775807 := rfl
  change (asInt (.int k ((n + 1 : Nat) : Int)) >>= _).run P w = _
  have hsh : w.shape? b = some (t', cells.size) := by simp [World.shape?, hrow]
  have hva : (variablesAt ⟨b, off, none⟩ e (n + 1)).run P w = .ok true w := by
    simp [variablesAt, hsh, hlies]
  have hel : (elemOf pt).run P w = .ok e w := by simp [elemOf, run_under hp]
  have q1 : ¬ ((n + 1 : Nat) : Int) < 0 := by omega
  have q2 : ¬ ((n + 1 : Nat) : Int) > 9223372036854775807 := by omega
  have q3 : ¬ ((n + 1 : Nat) : Int) = 0 := by omega
  simp only [asInt, asIntOf, Sem.run_bind, Sem.run_pure, Result.andThen_ok, h0, hmax, Sem.run_ite, if_neg q1, if_neg q2, if_neg q3, hel, Int.toNat_natCast, hva, if_true, hlb, run_freeze]
theorem unsafeString_acts [Sig] {ts : Array TypeId} {pt e : TypeId} {ty : TypeId} (h0 : ts[0]? = some pt) (hp : P.underlying pt = some (.pointer e)) (he : P.underlying e = some (.int .u8)) (h : HR C B w0 X ρ s w)
    (hx : VR ρ v1 u1) (hy : VR ρ v2 u2) (hr : unsafeStringR (bytesTypes P) v1 (natOf v2) s = some (v, s')) :
    ∃ u w', (Builtin.unsafeString_ ts ty #[u1, u2]).run P w = .ok u w' ∧ VR ρ v u ∧ HR C B w0 X ρ s' w' ∧ Ext ρ s ρ s' := by
  unfold unsafeStringR at hr
  split at hr
  · rename_i p hn
    simp only [Option.some.injEq, Prod.mk.injEq] at hr
    obtain ⟨rfl, rfl⟩ := hr
    obtain ⟨k, rfl⟩ := hy.of_nat hn
    obtain ⟨p', rfl⟩ : ∃ p', u1 = .pointer p' := by cases hx <;> exact ⟨_, rfl⟩
    exact ⟨.string .empty, w, unsafeString_none h0, .str .nil rfl, h, Ext.refl _ _⟩
  · rename_i n a hn
    obtain ⟨m, off⟩ := a
    split at hr
    · cases hr
    · rename_i str hstr
      split at hr
      · cases hr
      · rename_i hchk
        simp only [Bool.and_eq_true, Nat.ble_eq] at hchk
        obtain ⟨hty, hown, hlim⟩ := hchk
        split at hr
        · cases hr
        · rename_i s1 hfr
          simp only [Option.some.injEq, Prod.mk.injEq] at hr
          obtain ⟨rfl, rfl⟩ := hr
          obtain ⟨k, rfl⟩ := hy.of_nat hn
          obtain ⟨b, bs, hb, rfl⟩ := hx.of_ptr
          obtain ⟨t', ht', hmem⟩ := hasTy_eq hty
          obtain ⟨cells, fz, hrow, _⟩ := h.ty.is m t' b bs ht' hb
          have hB : B ≤ b := by
            unfold St.owns at hown
            split at hown
            · rename_i cs g hget
              exact h.wr.own m b bs cs g hb hget
            · cases hown
          unfold bytesStr at hstr
          split at hstr
          · cases hstr
          · rename_i cs hcs
            split at hstr
            · cases hstr
            · rename_i bl hbl
              simp only [Option.some.injEq] at hstr; subst hstr
              have hlen := first_length hcs
              unfold St.first at hcs
              simp only at hcs
              split at hcs
              · cases hcs
              · rename_i cs0 hcs0
                split at hcs
                · rename_i hat
                  simp only [Option.some.injEq] at hcs; subst hcs
                  rw [dropN_eq, atLeast_iff, List.length_drop] at hat
                  obtain ⟨us, hul, hur, huf, hcell⟩ := h.wr.read hb hcs0 off ((n + 1) * 1) (by omega)
                  rw [takeN_eq, dropN_eq] at hbl
                  obtain ⟨bl', href, h1, h2⟩ := cellBytes_eq hur hbl
                  have hexp : expand bl' = bl'.map byteN := expand_fixed href h2
                  have h2 := bytes_lt bl'
                  rw [show AV.str bl = AV.str bl from rfl]
                  generalize hbn : bl'.map byteN = bn at h1 h2 hexp
                  have hbll : bn.length = n + 1 := by rw [h1] at hul; simpa using hul
                  have hcell' : ∀ (j x : Nat), bn[j]? = some x → w.cell? ⟨b, bs.off + off + j, none⟩ = some (.int .u8 (x : Int)) := by
                    intro j x hj
                    exact hcell j _ (by rw [h1, List.getElem?_map, hj]; rfl)
                  have hlast : bs.off + off + (n + 1) ≤ cells.size := by
                    have hne : n < bn.length := by omega
                    have := hcell' n bn[n] (by simp [hne])
                    unfold World.cell? at this
                    rw [hrow] at this
                    simp at this
                    obtain ⟨hlt, _⟩ := Array.getElem?_eq_some_iff.1 this
                    omega
                  obtain ⟨hw', hext⟩ := h.freeze hfr hb hB (bs.off + off) (n + 1)
                  obtain ⟨hu1, hu2⟩ : P.underlying t' = some (.int .u8) ∧ sizeC P t' = some 1 := by
                    unfold bytesTypes at hmem
                    rw [List.mem_filter] at hmem
                    obtain ⟨_, hmem⟩ := hmem
                    split at hmem
                    · rename_i q1 q2; exact ⟨q1, q2⟩
                    · cases hmem
                  refine ⟨_, _, unsafeString_some h0 hp hu1 hu2 he hrow (by omega) bn hbll h2 hcell' hlast, .str href ?_, hw', hext⟩
                  rw [bytes_fold bn _ h2, hexp]; rfl
                · cases hcs
  · cases hr
end
end A3
namespace A3
open Go
section
variable {P : Program} {X : List Nat} {N : Nat} {C : CC} {B : Nat} {w0 : World} {ρ ρ' : Ren} {s s' : St} {w w' : World} {v v1 v2 v3 : AV} {u1 u2 u3 : Value}
theorem isAt_mem {t off len : Nat} : ∀ {l : List (Nat × Nat × Nat)}, isAt t off len l = true → (t, off, len) ∈ l
  | [], h => by simp [isAt] at h
  | (u, o, n) :: l, h => by
    simp only [isAt] at h
    split at h
    · rename_i hc
      simp only [Bool.and_eq_true, Nat.beq_eq] at hc
      obtain ⟨rfl, rfl, rfl⟩ := hc
      exact List.mem_cons_self
    · exact List.mem_cons_of_mem _ (isAt_mem h)
theorem tagsAt_mem {u t off len : Nat} (h : (t, off, len) ∈ tagsAt P u) : sizeC P t = some len ∧ liesAt P P.depth t 1 off u 1 = true ∧ len ≠ 0 := by
  unfold tagsAt at h
  rw [List.mem_flatMap] at h
  obtain ⟨t', _, h⟩ := h
  split at h
  · rename_i k hk
    rw [List.mem_map] at h
    obtain ⟨o', ho, e⟩ := h
    simp only [Prod.mk.injEq] at e
    obtain ⟨rfl, rfl, rfl⟩ := e
    rw [List.mem_filter] at ho
    exact ⟨hk, ho.2, by omega⟩
  · cases h
theorem fromUnsafe_yield [Sig] {src dst u : TypeId} {k : Nat} (hs : P.underlying src = some .unsafePointer) (hd : P.underlying dst = some (.pointer u)) (hk : sizeC P u = some (k + 1)) (h : HR C B w0 X ρ s w) (hx : VR ρ v1 u1)
    (hr : fromUnsafeV (tagsAt P u) v1 s = some v) : Yield P ρ w (convert src dst u1) v := by
  unfold fromUnsafeV at hr
  split at hr
  · rename_i a
    obtain ⟨n, off⟩ := a
    split at hr
    · rename_i cs ro t hget hty
      split at hr
      · rename_i hat
        simp only [Option.some.injEq] at hr; subst hr
        obtain ⟨b, base, hb, rfl⟩ := hx.of_ptr
        obtain ⟨cells, fz, hrow, hl⟩ := h.ty.is n t b base hty hb
        obtain ⟨hoff, hlen⟩ := hl cs ro hget
        obtain ⟨h1, h2, h3⟩ := tagsAt_mem (isAt_mem hat)
        rw [lenN_eq, hlen] at h1 h3
        refine ⟨.pointer (some ⟨b, base.off + off, none⟩), ?_, .ptr hb⟩
        have hc1 : (convert src dst (.pointer (some ⟨b, base.off + off, none⟩))).run P w = (Conv.unsafePointer src dst (.pointer (some ⟨b, base.off + off, none⟩))).run P w := by
          simp [convert, run_under hs, run_under hd]
        have hva : (viewAt b).run P w = .ok none w := by simp [viewAt, World.shape?, hrow]
        have hsee : (Conv.seenAt ⟨b, base.off + off, none⟩).run P w = .ok ⟨b, base.off + off, none⟩ w := by simp [Conv.seenAt, hva]
        have hsh : w.shape? b = some (t, cells.size) := by simp [World.shape?, hrow]
        have hdiv : cells.size / P.cellsOf t = 1 := by
          rw [sizeC_cells h1]; exact Nat.div_self (by omega)
        have hvar : (variablesAt ⟨b, base.off + off, none⟩ u 1).run P w = .ok true w := by
          rw [hoff, Nat.zero_add]
          simp [variablesAt, hsh, hdiv, h2]
        rw [hc1]
        simp [Conv.unsafePointer, run_under hs, run_under hd, hsee, run_sizeC hk, hvar]
      · cases hr
    · cases hr
  · simp only [Option.some.injEq] at hr; subst hr
    have := hx.of_ptrN; subst this
    exact ⟨.pointer none, by simp [convert, run_under hs, run_under hd, Conv.unsafePointer], .ptrN⟩
  · cases hr
theorem pureR_eq {o : Option AV} (h : pureR o s = some (v, s')) : o = some v ∧ s' = s := by
  unfold pureR at h
  split at h
  · cases h
  · simp only [Option.some.injEq, Prod.mk.injEq] at h
    exact ⟨by rw [h.1], h.2.symm⟩
def AOp.pure : AOp → Bool
  | .mov _ | .pick .. | .build .. | .load .. | .nilCheck _ | .bin .. | .eql .. | .un .. | .convInt .. | .toFlt _ | .fltInt .. | .convStr _ | .asStr _ | .toUnsafe _ | .fromUnsafe .. | .makeInterface .. | .makeFunc .. | .slice .. | .fieldAddr .. | .field .. | .indexAddr ..
  | .indexStr .. | .indexArr .. | .lookup .. | .typeAssert .. | .extract .. => true
  | .bi b _ => match b with
    | .len _ | .cap | .min | .max | .unsafeSliceData => true
    | _ => false
  | _ => false
variable {t : Tmps} {ev : Operand → Value}
def YieldO [Sig] (P : Program) (ρ : Ren) (w : World) (ev : Operand → Value) (o : Oper) (v : AV) : Prop := ∃ u, (execOp ev o).run P w = .ok (.value u) w ∧ VR ρ v u
theorem YieldO.of [Sig] {o : Oper} {m : Sem Value} (h : Yield P ρ w m v) (he : execOp ev o = (do Pure.pure (.value (← m)))) : YieldO P ρ w ev o v := by
  obtain ⟨u, hr, hv⟩ := h
  exact ⟨u, by rw [he]; simp [hr], hv⟩
theorem cOpdO_VR [Sig] {x : Option Operand} {a : Option Opd} (h : cOpdO N x = some a) (he : ∀ y, x = some y → ER ρ N t ev y) : VRO ρ (evalO t a) (x.map ev) := by
  unfold cOpdO at h
  split at h
  · simp at h; subst h; exact .none
  · rename_i y
    split at h
    · rename_i b hb
      simp at h; subst h
      exact .some (he y rfl b hb)
    · cases h
theorem cOpdO_isSome {x : Option Operand} {a : Option Opd} (h : cOpdO N x = some a) : a.isSome = x.isSome := by
  unfold cOpdO at h
  split at h
  · simp at h; subst h; rfl
  · split at h
    · simp at h; subst h; rfl
    · cases h
theorem evalO_isSome {a : Option Opd} : (evalO t a).isSome = a.isSome := by cases a <;> rfl
end
end A3
namespace A3
open Go
section
variable {P : Program} {X : List Nat} {N : Nat} {C : CC} {B : Nat} {w0 : World} {ρ ρ' : Ren} {s s' : St} {w w' : World} {v v1 v2 v3 : AV} {u1 u2 u3 : Value} {t : Tmps} {ev : Operand → Value}
theorem leaf_of {ty : TypeId} {d : TypeDesc} {l : Leaf} (hu : P.underlying ty = some d) (hl : leafC d = some l) : LeafOf P ty l := ⟨d, hu, .inl hl⟩
def isAggT : TypeDesc → Bool
  | .struct _ | .array _ _ => true
  | _ => false
theorem leaves_agg {n : Nat} {ty : TypeId} {d : TypeDesc} {ls : List (Nat × Leaf)} (hu : P.underlying ty = some d) (hd : isAggT d = true) (hls : leavesC P (n + 1) 0 ty = some ls) : ∃ m, aggC P ty = some (some m) := by
  unfold leavesC at hls
  rw [hu] at hls
  cases d <;> simp [isAggT] at hd hls
  · split at hls
    · rename_i k m hk hm; exact ⟨m, by simp [aggC, hu, hm]⟩
    · cases hls
  · obtain ⟨_, hls⟩ := hls
    split at hls
    · cases hls
    · rename_i m hm; exact ⟨m, by simp [aggC, hu, hm]⟩
theorem cEql_sound [Sig] {neg : Bool} {ty : TypeId} {x y : Operand} {a : AOp} (hc : cEql P N neg ty x y = some a) (hs : step a t s = some (v, s')) (hx : ER ρ N t ev x) (hy : ER ρ N t ev y) :
    s' = s ∧ Yield P ρ w (do eqGuard (eqOp neg) ty x y (ev x) (ev y); Go.binOp (eqOp neg) ty (ev x) (ev y)) v := by
  have agg : ∀ {d}, P.underlying ty = some d → isAggT d = true →
      (if P.eqGuardType P.depth ty then none else match leavesC P 50 0 ty with | some l => opd2 N (.eql neg (.agg l)) x y | none => none) = some a →
      s' = s ∧ Yield P ρ w (do eqGuard (eqOp neg) ty x y (ev x) (ev y); Go.binOp (eqOp neg) ty (ev x) (ev y)) v := by
    intro d hu hd h
    split at h
    · cases h
    · rename_i hg
      have hg : P.eqGuardType P.depth ty = false := by simpa using hg
      split at h
      · rename_i ls hls
        obtain ⟨x', y', hx', hy', rfl⟩ := opd2_eq h
        simp only [step] at hs
        obtain ⟨hv, hs'⟩ := pureR_eq hs
        have hm := leaves_agg (n := 49) hu hd hls
        obtain ⟨m, hm⟩ := hm
        exact ⟨hs', eql_agg hls hg hm (hx _ hx') (hy _ hy') hv⟩
      · cases h
  unfold cEql at hc
  split at hc
  · rename_i fs hu; exact agg hu rfl hc
  · rename_i n e hu; exact agg hu rfl hc
  · rename_i d h1 h2 hu
    split at hc
    · cases hc
    · cases hc
    · rename_i hl
      split at hc
      · obtain ⟨x', y', hx', hy', rfl⟩ := opd2_eq hc
        simp only [step] at hs
        obtain ⟨hv, hs'⟩ := pureR_eq hs
        simp only [eqBy] at hv
        exact ⟨hs', eql_one (leaf_of hu hl) (by simp) (fun _ => ⟨_, rfl⟩) (hx _ hx') (hy _ hy') hv⟩
      · cases hc
    · rename_i l hn1 hn2 hn3 hl
      obtain ⟨x', y', hx', hy', rfl⟩ := opd2_eq hc
      simp only [step] at hs
      obtain ⟨hv, hs'⟩ := pureR_eq hs
      simp only [eqBy] at hv
      refine ⟨hs', eql_one (leaf_of hu hl) ⟨?_, ?_⟩ (fun e => ?_) (hx _ hx') (hy _ hy') hv⟩
      · intro e; subst e; exact hn1 rfl
      · intro e; subst e; exact hn2 rfl
      · subst e; exact (hn3 rfl).elim
    · split at hc
      · rename_i e _
        split at hc
        · rename_i k hk
          obtain ⟨x', y', hx', hy', rfl⟩ := opd2_eq hc
          simp only [step] at hs
          obtain ⟨hv, hs'⟩ := pureR_eq hs
          simp only [eqBy] at hv
          exact ⟨hs', eql_one ⟨_, hu, .inr ⟨rfl, e, k, rfl, hk⟩⟩ (by simp) (by simp) (hx _ hx') (hy _ hy') hv⟩
        · cases hc
      · cases hc
  · cases hc
theorem cBin_sound [Sig] {op : BinOp} {ty : TypeId} {x y : Operand} {a : AOp} (hc : cBin P N op ty x y = some a) (hs : step a t s = some (v, s')) (hx : ER ρ N t ev x) (hy : ER ρ N t ev y) :
    s' = s ∧ Yield P ρ w (do eqGuard op ty x y (ev x) (ev y); Go.binOp op ty (ev x) (ev y)) v := by
  have plain : ∀ op', opd2 N (.bin op') x y = some a → op' = op → s' = s ∧ Yield P ρ w (do eqGuard op ty x y (ev x) (ev y); Go.binOp op ty (ev x) (ev y)) v := by
    intro op' h e
    subst e
    obtain ⟨x', y', hx', hy', rfl⟩ := opd2_eq h
    simp only [step] at hs
    obtain ⟨hv, hs'⟩ := pureR_eq hs
    exact ⟨hs', bin_yield (hx _ hx') (hy _ hy') hv⟩
  unfold cBin at hc
  split at hc
  · split at hc
    · exact plain _ hc rfl
    · exact plain _ hc rfl
    · exact plain _ hc rfl
    · exact cEql_sound (neg := false) hc hs hx hy
  · split at hc
    · exact plain _ hc rfl
    · exact plain _ hc rfl
    · exact plain _ hc rfl
    · exact cEql_sound (neg := true) hc hs hx hy
  · exact plain _ hc rfl
theorem cConvert_sound [Sig] {src dst : TypeId} {x : Operand} {a : AOp} (hc : cConvert P N src dst x = some a) (hp : a.pure = true) (hs : step a t s = some (v, s')) (hx : ER ρ N t ev x) (h : HR C B w0 X ρ s w) :
    s' = s ∧ Yield P ρ w (convert src dst (ev x)) v := by
  unfold cConvert at hc
  split at hc
  · rename_i k k' h1 h2
    obtain ⟨x', hx', rfl⟩ := opd1_eq hc
    obtain ⟨hv, hs'⟩ := pureR_eq hs
    exact ⟨hs', convInt_yield h2 h1 (hx _ hx') hv⟩
  · rename_i k' h1 h2
    obtain ⟨x', hx', rfl⟩ := opd1_eq hc
    obtain ⟨hv, hs'⟩ := pureR_eq hs
    exact ⟨hs', toFlt_yield h2 h1 (hx _ hx') hv⟩
  · rename_i k h1 h2
    obtain ⟨x', hx', rfl⟩ := opd1_eq hc
    obtain ⟨hv, hs'⟩ := pureR_eq hs
    exact ⟨hs', fltInt_yield h2 h1 (hx _ hx') hv⟩
  · rename_i h1 h2
    obtain ⟨x', hx', rfl⟩ := opd1_eq hc
    obtain ⟨hv, hs'⟩ := pureR_eq hs
    exact ⟨hs', asStr_yield h1 h2 (hx _ hx') hv⟩
  · split at hc
    · obtain ⟨x', hx', rfl⟩ := opd1_eq hc
      simp [AOp.pure] at hp
    · cases hc
  · rename_i e h1 h2
    split at hc
    · rename_i he
      obtain ⟨x', hx', rfl⟩ := opd1_eq hc
      obtain ⟨hv, hs'⟩ := pureR_eq hs
      exact ⟨hs', convStr_yield h1 he h2 h.wr (hx _ hx') hv⟩
    · cases hc
  · rename_i t' h1 h2
    split at hc
    · rename_i k hk
      obtain ⟨x', hx', rfl⟩ := opd1_eq hc
      obtain ⟨hv, hs'⟩ := pureR_eq hs
      exact ⟨hs', toUnsafe_yield h1 h2 hk h.wr (hx _ hx') hv⟩
    · cases hc
  · rename_i u' h1 h2
    split at hc
    · rename_i k hk
      obtain ⟨x', hx', rfl⟩ := opd1_eq hc
      obtain ⟨hv, hs'⟩ := pureR_eq hs
      exact ⟨hs', fromUnsafe_yield h1 h2 hk h (hx _ hx') hv⟩
    · cases hc
  · cases hc
theorem cIndexAddr_sound [Sig] {ty : TypeId} {x i : Operand} {a : AOp} (hc : cIndexAddr P N ty x i = some a) (hs : step a t s = some (v, s')) (hx : ER ρ N t ev x) (hi : ER ρ N t ev i) :
    s' = s ∧ Yield P ρ w (Instr.indexAt ty (ev x) (ev i)) v := by
  unfold cIndexAddr at hc
  split at hc
  · rename_i e hu
    split at hc
    · rename_i k hk
      obtain ⟨x', y', hx', hy', rfl⟩ := opd2_eq hc
      obtain ⟨hv, hs'⟩ := pureR_eq hs
      exact ⟨hs', indexAddr_yield (.inl ⟨rfl, hu⟩) hk (hx _ hx') (hi _ hy') hv⟩
    · cases hc
  · rename_i n e hu
    split at hc
    · rename_i k hk
      obtain ⟨x', y', hx', hy', rfl⟩ := opd2_eq hc
      obtain ⟨hv, hs'⟩ := pureR_eq hs
      exact ⟨hs', indexAddr_yield (.inr ⟨n, rfl, hu⟩) hk (hx _ hx') (hi _ hy') hv⟩
    · cases hc
  · cases hc
theorem cIndex_sound [Sig] {ty : TypeId} {x i : Operand} {a : AOp} (hc : cIndex P N ty x i = some a) (hs : step a t s = some (v, s')) (hx : ER ρ N t ev x) (hi : ER ρ N t ev i) :
    s' = s ∧ Yield P ρ w (Instr.index ty (ev x) (ev i)) v := by
  unfold cIndex at hc
  split at hc
  · rename_i hu
    obtain ⟨x', y', hx', hy', rfl⟩ := opd2_eq hc
    obtain ⟨hv, hs'⟩ := pureR_eq hs
    exact ⟨hs', indexStr_yield hu (hx _ hx') (hi _ hy') hv⟩
  · rename_i n e hu
    split at hc
    · rename_i k p hk hp
      obtain ⟨x', y', hx', hy', rfl⟩ := opd2_eq hc
      obtain ⟨hv, hs'⟩ := pureR_eq hs
      exact ⟨hs', indexArr_yield hu hk hp (hx _ hx') (hi _ hy') hv⟩
    · cases hc
  · cases hc
theorem cSliceOp_sound [Sig] {ty : TypeId} {x : Operand} {lo hi mx : Option Operand} {a : AOp} (hc : cSliceOp P N ty x lo hi mx = some a) (hs : step a t s = some (v, s')) (hx : ER ρ N t ev x)
    (hl : ∀ y, lo = some y → ER ρ N t ev y) (hh : ∀ y, hi = some y → ER ρ N t ev y) (hm : ∀ y, mx = some y → ER ρ N t ev y) :
    s' = s ∧ Yield P ρ w (Instr.sliceAt ty (ev x) (lo.map ev) (hi.map ev) (mx.map ev)) v := by
  unfold cSliceOp at hc
  split at hc
  · rename_i x' lo' hi' mx' hx' hlo hhi hmx
    have r1 := cOpdO_VR (t := t) hlo hl
    have r2 := cOpdO_VR (t := t) hhi hh
    have r3 := cOpdO_VR (t := t) hmx hm
    split at hc
    · cases hc
    · rename_i hno
      have hmh : (evalO t mx').isSome = true → (evalO t hi').isSome = true := by
        rw [evalO_isSome, evalO_isSome]
        intro h1
        cases mx' with
        | none => cases h1
        | some m =>
          cases hi' with
          | none => exact (hno _ rfl rfl).elim
          | some y => rfl
      split at hc
      · rename_i hu
        split at hc
        · simp only [Option.some.injEq] at hc; subst hc
          obtain ⟨hv, hs'⟩ := pureR_eq hs
          exact ⟨hs', slice_yield (.inl ⟨rfl, hu⟩) (hx _ hx') r1 r2 r3 hmh hv⟩
        · cases hc
      · rename_i e hu
        split at hc
        · rename_i k hk
          simp only [Option.some.injEq] at hc; subst hc
          obtain ⟨hv, hs'⟩ := pureR_eq hs
          exact ⟨hs', slice_yield (.inr (.inl ⟨e, rfl, hu, hk⟩)) (hx _ hx') r1 r2 r3 hmh hv⟩
        · cases hc
      · rename_i n e hu
        split at hc
        · rename_i k hk
          simp only [Option.some.injEq] at hc; subst hc
          obtain ⟨hv, hs'⟩ := pureR_eq hs
          exact ⟨hs', slice_yield (.inr (.inr ⟨n, e, rfl, hu, hk⟩)) (hx _ hx') r1 r2 r3 hmh hv⟩
        · cases hc
      · cases hc
  · cases hc
end
end A3
namespace A3
open Go
section
variable {P : Program} {X : List Nat} {N : Nat} {C : CC} {B : Nat} {w0 : World} {ρ ρ' : Ren} {s s' : St} {w w' : World} {v v1 v2 v3 : AV} {u1 u2 u3 : Value} {t : Tmps} {ev : Operand → Value}
theorem cCall_builtin {c : Call} {a : AOp} (hc : cCall P N c = some a) (hp : a.pure = true) : ∃ b, c.callee = .builtin b ∧ cBuiltin P N b c.argTypes c.args.toList = some a := by
  unfold cCall at hc
  split at hc
  · split at hc
    · simp only [Option.some.injEq] at hc; subst hc; simp [AOp.pure] at hp
    · cases hc
  · split at hc
    · simp only [Option.some.injEq] at hc; subst hc; simp [AOp.pure] at hp
    · cases hc
  · rename_i b hb; exact ⟨b, hb, hc⟩
theorem run_builtin {o : Oper} {c : Call} {b : Builtin} (ho : o.op = .call c) (hb : c.callee = .builtin b) :
    ∃ cs, (execOp ev o).run P w = (builtin b c.argTypes o.type cs (c.args.map ev)).run P w := by
  refine ⟨c.args.map fun | .const _ => true | _ => false, ?_⟩
  simp only [execOp, ho, resolve, hb, Sem.run_bind, Sem.run_pure, Result.andThen_ok, invoke]
  rfl
theorem one_arg {l : List AV} {f : AV → Option (AV × St)} {r : AV × St} (h : (match l with | [x] => f x | _ => none) = some r) : ∃ x, l = [x] ∧ f x = some r := by
  match l, h with
  | [x], h => exact ⟨x, rfl, h⟩
theorem two_args {l : List AV} {f : AV → AV → Option (AV × St)} {r : AV × St} (h : (match l with | [x, y] => f x y | _ => none) = some r) : ∃ x y, l = [x, y] ∧ f x y = some r := by
  match l, h with
  | [x, y], h => exact ⟨x, y, rfl, h⟩
theorem biR_len {k : Kd} {l : List AV} {r : AV × St} (h : biR (.len k) l s = some r) : ∃ x, l = [x] ∧ pureR (lenV k s x) s = some r := by
  match l, h with
  | [x], h => exact ⟨x, rfl, h⟩
theorem biR_cap {l : List AV} {r : AV × St} (h : biR .cap l s = some r) : ∃ x, l = [x] ∧ pureR (capV x) s = some r := by
  match l, h with
  | [x], h => exact ⟨x, rfl, h⟩
theorem biR_data {l : List AV} {r : AV × St} (h : biR .unsafeSliceData l s = some r) : ∃ x, l = [x] ∧ pureR (sliceDataV x) s = some r := by
  match l, h with
  | [x], h => exact ⟨x, rfl, h⟩
theorem biR_append {size : Nat} {z : List AV} {zs : Bool} {ty : Option Nat} {l : List AV} {r : AV × St} (h : biR (.append size z zs ty) l s = some r) : ∃ x y, l = [x, y] ∧ s.append size z zs ty x y = some r := by
  match l, h with
  | [x, y], h => exact ⟨x, y, rfl, h⟩
theorem biR_copy {size : Nat} {l : List AV} {r : AV × St} (h : biR (.copy size) l s = some r) : ∃ x y, l = [x, y] ∧ copyR size x y s = some r := by
  match l, h with
  | [x, y], h => exact ⟨x, y, rfl, h⟩
theorem biR_clear {k : Kd} {z : List AV} {l : List AV} {r : AV × St} (h : biR (.clear k z) l s = some r) : ∃ x, l = [x] ∧ clearR k z x s = some r := by
  match l, h with
  | [x], h => exact ⟨x, rfl, h⟩
theorem biR_ustr {tys : List Nat} {l : List AV} {r : AV × St} (h : biR (.unsafeString tys) l s = some r) : ∃ x y, l = [x, y] ∧ unsafeStringR tys x (natOf y) s = some r := by
  match l, h with
  | [x, y], h => exact ⟨x, y, rfl, h⟩
theorem evals_one [Sig] {as : List Opd} {us : List Value} {x : AV} (h : VRs ρ (evals t as) us) (e : evals t as = [x]) : ∃ u, us = [u] ∧ VR ρ x u := by
  rw [e] at h
  cases h with
  | cons h1 h2 => cases h2; exact ⟨_, rfl, h1⟩
theorem evals_two [Sig] {as : List Opd} {us : List Value} {x y : AV} (h : VRs ρ (evals t as) us) (e : evals t as = [x, y]) : ∃ u u', us = [u, u'] ∧ VR ρ x u ∧ VR ρ y u' := by
  rw [e] at h
  cases h with
  | cons h1 h2 => cases h2 with | cons h3 h4 => cases h4; exact ⟨_, _, rfl, h1, h3⟩
theorem arr_of_list {us : Array Value} {l : List Value} (h : us.toList = l) : us = l.toArray := by rw [← h]
theorem cBuiltin_pure [Sig] {o : Oper} {c : Call} {b : Builtin} {a : AOp} (ho : o.op = .call c) (hb : c.callee = .builtin b) (hc : cBuiltin P N b c.argTypes c.args.toList = some a) (hp : a.pure = true) (hs : step a t s = some (v, s'))
    (hE : ∀ x ∈ c.args.toList, ER ρ N t ev x) (h : HR C B w0 X ρ s w) : s' = s ∧ YieldO P ρ w ev o v := by
  unfold cBuiltin at hc
  split at hc
  · cases hc
  · rename_i as has
    have hvr : VRs ρ (evals t as) (c.args.map ev).toList := by
      have := cOpds_VR (t := t) has hE
      simpa using this
    have fin : ∀ {m : Sem Value}, Yield P ρ w m v → (∀ cs, builtin b c.argTypes o.type cs (c.args.map ev) = (do Pure.pure (.value (← m)))) → YieldO P ρ w ev o v := by
      intro m hm he
      obtain ⟨u, hr, hv⟩ := hm
      obtain ⟨cs, hcs⟩ := run_builtin (P := P) (w := w) (ev := ev) ho hb
      exact ⟨u, by rw [hcs, he]; simp [hr], hv⟩
    have len : ∀ {t0 : TypeId} {k : Kd}, b = .len → c.argTypes[0]? = some t0 → ((k = .str ∧ P.underlying t0 = some .string) ∨ (∃ e, k = .slice ∧ P.underlying t0 = some (.slice e)) ∨ (∃ a e, k = .map ∧ P.underlying t0 = some (.map a e))) →
        a = .bi (.len k) as → s' = s ∧ YieldO P ρ w ev o v := by
      intro t0 k hb' ht0 hty ha
      subst ha; subst hb'
      obtain ⟨x, e2, hs⟩ := biR_len hs
      obtain ⟨u, hu', hvu⟩ := evals_one hvr e2
      obtain ⟨hv, hs'⟩ := pureR_eq hs
      refine ⟨hs', fin (len_yield (ty := o.type) ht0 hty h.wr hvu hv) fun cs => ?_⟩
      rw [arr_of_list hu']; rfl
    split at hc
    · rename_i t0 ht0
      split at hc
      · rename_i hu; simp only [Option.some.injEq] at hc; exact len rfl ht0 (.inl ⟨rfl, hu⟩) hc.symm
      · rename_i e hu; simp only [Option.some.injEq] at hc; exact len rfl ht0 (.inr (.inl ⟨e, rfl, hu⟩)) hc.symm
      · rename_i k e hu; simp only [Option.some.injEq] at hc; exact len rfl ht0 (.inr (.inr ⟨k, e, rfl, hu⟩)) hc.symm
      · cases hc
    · rename_i t0 ht0
      split at hc
      · rename_i e hu
        simp only [Option.some.injEq] at hc; subst hc
        obtain ⟨x, e2, hs⟩ := biR_cap hs
        obtain ⟨u, hu', hvu⟩ := evals_one hvr e2
        obtain ⟨hv, hs'⟩ := pureR_eq hs
        refine ⟨hs', fin (cap_yield (ty := o.type) ht0 hu hvu hv) fun cs => ?_⟩
        rw [arr_of_list hu']; rfl
      · cases hc
    · split at hc
      · split at hc
        · split at hc
          · simp only [Option.some.injEq] at hc; subst hc; simp [AOp.pure] at hp
          · cases hc
        · cases hc
      · cases hc
    · split at hc
      · split at hc
        · simp only [Option.some.injEq] at hc; subst hc; simp [AOp.pure] at hp
        · cases hc
      · cases hc
    · split at hc
      · split at hc
        · simp only [Option.some.injEq] at hc; subst hc; simp [AOp.pure] at hp
        · cases hc
      · simp only [Option.some.injEq] at hc; subst hc; simp [AOp.pure] at hp
      · cases hc
    · simp only [Option.some.injEq] at hc; subst hc
      obtain ⟨hv, hs'⟩ := pureR_eq (hs : pureR (minmaxL false (evals t as)) s = some (v, s'))
      exact ⟨hs', fin (minmax_yield (P := P) (w := w) false (ts := c.argTypes) (ty := o.type) hvr hv) fun cs => rfl⟩
    · simp only [Option.some.injEq] at hc; subst hc
      obtain ⟨hv, hs'⟩ := pureR_eq (hs : pureR (minmaxL true (evals t as)) s = some (v, s'))
      exact ⟨hs', fin (minmax_yield (P := P) (w := w) true (ts := c.argTypes) (ty := o.type) hvr hv) fun cs => rfl⟩
    · simp only [Option.some.injEq] at hc; subst hc; simp [AOp.pure] at hp
    · split at hc
      · simp only [Option.some.injEq] at hc; subst hc; simp [AOp.pure] at hp
      · cases hc
    · simp only [Option.some.injEq] at hc; subst hc
      obtain ⟨x, e2, hs⟩ := biR_data hs
      obtain ⟨u, hu', hvu⟩ := evals_one hvr e2
      obtain ⟨hv, hs'⟩ := pureR_eq hs
      refine ⟨hs', fin (sliceData_yield (ts := c.argTypes) (ty := o.type) hvu hv) fun cs => ?_⟩
      rw [arr_of_list hu']; rfl
    · split at hc
      · split at hc
        · simp only [Option.some.injEq] at hc; subst hc; simp [AOp.pure] at hp
        · cases hc
      · cases hc
    · cases hc
theorem pure_sound [Sig] {o : Oper} {a : AOp} (hc : cOp P N o.op = some a) (hp : a.pure = true) (hs : step a t s = some (v, s')) (hE : ∀ x ∈ o.op.operands.toList, ER ρ N t ev x) (h : HR C B w0 X ρ s w) :
    s' = s ∧ YieldO P ρ w ev o v := by
  have np : ∀ {b : AOp}, b.pure = false → a = b → False := by intro b hb e; subst e; rw [hp] at hb; cases hb
  have sm : ∀ {α : Type} {x y : α}, some x = some y → x = y := by intro α x y e; simpa using e
  cases hop : o.op with
  | move x =>
    rw [hop] at hc hE
    obtain ⟨y, hy, rfl⟩ := opd1_eq hc
    obtain ⟨rfl, rfl⟩ := Prod.mk.inj (sm hs)
    exact ⟨rfl, ev x, by simp [execOp, hop], hE x (by simp [Op.operands]) y hy⟩
  | assign x =>
    rw [hop] at hc hE
    obtain ⟨y, hy, rfl⟩ := opd1_eq hc
    obtain ⟨rfl, rfl⟩ := Prod.mk.inj (sm hs)
    exact ⟨rfl, ev x, by simp [execOp, hop], hE x (by simp [Op.operands]) y hy⟩
  | pick c x y =>
    rw [hop] at hc hE
    obtain ⟨c', x', y', h1, h2, h3, rfl⟩ := opd3_eq hc
    obtain ⟨hv, hs'⟩ := pureR_eq hs
    obtain ⟨u, hr, hu⟩ := pick_yield (P := P) (w := w) (hE c (by simp [Op.operands]) _ h1) (hE x (by simp [Op.operands]) _ h2) (hE y (by simp [Op.operands]) _ h3) hv
    exact ⟨hs', u, by simp only [execOp, hop]; simp only [Sem.run_bind] at hr ⊢; revert hr; cases (asBool (ev c)).run P w <;> intro hr <;> simp_all [Result.andThen], hu⟩
  | build ty parts =>
    rw [hop] at hc hE
    have hE' : ∀ p ∈ parts.toList, ER ρ N t ev p.2 := fun p hp => hE p.2 (by simp [Op.operands]; exact ⟨p.1, by simpa using hp⟩)
    simp only [cOp] at hc
    split at hc
    · rename_i z fs hz hu
      split at hc
      · cases hc
      · rename_i hfs
        split at hc
        · rename_i ps hps
          have := sm hc; subst this
          obtain ⟨hv, hs'⟩ := pureR_eq hs
          exact ⟨hs', YieldO.of (build_yield hz (.inl ⟨fs, hu, by simpa using hfs, hps⟩) hE' hv) (by simp only [execOp, hop])⟩
        · cases hc
    · rename_i z n e hz hu
      split at hc
      · rename_i k hk
        split at hc
        · rename_i ps hps
          have := sm hc; subst this
          obtain ⟨hv, hs'⟩ := pureR_eq hs
          exact ⟨hs', YieldO.of (build_yield hz (.inr ⟨n, e, k, hu, hk, hps⟩) hE' hv) (by simp only [execOp, hop])⟩
        · cases hc
      · cases hc
    · cases hc
  | load ty x =>
    rw [hop] at hc hE
    simp only [cOp] at hc
    split at hc
    · rename_i n hn
      obtain ⟨x', hx', rfl⟩ := opd1_eq hc
      have he : s' = s := loadR_same hs
      subst he
      exact ⟨rfl, YieldO.of (load_yield h.wr hn (hE x (by simp [Op.operands]) _ hx') hs) (by simp only [execOp, hop])⟩
    · cases hc
  | nilCheck x =>
    rw [hop] at hc hE
    obtain ⟨x', hx', rfl⟩ := opd1_eq hc
    obtain ⟨hv, hs'⟩ := pureR_eq hs
    exact ⟨hs', nilCheck_exec hop (hE x (by simp [Op.operands]) _ hx') hv⟩
  | binOp op ty x y yt =>
    rw [hop] at hc hE
    obtain ⟨hs', hy⟩ := cBin_sound (P := P) (w := w) hc hs (hE x (by simp [Op.operands])) (hE y (by simp [Op.operands]))
    exact ⟨hs', YieldO.of hy (by simp only [execOp, hop])⟩
  | unOp op ty x =>
    rw [hop] at hc hE
    obtain ⟨x', hx', rfl⟩ := opd1_eq hc
    obtain ⟨hv, hs'⟩ := pureR_eq hs
    exact ⟨hs', YieldO.of (un_yield (hE x (by simp [Op.operands]) _ hx') hv) (by simp only [execOp, hop])⟩
  | convert src dst x =>
    rw [hop] at hc hE
    obtain ⟨hs', hy⟩ := cConvert_sound (P := P) hc hp hs (hE x (by simp [Op.operands])) h
    exact ⟨hs', YieldO.of hy (by simp only [execOp, hop])⟩
  | makeInterface ty x =>
    rw [hop] at hc hE
    simp only [cOp] at hc
    split at hc
    · cases hc
    · rename_i d hd hu
      obtain ⟨x', hx', rfl⟩ := opd1_eq hc
      obtain ⟨rfl, rfl⟩ := Prod.mk.inj (sm hs)
      exact ⟨rfl, YieldO.of (iface_yield hu (fun m e => hd m e) (hE x (by simp [Op.operands]) _ hx')) (by simp only [execOp, hop])⟩
    · cases hc
  | makeFunc fn first captured =>
    rw [hop] at hc hE
    simp only [cOp] at hc
    split at hc
    · rename_i f
      split at hc
      · rename_i as bs ha hb
        have := sm hc; subst this
        obtain ⟨rfl, rfl⟩ := Prod.mk.inj (sm hs)
        have r1 := cOpds_VR (t := t) ha fun x hx => hE x (by simp [Op.operands]; exact .inl (by simpa using hx))
        have r2 := cOpds_VR (t := t) hb fun x hx => hE x (by simp [Op.operands]; exact .inr (by simpa using hx))
        exact ⟨rfl, .func (.func f) (first.map ev) (captured.map ev), by simp [execOp, hop, Instr.makeFunc], .func (by simpa using r1) (by simpa using r2)⟩
      · cases hc
    · cases hc
  | slice ty x lo hi mx =>
    rw [hop] at hc hE
    obtain ⟨hs', hy⟩ := cSliceOp_sound (P := P) (w := w) hc hs (hE x (by simp [Op.operands])) (fun y e => hE y (by subst e; simp [Op.operands])) (fun y e => hE y (by subst e; simp [Op.operands])) (fun y e => hE y (by subst e; simp [Op.operands]))
    exact ⟨hs', YieldO.of hy (by simp only [execOp, hop])⟩
  | fieldAddr ty x f =>
    rw [hop] at hc hE
    simp only [cOp] at hc
    split at hc
    · rename_i fs hu
      split at hc
      · rename_i fd hf
        split at hc
        · rename_i k hk
          obtain ⟨x', hx', rfl⟩ := opd1_eq hc
          obtain ⟨hv, hs'⟩ := pureR_eq hs
          exact ⟨hs', YieldO.of (fieldAddr_yield hu hf hk (hE x (by simp [Op.operands]) _ hx') hv) (by simp only [execOp, hop])⟩
        · cases hc
      · cases hc
    · cases hc
  | field ty x f =>
    rw [hop] at hc hE
    simp only [cOp] at hc
    split at hc
    · rename_i fs hu
      split at hc
      · rename_i fd hf
        split at hc
        · rename_i n hn
          obtain ⟨x', hx', rfl⟩ := opd1_eq hc
          obtain ⟨hv, hs'⟩ := pureR_eq hs
          exact ⟨hs', YieldO.of (field_yield hu hf hn (hE x (by simp [Op.operands]) _ hx') hv) (by simp only [execOp, hop])⟩
        · cases hc
      · cases hc
    · cases hc
  | indexAddr ty x i =>
    rw [hop] at hc hE
    obtain ⟨hs', hy⟩ := cIndexAddr_sound (P := P) (w := w) hc hs (hE x (by simp [Op.operands])) (hE i (by simp [Op.operands]))
    exact ⟨hs', YieldO.of hy (by simp only [execOp, hop])⟩
  | index ty x i =>
    rw [hop] at hc hE
    obtain ⟨hs', hy⟩ := cIndex_sound (P := P) (w := w) hc hs (hE x (by simp [Op.operands])) (hE i (by simp [Op.operands]))
    exact ⟨hs', YieldO.of hy (by simp only [execOp, hop])⟩
  | lookup ty x k ok =>
    rw [hop] at hc hE
    simp only [cOp, cLookup] at hc
    split at hc
    · rename_i kt e hu
      split at hc
      · rename_i l z hl hz
        split at hc
        · rename_i x' k' hx' hk'
          have := sm hc; subst this
          obtain ⟨hv, hs'⟩ := pureR_eq hs
          exact ⟨hs', YieldO.of (lookup_yield hu hl hz h.wr (hE x (by simp [Op.operands]) _ hx') (hE k (by simp [Op.operands]) _ hk') hv) (by simp only [execOp, hop])⟩
        · cases hc
      · cases hc
    · cases hc
  | typeAssert x ty at' ok =>
    rw [hop] at hc hE
    simp only [cOp, cTypeAssert] at hc
    split at hc
    · cases hc
    · rename_i d hd hu
      split at hc
      · rename_i z hz
        obtain ⟨x', hx', rfl⟩ := opd1_eq hc
        obtain ⟨hv, hs'⟩ := pureR_eq hs
        exact ⟨hs', YieldO.of (typeAssert_yield (t := ty) hu (fun m e => hd m e) hz (hE x (by simp [Op.operands]) _ hx') hv) (by simp only [execOp, hop])⟩
      · cases hc
    · cases hc
  | extract x i =>
    rw [hop] at hc hE
    obtain ⟨x', hx', rfl⟩ := opd1_eq hc
    obtain ⟨hv, hs'⟩ := pureR_eq hs
    exact ⟨hs', YieldO.of (extract_yield (hE x (by simp [Op.operands]) _ hx') hv) (by simp only [execOp, hop])⟩
  | call c =>
    rw [hop] at hc hE
    obtain ⟨b, hb, hcb⟩ := cCall_builtin hc hp
    exact cBuiltin_pure hop hb hcb hp hs (fun x hx => hE x (by simp only [Op.operands, Call.operands, hb]; simpa using hx)) h
  | alloc e =>
    rw [hop] at hc; simp only [cOp] at hc
    split at hc
    · exact (np rfl (sm hc).symm).elim
    · cases hc
  | box e x =>
    rw [hop] at hc
    obtain ⟨x', hx', rfl⟩ := opd1_eq hc
    exact (np rfl rfl).elim
  | buildSlice ty len parts =>
    rw [hop] at hc; simp only [cOp] at hc
    split at hc
    · split at hc
      · split at hc
        · split at hc
          · exact (np rfl (sm hc).symm).elim
          · cases hc
        · cases hc
      · cases hc
    · cases hc
  | store ty x y =>
    rw [hop] at hc; simp only [cOp] at hc
    split at hc
    · obtain ⟨x', y', _, _, rfl⟩ := opd2_eq hc
      exact (np rfl rfl).elim
    · cases hc
  | makeMap ty r =>
    rw [hop] at hc; simp only [cOp] at hc
    split at hc
    · exact (np rfl (sm hc).symm).elim
    · exact (np rfl (sm hc).symm).elim
    · cases hc
  | makeSlice ty x y =>
    rw [hop] at hc; simp only [cOp] at hc
    split at hc
    · split at hc
      · split at hc
        · obtain ⟨x', y', _, _, rfl⟩ := opd2_eq hc
          exact (np rfl rfl).elim
        · cases hc
      · cases hc
    · cases hc
  | mapUpdate ty m k x =>
    rw [hop] at hc; simp only [cOp, cMapUpdate] at hc
    split at hc
    · split at hc
      · obtain ⟨x', y', z', _, _, _, rfl⟩ := opd3_eq hc
        exact (np rfl rfl).elim
      · cases hc
    · cases hc
  | mapEntry ty m k =>
    rw [hop] at hc; simp only [cOp, cMapEntry] at hc
    split at hc
    · split at hc
      · obtain ⟨x', y', _, _, rfl⟩ := opd2_eq hc
        exact (np rfl rfl).elim
      · cases hc
    · cases hc
  | entryStore ty m k x =>
    rw [hop] at hc; simp only [cOp] at hc
    obtain ⟨x', y', z', _, _, _, rfl⟩ := opd3_eq hc
    exact (np rfl rfl).elim
  | defer c =>
    rw [hop] at hc; simp only [cOp] at hc
    split at hc
    · split at hc
      · exact (np rfl (sm hc).symm).elim
      · cases hc
    · cases hc
  | panic x =>
    rw [hop] at hc
    obtain ⟨x', hx', rfl⟩ := opd1_eq hc
    exact (np rfl rfl).elim
  | _ => rw [hop] at hc; simp [cOp] at hc
end
end A3
namespace A3
open Go
section
variable {P : Program} {X : List Nat} {N : Nat} {C : CC} {B : Nat} {w0 : World} {ρ ρ' : Ren} {s s' : St} {w w' : World} {v v1 v2 v3 : AV} {u1 u2 u3 : Value} {t : Tmps} {ev : Operand → Value}
def AOp.isAlloc : AOp → Bool
  | .alloc .. | .box .. | .buildSlice .. | .makeSlice .. | .makeMap => true
  | _ => false
def Late [Sig] (P : Program) (N : Nat) (C : CC) (B : Nat) (w0 : World) (X : List Nat) (t : Tmps) (o : Oper) (ty : Option Nat) (obj : Obj) (mk : Pos → AV) : Prop :=
  ∀ (ev : Operand → Value) (ρ : Ren) (s : St) (w : World) (n : Pos), (∀ c, ev (.const c) = c) → (∀ x ∈ o.op.operands.toList, ER ρ N t ev x) → HR C B w0 X ρ s w → s.heap.get n = some obj → ρ n = none →
    (∀ t', s.ty.get n = some t' → ty = some t') → ∃ x u w', (execOp ev o).run P w = .ok (.value u) w' ∧ HR C B w0 X (ρ.ext n x) s w' ∧ VR (ρ.ext n x) (mk n) u
theorem HR.bindMap [Sig] (h : HR C B w0 X ρ s w) {n : Pos} (hn : s.heap.get n = some (.map [])) (hρ : ρ n = none) (ht : s.ty.get n = none) :
    HR C B w0 X (ρ.ext n (w.heap.size, ⟨0, 0⟩)) s (w.alloc (.map #[] 0)) := by
  refine ⟨h.wr.bindObj (.map #[] 0) hρ ⟨_, hn⟩ (by intro cs ro g e; rw [hn] at e; cases e) ?_ ?_, ⟨?_, h.ty.fresh, fun b hb => (Tys.alloc w _).2.2 b _ (h.ty.df b hb)⟩⟩
  · intro es e
    rw [hn] at e
    simp only [Option.some.injEq, Obj.map.injEq] at e
    subst e
    exact ⟨#[], 0, rfl, .nil, by simp, rfl⟩
  · intro l e; rw [hn] at e; cases e
  · intro m t' b o hm hb
    rcases Ren.ext_cases hb with ⟨rfl, _⟩ | ⟨_, hb⟩
    · rw [ht] at hm; cases hm
    · obtain ⟨cells, fz, hc, hl⟩ := h.ty.is m t' b o hm hb
      exact ⟨cells, fz, by rw [heap_alloc_ne (Nat.ne_of_lt (h.wr.dom _ _ _ hb))]; exact hc, hl⟩
theorem Makes.late' [Sig] {o : Oper} {m : Sem Value} {cs : List AV} {mk : Pos → AV} {elem : TypeId} {ty : Option Nat} {n : Pos} (hm : Makes P ρ w m cs mk elem) (he : execOp ev o = (do Pure.pure (.value (← m)))) (h : HR C B w0 X ρ s w)
    (hn : s.heap.get n = some (fresh cs)) (hρ : ρ n = none) (ht : ∀ t', s.ty.get n = some t' → ty = some t') (hty : ∀ t', ty = some t' → t' = elem) :
    ∃ x u w', (execOp ev o).run P w = .ok (.value u) w' ∧ HR C B w0 X (ρ.ext n x) s w' ∧ VR (ρ.ext n x) (mk n) u := by
  obtain ⟨x, u, w', hr, h1, h2⟩ := hm.late h hn hρ fun t' h' => hty t' (ht t' h')
  exact ⟨x, u, w', by rw [he]; simp [hr], h1, h2⟩
theorem tagC_eq {e t' : Nat} (h : tagC P e = some t') : t' = e := by
  unfold tagC at h
  split at h
  · simp only [Option.some.injEq] at h; exact h.symm
  · cases h
theorem alloc_sound [Sig] {o : Oper} {a : AOp} (hc : cOp P N o.op = some a) (ha : a.isAlloc = true) (hs : step a t s = some (v, s')) :
    ∃ ty obj mk, v = mk s.next ∧ s' = (s.tag ty).alloc obj ∧ obj.plain = true ∧ obj.loose = true ∧ Late P N C B w0 X t o ty obj mk := by
  have sm : ∀ {α : Type} {x y : α}, some x = some y → x = y := by intro α x y e; simpa using e
  have na : ∀ {b : AOp}, b.isAlloc = false → a = b → False := by intro b hb e; subst e; rw [ha] at hb; cases hb
  cases hop : o.op with
  | alloc e =>
    rw [hop] at hc; simp only [cOp] at hc
    split at hc
    · rename_i z hz
      have := sm hc; subst this
      obtain ⟨rfl, rfl⟩ := Prod.mk.inj (sm hs)
      refine ⟨tagC P e, fresh z, fun n => .ptr (some (n, 0)), by rw [St.tag_next], rfl, rfl, rfl, ?_⟩
      intro ev ρ s1 w n _ hE h hn hρ ht
      exact (alloc_makes hz).late' (by simp only [execOp, hop]) h hn hρ ht (fun t' => tagC_eq)
    · cases hc
  | box e x =>
    rw [hop] at hc
    obtain ⟨x', hx', rfl⟩ := opd1_eq hc
    simp only [step] at hs
    unfold boxR at hs
    split at hs
    · cases hs
    · rename_i cs hcs
      obtain ⟨rfl, rfl⟩ := Prod.mk.inj (sm hs)
      refine ⟨tagC P e, fresh cs, fun n => .ptr (some (n, 0)), by rw [St.tag_next], rfl, rfl, rfl, ?_⟩
      intro ev ρ s1 w n _ hE h hn hρ ht
      exact (box_makes (e := e) (hE x (by simp [hop, Op.operands]) _ hx') hcs).late' (by simp only [execOp, hop]) h hn hρ ht (fun t' => tagC_eq)
  | buildSlice ty len parts =>
    rw [hop] at hc; simp only [cOp] at hc
    split at hc
    · rename_i e he
      unfold elemC at he
      split at he
      · rename_i e' hu
        have := sm he; subst this
        split at hc
        · rename_i z k hz hk
          split at hc
          · rename_i hcond
            split at hc
            · rename_i ps hps
              have := sm hc; subst this
              simp only [step] at hs
              unfold buildSliceR at hs
              split at hs
              · cases hs
              · rename_i cs hcs
                obtain ⟨rfl, rfl⟩ := Prod.mk.inj (sm hs)
                refine ⟨none, fresh cs, fun n => .slice (some (n, 0)) len len none, rfl, rfl, rfl, rfl, ?_⟩
                intro ev ρ s1 w n _ hE h hn hρ ht
                have hE' : ∀ p ∈ parts.toList, ER ρ N t ev p.2 := fun p hp => hE p.2 (by simp [hop, Op.operands]; exact ⟨p.1, by simpa using hp⟩)
                exact (buildSlice_makes hu hz hk hcond.1 hcond.2 hps hE' hcs).late' (by simp only [execOp, hop]) h hn hρ ht (by simp)
            · cases hc
          · cases hc
        · cases hc
      · cases he
    · cases hc
  | makeSlice ty x y =>
    rw [hop] at hc; simp only [cOp] at hc
    split at hc
    · rename_i e he
      unfold elemC at he
      split at he
      · rename_i e' hu
        have := sm he; subst this
        split at hc
        · rename_i i z hi hz
          split at hc
          · rename_i hcond
            obtain ⟨x', y', hx', hy', rfl⟩ := opd2_eq hc
            simp only [step] at hs
            unfold makeSliceR at hs
            split at hs
            · rename_i l c hl hcc
              split at hs
              · rename_i hle
                simp only [Bool.and_eq_true, Nat.ble_eq] at hle
                obtain ⟨rfl, rfl⟩ := Prod.mk.inj (sm hs)
                refine ⟨none, fresh (rep z c), fun n => .slice (some (n, 0)) l c none, rfl, rfl, rfl, rfl, ?_⟩
                intro ev ρ s1 w n _ hE h hn hρ ht
                exact (makeSlice_makes hu hz hi hcond.1 hcond.2 (hE x (by simp [hop, Op.operands]) _ hx') (hE y (by simp [hop, Op.operands]) _ hy') hl hcc hle.1 hle.2).late' (by simp only [execOp, hop]) h hn hρ ht (by simp)
              · cases hs
            · cases hs
          · cases hc
        · cases hc
      · cases he
    · cases hc
  | makeMap ty r =>
    rw [hop] at hc; simp only [cOp] at hc
    have fin : ∀ {kt e : TypeId}, P.underlying ty = some (.map kt e) → (r = none ∨ ∃ k n, r = some (.const (.int k n))) → a = .makeMap →
        ∃ ty obj mk, v = mk s.next ∧ s' = (s.tag ty).alloc obj ∧ obj.plain = true ∧ obj.loose = true ∧ Late P N C B w0 X t o ty obj mk := by
      intro kt e hu hr ea
      subst ea
      obtain ⟨rfl, rfl⟩ := Prod.mk.inj (sm hs)
      refine ⟨none, .map [], fun n => .map (some n), rfl, rfl, rfl, rfl, ?_⟩
      intro ev ρ s1 w n hconst hE h hn hρ ht
      have htn : s1.ty.get n = none := by
        cases he : s1.ty.get n with
        | none => rfl
        | some t' => have := ht t' he; cases this
      refine ⟨_, _, _, ?_, h.bindMap hn hρ htn, .map Ren.ext_same⟩
      simp only [execOp, hop, Sem.run_bind, makeMap_run hu hr hconst, Result.andThen_ok, Sem.run_pure]
    split at hc
    · rename_i kt e hu; exact fin hu (.inl rfl) (sm hc).symm
    · rename_i k n kt e hu; exact fin hu (.inr ⟨k, n, rfl⟩) (sm hc).symm
    · cases hc
  | _ =>
    rw [hop] at hc
    simp only [cOp, cBin, cEql, cConvert, cSliceOp, cIndexAddr, cIndex, cLookup, cMapUpdate, cMapEntry, cTypeAssert, cBuiltin, cCall, opd1, opd2, opd3, reduceCtorEq] at hc
    repeat' split at hc
    all_goals first
      | (cases hc; done)
      | (cases hc; cases ha)
end
end A3
namespace A3
open Go
section
variable {P : Program} {X : List Nat} {N : Nat} {C : CC} {B : Nat} {w0 : World} {ρ ρ' : Ren} {s s' : St} {w w' : World} {v v1 v2 v3 : AV} {u1 u2 u3 : Value} {t : Tmps} {ev : Operand → Value}
def AOp.isAct : AOp → Bool
  | .store .. | .mapUpdate .. | .mapEntry .. | .entryStore .. | .convBytes .. => true
  | .bi b _ => match b with
    | .append .. | .copy _ | .clear .. | .unsafeString _ => true
    | _ => false
  | _ => false
def ActO [Sig] (P : Program) (C : CC) (B : Nat) (w0 : World) (X : List Nat) (ρ : Ren) (s : St) (w : World) (ev : Operand → Value) (o : Oper) (v : AV) (s' : St) : Prop :=
  ∃ ρ' w' r, (execOp ev o).run P w = .ok r w' ∧ ((r = .skip ∧ v = .dead) ∨ ∃ u, r = .value u ∧ VR ρ' v u) ∧ HR C B w0 X ρ' s' w' ∧ Ext ρ s ρ' s'
theorem cBuiltin_act [Sig] {o : Oper} {c : Call} {b : Builtin} {a : AOp} (ho : o.op = .call c) (hb : c.callee = .builtin b) (hc : cBuiltin P N b c.argTypes c.args.toList = some a) (ha : a.isAct = true) (hs : step a t s = some (v, s'))
    (hE : ∀ x ∈ c.args.toList, ER ρ N t ev x) (h : HR C B w0 X ρ s w) : ActO P C B w0 X ρ s w ev o v s' := by
  have sm : ∀ {α : Type} {x y : α}, some x = some y → x = y := by intro α x y e; simpa using e
  have na : ∀ {b : AOp}, b.isAct = false → b = a → False := by intro b hb e; subst e; rw [ha] at hb; cases hb
  unfold cBuiltin at hc
  split at hc
  · cases hc
  · rename_i as has
    have hvr : VRs ρ (evals t as) (c.args.map ev).toList := by
      have := cOpds_VR (t := t) has hE
      simpa using this
    have fin : ∀ {m : Sem Value}, (∃ ρ' u w', m.run P w = .ok u w' ∧ VR ρ' v u ∧ HR C B w0 X ρ' s' w' ∧ Ext ρ s ρ' s') → (∀ cs, builtin b c.argTypes o.type cs (c.args.map ev) = (do Pure.pure (.value (← m)))) → ActO P C B w0 X ρ s w ev o v s' := by
      rintro m ⟨ρ', u, w', hr, hv, h1, h2⟩ he
      obtain ⟨cs, hcs⟩ := run_builtin (P := P) (w := w) (ev := ev) ho hb
      exact ⟨ρ', w', .value u, by rw [hcs, he]; simp [hr], .inr ⟨u, rfl, hv⟩, h1, h2⟩
    split at hc
    · split at hc <;> first | exact (na rfl (sm hc)).elim | cases hc
    · split at hc <;> first | exact (na rfl (sm hc)).elim | cases hc
    ·
      rename_i t0 ht0
      split at hc
      · rename_i e xt hu hxt
        split at hc
        · rename_i i z d hi hz hd
          split at hc
          · rename_i hcond
            have := sm hc; subst this
            obtain ⟨x, y, e2, hs⟩ := biR_append hs
            obtain ⟨u, u', hu', hvu, hvu'⟩ := evals_two hvr e2
            obtain ⟨i', zv, hi', hzv, hcz⟩ := zeroCells_eq hz
            rw [hi] at hi'; have := sm hi'; subst this
            have key := fun ht => append_acts (P := P) (ts := c.argTypes) (ty := o.type) (e := e) (zv := zv) ht h hvu hvu' hs
            obtain ⟨ρ', u2, w', hr, hv, h1, h2⟩ := key (by
              refine ⟨⟨t0, ht0, hu⟩, hi, hzv, hcz, hcond.2, hcond.1, ⟨xt, d, hxt, hd, ?_⟩, ?_⟩
              · cases d <;> simp
              · intro t' ht'
                split at ht'
                · simp at ht'; exact ht'.symm
                · cases ht')
            refine fin ⟨ρ', u2, w', hr, hv, h1, h2⟩ fun cs => ?_
            rw [arr_of_list hu']; rfl
          · cases hc
        · cases hc
      · cases hc
    ·
      rename_i t0 ht0
      split at hc
      · rename_i e he
        unfold elemC at he
        split at he
        · rename_i e' hu
          have := sm he; subst this
          split at hc
          · rename_i k hk
            have := sm hc; subst this
            obtain ⟨x, y, e2, hs⟩ := biR_copy hs
            obtain ⟨u, u', hu', hvu, hvu'⟩ := evals_two hvr e2
            obtain ⟨u2, w', hr, hv, h1, h2⟩ := copy_acts (ty := o.type) ht0 hu hk h hvu hvu' hs
            refine fin ⟨ρ, u2, w', hr, hv, h1, h2⟩ fun cs => ?_
            rw [arr_of_list hu']; rfl
          · cases hc
        · cases he
      · cases hc
    ·
      rename_i t0 ht0
      have clr : ∀ {k z}, ((k = .slice ∧ ∃ e, P.underlying t0 = some (.slice e) ∧ zeroCells P e = some z) ∨ (k = .map ∧ ∃ kt e, P.underlying t0 = some (.map kt e))) → a = .bi (.clear k z) as → ActO P C B w0 X ρ s w ev o v s' := by
        intro k z ht e
        subst e
        obtain ⟨x, e2, hs⟩ := biR_clear hs
        obtain ⟨u, hu', hvu⟩ := evals_one hvr e2
        obtain ⟨u2, w', hr, hv, h1, h2⟩ := clear_acts (ty := o.type) ht0 ht h hvu hs
        refine fin ⟨ρ, u2, w', hr, hv, h1, h2⟩ fun cs => ?_
        rw [arr_of_list hu']; rfl
      split at hc
      · rename_i e hu
        split at hc
        · rename_i z hz; exact clr (.inl ⟨rfl, e, hu, hz⟩) (sm hc).symm
        · cases hc
      · rename_i kt e hu; exact clr (.inr ⟨rfl, kt, e, hu⟩) (sm hc).symm
      · cases hc
    · exact (na rfl (sm hc)).elim
    · exact (na rfl (sm hc)).elim
    · exact (na rfl (sm hc)).elim
    · split at hc <;> first | exact (na rfl (sm hc)).elim | cases hc
    · exact (na rfl (sm hc)).elim
    ·
      rename_i t0 ht0
      split at hc
      · rename_i e hu
        split at hc
        · rename_i he
          have := sm hc; subst this
          obtain ⟨x, y, e2, hs⟩ := biR_ustr hs
          obtain ⟨u, u', hu', hvu, hvu'⟩ := evals_two hvr e2
          obtain ⟨u2, w', hr, hv, h1, h2⟩ := unsafeString_acts (ty := o.type) ht0 hu he h hvu hvu' hs
          refine fin ⟨ρ, u2, w', hr, hv, h1, h2⟩ fun cs => ?_
          rw [arr_of_list hu']; rfl
        · cases hc
      · cases hc
    · cases hc
theorem act_sound [Sig] {o : Oper} {a : AOp} (hc : cOp P N o.op = some a) (ha : a.isAct = true) (hs : step a t s = some (v, s')) (hE : ∀ x ∈ o.op.operands.toList, ER ρ N t ev x) (h : HR C B w0 X ρ s w) :
    ActO P C B w0 X ρ s w ev o v s' := by
  have sm : ∀ {α : Type} {x y : α}, some x = some y → x = y := by intro α x y e; simpa using e
  have na : ∀ {b : AOp}, b.isAct = false → b = a → False := by intro b hb e; subst e; rw [ha] at hb; cases hb
  cases hop : o.op with
  | store ty x y =>
    rw [hop] at hc hE; simp only [cOp] at hc
    split at hc
    · rename_i n hn
      obtain ⟨x', y', hx', hy', rfl⟩ := opd2_eq hc
      obtain ⟨w', hv, hr, h1, h2⟩ := storeR_acts (P := P) hn h (hE x (by simp [Op.operands]) _ hx') (hE y (by simp [Op.operands]) _ hy') hs
      exact ⟨ρ, w', .skip, by simp [execOp, hop, hr], .inl ⟨rfl, hv⟩, h1, h2⟩
    · cases hc
  | mapUpdate ty m k x =>
    rw [hop] at hc hE; simp only [cOp, cMapUpdate] at hc
    split at hc
    · rename_i kt e hu
      split at hc
      · rename_i l hl
        obtain ⟨x', y', z', hx', hy', hz', rfl⟩ := opd3_eq hc
        obtain ⟨w', hv, hr, h1, h2⟩ := mapUpdate_acts (P := P) hu hl h (hE m (by simp [Op.operands]) _ hx') (hE k (by simp [Op.operands]) _ hy') (hE x (by simp [Op.operands]) _ hz') hs
        exact ⟨ρ, w', .skip, by simp [execOp, hop, hr], .inl ⟨rfl, hv⟩, h1, h2⟩
      · cases hc
    · cases hc
  | mapEntry ty m k =>
    rw [hop] at hc hE; simp only [cOp, cMapEntry] at hc
    split at hc
    · rename_i kt e hu
      split at hc
      · rename_i l z hl hz
        obtain ⟨x', y', hx', hy', rfl⟩ := opd2_eq hc
        obtain ⟨u, w', hr, hv, h1, h2⟩ := mapEntry_acts (P := P) hu hl hz h (hE m (by simp [Op.operands]) _ hx') (hE k (by simp [Op.operands]) _ hy') hs
        exact ⟨ρ, w', .value u, by simp [execOp, hop, hr], .inr ⟨u, rfl, hv⟩, h1, h2⟩
      · cases hc
    · cases hc
  | entryStore ty m k x =>
    rw [hop] at hc hE; simp only [cOp] at hc
    obtain ⟨x', y', z', hx', hy', hz', rfl⟩ := opd3_eq hc
    obtain ⟨w', hv, hr, h1, h2⟩ := entryStore_acts (P := P) (t := ty) h (hE m (by simp [Op.operands]) _ hx') (hE k (by simp [Op.operands]) _ hy') (hE x (by simp [Op.operands]) _ hz') hs
    exact ⟨ρ, w', .skip, by simp [execOp, hop, hr], .inl ⟨rfl, hv⟩, h1, h2⟩
  | convert src dst x =>
    rw [hop] at hc hE; simp only [cOp, cConvert] at hc
    split at hc
    · obtain ⟨_, _, rfl⟩ := opd1_eq hc; exact (na rfl rfl).elim
    · obtain ⟨_, _, rfl⟩ := opd1_eq hc; exact (na rfl rfl).elim
    · obtain ⟨_, _, rfl⟩ := opd1_eq hc; exact (na rfl rfl).elim
    · obtain ⟨_, _, rfl⟩ := opd1_eq hc; exact (na rfl rfl).elim
    · rename_i e h1 h2
      split at hc
      · rename_i i he hi
        obtain ⟨x', hx', rfl⟩ := opd1_eq hc
        obtain ⟨ρ', u, w', hr, hv, h3, h4⟩ := convBytes_acts (P := P) h1 h2 he h (hE x (by simp [Op.operands]) _ hx') hs
        exact ⟨ρ', w', .value u, by simp [execOp, hop, hr], .inr ⟨u, rfl, hv⟩, h3, h4⟩
      · cases hc
    · split at hc
      · obtain ⟨_, _, rfl⟩ := opd1_eq hc; exact (na rfl rfl).elim
      · cases hc
    · split at hc
      · obtain ⟨_, _, rfl⟩ := opd1_eq hc; exact (na rfl rfl).elim
      · cases hc
    · split at hc
      · obtain ⟨_, _, rfl⟩ := opd1_eq hc; exact (na rfl rfl).elim
      · cases hc
    · cases hc
  | call c =>
    rw [hop] at hc hE
    have hcb : ∃ b, c.callee = .builtin b ∧ cBuiltin P N b c.argTypes c.args.toList = some a := by
      simp only [cOp] at hc
      unfold cCall at hc
      split at hc
      · split at hc
        · exact (na rfl (sm hc)).elim
        · cases hc
      · split at hc
        · exact (na rfl (sm hc)).elim
        · cases hc
      · rename_i b hb; exact ⟨b, hb, hc⟩
    obtain ⟨b, hb, hcb⟩ := hcb
    exact cBuiltin_act hop hb hcb ha hs (fun x hx => hE x (by simp only [Op.operands, Call.operands, hb]; simpa using hx)) h
  | _ =>
    rw [hop] at hc
    simp only [cOp, cBin, cEql, cSliceOp, cIndexAddr, cIndex, cLookup, cTypeAssert, opd1, opd2, opd3, reduceCtorEq] at hc
    repeat' split at hc
    all_goals first
      | (cases hc; done)
      | (cases hc; cases ha)
end
end A3
