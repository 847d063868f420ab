/- Walks over functions that the machine takes as primitives. -/
import Derived.Shelf.Strings.Trim
import Derived.Shelf.Strings.Prefix
import Derived.Shelf.Small.Strs
import Derived.Shelf.LaysM
import Derived.Shelf.Strconv.AppendInt10
import Derived.Ground.NamesProg
import Derived.Test.YtpkhlfbgdebpoaaGreatDoorProg
import Derived.WalkKit
import Derived.Lib.Walk
import Derived.Below
import Derived.RegionTactic
import Derived.ChangeAlike
import Derived.Deep.QuietTactic
import Derived.BigQuiet
import Derived.Laws.IdiomStrings
import Derived.ChangeKeysEq
import Derived.Deep.RegionWith
import Derived.Deep.AppendLies
import Derived.Deep.RegionLaw
import Derived.Lib.ItoaLen
namespace Go.Proofs
open Go.Shelf
def Tryz.lays100_ren : Go.Shelf.Ren := ⟨fun | 100 => 359 | 207 => 478 | n => n, fun | 9 => 9 | 4 => 4 | 3 => 3 | n => n, fun | n => n⟩
theorem Tryz.lays100 : Go.Proofs.Lays.n100 Tryz.prog Tryz.lays100_ren := {
  mixed := by kernel_rfl
  f100 := Tryz.func359.trans (congrArg some (by kernel_rfl))
  f207 := Tryz.func478.trans (congrArg some (by kernel_rfl))
  t3 := Tryz.underlying3
  a3 := Tryz.isAgg3
  z3 := Tryz.sizeOf3
  v3 := Tryz.zeroValue3
  t4 := Tryz.underlying4
  a4 := Tryz.isAgg4
  z4 := Tryz.sizeOf4
  v4 := Tryz.zeroValue4
  t9 := Tryz.underlying9
  a9 := Tryz.isAgg9
  z9 := Tryz.sizeOf9
  v9 := Tryz.zeroValue9 }
def Tryz.laysM249_ren : Go.Shelf.Ren := ⟨fun | 249 => 281 | 288 => 338 | 283 => 465 | 284 => 466 | 285 => 467 | 286 => 468 | 129 => 355 | 317 => 529 | 318 => 530 | 319 => 531 | 320 => 532 | 337 => 581 | 338 => 582 | n => n, fun | 37 => 250 | 2 => 2 | 3 => 3 | 53 => 451 | 4 => 4 | 9 => 9 | 171 => 537 | 0 => 0 | 173 => 539 | 212 => 602 | 51 => 468 | 5 => 5 | 20 => 20 | 213 => 603 | 46 => 172 | 232 => 436 | 233 => 674 | n => n, fun | 17 => 1 | 18 => 7 | 19 => 8 | n => n⟩
theorem Tryz.laysM249 : Go.Proofs.LaysM.n249 Tryz.prog Tryz.laysM249_ren := {
  mixed := by kernel_rfl
  f129 := Tryz.func355.trans (congrArg some (by kernel_rfl))
  f249 := Tryz.func281.trans (congrArg some (by kernel_rfl))
  f283 := Tryz.func465.trans (congrArg some (by kernel_rfl))
  f284 := Tryz.func466.trans (congrArg some (by kernel_rfl))
  f285 := Tryz.func467.trans (congrArg some (by kernel_rfl))
  f286 := Tryz.func468.trans (congrArg some (by kernel_rfl))
  f288 := Tryz.func338.trans (congrArg some (by kernel_rfl))
  f317 := Tryz.func529.trans (congrArg some (by kernel_rfl))
  f318 := Tryz.func530.trans (congrArg some (by kernel_rfl))
  f319 := Tryz.func531.trans (congrArg some (by kernel_rfl))
  f320 := Tryz.func532.trans (congrArg some (by kernel_rfl))
  f337 := Tryz.func581.trans (congrArg some (by kernel_rfl))
  f338 := Tryz.func582.trans (congrArg some (by kernel_rfl))
  t0 := Tryz.underlying0
  a0 := Tryz.isAgg0
  z0 := Tryz.sizeOf0
  v0 := Tryz.zeroValue0
  t2 := Tryz.underlying2
  a2 := Tryz.isAgg2
  z2 := Tryz.sizeOf2
  v2 := Tryz.zeroValue2
  t3 := Tryz.underlying3
  a3 := Tryz.isAgg3
  z3 := Tryz.sizeOf3
  v3 := Tryz.zeroValue3
  t4 := Tryz.underlying4
  a4 := Tryz.isAgg4
  z4 := Tryz.sizeOf4
  v4 := Tryz.zeroValue4
  t5 := Tryz.underlying5
  a5 := Tryz.isAgg5
  z5 := Tryz.sizeOf5
  v5 := Tryz.zeroValue5
  t9 := Tryz.underlying9
  a9 := Tryz.isAgg9
  z9 := Tryz.sizeOf9
  v9 := Tryz.zeroValue9
  t20 := Tryz.underlying20
  a20 := Tryz.isAgg20
  z20 := Tryz.sizeOf20
  v20 := Tryz.zeroValue20
  t37 := Tryz.underlying250
  a37 := Tryz.isAgg250
  z37 := Tryz.sizeOf250
  v37 := Tryz.zeroValue250
  t46 := Tryz.underlying172
  a46 := Tryz.isAgg172
  z46 := Tryz.sizeOf172
  v46 := Tryz.zeroValue172
  t51 := Tryz.underlying468
  a51 := Tryz.isAgg468
  z51 := Tryz.sizeOf468
  v51 := Tryz.zeroValue468
  t53 := Tryz.underlying451
  a53 := Tryz.isAgg451
  z53 := Tryz.sizeOf451
  v53 := Tryz.zeroValue451
  t171 := Tryz.underlying537
  a171 := Tryz.isAgg537
  z171 := Tryz.sizeOf537
  v171 := Tryz.zeroValue537
  t173 := Tryz.underlying539
  a173 := Tryz.isAgg539
  z173 := Tryz.sizeOf539
  v173 := Tryz.zeroValue539
  t212 := Tryz.underlying602
  a212 := Tryz.isAgg602
  z212 := Tryz.sizeOf602
  v212 := Tryz.zeroValue602
  t213 := Tryz.underlying603
  a213 := Tryz.isAgg603
  z213 := Tryz.sizeOf603
  t232 := Tryz.underlying436
  a232 := Tryz.isAgg436
  z232 := Tryz.sizeOf436
  v232 := Tryz.zeroValue436
  t233 := Tryz.underlying674
  a233 := Tryz.isAgg674
  z233 := Tryz.sizeOf674
  v233 := Tryz.zeroValue674
  g17 := by kernel_rfl
  g18 := by kernel_rfl
  g19 := by kernel_rfl
  i0 := by kernel_rfl
  i2 := by kernel_rfl
  i3 := by kernel_rfl
  i4 := by kernel_rfl
  i5 := by kernel_rfl
  i9 := by kernel_rfl
  i20 := by kernel_rfl
  i37 := by kernel_rfl
  i46 := by kernel_rfl
  i51 := by kernel_rfl
  i53 := by kernel_rfl
  i171 := by kernel_rfl
  i173 := by kernel_rfl
  i212 := by kernel_rfl
  i232 := by kernel_rfl
  i233 := by kernel_rfl
  m17 := by kernel_rfl
  m18 := by kernel_rfl
  m19 := by kernel_rfl }
open Go.RowKit Go.Lib in
theorem Tryz.strings_HasSuffix (s p : ByteArray) (w : World) (hs : s.size ≤ 9223372036854775807) :
    Calls Tryz.prog 359 #[.string s, .string p] w fun e w' => e = .returned (.bool (Lib.hasSuffix s.data.toList p.data.toList)) ∧ w' = w := Any.strings_HasSuffix Tryz.lays100 s p w hs
open Go.RowKit Go.Lib in
theorem Tryz.internal_strconv_AppendInt_10 (B n : Nat) (i : Int) (h0 : -9223372036854775808 ≤ i) (h1 : i ≤ 9223372036854775807) (sv : Value) (xs : List Value) (w : World) (hown : w.ownsRow B 5 1 sv n xs) (hBw : B ≤ w.heap.size) (hlim : n + 21 ≤ 140737488355328) (htab : Lib.TabBelow Tryz.prog B w "internal/strconv.uint64pow10" .u64 Lib.pow10Tab) :
    Calls Tryz.prog 281 #[sv, .int .i64 i, .int .i64 10] w fun e w' => ∃ v', e = .returned v' ∧ w'.ownsRow B 5 1 v' (n + (Lib.itoa i).length) (xs ++ Lib.byteCells (Lib.itoa i)) ∧ Below B w w' ∧ Lib.OthersKept 5 none w w' := Any.internal_strconv_AppendInt_10 Tryz.laysM249 B n i h0 h1 sv xs w hown hBw hlim htab
end Go.Proofs
namespace Go.Proofs
open Go Go.Shelf Go.RowKit Go.Lib
def strLen (v : Value) : Nat := match v with | .string b => b.size | _ => 0
theorem suffix_pos {s : ByteArray} (h : hasSuffix s.data.toList [255] = true) : 1 ≤ s.size := by
  rcases Nat.eq_zero_or_pos s.size with h0 | h0
  · have : s.data.toList = [] := by
      have : s.data.size = 0 := h0
      exact List.eq_nil_of_length_eq_zero (by simpa using this)
    rw [this] at h; cases h
  · exact h0
set_option maxHeartbeats 4000000 in
theorem Tryz.after_walk (s : ByteArray) (w : World) (hs : s.size ≤ 9223372036854775807) :
    Calls Tryz.prog 294 #[.string s] w fun e w' => (∃ (r : ByteArray) (b : Bool), e = .returned (.tuple #[.string r, .bool b])) ∧ Below w.heap.size w w' := by
  go_enter Tryz.func294, Tryz.ntmps294
  go_wp2
  go_loop [0] (fun p => ∃ s' : ByteArray, s'.size ≤ 9223372036854775807 ∧ p = .string s') (fun p => strLen p)
  case atStart => exact ⟨s, hs, rfl⟩
  case round =>
    obtain ⟨s', hs', rfl⟩ := hrel
    have hp : Hid (hasSuffix s'.data.toList [255] = true → 1 ≤ s'.size) := suffix_pos
    go_wp2_with (go_at_call 359; refine (Tryz.strings_HasSuffix _ _ _ hs').mono ?_; rintro e w' ⟨rfl, rfl⟩)
    case roundEnd =>
      rename_i h1 h2
      have hp : hasSuffix s'.data.toList [255] = true → 1 ≤ s'.size := hp
      have := hp h1
      refine ⟨⟨_, ?_, rfl⟩, ?_⟩
      · simp [ByteArray.size_extract]; omega
      · simp [strLen, ByteArray.size_extract]; omega
    · have hp : hasSuffix s'.data.toList [255] = true → 1 ≤ s'.size := hp
      have h1 : hasSuffix s'.data.toList [255] = true := by assumption
      have h2 : ¬ (1 ≤ (s'.size : Int) ∧ (s'.size : Int) - 1 ≤ (s'.size : Int)) := by assumption
      have := hp h1
      exfalso; omega
    · go_ret2
      exact ⟨⟨_, _, rfl⟩, Below.refl _ _⟩
    · have hne : s'.toList.isEmpty = false := by assumption
      obtain ⟨n, hn⟩ : ∃ n, s'.size = n + 1 := by
        refine ⟨s'.size - 1, ?_⟩
        rcases Nat.eq_zero_or_pos s'.size with h0 | h0
        · exfalso
          have e : s' = ⟨#[]⟩ := by
            cases s' with
            | mk d => rw [Array.eq_empty_of_size_eq_zero h0]
          rw [e] at hne
          rw [ByteArray.toList_eq] at hne; cases hne
        · omega
      have hlt : n < s'.size := by omega
      have hw1 : IntKind.i64.wrap (n : Int) = n := by rw [IntKind.wrap_i64]; omega
      have hb : (n : Int) ≤ (n : Int) + 1 := by omega
      have hb2 : (n : Int) < (n : Int) + 1 := by omega
      have hconv : ∀ W : World, W.cell? ⟨w'.heap.size, 0, none⟩ = some (.int .u8 (((s'[n]'hlt).toNat + 1 : Int) % 256)) → (convert 250 9 (.slice (some ⟨w'.heap.size, 0, none⟩) 1 1)).run Tryz.prog W = .ok (.string ⟨#[UInt8.ofNat (((s'[n]'hlt).toNat + 1) % 256)]⟩) W := by
        intro W hW
        refine run_convert_bytes_back (P := Tryz.prog) W 250 9 5 ⟨w'.heap.size, 0, none⟩ 1 [UInt8.ofNat (((s'[n]'hlt).toNat + 1) % 256)] (by kernel_rfl) (by kernel_rfl) (by kernel_rfl) (fun j hj => ?_)
        have hj : j = 0 := by simpa using hj
        subst hj
        have e : ((UInt8.ofNat (((s'[n]'hlt).toNat + 1) % 256)).toNat : Int) = (((s'[n]'hlt).toNat + 1 : Int) % 256) := by
          rw [UInt8.toNat_ofNat']; omega
        simp only [Addr.add, Nat.zero_add, List.getElem_cons_zero]
        rw [e]; exact hW
      go_region
      all_goals (go_wp2; go_ret2; exact ⟨⟨_, _, rfl⟩, ((Below.refl _ _).alloc (Nat.le_refl _) _).drew⟩)
end Go.Proofs
namespace Go.Proofs
open Go Go.Shelf Go.RowKit Go.Lib
set_option maxHeartbeats 4000000 in
set_option maxRecDepth 100000 in
theorem Tryz.strconv_AppendInt_10 (B n : Nat) (i : Int) (h0 : -9223372036854775808 ≤ i) (h1 : i ≤ 9223372036854775807) (sv : Value) (xs : List Value) (w : World) (hown : w.ownsRow B 5 1 sv n xs) (hBw : B ≤ w.heap.size) (hlim : n + 21 ≤ 140737488355328) (htab : Lib.TabBelow Tryz.prog B w "internal/strconv.uint64pow10" .u64 Lib.pow10Tab) :
    Calls Tryz.prog 184 #[sv, .int .i64 i, .int .i64 10] w fun e w' => ∃ v', e = .returned v' ∧ w'.ownsRow B 5 1 v' (n + (Lib.itoa i).length) (xs ++ Lib.byteCells (Lib.itoa i)) ∧ Below B w w' ∧ Lib.OthersKept 5 none w w' := by
  go_enter Tryz.func184, Tryz.ntmps184
  go_wp2_with (go_at_call 281; refine (Tryz.internal_strconv_AppendInt_10 B n i h0 h1 sv xs w hown hBw hlim htab).mono ?_; rintro e w2 ⟨v2, rfl, hown2, hnx2, hok2⟩)
  go_wp2
  go_ret
  exact ⟨v2, rfl, hown2, hnx2, hok2⟩
end Go.Proofs
namespace Go.Proofs
open Go Go.Shelf Go.RowKit Go.Lib
def datumText (k N : Int) : List UInt8 := itoa k ++ [32] ++ itoa N ++ [32] ++ itoa 0 ++ [32]
theorem Tryz.byte5 : (Tryz.prog.info? 5).map (fun i => (i.zero, i.size, i.bytes)) = some (some (.int .u8 0), 1, 1) := by kernel_rfl
theorem Tryz.und250 : Tryz.prog.underlying 250 = some (.slice 5) := by kernel_rfl
theorem own_far {w : World} {B : Nat} {e : TypeId} {s : Nat} {v : Value} {n : Nat} {xs : List Value} (h : w.ownsRow B e s v n xs) {d : Nat} (hd : d < B) : some d ≠ v.ownBlock := by
  rcases h.2 with ⟨rfl, _⟩ | ⟨g, cap, cur, rfl, hg, _⟩
  · intro e; cases e
  · intro e
    have e : d = g := by simpa [Value.ownBlock] using e
    omega
structure Dat (wr : World) (N : Int) (v : Value) (n : Nat) (xs : List Value) (W : World) : Prop where
  own : W.ownsRow (wr.heap.size + 1) 5 1 v n xs
  d1 : W.cell? ⟨wr.heap.size, 1, none⟩ = some (.int .i64 N)
  d2 : W.cell? ⟨wr.heap.size, 2, none⟩ = some (.string ⟨#[]⟩)
  bel : Below wr.heap.size wr W
  sz : wr.heap.size + 1 ≤ W.heap.size
theorem Dat.drew {wr N v n xs W} (h : Dat wr N v n xs W) : Dat wr N v n xs W.drew := ⟨h.own.drew, h.d1, h.d2, ⟨h.bel.os, h.bel.tape, h.bel.output, h.bel.size, h.bel.block⟩, h.sz⟩
theorem Dat.alloc {wr N v n xs W} (h : Dat wr N v n xs W) (o : Obj) : Dat wr N v n xs (W.alloc o) :=
  have hb : ∀ k, k < W.heap.size → (W.alloc o).heap[k]? = W.heap[k]? := fun k hk => by show (W.heap.push o)[k]? = _; rw [Array.getElem?_push_lt hk, Array.getElem?_eq_getElem hk]
  have hs := h.sz
  ⟨h.own.alloc o, by rw [World.cell?_of_block (hb _ (by show wr.heap.size < _; omega))]; exact h.d1, by rw [World.cell?_of_block (hb _ (by show wr.heap.size < _; omega))]; exact h.d2,
    h.bel.alloc (by have := h.bel.size; omega) o, by show _ ≤ (W.heap.push o).size; rw [Array.size_push]; omega⟩
theorem Dat.app {wr N v n xs W} (h : Dat wr N v n xs W) {W' : World} {v' n' xs'} (ho : W'.ownsRow (wr.heap.size + 1) 5 1 v' n' xs') (hg : W.grownBy W' v.ownBlock) : Dat wr N v' n' xs' W' :=
  have hs := h.sz
  ⟨ho, by rw [hg.cell_far _ (by show wr.heap.size < _; omega) (own_far h.own (Nat.lt_succ_self _))]; exact h.d1, by rw [hg.cell_far _ (by show wr.heap.size < _; omega) (own_far h.own (Nat.lt_succ_self _))]; exact h.d2,
    ⟨hg.os.trans h.bel.os, hg.tape.trans h.bel.tape, hg.output.trans h.bel.output, Nat.le_trans h.bel.size hg.size, fun k hk => (hg.block k (by omega) (own_far h.own (Nat.lt_succ_of_lt hk))).trans (h.bel.block k hk)⟩, Nat.le_trans h.sz hg.size⟩
theorem Dat.call {wr N v n xs W} (h : Dat wr N v n xs W) {W' : World} {v' n' xs'} (ho : W'.ownsRow (wr.heap.size + 1) 5 1 v' n' xs') (hb : Below (wr.heap.size + 1) W W') : Dat wr N v' n' xs' W' :=
  ⟨ho, by rw [hb.cell (by show wr.heap.size < wr.heap.size + 1; omega)]; exact h.d1, by rw [hb.cell (by show wr.heap.size < wr.heap.size + 1; omega)]; exact h.d2, h.bel.trans (hb.mono (by omega)), Nat.le_trans h.sz hb.size⟩
theorem news_alloc (W : World) (o : Value) (t : TypeId) : (W.alloc (.cells #[o] t)).drew.heap[W.heap.size]? = some (.cells #[o] t (0, 0)) := by
  show (W.heap.push (.cells #[o] t))[W.heap.size]? = _; simp
theorem step_append_own_string {P : Program} (w : World) {ops : Array Oper} {o : Oper} {a : Act} {K : Act → World → Prop} {Q : Exit → Act → World → Prop} {E : Prop} (hgd : o.guard = none) (s x : Operand) (t u : TypeId)
    (ho : o.op = .call { callee := .builtin .append, args := #[s, x], argTypes := #[t, u] })
    (base : Nat) (e : TypeId) (i : TypeInfo) (ht : P.underlying t = some (.slice e)) (hu : P.underlying u = some .string) (hi : P.info? e = some i) (hz : i.zero = some (.int .u8 0))
    (hsize : i.size = 1) (hby : i.bytes = 1)
    (v : Value) (n : Nat) (xs : List Value) (hs : a.eval s = v) (hown : w.ownsRow base e 1 v n xs) (str : ByteArray) (hx : a.eval x = .string str)
    (h63 : n + str.size ≤ maxLen) (hbytes : n + str.size ≤ 140737488355328) (hbase : base ≤ w.heap.size)
    (h : ∀ v' w', w'.ownsRow base e 1 v' (n + str.size) (xs ++ strCells str) → w.grownBy w' v.ownBlock → K (a.put o.dst v') w') :
    if Region.wanted o (yielded ops a.tmps) = true then Oper.wp P o a w K Q else E := by
  have hw : Region.wanted o (yielded ops a.tmps) = true := by simp [Region.wanted, hgd]
  rw [if_pos hw]
  obtain ⟨v', w', hr, h2, h3, _⟩ := run_append_own_string (P := P) w base t u o.type e i ht hu hi hz hsize hby v n xs hown str h63 hbytes hbase
  unfold Oper.wp execOp
  simp only [ho, resolve, invoke, builtin, Sem.run_bind, Sem.run_pure, Result.andThen_ok, List.map_toArray, List.map_cons, List.map_nil, hs, hx, hr]
  exact h v' w' h2 h3
theorem datum_owns {W : World} {B : Nat} {v : Value} {k N : Int} (h : W.ownsRow B 5 1 v ((itoa k).length + 1 + (itoa N).length + 1 + (itoa 0).length + 1 + (⟨#[]⟩ : ByteArray).size)
    ((((((byteCells (itoa k) ++ [.int .u8 32]) ++ byteCells (itoa N)) ++ [.int .u8 32]) ++ byteCells (itoa 0)) ++ [.int .u8 32]) ++ strCells ⟨#[]⟩)) : W.ownsRow B 5 1 v (datumText k N).length (byteCells (datumText k N)) := by
  have en : (datumText k N).length = (itoa k).length + 1 + (itoa N).length + 1 + (itoa 0).length + 1 + (⟨#[]⟩ : ByteArray).size := by
    show _ = _ + 0
    simp [datumText]; omega
  have ex : byteCells (datumText k N) = (((((byteCells (itoa k) ++ [.int .u8 32]) ++ byteCells (itoa N)) ++ [.int .u8 32]) ++ byteCells (itoa 0)) ++ [.int .u8 32]) ++ strCells ⟨#[]⟩ := by
    simp [datumText, byteCells, strCells]
  rw [en, ex]; exact h
theorem Tryz.und5 : Tryz.prog.underlying 5 = some (.int .u8) := by kernel_rfl
theorem Tryz.und9 : Tryz.prog.underlying 9 = some .string := by kernel_rfl
set_option maxHeartbeats 4000000 in
set_option maxRecDepth 100000 in
theorem Tryz.written_walk (b off c : Nat) (k N : Int) (hk0 : 0 ≤ k) (hk1 : k < 10) (hN0 : -9223372036854775808 ≤ N) (hN1 : N ≤ 9223372036854775807) (w : World)
    (c0 : w.cell? ⟨b, off, none⟩ = some (.int .i64 k)) (c1 : w.cell? ⟨b, off + 1, none⟩ = some (.int .i64 N)) (c2 : w.cell? ⟨b, off + 2, none⟩ = some (.string ⟨#[]⟩))
    (htab : Lib.TabBelow Tryz.prog w.heap.size w "internal/strconv.uint64pow10" .u64 Lib.pow10Tab) :
    Calls Tryz.prog 105 #[.slice (some ⟨b, off, none⟩) 1 c] w fun e w' => e = .returned (.string ⟨(datumText k N).toArray⟩) ∧ Below w.heap.size w w' := by
  go_enter Tryz.func105, Tryz.ntmps105
  go_wp2
  go_loopw [3, 8] (fun o i wr => (i = .int .i64 0 ∧ o = .slice none 0 0 ∧ wr = w) ∨ (i = .int .i64 1 ∧ wr.ownsRow (w.heap.size + 1) 5 1 o (datumText k N).length (byteCells (datumText k N)) ∧ Below w.heap.size w wr)) (fun _ i _ => 1 - (Lib.intOf i).toNat)
  case atStart => exact .inl ⟨rfl, rfl, rfl⟩
  case round =>
    rcases hrel with ⟨rfl, rfl, rfl⟩ | ⟨rfl, hown, hbel⟩
    · have htab1 : ∀ W1 : World, Below wr.heap.size wr W1 → TabBelow Tryz.prog (wr.heap.size + 1) W1 "internal/strconv.uint64pow10" .u64 pow10Tab := fun W1 h1 w' h => htab w' (h1.trans (h.mono (by omega)))
      go_wp2_with (go_at_call 184; refine (Tryz.strconv_AppendInt_10 (wr.heap.size + 1) 0 k (by omega) (by omega) (.slice none 0 0) [] _ ⟨rfl, .inl ⟨rfl, rfl⟩⟩ (by simp) (by omega) (htab1 _ ((Below.refl _ _).alloc (Nat.le_refl _) _))).mono ?_; rintro e W2 ⟨v1, rfl, hown1, hb1, -⟩)
      obtain ⟨W1, hW1⟩ : ∃ W1, W1 = wr.alloc (Obj.cells #[Value.int IntKind.i64 k, Value.int IntKind.i64 N, Value.string { data := #[] }] 24) := ⟨_, rfl⟩
      rw [← hW1] at hb1
      have D1 : Dat wr N (.slice none 0 0) 0 [] W1 := ⟨⟨rfl, .inl ⟨rfl, rfl⟩⟩, by rw [hW1]; simp, by rw [hW1]; simp, hW1 ▸ (Below.refl _ _).alloc (Nat.le_refl _) _, by rw [hW1]; simp⟩
      have D2 := D1.call hown1 hb1
      simp only [Nat.zero_add, List.nil_append] at D2
      have d1 := D2.d1
      have d2 := D2.d2
      have hl1 : Hid ((itoa k).length ≤ 21) := itoa_length_le k (by omega) (by omega)
      have hlN : Hid ((itoa N).length ≤ 21) := itoa_length_le N hN0 hN1
      have hW2 : Hid (wr.heap.size + 1 ≤ W2.heap.size) := D2.sz
      have hl0 : Hid ((itoa 0).length ≤ 21) := itoa_length_le 0 (by decide) (by decide)
      obtain ⟨i5, hi5, hz5, hs5, hb5⟩ := info_parts Tryz.byte5
      clear hW1 hb1 hown1 D1
      have e31 := (D2.alloc (Obj.cells #[Value.int IntKind.u8 32] 5)).d1
      have e32 := (D2.alloc (Obj.cells #[Value.int IntKind.u8 32] 5)).d2
      go_region_law (first
        | (refine step_append_lies _ rfl _ _ 250 rfl (wr.heap.size + 1) 5 i5 (.int .u8 0) 1 1 Tryz.und250 hi5 hz5 hs5 hb5 rfl (by decide) _ _ _ (by simp [Act.eval]) ((D2.alloc _).drew.own) ⟨_, 0, none⟩ 1 1 [.int .u8 32] (by simp [Act.eval]) rfl (World.news_of_block (news_alloc _ _ _)) (by simp [Value.oneCell']) (by decide) (by have hl1 : (itoa k).length ≤ 21 := hl1; have hlN : (itoa N).length ≤ 21 := hlN; have hl0 : (itoa 0).length ≤ 21 := hl0; unfold maxLen; omega) (by have hl1 : (itoa k).length ≤ 21 := hl1; have hlN : (itoa N).length ≤ 21 := hlN; have hl0 : (itoa 0).length ≤ 21 := hl0; omega) (D2.alloc _).drew.sz _ rfl ?_
           intro g3 cap3 W3 ho3 hg3 hl3 hz3
           have D3 := (D2.alloc _).drew.app ho3 hg3
           have d31 := D3.d1; have d32 := D3.d2
           clear ho3 hg3 hl3 hz3)
        | (go_simp; go_at_call 184; refine (Tryz.strconv_AppendInt_10 (wr.heap.size + 1) _ N (hN0) (hN1) _ _ _ D3.own D3.sz (by have hl1 : (itoa k).length ≤ 21 := hl1; have hlN : (itoa N).length ≤ 21 := hlN; have hl0 : (itoa 0).length ≤ 21 := hl0; omega) (htab1 _ D3.bel)).mono ?_; rintro e W4 ⟨v4, rfl, ho4, hb4, -⟩; have D4 := D3.call ho4 hb4; clear ho4 hb4))
      all_goals (clear D2 D3 d1 d2 d31 d32 e31 e32 hW2)
      all_goals (have d1 := D4.d1; have d2 := D4.d2; have hW2 : Hid (wr.heap.size + 1 ≤ W4.heap.size) := D4.sz)
      all_goals (try go_simp)
      all_goals go_wp2
      all_goals (have e31 := (D4.alloc (Obj.cells #[Value.int IntKind.u8 32] 5)).d1; have e32 := (D4.alloc (Obj.cells #[Value.int IntKind.u8 32] 5)).d2)
      all_goals go_region_law (first
        | (refine step_append_lies _ rfl _ _ 250 rfl (wr.heap.size + 1) 5 i5 (.int .u8 0) 1 1 Tryz.und250 hi5 hz5 hs5 hb5 rfl (by decide) _ _ _ (by simp [Act.eval, Act.put]) ((D4.alloc _).drew.own) ⟨_, 0, none⟩ 1 1 [.int .u8 32] (by simp [Act.eval, Act.put]) rfl (World.news_of_block (news_alloc _ _ _)) (by simp [Value.oneCell']) (by decide) (by have hl1 : (itoa k).length ≤ 21 := hl1; have hlN : (itoa N).length ≤ 21 := hlN; have hl0 : (itoa 0).length ≤ 21 := hl0; unfold maxLen; omega) (by have hl1 : (itoa k).length ≤ 21 := hl1; have hlN : (itoa N).length ≤ 21 := hlN; have hl0 : (itoa 0).length ≤ 21 := hl0; omega) (D4.alloc _).drew.sz _ rfl ?_
           intro g5 cap5 W5 ho3 hg3 hl3 hz3
           have D5 := (D4.alloc _).drew.app ho3 hg3
           have d31 := D5.d1; have d32 := D5.d2
           clear ho3 hg3 hl3 hz3)
        | (go_simp; go_at_call 184; refine (Tryz.strconv_AppendInt_10 (wr.heap.size + 1) _ 0 (by decide) (by decide) _ _ _ D5.own D5.sz (by have hl1 : (itoa k).length ≤ 21 := hl1; have hlN : (itoa N).length ≤ 21 := hlN; have hl0 : (itoa 0).length ≤ 21 := hl0; omega) (htab1 _ D5.bel)).mono ?_; rintro e W6 ⟨v6, rfl, ho4, hb4, -⟩; have D6 := D5.call ho4 hb4; clear ho4 hb4))
      all_goals (clear D4 D5 d1 d2 d31 d32 e31 e32 hW2)
      all_goals (have d1 := D6.d1; have d2 := D6.d2; have hW2 : Hid (wr.heap.size + 1 ≤ W6.heap.size) := D6.sz)
      all_goals (try go_simp)
      all_goals go_wp2
      all_goals (have e31 := (D6.alloc (Obj.cells #[Value.int IntKind.u8 32] 5)).d1; have e32 := (D6.alloc (Obj.cells #[Value.int IntKind.u8 32] 5)).d2)
      all_goals go_region_law (first
        | (refine step_append_lies _ rfl _ _ 250 rfl (wr.heap.size + 1) 5 i5 (.int .u8 0) 1 1 Tryz.und250 hi5 hz5 hs5 hb5 rfl (by decide) _ _ _ (by simp [Act.eval]) ((D6.alloc _).drew.own) ⟨_, 0, none⟩ 1 1 [.int .u8 32] (by simp [Act.eval]) rfl (World.news_of_block (news_alloc _ _ _)) (by simp [Value.oneCell']) (by decide) (by have hl1 : (itoa k).length ≤ 21 := hl1; have hlN : (itoa N).length ≤ 21 := hlN; have hl0 : (itoa 0).length ≤ 21 := hl0; unfold maxLen; omega) (by have hl1 : (itoa k).length ≤ 21 := hl1; have hlN : (itoa N).length ≤ 21 := hlN; have hl0 : (itoa 0).length ≤ 21 := hl0; omega) (D6.alloc _).drew.sz _ rfl ?_
           intro g7 cap7 W7 ho3 hg3 hl3 hz3
           have D7 := (D6.alloc _).drew.app ho3 hg3
           have d31 := D7.d1; have d32 := D7.d2
           clear ho3 hg3 hl3 hz3)
        | (refine step_append_own_string _ rfl _ _ 250 9 rfl (wr.heap.size + 1) 5 i5 Tryz.und250 Tryz.und9 hi5 hz5 hs5 hb5 _ _ _ (by simp [Act.eval]) D7.own ⟨#[]⟩ (by simp [Act.eval]) (by have hl1 : (itoa k).length ≤ 21 := hl1; have hlN : (itoa N).length ≤ 21 := hlN; have hl0 : (itoa 0).length ≤ 21 := hl0; show _ + 0 ≤ maxLen; unfold maxLen; omega) (by have hl1 : (itoa k).length ≤ 21 := hl1; have hlN : (itoa N).length ≤ 21 := hlN; have hl0 : (itoa 0).length ≤ 21 := hl0; show _ + 0 ≤ _; omega) D7.sz ?_
           intro v8 W8 ho8 hg8
           have D8 := D7.app ho8 hg8
           clear ho8 hg8))
      all_goals (clear D6 D7 d1 d2 d31 d32 e31 e32 hW2)
      all_goals (try go_simp)
      all_goals go_wp2
      all_goals exact ⟨.inr ⟨rfl, datum_owns D8.own, D8.bel⟩, by decide⟩
    · obtain ⟨g, cap, rfl, hbg, hlt⟩ := hown.form (by simp [datumText]; omega)
      have hcv := run_convert_bytes_back (P := Tryz.prog) wr 250 9 5 ⟨g, 0, none⟩ cap (datumText k N) Tryz.und250 Tryz.und5 Tryz.und9 (fun j hj => hown.cells (g := g) rfl j _ (by simp [byteCells, hj]))
      go_wp2
      go_ret
      exact ⟨rfl, hbel⟩
end Go.Proofs
