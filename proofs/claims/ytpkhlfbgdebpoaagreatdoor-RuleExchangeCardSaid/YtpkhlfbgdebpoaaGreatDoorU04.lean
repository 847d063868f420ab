/- The operations of the abstract machine are sound, first part. -/
import Derived.Test.YtpkhlfbgdebpoaaGreatDoorU03
import Derived.Laws.Strings
import Derived.Laws.StructEq
import Derived.Laws.Pointers
namespace A3
open Go
set_option maxRecDepth 20000
def Yield [Sig] (P : Program) (ρ : Ren) (w : World) (m : Sem Value) (v : AV) : Prop := ∃ u, m.run P w = .ok u w ∧ VR ρ v u
section
variable {P : Program} {N : Nat} {C : CC} {B : Nat} {w0 : World} {ρ : Ren} {s : St} {w : World} {v v1 v2 v3 : AV} {u1 u2 u3 : Value}
theorem Yield.pure [Sig] {u : Value} (h : VR ρ v u) : Yield P ρ w (Pure.pure u) v := ⟨u, rfl, h⟩
theorem pick_yield [Sig] {a b : AV} {x y : Value} (hc : VR ρ v1 u1) (ha : VR ρ a x) (hb : VR ρ b y) (h : pickV v1 a b = some v) :
    Yield P ρ w (do Pure.pure (if ← asBool u1 then x else y)) v := by
  unfold pickV at h
  split at h
  · cases hc; simp at h; subst h; exact ⟨x, by simp [asBool], ha⟩
  · cases hc; simp at h; subst h; exact ⟨y, by simp [asBool], hb⟩
  · cases h
theorem load_yield [Sig] {t : TypeId} {n : Option Nat} (hw : WR C B w0 ρ s w) (ha : aggC P t = some n) (hx : VR ρ v1 u1) (h : loadR n v1 s = some (v, s)) :
    Yield P ρ w (Instr.loadAt t u1) v := by
  unfold loadR at h
  split at h
  · rename_i a
    obtain ⟨n', o'⟩ := a
    obtain ⟨b, base, hb, rfl⟩ := hx.of_ptr
    unfold pureR at h
    split at h
    · cases h
    · rename_i v' hv
      simp at h; subst h
      obtain ⟨u, hr, hu⟩ := run_loadVar (P := P) hw ha hb hv
      exact ⟨u, by simp [Instr.loadAt, Instr.sureAddr, hr], hu⟩
  · cases h
theorem loadR_same {n : Option Nat} {a : AV} {s s' : St} (h : loadR n a s = some (v, s')) : s' = s := by
  unfold loadR at h
  split at h
  · unfold pureR at h; split at h
    · cases h
    · simp at h; exact h.2.symm
  · cases h
theorem un_yield [Sig] {op : UnOp} (hx : VR ρ v1 u1) (h : unOp op v1 = some v) : Yield P ρ w (Op.unary op u1) v := by
  unfold unOp at h
  split at h
  · cases hx; simp only [Option.some.injEq] at h; subst h
    exact ⟨_, rfl, .int _ _⟩
  · cases hx; simp only [Option.some.injEq] at h; subst h
    exact ⟨_, rfl, .bool _⟩
  · rename_i k n
    cases hx; simp at h; subst h
    refine ⟨_, rfl, ?_⟩
    have : (BitVec.ofInt k.bits (if k.signed then -1 else k.max) ^^^ BitVec.ofInt k.bits n).toNat = Nat.xor (natOfBits k n) (2 ^ k.bits - 1) := by
      rw [BitVec.toNat_xor, Nat.xor_comm]
      show Nat.xor _ _ = Nat.xor _ _
      congr 1
      rw [BitVec.toNat_ofInt]
      cases k <;> rfl
    rw [this]
    exact .int _ _
  · cases hx
    simp at h; subst h
    exact ⟨_, rfl, .any (wrap_wrap _ _)⟩
  · cases h
theorem toFlt_yield [Sig] {src dst : TypeId} (hd : P.underlying dst = some (.float .f64)) {k' : IntKind} (hs : P.underlying src = some (.int k')) (hx : VR ρ v1 u1) (h : toFltV v1 = some v) :
    Yield P ρ w (convert src dst u1) v := by
  unfold toFltV at h
  split at h
  · simp at h; subst h
    have := hx.of_int; subst this
    exact ⟨_, by simp only [convert, Sem.run_bind, run_under hs, run_under hd, Result.andThen_ok, Conv.intToFloat, Sem.run_pure], .flt _ _⟩
  · cases h
theorem fltInt_yield [Sig] {k : IntKind} {src dst : TypeId} (hd : P.underlying dst = some (.int k)) (hs : P.underlying src = some (.float .f64)) (hx : VR ρ v1 u1) (h : fltIntV k v1 = some v) :
    Yield P ρ w (convert src dst u1) v := by
  unfold fltIntV at h
  split at h
  · rename_i b
    split at h
    · rename_i n hn
      split at h
      · rename_i hr
        simp at h; subst h
        cases hx
        refine ⟨_, ?_, .int _ _⟩
        simp only [convert, Sem.run_bind, run_under hs, run_under hd, Result.andThen_ok, Conv.floatToInt, hn, if_pos hr, Sem.run_pure]
      · cases h
    · cases h
  · cases h
theorem convInt_yield [Sig] {k : IntKind} {src dst : TypeId} (hd : P.underlying dst = some (.int k)) {k' : IntKind} (hs : P.underlying src = some (.int k')) (hx : VR ρ v1 u1) (h : convIntV k v1 = some v) :
    Yield P ρ w (convert src dst u1) v := by
  have hrun : ∀ (k1 : IntKind) (n : Int), (convert src dst (.int k1 n)).run P w = .ok (.int k (k.wrap n)) w := fun k1 n => by
    simp only [convert, Sem.run_bind, run_under hs, run_under hd, Result.andThen_ok, Conv.intToInt, Sem.run_pure]
  unfold convIntV at h
  split at h
  · cases hx; simp at h; subst h
    exact ⟨_, hrun _ _, .int _ _⟩
  · obtain ⟨_, _, rfl⟩ := hx.of_sym0
    split at h <;> simp at h <;> subst h
    · exact ⟨_, hrun _ _, .sym2 _⟩
    · refine ⟨_, hrun _ _, ?_⟩
      rw [wrap_i64_σ]; exact .sym0 _
    · exact ⟨_, hrun _ _, .any (wrap_wrap _ _)⟩
  · rename_i f i hf0
    obtain ⟨k1, n, hf, rfl⟩ := hx.of_sym
    obtain ⟨rfl, hw⟩ := formV_u64 (fun e => hf0 e) hf
    split at h
    · simp at h; subst h
      refine ⟨_, hrun _ _, ?_⟩
      rw [hw]; exact .sym hf
    · split at h
      · rename_i h2
        have h2 := Nat.eq_of_beq_eq_true h2
        subst h2
        simp at h; subst h
        simp [formV] at hf; subst hf
        refine ⟨_, hrun _ _, ?_⟩
        rw [wrap_i64_u64]; exact .sym0 _
      · simp at h; subst h
        exact ⟨_, hrun _ _, .any (wrap_wrap _ _)⟩
    · have bytes : ∀ t, t ≤ 7 → n = ((off i / 256 ^ t : Nat) : Int) → Yield P ρ w (convert src dst (.int .u64 n)) (.byt (256 + 16 * i + (7 - t))) := by
        intro t ht hn
        refine ⟨_, hrun _ _, ?_⟩
        have hb := VR.byt (ρ := ρ) (c := 256 + 16 * i + (7 - t)) (by omega) (by omega)
        have e : byteN (256 + 16 * i + (7 - t)) = off i / 256 ^ t % 256 := by
          unfold byteN
          rw [if_neg (by omega)]
          have h1 : (256 + 16 * i + (7 - t) - 256) / 16 = i := by omega
          have h2 : (256 + 16 * i + (7 - t) - 256) % 16 = 7 - t := by omega
          rw [h1, h2]
          unfold byteAt off
          have h3 : 7 - (7 - t) = t := by omega
          rw [h3]
        rw [e] at hb
        have e2 : IntKind.u8.wrap n = ((off i / 256 ^ t % 256 : Nat) : Int) := by
          rw [hn]; simp [IntKind.wrap, IntKind.bits, IntKind.signed]
        rw [e2]; exact hb
      cases hb1 : Nat.beq f 1 with
      | true =>
        rw [hb1] at h
        have h1 := Nat.eq_of_beq_eq_true hb1
        subst h1
        simp at h; subst h
        simp [formV] at hf
        exact bytes 0 (by omega) (by rw [← hf]; simp)
      | false =>
        have hne := Nat.ne_of_beq_eq_false hb1
        cases hb2 : (Nat.ble 17 f && Nat.ble f 23) with
        | true =>
          rw [hb1, hb2] at h
          simp only [Bool.and_eq_true, Nat.ble_eq] at hb2
          simp only [Option.some.injEq] at h; subst h
          have hne2 : f ≠ 2 := by omega
          have hne0 : f ≠ 0 := by omega
          simp only [formV, if_neg hne0, if_neg hne, if_neg hne2, if_pos hb2, Option.some.injEq, Prod.mk.injEq, true_and] at hf
          have := bytes (f - 16) (by omega) hf.symm
          have e : 7 - (f - 16) = 23 - f := by omega
          rwa [e] at this
        | false =>
          rw [hb1, hb2] at h
          simp at h; subst h
          exact ⟨_, hrun _ _, .any (wrap_wrap _ _)⟩
    · simp at h; subst h
      exact ⟨_, hrun _ _, .any (wrap_wrap _ _)⟩
  · rename_i c
    cases hx with
    | byt hc hfx =>
    have hj : (c - 256) % 16 < 8 := hfx
    have hb : byteN c = byteAt (Sig.σ ((c - 256) / 16)) ((c - 256) % 16) := by unfold byteN; rw [if_neg (by omega)]
    split at h
    · simp at h; subst h
      refine ⟨_, hrun _ _, ?_⟩
      have hlt := byteN_lt (c := c)
      have e : IntKind.u64.wrap ((byteN c : Nat) : Int) = ((byteN c : Nat) : Int) := u64_of_lt (Nat.lt_trans hlt (by decide))
      rw [e, hb]
      refine .sym ?_
      unfold formV
      rw [if_neg (by omega), if_neg (by omega), if_neg (by omega), if_neg (by omega), if_neg (by omega), if_pos (by omega)]
      congr 4
      omega
    · simp at h; subst h
      refine ⟨_, hrun _ _, ?_⟩
      have hlt := byteN_lt (c := c)
      have e : IntKind.u8.wrap ((byteN c : Nat) : Int) = ((byteN c : Nat) : Int) := wrap_of_range (by simp [IntKind.min, IntKind.signed]) (by simp [IntKind.max, IntKind.signed, IntKind.bits]; omega)
      rw [e]; exact .byt hc hfx
    · simp at h; subst h
      exact ⟨_, hrun _ _, .any (wrap_wrap _ _)⟩
  · split at h
    · rename_i k1 hk1
      simp at h; subst h
      obtain ⟨n, rfl, _⟩ := kindV_VR hk1 hx
      exact ⟨_, hrun _ _, .any (wrap_wrap _ _)⟩
    · cases h
theorem iface_yield [Sig] {t : TypeId} {d : TypeDesc} (ht : P.underlying t = some d) (hd : ∀ m, d ≠ .interface m) (hx : VR ρ v1 u1) :
    Yield P ρ w (Instr.makeInterface t u1) (.iface t v1) := by
  refine ⟨.iface t u1, ?_, .iface hx⟩
  simp only [Instr.makeInterface, Sem.run_bind, run_under ht, Result.andThen_ok]
  cases d <;> first | rfl | exact (hd _ rfl).elim
theorem sizeC_succ [Sig] {t : TypeId} {n : Nat} (h : sizeC P t = some (n + 1)) (w : World) : (Go.sizeOf t).run P w = .ok (n + 1) w := run_sizeC h w
theorem fieldAddr_yield [Sig] {t : TypeId} {fs : Array Field} {i : Nat} {f : Field} {k : Nat} (ht : P.underlying t = some (.struct fs)) (hf : fs[i]? = some f) (hk : sizeC P f.type = some (k + 1))
    (hx : VR ρ v1 u1) (h : fieldAddrV f.offset v1 = some v) : Yield P ρ w (Instr.fieldAt t u1 i) v := by
  unfold fieldAddrV at h
  split at h
  · rename_i a
    obtain ⟨n', o'⟩ := a
    simp at h; subst h
    obtain ⟨b, base, hb, rfl⟩ := hx.of_ptr
    refine ⟨.pointer (some ⟨b, base.off + (o' + f.offset), none⟩), ?_, .ptr hb⟩
    simp only [Instr.fieldAt, Sem.run_bind, run_under ht, Result.andThen_ok, hf, Instr.sureAddr, Sem.run_pure, fieldPlace, run_sizeC hk, addr_add, Nat.add_assoc]
    simp
  · cases h
theorem field_yield [Sig] {t : TypeId} {fs : Array Field} {i : Nat} {f : Field} {n : Option Nat} (ht : P.underlying t = some (.struct fs)) (hf : fs[i]? = some f) (hn : aggC P f.type = some n)
    (hx : VR ρ v1 u1) (h : fieldV f.offset n v1 = some v) : Yield P ρ w (Instr.field t u1 i) v := by
  unfold fieldV at h
  split at h
  · rename_i cs
    obtain ⟨cs', rfl, hcs, hfl⟩ := hx.of_agg
    obtain ⟨u, hr, hu⟩ := hcs.part_run (P := P) (w := w) hfl hn h
    exact ⟨u, by simp [Instr.field, run_under ht, hf, asAgg, hr], hu⟩
  · cases h
theorem extract_yield [Sig] {i : Nat} (hx : VR ρ v1 u1) (h : extractV v1 i = some v) : Yield P ρ w (Instr.extract u1 i) v := by
  unfold extractV at h
  split at h
  · rename_i vs
    obtain ⟨cs', rfl, hcs⟩ := hx.of_tuple
    rw [nth_eq] at h
    obtain ⟨u, hu, hr⟩ := hcs.get i v h
    have hu' : cs'[i]? = some u := by simpa using hu
    exact ⟨u, by simp [Instr.extract, hu'], hr⟩
  · cases h
theorem asIntOf_nat {k : IntKind} {n : Nat} : (asIntOf (.int k (n : Int))).run P w = .ok (k, (n : Int)) w := rfl
theorem elemAddr_VR {a : Option (Pos × Nat)} {len size i : Nat} (h : elemAddr a len size i = some v) : i < len ∧ ∃ n o, a = some (n, o) ∧ v = .ptr (some (n, o + i * size)) := by
  unfold elemAddr at h
  split at h
  · rename_i a hb; simp at h; exact ⟨by simpa using hb, a.1, a.2, rfl, h.symm⟩
  · cases h
theorem VR.of_slice [Sig] {n : Pos} {o l c : Nat} {f : Option Nat} {u : Value} (h : VR ρ (.slice (some (n, o)) l c f) u) :
    ∃ A c', u = .slice (some A) l c' ∧ l ≤ c ∧ c ≤ c' ∧ (f = none → c = c') ∧ (c ≠ 0 → ∃ b base, ρ n = some (b, base) ∧ A = ⟨b, base.off + o, none⟩ ∧ ∀ sz, f = some sz → base.off + o + c' * sz ≤ base.tot) := by
  cases h with | slice hl hc hs hA => exact ⟨_, _, rfl, hl, hc, hs, hA⟩
theorem indexAddr_yield [Sig] {t e : TypeId} {arr : Option Nat} {k : Nat} (ht : (arr = none ∧ P.underlying t = some (.slice e)) ∨ (∃ n, arr = some n ∧ P.underlying t = some (.array n e))) (hk : sizeC P e = some k)
    (hx : VR ρ v1 u1) (hi : VR ρ v2 u2) (h : indexAddrV arr k v1 (natOf v2) = some v) : Yield P ρ w (Instr.indexAt t u1 u2) v := by
  unfold indexAddrV at h
  split at h
  ·
    rename_i i a len cp f hn
    obtain ⟨kk, rfl⟩ := hi.of_nat hn
    obtain ⟨hlt, n, o, rfl, rfl⟩ := elemAddr_VR h
    rcases ht with ⟨_, ht⟩ | ⟨n, h', _⟩
    · obtain ⟨A, c', rfl, hl, hc, hs, hA⟩ := hx.of_slice
      obtain ⟨b, base, hb, rfl, _⟩ := hA (by omega)
      refine ⟨.pointer (some ⟨b, base.off + (o + i * k), none⟩), ?_, .ptr hb⟩
      have h1 : (0 : Int) ≤ (i : Int) ∧ (i : Int) < (len : Int) := by omega
      simp only [Instr.indexAt, Sem.run_bind, asIntOf_nat, Result.andThen_ok, run_under ht, Sem.run_pure]
      simp only [if_pos h1, Sem.run_bind, run_sizeC hk, Result.andThen_ok, Sem.run_pure, addr_add, Int.toNat_natCast, Nat.add_assoc]
    · cases h'
  ·
    rename_i i a n hn
    obtain ⟨kk, rfl⟩ := hi.of_nat hn
    obtain ⟨hlt, m, o, rfl, rfl⟩ := elemAddr_VR h
    rcases ht with ⟨h', _⟩ | ⟨n', h', ht⟩
    · cases h'
    · simp at h'; subst h'
      obtain ⟨b, base, hb, rfl⟩ := hx.of_ptr
      refine ⟨.pointer (some ⟨b, base.off + (o + i * k), none⟩), ?_, .ptr hb⟩
      have h1 : (0 : Int) ≤ (i : Int) ∧ (i : Int) < (n : Int) := by omega
      simp only [Instr.indexAt, Sem.run_bind, asIntOf_nat, Result.andThen_ok, run_under ht, Sem.run_pure, Instr.sureAddr]
      simp only [if_pos h1, Sem.run_bind, run_sizeC hk, Result.andThen_ok, Sem.run_pure, addr_add, Int.toNat_natCast, Nat.add_assoc]
  · cases h
theorem indexStr_yield [Sig] {t : TypeId} (ht : P.underlying t = some .string) (hx : VR ρ v1 u1) (hi : VR ρ v2 u2) (h : indexStrV v1 (natOf v2) = some v) : Yield P ρ w (Instr.index t u1 u2) v := by
  unfold indexStrV at h
  split at h
  · rename_i i b hn
    obtain ⟨kk, rfl⟩ := hi.of_nat hn
    split at h
    · rename_i c hfix hc
      obtain ⟨bs, b', rfl, href, hlen, hfix', hb⟩ := hx.of_strF hfix
      simp at h; subst h
      rw [nth_eq] at hc
      have hfc := fixedS_iff.1 hfix c (List.mem_of_getElem? hc)
      obtain ⟨d, hd, hcd⟩ := href.get i c hc
      have hbi : (bytesNat bs)[i]? = some (byteN d) := by rw [hb, List.getElem?_map, hd]; rfl
      rw [bytesNat, List.getElem?_map] at hbi
      cases hq : bs.data.toList[i]? with
      | none => rw [hq] at hbi; simp at hbi
      | some x =>
        rw [hq] at hbi; simp at hbi
        have hq' : bs[i]? = some x := by
          have : bs.data[i]? = some x := by simpa using hq
          obtain ⟨hlt, hx⟩ := Array.getElem?_eq_some_iff.1 this
          rw [getElem?_pos bs i hlt]; exact congrArg some hx
        refine ⟨.int .u8 x.toNat, ?_, by rw [hbi]; exact byteV_VR hfc hcd⟩
        have h0 : (0 : Int) ≤ (i : Int) := by omega
        simp only [Instr.index, Sem.run_bind, asIntOf_nat, Result.andThen_ok, run_under ht, if_pos h0, Int.toNat_natCast, hq', Sem.run_pure]
    · cases h
  · cases h
theorem indexArr_yield [Sig] {t e : TypeId} {n k : Nat} {p : Option Nat} (ht : P.underlying t = some (.array n e)) (hk : sizeC P e = some k) (hp : aggC P e = some p)
    (hx : VR ρ v1 u1) (hi : VR ρ v2 u2) (h : indexArrV n p k v1 (natOf v2) = some v) : Yield P ρ w (Instr.index t u1 u2) v := by
  unfold indexArrV at h
  split at h
  · rename_i i cs hn
    obtain ⟨kk, rfl⟩ := hi.of_nat hn
    obtain ⟨cs', rfl, hcs, hfl⟩ := hx.of_agg
    split at h
    · rename_i hlt
      have hlt : i < n := by simpa using hlt
      obtain ⟨u, hr, hu⟩ := hcs.part_run (P := P) (w := w) hfl hp h
      refine ⟨u, ?_, hu⟩
      have h1 : (0 : Int) ≤ (i : Int) ∧ (i : Int) < (n : Int) := by omega
      simp only [Instr.index, Sem.run_bind, asIntOf_nat, Result.andThen_ok, run_under ht, Sem.run_ite, if_pos h1, run_sizeC hk, Int.toNat_natCast, hr]
    · cases h
  · cases h
theorem okV_VR [Sig] {ok b : Bool} {x : Value} (h : VR ρ v x) : VR ρ (okV ok v b) (if ok then .tuple #[x, .bool b] else x) := by
  cases ok
  · exact h
  · exact .tuple (.cons h (.cons (.bool b) .nil))
theorem typeAssert_yield [Sig] {t a : TypeId} {d : TypeDesc} {z : AV} {ok : Bool} (ha : P.underlying a = some d) (hd : ∀ m, d ≠ .interface m) (hz : zeroC P a = some z) (hx : VR ρ v1 u1)
    (h : typeAssertV a z v1 ok = some v) : Yield P ρ w (Instr.typeAssert u1 t a ok) v := by
  obtain ⟨i, zv, hi, hzv, hc⟩ := zeroC_eq hz
  have hzr : VR ρ z zv := constOf_VR hc
  unfold typeAssertV at h
  split at h
  · rename_i u x
    obtain ⟨y, rfl, hy⟩ := hx.of_iface
    split at h
    · rename_i hb
      have hb : u = a := by simpa using hb
      subst hb
      simp at h; subst h
      refine ⟨_, ?_, okV_VR hy⟩
      simp only [Instr.typeAssert, Sem.run_bind, run_under ha, Result.andThen_ok]
      cases d <;> first | exact (hd _ rfl).elim | simp
    · rename_i hb
      have hb : u ≠ a := by intro e; subst e; simp at hb
      simp at h; subst h
      refine ⟨.tuple #[zv, .bool false], ?_, .tuple (.cons hzr (.cons (.bool _) .nil))⟩
      simp only [Instr.typeAssert, Sem.run_bind, run_under ha, Result.andThen_ok]
      cases d <;> first | exact (hd _ rfl).elim | simp [hb, run_zero hi hzv]
    · cases h
  · have := hx.of_nilIface; subst this
    split at h
    · simp at h; subst h
      refine ⟨.tuple #[zv, .bool false], ?_, .tuple (.cons hzr (.cons (.bool _) .nil))⟩
      simp only [Instr.typeAssert, Sem.run_bind, run_under ha, Result.andThen_ok]
      cases d <;> first | exact (hd _ rfl).elim | simp [run_zero hi hzv]
    · cases h
  · cases h
end
end A3
namespace A3
open Go
section
variable {P : Program} {N : Nat} {C : CC} {B : Nat} {w0 : World} {ρ : Ren} {s : St} {w : World} {v v1 v2 v3 : AV} {u1 u2 u3 : Value}
theorem nbeq_false {m l : Nat} (h : m ≠ l) : Nat.beq m l = false := by
  cases hb : Nat.beq m l with
  | false => rfl
  | true => exact absurd (Nat.eq_of_beq_eq_true hb) h
inductive VRO [Sig] (ρ : Ren) : Option AV → Option Value → Prop where
  | none : VRO ρ none none
  | some {v : AV} {u : Value} (h : VR ρ v u) : VRO ρ (some v) (some u)
theorem run_sliceBound [Sig] {u : Value} {n y : Nat} {code : BoundsCode} (h : VR ρ v1 u) (hn : natOf v1 = some n) (hy : n ≤ y) : (Instr.sliceBound u y code).run P w = .ok n w := by
  obtain ⟨k, rfl⟩ := h.of_nat hn
  have h1 : (0 : Int) ≤ (n : Int) ∧ (n : Int) ≤ (y : Int) := by omega
  simp only [Instr.sliceBound, Sem.run_bind, asIntOf_nat, Result.andThen_ok, Sem.run_ite, if_pos h1, Sem.run_pure, Int.toNat_natCast]
theorem bound_some {x : AV} {d most n : Nat} (h : bound (some x) d most = some n) : natOf x = some n ∧ n ≤ most := by
  simp only [bound] at h
  split at h
  · cases h
  · rename_i m hm
    split at h
    · rename_i hle; simp at h; subst h; exact ⟨hm, by simpa using hle⟩
    · cases h
theorem run_sliceBounds [Sig] {isS : Bool} {len cap cap' : Nat} {lo hi mx : Option AV} {lo' hi' mx' : Option Value} {l h m : Nat} (hl : VRO ρ lo lo') (hh : VRO ρ hi hi') (hm : VRO ρ mx mx')
    (hmx : mx.isSome = true → hi.isSome = true) (hcap : cap ≤ cap')
    (e1 : bound mx cap cap = some m) (e2 : bound hi len m = some h) (e3 : bound lo 0 h = some l) (hlen : len ≤ cap) :
    ∃ m', (Instr.sliceBounds isS len cap' lo' hi' mx').run P w = .ok (l, h, m') w ∧ l ≤ h ∧ h ≤ m ∧ m ≤ cap ∧ (mx.isSome = true → m' = m) ∧ (mx = none → m = cap ∧ m' = cap') := by
  have hbm : m ≤ cap := by
    cases mx with
    | none => simp [bound] at e1; omega
    | some x => exact (bound_some e1).2
  have hhm : h ≤ m := by
    cases hi with
    | none =>
      cases mx with
      | none => simp [bound] at e1 e2; omega
      | some x => simp at hmx
    | some x => exact (bound_some e2).2
  have hlh : l ≤ h := by
    cases lo with
    | none => simp [bound] at e3; omega
    | some x => exact (bound_some e3).2
  cases hm with
  | none =>
    simp [bound] at e1
    refine ⟨cap', ?_, hlh, hhm, hbm, by simp, fun _ => ⟨e1.symm, rfl⟩⟩
    have hlow : ∀ code : BoundsCode, (match lo' with | some v => Instr.sliceBound v h code | none => (Pure.pure 0 : Sem Nat)).run P w = .ok l w := by
      intro code
      cases hl with
      | none => simp [bound] at e3; subst e3; rfl
      | some hx => obtain ⟨h1, h2⟩ := bound_some e3; exact run_sliceBound hx h1 h2
    cases hh with
    | none =>
      simp [bound] at e2; subst e2
      simp only [Instr.sliceBounds, Sem.run_bind, Sem.run_pure, Result.andThen_ok]
      have := hlow .sliceB
      cases hl with
      | none => simp at this ⊢; simpa using this
      | some hx => simp at this ⊢; rw [this]; rfl
    | some hy =>
      obtain ⟨h3, h4⟩ := bound_some e2
      have hr := fun code => run_sliceBound (P := P) (w := w) (y := cap') (code := code) hy h3 (by omega)
      simp only [Instr.sliceBounds, Sem.run_bind, Sem.run_pure, Result.andThen_ok, hr]
      have := hlow .sliceB
      cases hl with
      | none => simp at this ⊢; simpa using this
      | some hx => simp at this ⊢; rw [this]; rfl
  | some hz =>
    obtain ⟨h5, h6⟩ := bound_some e1
    refine ⟨m, ?_, hlh, hhm, hbm, fun _ => rfl, by simp⟩
    have hrm := fun code => run_sliceBound (P := P) (w := w) (y := cap') (code := code) hz h5 (by omega)
    cases hh with
    | none => simp at hmx
    | some hy =>
      obtain ⟨h3, h4⟩ := bound_some e2
      have hr := fun code => run_sliceBound (P := P) (w := w) (y := m) (code := code) hy h3 h4
      simp only [Instr.sliceBounds, Sem.run_bind, Result.andThen_ok, hrm, hr]
      cases hl with
      | none => simp [bound] at e3; subst e3; rfl
      | some hx =>
        obtain ⟨h1, h2⟩ := bound_some e3
        have := fun code => run_sliceBound (P := P) (w := w) (y := h) (code := code) hx h1 h2
        simp only [this, Result.andThen_ok, Sem.run_bind, Sem.run_pure]
theorem bytesNat_extract (b : ByteArray) (l h : Nat) : bytesNat (b.extract l h) = ((bytesNat b).drop l).take (h - l) := by
  simp only [bytesNat, ByteArray.data_extract, Array.toList_extract, List.extract, List.map_take, List.map_drop]
theorem bytesNat_length (b : ByteArray) : (bytesNat b).length = b.size := by simp [bytesNat]
theorem slice_yield [Sig] {k : Kd} {t : TypeId} {size : Nat} {lo hi mx : Option AV} {lo' hi' mx' : Option Value}
    (ht : (k = .str ∧ P.underlying t = some .string) ∨ (∃ e, k = .slice ∧ P.underlying t = some (.slice e) ∧ sizeC P e = some size) ∨ (∃ n e, k = .arr n ∧ P.underlying t = some (.array n e) ∧ sizeC P e = some size))
    (hx : VR ρ v1 u1) (hl : VRO ρ lo lo') (hh : VRO ρ hi hi') (hm : VRO ρ mx mx') (hmx : mx.isSome = true → hi.isSome = true)
    (h : sliceOf k size v1 lo hi mx = some v) : Yield P ρ w (Instr.sliceAt t u1 lo' hi' mx') v := by
  unfold sliceOf at h
  split at h
  ·
    rename_i b
    split at h
    · cases h
    rename_i hfix
    have hfix : fixedS b = true := by simpa using hfix
    obtain ⟨bs, b', rfl, href, hlen, hfix', hb⟩ := hx.of_strF hfix
    rcases ht with ⟨_, ht⟩ | ⟨e, hk, _⟩ | ⟨n, e, hk, _⟩
    · split at h
      · rename_i hh' e2
        split at h
        · cases h
        · rename_i l e3
          simp at h; subst h
          have hsz : lenN b = bs.size := by rw [← bytesNat_length, hb, lenN_eq, List.length_map, hlen]
          rw [hsz] at e2
          obtain ⟨m', hr, _⟩ := run_sliceBounds (P := P) (w := w) (isS := false) (cap := bs.size) (cap' := bs.size) hl hh (VRO.none (ρ := ρ)) (by simp) (Nat.le_refl _) (m := bs.size) rfl e2 e3 (Nat.le_refl _)
          cases hm
          refine ⟨.string (bs.extract l hh'), ?_, .str (s' := (b'.drop l).take (hh' - l)) (by rw [takeN_eq, dropN_eq]; exact (href.drop _).take _) ?_⟩
          · simp only [Instr.sliceAt, Sem.run_bind, run_under ht, Result.andThen_ok, Instr.slice, Option.isSome_none, Bool.false_eq_true, if_false, hr, Sem.run_pure]
          · rw [bytesNat_extract, hb, expand_fixed ((href.drop _).take _) (fixedS_take (fixedS_drop hfix _) _), List.map_take, List.map_drop]
      · cases h
    · cases hk
    · cases hk
  ·
    rename_i a len cap soft
    rcases ht with ⟨hk, _⟩ | ⟨e, _, ht, hsz⟩ | ⟨n, e, hk, _⟩
    · cases hk
    · split at h
      · cases h
      · rename_i m e1
        split at h
        · cases h
        · rename_i hh' e2
          split at h
          · cases h
          · rename_i l e3
            split at h
            · rename_i hsoft
              simp at h; subst h
              cases hx with
              | sliceN f =>
                obtain ⟨m', hr, h1, h2, h3, h4, h5⟩ := run_sliceBounds (P := P) (w := w) (isS := true) hl hh hm hmx (Nat.le_refl _) e1 e2 e3 (Nat.le_refl _)
                have : l = 0 ∧ hh' = 0 ∧ m = 0 := by omega
                obtain ⟨rfl, rfl, rfl⟩ := this
                have hm' : m' = 0 := by
                  cases mx with
                  | none => exact (h5 rfl).2
                  | some x => exact h4 rfl
                subst hm'
                refine ⟨.slice none 0 0, ?_, by simp [sliceRes]; exact .sliceN _⟩
                simp [Instr.sliceAt, run_under ht, Instr.slice, hr, run_sizeC hsz]
              | slice hlc hcc hs hA =>
                rename_i n o A c'
                obtain ⟨m', hr, h1, h2, h3, h4, h5⟩ := run_sliceBounds (P := P) (w := w) (isS := true) hl hh hm hmx hcc e1 e2 e3 hlc
                refine ⟨.slice (if m' = l then some A else some (A.add (l * size))) (hh' - l) (m' - l), ?_, ?_⟩
                · simp [Instr.sliceAt, run_under ht, Instr.slice, hr, run_sizeC hsz]
                · have hmm : m ≤ m' ∧ m' ≤ c' := by
                    cases mx with
                    | none => have := h5 rfl; omega
                    | some x => have := h4 rfl; omega
                  have hsame : (match mx with | none => soft | some _ => none) = none → m = m' := by
                    cases mx with
                    | none => intro hn; have := h5 rfl; have := hs (by simpa using hn); omega
                    | some x => intro _; exact (h4 rfl).symm
                  have hszs : ∀ sz, (match mx with | none => soft | some _ => none) = some sz → mx = none ∧ soft = some sz ∧ sz = size := by
                    intro sz hsz'
                    cases mx with
                    | none =>
                      simp at hsz'
                      subst hsz'
                      simp [softOk] at hsoft
                      exact ⟨rfl, rfl, hsoft⟩
                    | some x => simp at hsz'
                  unfold sliceRes
                  by_cases hml : m = l
                  · subst hml
                    simp only [Nat.beq_refl, Nat.sub_self]
                    by_cases hm'l : m' = m
                    · subst hm'l
                      simp only [if_true, Nat.sub_self]
                      exact .slice (by omega) (Nat.le_refl _) (fun _ => rfl) (by simp)
                    · rw [if_neg hm'l]
                      exact .slice (by omega) (by omega) (fun hn => absurd (hsame hn).symm hm'l) (by simp)
                  · have hb : Nat.beq m l = false := nbeq_false hml
                    have hm'l : m' ≠ l := by omega
                    rw [hb, if_neg hm'l]
                    obtain ⟨b, base, hb, rfl, hcap⟩ := hA (by omega)
                    refine .slice (by omega) (by omega) (fun hn => by rw [hsame hn]) fun _ => ⟨b, base, hb, by rw [addr_add, Nat.add_assoc], ?_⟩
                    intro sz hsz'
                    obtain ⟨hmn, hs', rfl⟩ := hszs sz hsz'
                    have := hcap sz hs'
                    have hm'c : m' = c' := (h5 hmn).2
                    rw [hm'c]
                    have h6 : l ≤ c' := by omega
                    have h7 : base.off + (o + l * sz) + (c' - l) * sz = base.off + o + c' * sz := by
                      rw [Nat.sub_mul]
                      have : l * sz ≤ c' * sz := Nat.mul_le_mul_right sz h6
                      omega
                    omega
            · cases h
    · cases hk
  ·
    rename_i n a
    obtain ⟨n', o'⟩ := a
    rcases ht with ⟨hk, _⟩ | ⟨e, hk, _⟩ | ⟨n2, e, hk, ht, hsz⟩
    · cases hk
    · cases hk
    · cases hk
      split at h
      · cases h
      · rename_i m e1
        split at h
        · cases h
        · rename_i hh' e2
          split at h
          · cases h
          · rename_i l e3
            simp at h; subst h
            obtain ⟨b, base, hb, rfl⟩ := hx.of_ptr
            obtain ⟨m', hr, h1, h2, h3, h4, h5⟩ := run_sliceBounds (P := P) (w := w) (isS := false) hl hh hm hmx (Nat.le_refl _) e1 e2 e3 (Nat.le_refl _)
            have hmm : m' = m := by
              cases mx with
              | none => have := h5 rfl; omega
              | some x => exact h4 rfl
            subst hmm
            refine ⟨.slice (some (if m' = l then ⟨b, base.off + o', none⟩ else (⟨b, base.off + o', none⟩ : Addr).add (l * size))) (hh' - l) (m' - l), ?_, ?_⟩
            · simp [Instr.sliceAt, run_under ht, Instr.sureAddr, hr, run_sizeC hsz]
            · unfold sliceRes
              by_cases hml : m' = l
              · subst hml
                simp only [Nat.beq_refl, if_true, Nat.sub_self]
                exact .slice (by omega) (Nat.le_refl _) (fun _ => rfl) (by simp)
              · have hbf : Nat.beq m' l = false := nbeq_false hml
                rw [hbf, if_neg hml]
                exact .slice (by omega) (Nat.le_refl _) (fun _ => rfl) fun _ => ⟨b, base, hb, by rw [addr_add, Nat.add_assoc], by simp⟩
  · cases h
end
end A3
namespace A3
open Go
structure TyR (X : List Nat) (ρ : Ren) (s : St) (w : World) : Prop where
  is : ∀ n t b o, s.ty.get n = some t → ρ n = some (b, o) → ∃ cells fz, w.heap[b]? = some (.cells cells t fz) ∧ ∀ cs ro, s.heap.get n = some (.cells cs ro none) → o.off = 0 ∧ cs.length = cells.size
  fresh : ∀ n : Pos, s.next.toNat ≤ n.toNat → s.ty.get n = none
  df : ∀ b ∈ X, w.heap[b]? = some (.deferred (some []))
section
variable {P : Program} {X : List Nat} {N : Nat} {C : CC} {B : Nat} {w0 : World} {ρ : Ren} {s : St} {w : World} {v v1 v2 v3 : AV} {u1 u2 u3 : Value}
theorem nilCheck_exec [Sig] {o : Oper} {x : Operand} {ev : Operand → Value} (ho : o.op = .nilCheck x) (hx : VR ρ v1 (ev x)) (h : nilCheckV v1 = some v) :
    ∃ u, (execOp ev o).run P w = .ok (.value u) w ∧ VR ρ v u := by
  refine ⟨ev x, ?_, ?_⟩
  · simp only [execOp, ho]
    unfold nilCheckV at h
    split at h
    · rename_i a; obtain ⟨n, o⟩ := a; obtain ⟨b, base, _, e⟩ := hx.of_ptr; rw [e]; rfl
    · cases h
    · rename_i f a b hne
      generalize hu : ev x = u at hx
      cases hx with
      | func h1 h2 => rfl
      | yield h1 => rfl
    · generalize hu : ev x = u at hx
      cases hx <;> rfl
    · generalize hu : ev x = u at hx
      cases hx <;> rfl
    · cases h
  · unfold nilCheckV at h
    split at h <;> simp at h <;> subst h <;> exact hx
theorem mapOf_eq {r : Pos} {es : List (AV × AV)} (h : mapOf s r = some es) : s.heap.get r = some (.map es) := by
  unfold mapOf at h
  split at h
  · rename_i e; simp at h; subst h; exact e
  · cases h
theorem MapR.length [Sig] : ∀ {l : List (AV × AV)} {m : List MapEntry}, MapR ρ l m → l.length = m.length
  | _, _, .nil => rfl
  | _, _, .cons _ _ t => by simp [t.length]
theorem run_getMap {r : Nat} {es : Array MapEntry} {c : Nat} (h : w.heap[r]? = some (.map es c)) : (getObj r).run P w = .ok (.map es c) w := by
  simp [getObj, Sem.run, h]
theorem len_yield [Sig] {k : Kd} {t ty : TypeId} {ts : Array TypeId} (h0 : ts[0]? = some t)
    (ht : (k = .str ∧ P.underlying t = some .string) ∨ (∃ e, k = .slice ∧ P.underlying t = some (.slice e)) ∨ (∃ a e, k = .map ∧ P.underlying t = some (.map a e)))
    (hw : WR C B w0 ρ s w) (hx : VR ρ v1 u1) (h : lenV k s v1 = some v) : Yield P ρ w (Builtin.len_ ts ty #[u1]) v := by
  unfold lenV at h
  split at h
  · rename_i b
    split at h
    case h_2 => cases h
    rename_i hfix
    obtain ⟨bs, b', rfl, href, hlen, hfix', hb⟩ := hx.of_strF hfix
    simp at h; subst h
    rcases ht with ⟨_, ht⟩ | ⟨e, hk, _⟩ | ⟨a, e, hk, _⟩
    · refine ⟨goInt bs.size, by simp [Builtin.len_, h0, run_under ht], ?_⟩
      have hsz : lenN b = bs.size := by rw [← bytesNat_length, hb, lenN_eq, List.length_map, hlen]
      rw [hsz]; exact .int _ _
    · cases hk
    · cases hk
  · rename_i a n c f
    simp at h; subst h
    rcases ht with ⟨hk, _⟩ | ⟨e, _, ht⟩ | ⟨a, e, hk, _⟩
    · cases hk
    · cases hx
      · exact ⟨goInt (0 : Nat), by simp [Builtin.len_, h0, run_under ht], .int _ _⟩
      · exact ⟨goInt (n : Nat), by simp [Builtin.len_, h0, run_under ht], .int _ _⟩
    · cases hk
  · simp at h; subst h
    have := hx.of_mapN; subst this
    rcases ht with ⟨hk, _⟩ | ⟨e, hk, _⟩ | ⟨a, e, _, ht⟩
    · cases hk
    · cases hk
    · exact ⟨goInt (0 : Nat), by simp [Builtin.len_, h0, run_under ht], .int _ _⟩
  · rename_i r
    split at h
    · cases h
    · rename_i es hes
      simp at h; subst h
      obtain ⟨b, hb, rfl⟩ := hx.of_map
      obtain ⟨_, _, ces, clock, hheap, hr⟩ := hw.map _ _ _ _ hb (mapOf_eq hes)
      rcases ht with ⟨hk, _⟩ | ⟨e, hk, _⟩ | ⟨a, e, _, ht⟩
      · cases hk
      · cases hk
      · refine ⟨goInt (ces.size : Nat), by simp [Builtin.len_, h0, run_under ht, run_getMap hheap], ?_⟩
        have := hr.r.length
        rw [lenN_eq, this]
        simp only [Array.length_toList]; exact .int _ _
  · cases h
theorem cap_yield [Sig] {t ty e : TypeId} {ts : Array TypeId} (h0 : ts[0]? = some t) (ht : P.underlying t = some (.slice e)) (hx : VR ρ v1 u1) (h : capV v1 = some v) : Yield P ρ w (Builtin.cap_ ts ty #[u1]) v := by
  unfold capV at h
  split at h
  · rename_i a l c
    simp at h; subst h
    cases hx
    · exact ⟨goInt (0 : Nat), by simp [Builtin.cap_, h0, run_under ht], .int _ _⟩
    · rename_i hs _
      have := hs rfl
      subst this
      exact ⟨goInt (c : Nat), by simp [Builtin.cap_, h0, run_under ht], .int _ _⟩
  · cases h
theorem run_minmax [Sig] {P : Program} {w : World} {ρ : Ren} (mx : Bool) : ∀ {l : List AV} {x : AV} {l' : List Value} {x' : Value} {v : AV}, VR ρ x x' → VRs ρ l l' → minmax mx x l = some v →
    ∃ u, (l'.foldlM (if mx then Builtin.max2 else Builtin.min2) x').run P w = .ok u w ∧ VR ρ v u
  | [], x, _, x', v, hx, .nil, h => by simp [minmax] at h; subst h; exact ⟨x', rfl, hx⟩
  | y :: l, x, _, x', v, hx, .cons (u := y') (m := l') hy hl, h => by
    simp only [minmax] at h
    split at h
    · rename_i k a j b
      have := hx.of_int; subst this
      have := hy.of_int; subst this
      split at h
      · rename_i hjk
        have hjk := (eqK_iff _ _).1 hjk
        subst hjk
        simp only [List.foldlM_cons, Sem.run_bind]
        cases mx
        · simp only [Bool.false_eq_true, if_false, Builtin.min2, Sem.run_pure, Result.andThen_ok] at h ⊢
          split at h
          · rename_i hlt
            have : ¬ b < a := by omega
            rw [if_neg this]
            have := run_minmax (P := P) (w := w) false (.int k a) hl h
            simpa using this
          · rename_i hlt
            by_cases hba : b < a
            · rw [if_pos hba]
              have := run_minmax (P := P) (w := w) false (.int k b) hl h
              simpa using this
            · have : a = b := by omega
              subst this
              rw [if_neg hba]
              have := run_minmax (P := P) (w := w) false (.int k a) hl h
              simpa using this
        · simp only [if_true, Builtin.max2, Sem.run_pure, Result.andThen_ok] at h ⊢
          split at h
          · rename_i hlt
            rw [if_pos hlt]
            have := run_minmax (P := P) (w := w) true (.int k b) hl h
            simpa using this
          · rename_i hlt
            have : ¬ b > a := by omega
            rw [if_neg this]
            have := run_minmax (P := P) (w := w) true (.int k a) hl h
            simpa using this
      · cases h
    · rename_i i j
      obtain ⟨_, _, rfl⟩ := hx.of_sym0
      obtain ⟨_, _, rfl⟩ := hy.of_sym0
      split at h
      · cases h
      · rename_i hg
        have hg := Nat.eq_of_beq_eq_true hg
        have hlt := σ_lt hg
        have heq := σ_eq hg
        simp only [List.foldlM_cons, Sem.run_bind]
        cases mx
        · simp only [Bool.false_eq_true, if_false, Builtin.min2, Sem.run_pure, Result.andThen_ok] at h ⊢
          split at h
          · rename_i hij
            have hij := hlt.2 (blt_iff.1 hij)
            have : ¬ Sig.σ j < Sig.σ i := by omega
            rw [if_neg this]
            have := run_minmax (P := P) (w := w) false (.sym0 i) hl h
            simpa using this
          · rename_i hij
            have hij : ¬ i < j := fun h' => by rw [blt_iff.2 h'] at hij; cases hij
            have hij := fun h' => hij (hlt.1 h')
            by_cases hba : Sig.σ j < Sig.σ i
            · rw [if_pos hba]
              have := run_minmax (P := P) (w := w) false (.sym0 j) hl h
              simpa using this
            · have : i = j := heq.1 (by omega)
              subst this
              rw [if_neg hba]
              have := run_minmax (P := P) (w := w) false (.sym0 i) hl h
              simpa using this
        · simp only [if_true, Builtin.max2, Sem.run_pure, Result.andThen_ok] at h ⊢
          split at h
          · rename_i hij
            have hij := hlt.2 (blt_iff.1 hij)
            rw [if_pos hij]
            have := run_minmax (P := P) (w := w) true (.sym0 j) hl h
            simpa using this
          · rename_i hij
            have hij : ¬ i < j := fun h' => by rw [blt_iff.2 h'] at hij; cases hij
            have hij := fun h' => hij (hlt.1 h')
            have : ¬ Sig.σ j > Sig.σ i := by omega
            rw [if_neg this]
            have := run_minmax (P := P) (w := w) true (.sym0 i) hl h
            simpa using this
    · cases h
theorem minmax_yield [Sig] (mx : Bool) {as : List AV} {us : Array Value} {ts : Array TypeId} {ty : TypeId} (hx : VRs ρ as us.toList) (h : minmaxL mx as = some v) :
    Yield P ρ w (if mx then Builtin.max_ ts ty us else Builtin.min_ ts ty us) v := by
  unfold minmaxL at h
  split at h
  · cases h
  · rename_i x r
    generalize hus : us.toList = l at hx
    cases hx with
    | cons h1 h2 =>
      rename_i x' r'
      have := run_minmax (P := P) (w := w) mx h1 h2 h
      cases mx
      · simpa [Yield, Builtin.min_, hus] using this
      · simpa [Yield, Builtin.max_, hus] using this
theorem sliceData_yield [Sig] {ty : TypeId} {ts : Array TypeId} (hx : VR ρ v1 u1) (h : sliceDataV v1 = some v) : Yield P ρ w (Builtin.unsafeSliceData_ ts ty #[u1]) v := by
  unfold sliceDataV at h
  split at h
  · simp at h; subst h
    cases hx
    exact ⟨.pointer none, rfl, .ptrN⟩
  · rename_i a l c f
    obtain ⟨n, o⟩ := a
    simp at h; subst h
    obtain ⟨A, c', rfl, hl, hc, hs, hA⟩ := hx.of_slice
    obtain ⟨b, base, hb, rfl, _⟩ := hA (by omega)
    have : c' ≠ 0 := by omega
    refine ⟨.pointer (some ⟨b, base.off + o, none⟩), ?_, .ptr hb⟩
    show Sem.run P (if c' ≠ 0 then Pure.pure (Value.pointer (some ⟨b, base.off + o, none⟩)) else _) w = _
    rw [if_pos this]; rfl
  · cases h
theorem asStr_yield [Sig] {src dst : TypeId} (hs : P.underlying src = some .string) (hd : P.underlying dst = some .string) (hx : VR ρ v1 u1) (h : asStrV v1 = some v) : Yield P ρ w (convert src dst u1) v := by
  unfold asStrV at h
  split at h
  · simp at h; subst h
    obtain ⟨bs, b', rfl, href, hb⟩ := hx.of_str
    exact ⟨.string bs, by simp [convert, run_under hs, run_under hd], .str href hb⟩
  · cases h
end
end A3
namespace A3
open Go
section
variable {P : Program} {X : List Nat} {N : Nat} {C : CC} {B : Nat} {w0 : World} {ρ : Ren} {s : St} {w : World} {v v1 v2 v3 : AV} {u1 u2 u3 : Value}
theorem natOfBits_eq (k : IntKind) (x : Int) : (BitVec.ofInt k.bits x).toNat = natOfBits k x := by
  rw [BitVec.toNat_ofInt, natOfBits]
  cases k <;> rfl
theorem binInt_run [Sig] {op : BinOp} {k k' : IntKind} {a b : Int} {t : TypeId} (hk : eqK k k' = true ∨ isShift op = true) (h : binInt op k a b = some v) :
    ∃ u, (Go.binOp op t (.int k a) (.int k' b)).run P w = .ok u w ∧ VR ρ v u := by
  have hand : ∀ x y : BitVec k.bits, (x &&& y).toNat = Nat.land x.toNat y.toNat := fun x y => BitVec.toNat_and x y
  have hor : ∀ x y : BitVec k.bits, (x ||| y).toNat = Nat.lor x.toNat y.toNat := fun x y => BitVec.toNat_or x y
  have hxor : ∀ x y : BitVec k.bits, (x ^^^ y).toNat = Nat.xor x.toNat y.toNat := fun x y => BitVec.toNat_xor x y
  have hnot : ∀ x : BitVec k.bits, (~~~x).toNat = Nat.xor x.toNat (2 ^ k.bits - 1) := by
    intro x
    rw [← BitVec.xor_allOnes, hxor, BitVec.toNat_allOnes]
  cases op <;> simp only [binInt, Option.some.injEq] at h <;> simp only [isShift, Bool.false_eq_true, or_false, eqK_iff, or_true] at hk
  case add => subst hk; subst h; exact ⟨_, by simp only [Go.binOp, ne_eq, not_true_eq_false, if_false, Op.intArith, Sem.run_pure], .int _ _⟩
  case sub => subst hk; subst h; exact ⟨_, by simp only [Go.binOp, ne_eq, not_true_eq_false, if_false, Op.intArith, Sem.run_pure], .int _ _⟩
  case mul => subst hk; subst h; exact ⟨_, by simp only [Go.binOp, ne_eq, not_true_eq_false, if_false, Op.intArith, Sem.run_pure], .int _ _⟩
  case quo =>
    subst hk
    split at h
    · cases h
    · rename_i hb; simp at h; subst h; exact ⟨_, by simp only [Go.binOp, ne_eq, not_true_eq_false, if_false, Op.intDiv, if_neg hb, Sem.run_pure], .int _ _⟩
  case rem =>
    subst hk
    split at h
    · cases h
    · rename_i hb; simp at h; subst h; exact ⟨_, by simp only [Go.binOp, ne_eq, not_true_eq_false, if_false, Op.intDiv, if_neg hb, Sem.run_pure], .int _ _⟩
  case and => subst hk; subst h; exact ⟨_, by simp only [Go.binOp, ne_eq, not_true_eq_false, if_false, Op.intBits, hand, natOfBits_eq, Sem.run_pure], .int _ _⟩
  case or => subst hk; subst h; exact ⟨_, by simp only [Go.binOp, ne_eq, not_true_eq_false, if_false, Op.intBits, hor, natOfBits_eq, Sem.run_pure], .int _ _⟩
  case xor => subst hk; subst h; exact ⟨_, by simp only [Go.binOp, ne_eq, not_true_eq_false, if_false, Op.intBits, hxor, natOfBits_eq, Sem.run_pure], .int _ _⟩
  case andNot => subst hk; subst h; exact ⟨_, by simp only [Go.binOp, ne_eq, not_true_eq_false, if_false, Op.intBits, hand, hnot, natOfBits_eq, Sem.run_pure], .int _ _⟩
  case eql => subst hk; subst h; exact ⟨_, by simp only [Go.binOp, ne_eq, not_true_eq_false, if_false, Op.intCmp, Sem.run_pure]; rfl, .bool _⟩
  case neq => subst hk; subst h; exact ⟨_, by simp only [Go.binOp, ne_eq, not_true_eq_false, if_false, Op.intCmp, Sem.run_pure]; rfl, .bool _⟩
  case lss => subst hk; subst h; exact ⟨_, by simp only [Go.binOp, ne_eq, not_true_eq_false, if_false, Op.intCmp, Sem.run_pure], .bool _⟩
  case leq => subst hk; subst h; exact ⟨_, by simp only [Go.binOp, ne_eq, not_true_eq_false, if_false, Op.intCmp, Sem.run_pure], .bool _⟩
  case gtr => subst hk; subst h; exact ⟨_, by simp only [Go.binOp, ne_eq, not_true_eq_false, if_false, Op.intCmp, Sem.run_pure, gt_iff_lt], .bool _⟩
  case geq => subst hk; subst h; exact ⟨_, by simp only [Go.binOp, ne_eq, not_true_eq_false, if_false, Op.intCmp, Sem.run_pure, ge_iff_le], .bool _⟩
  case shl =>
    split at h
    · cases h
    · rename_i hb; simp at h; subst h; exact ⟨_, by simp only [Go.binOp, Op.shift, if_neg hb, Sem.run_pure], .int _ _⟩
  case shr =>
    split at h
    · cases h
    · rename_i hb; simp at h; subst h; exact ⟨_, by simp only [Go.binOp, Op.shift, if_neg hb, Sem.run_pure], .int _ _⟩
theorem boolV_eq {b : Option Bool} (h : boolV b = some v) : ∃ r, b = some r ∧ v = .bool r := by
  unfold boolV at h
  split at h
  · simp at h; exact ⟨_, rfl, h.symm⟩
  · cases h
theorem notV_eq {b : Option Bool} (h : notV b = some v) : ∃ r, b = some r ∧ v = .bool (!r) := by
  unfold notV at h
  split at h
  · simp at h; exact ⟨_, rfl, h.symm⟩
  · cases h
theorem map_inj' {α β : Type} {f : α → β} (hf : ∀ x y, f x = f y → x = y) : ∀ {l m : List α}, l.map f = m.map f → l = m
  | [], [], _ => rfl
  | [], _ :: _, h => by simp at h
  | _ :: _, [], h => by simp at h
  | a :: l, b :: m, h => by
    simp only [List.map_cons, List.cons.injEq] at h
    rw [hf _ _ h.1, map_inj' hf h.2]
theorem eqStr_bytes [Sig] (a b : ByteArray) : eqStr (bytesNat a) (bytesNat b) = (a.toList == b.toList) := by
  rw [ByteArray.toList_eq, ByteArray.toList_eq]
  cases h : eqStr (bytesNat a) (bytesNat b) with
  | true =>
    have := (eqStr_iff _ _).1 h
    have : a.data.toList = b.data.toList := map_inj' (fun x y h => UInt8.toNat_inj.1 h) this
    simp [this]
  | false =>
    symm
    rw [beq_eq_false_iff_ne]
    intro e
    have : eqStr (bytesNat a) (bytesNat b) = true := (eqStr_iff _ _).2 (by simp [bytesNat, e])
    rw [h] at this; cases this
theorem ltStr_list : ∀ (x y : List UInt8), ltStr (x.map (·.toNat)) (y.map (·.toNat)) = Op.bytesLess x y
  | [], [] => rfl
  | [], _ :: _ => rfl
  | _ :: _, [] => rfl
  | a :: x, b :: y => by
    simp only [List.map_cons, ltStr, Op.bytesLess]
    cases h : Nat.blt a.toNat b.toNat with
    | true =>
      have : a < b := by rw [UInt8.lt_iff_toNat_lt]; simpa using h
      simp [this]
    | false =>
      have hn : ¬ a < b := by rw [UInt8.lt_iff_toNat_lt]; intro h'; have : Nat.blt a.toNat b.toNat = true := by simpa using h'
                              rw [h] at this; cases this
      cases h2 : Nat.beq a.toNat b.toNat with
      | true =>
        have he : a = b := UInt8.toNat_inj.1 (Nat.eq_of_beq_eq_true h2)
        subst he
        simp [ltStr_list x y]
      | false =>
        have he : a ≠ b := fun e => by subst e; simp at h2
        simp [hn, he]
theorem ltStr_bytes [Sig] (a b : ByteArray) : ltStr (bytesNat a) (bytesNat b) = Op.bytesLess a.toList b.toList := by
  rw [ByteArray.toList_eq, ByteArray.toList_eq]; exact ltStr_list _ _
theorem bytesNat_append (a b : ByteArray) : bytesNat (a ++ b) = bytesNat a ++ bytesNat b := by
  simp [bytesNat, ByteArray.data_append]
theorem eqC_bytes [Sig] {a b : ByteArray} {x y x' y' : List Nat} {r : Bool} (ra : Ref x x') (rb : Ref y y') (ha : bytesNat a = expand x') (hb : bytesNat b = expand y') (h : eqC x y = some r) : (a.toList == b.toList) = r := by
  rw [← eqStr_bytes, ha, hb]
  have := eqC_ok ra rb h
  cases r with
  | true => exact (eqStr_iff _ _).2 (this.2 rfl)
  | false =>
    cases hq : eqStr (expand x') (expand y') with
    | false => rfl
    | true => have := this.1 ((eqStr_iff _ _).1 hq); cases this
theorem ltC_bytes [Sig] {a b : ByteArray} {x y x' y' : List Nat} {r : Bool} (ra : Ref x x') (rb : Ref y y') (ha : bytesNat a = expand x') (hb : bytesNat b = expand y') (h : ltC x y = some r) : Op.bytesLess a.toList b.toList = r := by
  rw [← ltStr_bytes, ha, hb]; exact ltC_ok ra rb h
theorem leC_bytes [Sig] {a b : ByteArray} {x y x' y' : List Nat} {r : Bool} (ra : Ref x x') (rb : Ref y y') (ha : bytesNat a = expand x') (hb : bytesNat b = expand y') (h : leC x y = some r) : (Op.bytesLess a.toList b.toList || a.toList == b.toList) = r := by
  unfold leC at h
  split at h
  · cases h
  · rename_i hl; simp at h; subst h; rw [ltC_bytes ra rb ha hb hl]; rfl
  · rename_i hl; rw [ltC_bytes ra rb ha hb hl, eqC_bytes ra rb ha hb h]; rfl
theorem binStr_run [Sig] {op : BinOp} {a b : ByteArray} {x y x' y' : List Nat} {t : TypeId} (ra : Ref x x') (rb : Ref y y') (ha : bytesNat a = expand x') (hb : bytesNat b = expand y') (h : binStr op x y = some v) :
    ∃ u, (Go.binOp op t (.string a) (.string b)).run P w = .ok u w ∧ VR ρ v u := by
  cases op <;> simp only [binStr, reduceCtorEq] at h
  case add =>
    split at h
    · rename_i hle
      simp at h; subst h
      have hle : a.size + b.size ≤ 9223372036854775807 := by
        have := Nat.le_of_ble_eq_true hle
        rw [lenN_eq, lenN_eq] at this
        rw [← bytesNat_length a, ← bytesNat_length b, ha, hb]
        have h1 := expand_length x'
        rw [← ra.length] at h1
        have h2 := expand_length y'
        rw [← rb.length] at h2
        omega
      refine ⟨.string (a ++ b), ?_, .str (by rw [app_eq]; exact ra.append rb) (by rw [bytesNat_append, ha, hb, expand_append])⟩
      have : ¬ ((a.size + b.size : Nat) : Int) > IntKind.i64.max := by
        show ¬ _ > (9223372036854775807 : Int); omega
      simp only [Go.binOp, Op.stringOp, if_neg this, Sem.run_pure]
    · cases h
  case eql => obtain ⟨r, hr, rfl⟩ := boolV_eq h; exact ⟨_, by simp only [Go.binOp, Op.stringOp, Sem.run_pure, eqC_bytes ra rb ha hb hr], .bool _⟩
  case neq => obtain ⟨r, hr, rfl⟩ := notV_eq h; exact ⟨_, by simp only [Go.binOp, Op.stringOp, Sem.run_pure, eqC_bytes ra rb ha hb hr], .bool _⟩
  case lss => obtain ⟨r, hr, rfl⟩ := boolV_eq h; exact ⟨_, by simp only [Go.binOp, Op.stringOp, Sem.run_pure, ltC_bytes ra rb ha hb hr], .bool _⟩
  case leq => obtain ⟨r, hr, rfl⟩ := boolV_eq h; exact ⟨_, by simp only [Go.binOp, Op.stringOp, Sem.run_pure, leC_bytes ra rb ha hb hr], .bool _⟩
  case gtr => obtain ⟨r, hr, rfl⟩ := notV_eq h; exact ⟨_, by simp only [Go.binOp, Op.stringOp, Sem.run_pure, leC_bytes ra rb ha hb hr], .bool _⟩
  case geq => obtain ⟨r, hr, rfl⟩ := notV_eq h; exact ⟨_, by simp only [Go.binOp, Op.stringOp, Sem.run_pure, ltC_bytes ra rb ha hb hr], .bool _⟩
theorem total_int {op : BinOp} {k : IntKind} {a b : Int} (h : total op = true) : ∃ m, binInt op k a b = some (.int k (k.wrap m)) := by
  cases op <;> simp [total] at h <;> exact ⟨_, rfl⟩
theorem shift_int [Sig] {op : BinOp} {k : IntKind} {a : Int} {m : Nat} (h : isShift op = true) (ha : k.wrap a = a) : ∃ n, binInt op k a (m : Int) = some (.int k n) ∧ k.wrap n = n := by
  have hm : ¬ ((m : Int) < 0) := by omega
  cases op <;> simp [isShift] at h
  · exact ⟨k.wrap (a * 2 ^ (min (m : Int).toNat k.bits)), by simp only [binInt, if_neg hm], wrap_wrap _ _⟩
  · refine ⟨a.fdiv (2 ^ (min (m : Int).toNat k.bits)), by simp only [binInt, if_neg hm], ?_⟩
    obtain ⟨h1, h2⟩ := range_of_wrap ha
    generalize hd : (2 : Int) ^ (min (m : Int).toNat k.bits) = d
    have hd1 : 1 ≤ d := by
      rw [← hd]
      have : (0 : Int) < 2 ^ (min (m : Int).toNat k.bits) := Int.pow_pos (by omega)
      omega
    have h3 : k.min ≤ 0 := by cases k <;> simp [IntKind.min, IntKind.signed, IntKind.bits]
    have h4 : 0 ≤ k.max := by cases k <;> simp [IntKind.max, IntKind.signed, IntKind.bits]
    refine wrap_of_range ?_ ?_
    · rw [Int.fdiv_eq_ediv_of_nonneg _ (by omega)]
      rcases Int.lt_or_le a 0 with h5 | h5
      · have h6 : a ≤ a / d := by
          refine (Int.le_ediv_iff_mul_le (by omega)).2 ?_
          have : a * d ≤ a * 1 := Int.mul_le_mul_of_nonpos_left (by omega) hd1
          omega
        omega
      · have := Int.ediv_nonneg h5 (by omega : (0 : Int) ≤ d)
        omega
    · rw [Int.fdiv_eq_ediv_of_nonneg _ (by omega)]
      rcases Int.lt_or_le a 0 with h5 | h5
      · have := Int.ediv_neg_of_neg_of_pos h5 (by omega : (0 : Int) < d)
        omega
      · have := Int.ediv_le_self d h5
        omega
theorem eqGuard_int {op : BinOp} {t : TypeId} {x y : Operand} {k k' : IntKind} {a b : Int} : (eqGuard op t x y (.int k a) (.int k' b)).run P w = .ok () w := by
  unfold eqGuard; cases op <;> rfl
theorem binAny_yield [Sig] {op : BinOp} {t : TypeId} {x y : Operand} (hx : VR ρ v1 u1) (hy : VR ρ v2 u2) (hno : ∀ k a k' b, v1 = .int k a → v2 = .int k' b → False) (h : binAny op v1 v2 = some v) :
    Yield P ρ w (do eqGuard op t x y u1 u2; Go.binOp op t u1 u2) v := by
  unfold binAny at h
  split at h
  · rename_i k k' hk hk'
    obtain ⟨a, rfl, ha⟩ := kindV_VR hk hx
    obtain ⟨b, rfl, hb'⟩ := kindV_VR hk' hy
    split at h
    · rename_i hs
      split at h
      · rename_i k2 m
        simp at h; subst h
        have := hy.of_int
        simp at this; obtain ⟨rfl, rfl⟩ := this
        have ha : k.wrap a = a := by
          rcases ha with ⟨m', rfl⟩ | ha
          · exact (hno _ _ _ _ rfl rfl).elim
          · exact ha
        obtain ⟨n, hn, hw⟩ := shift_int (m := m) hs ha
        obtain ⟨u, hr, hu⟩ := binInt_run (P := P) (w := w) (ρ := ρ) (t := t) (k' := k') (.inr hs) hn
        have := hu.of_int; subst this
        exact ⟨_, by simp only [Sem.run_bind, eqGuard_int, Result.andThen_ok]; exact hr, .any hw⟩
      · cases h
    · split at h
      · rename_i ht
        simp only [Bool.and_eq_true] at ht
        simp at h; subst h
        obtain ⟨m, hm⟩ := total_int (k := k) (a := a) (b := b) ht.2
        obtain ⟨u, hr, hu⟩ := binInt_run (P := P) (w := w) (ρ := ρ) (t := t) (.inl ht.1) hm
        have := hu.of_int; subst this
        exact ⟨_, by simp only [Sem.run_bind, eqGuard_int, Result.andThen_ok]; exact hr, .any (wrap_wrap _ _)⟩
      · cases h
  · cases h
theorem fltV_eq {r : Option Nat} (h : fltV r = some v) : ∃ n, r = some n ∧ v = .flt .f64 n := by
  cases r with
  | none => cases h
  | some n => simp [fltV] at h; exact ⟨n, rfl, h.symm⟩
theorem flt_yield [Sig] {op : BinOp} {t : TypeId} {x y : Operand} {a b : Nat} (h : fltBin op a b = some v) :
    Yield P ρ w (do eqGuard op t x y (.float .f64 a) (.float .f64 b); Go.binOp op t (.float .f64 a) (.float .f64 b)) v := by
  have hg : (eqGuard op t x y (.float .f64 a) (.float .f64 b)).run P w = .ok () w := by
    unfold eqGuard; cases op <;> rfl
  unfold Yield
  simp only [Sem.run_bind, hg, Result.andThen_ok]
  have hf : FloatKind.f64.format = Ieee.double := rfl
  cases op <;> simp only [fltBin, reduceCtorEq] at h
  case add => obtain ⟨n, hn, rfl⟩ := fltV_eq h; exact ⟨_, by simp [Go.binOp, Op.floatArith, hf, hn], .flt _ _⟩
  case sub => obtain ⟨n, hn, rfl⟩ := fltV_eq h; exact ⟨_, by simp [Go.binOp, Op.floatArith, hf, hn], .flt _ _⟩
  case mul => obtain ⟨n, hn, rfl⟩ := fltV_eq h; exact ⟨_, by simp [Go.binOp, Op.floatArith, hf, hn], .flt _ _⟩
  case quo => obtain ⟨n, hn, rfl⟩ := fltV_eq h; exact ⟨_, by simp [Go.binOp, Op.floatArith, hf, hn], .flt _ _⟩
  all_goals
    simp only [Option.some.injEq] at h; subst h
    exact ⟨_, by simp only [Go.binOp, ne_eq, not_true_eq_false, if_false, Op.floatCmp, hf, Sem.run_pure], .bool _⟩
theorem bin_yield [Sig] {op : BinOp} {t : TypeId} {x y : Operand} (hx : VR ρ v1 u1) (hy : VR ρ v2 u2) (h : A3.binOp op v1 v2 = some v) :
    Yield P ρ w (do eqGuard op t x y u1 u2; Go.binOp op t u1 u2) v := by
  unfold A3.binOp at h
  split at h
  · rename_i k a k' b
    have := hx.of_int; subst this
    have := hy.of_int; subst this
    split at h
    · rename_i hk
      obtain ⟨u, hr, hu⟩ := binInt_run (P := P) (w := w) (ρ := ρ) (t := t) (by simpa using hk) h
      refine ⟨u, ?_, hu⟩
      have : (eqGuard op t x y (.int k a) (.int k' b)).run P w = .ok () w := by
        unfold eqGuard; cases op <;> rfl
      simp only [Sem.run_bind, this, Result.andThen_ok, hr]
    · cases h
  · rename_i a b
    obtain ⟨a', ea, rfl, ra, ha⟩ := hx.of_str
    obtain ⟨b', eb, rfl, rb, hb⟩ := hy.of_str
    obtain ⟨u, hr, hu⟩ := binStr_run (P := P) (w := w) (ρ := ρ) (t := t) ra rb ha hb h
    refine ⟨u, ?_, hu⟩
    have : (eqGuard op t x y (.string a') (.string b')).run P w = .ok () w := by
      unfold eqGuard; cases op <;> rfl
    simp only [Sem.run_bind, this, Result.andThen_ok, hr]
  · rename_i a b
    cases hx; cases hy
    exact flt_yield h
  · rename_i i j
    have fin : ∀ {op : BinOp} {r : Bool}, binInt op .i64 (Sig.σ i) (Sig.σ j) = some (.bool r) → VR ρ (.sym 0 i) u1 → VR ρ (.sym 0 j) u2 → Yield P ρ w (do eqGuard op t x y u1 u2; Go.binOp op t u1 u2) (.bool r) := by
      intro op r hb h1 h2
      obtain ⟨_, _, rfl⟩ := h1.of_sym0
      obtain ⟨_, _, rfl⟩ := h2.of_sym0
      obtain ⟨u, hr, hu⟩ := binInt_run (P := P) (w := w) (ρ := ρ) (t := t) (k := .i64) (k' := .i64) (.inl rfl) hb
      exact ⟨u, by simp only [Sem.run_bind, eqGuard_int, Result.andThen_ok]; exact hr, hu⟩
    split at h
    all_goals first
      | (rename_i hg
         have hg := Nat.eq_of_beq_eq_true hg
         have hlt := σ_lt hg
         have hlt' := σ_lt hg.symm
         have heq := σ_eq hg
         simp only [Option.some.injEq] at h; subst h
         refine fin ?_ hx hy
         simp only [binInt, Option.some.injEq, AV.bool.injEq]
         rw [Bool.eq_iff_iff]
         simp only [decide_eq_true_eq, Bool.not_eq_true', Nat.beq_eq, Nat.blt_eq, Nat.ble_eq, ← Bool.not_eq_true]
         omega)
      | exact binAny_yield hx hy (by intro k a k' b e; cases e) h
  · rename_i f i g j hnn
    split at h
    · split at h
      · rename_i v' hv'
        simp at h; subst h
        unfold symOr at hv'
        split at hv'
        · rename_i hc
          simp only [Bool.and_eq_true, Nat.ble_eq, Nat.beq_eq] at hc
          obtain ⟨rfl, h33, h39, h88⟩ := hc
          obtain ⟨k1, n1, hf1, rfl⟩ := hx.of_sym
          obtain ⟨k2, n2, hf2, rfl⟩ := hy.of_sym
          have hg : g = 88 - f := by omega
          subst hg
          simp only [formV, if_neg (by omega : f ≠ 0), if_neg (by omega : f ≠ 1), if_neg (by omega : f ≠ 2), if_neg (by omega : ¬ (17 ≤ f ∧ f ≤ 23)), if_pos (by omega : 33 ≤ f ∧ f ≤ 39), Option.some.injEq, Prod.mk.injEq] at hf1
          simp only [formV, if_neg (by omega : 88 - f ≠ 0), if_neg (by omega : 88 - f ≠ 1), if_neg (by omega : 88 - f ≠ 2), if_neg (by omega : ¬ (17 ≤ 88 - f ∧ 88 - f ≤ 23)), if_neg (by omega : ¬ (33 ≤ 88 - f ∧ 88 - f ≤ 39)), if_pos (by omega : 48 ≤ 88 - f ∧ 88 - f ≤ 55), Option.some.injEq, Prod.mk.injEq] at hf2
          obtain ⟨rfl, rfl⟩ := hf1
          obtain ⟨rfl, rfl⟩ := hf2
          obtain ⟨u, hr, hu⟩ := binInt_run (P := P) (w := w) (ρ := ρ) (t := t) (op := .or) (k := .u64) (k' := .u64) (a := ((off i / 256 ^ (f - 32) * 256 : Nat) : Int)) (b := ((byteAt (Sig.σ i) (88 - f - 48) : Nat) : Int)) (.inl rfl) rfl
          have := hu.of_int; subst this
          have hlt := off_lt i
          have hval : IntKind.u64.wrap ((Nat.lor (natOfBits .u64 ((off i / 256 ^ (f - 32) * 256 : Nat) : Int)) (natOfBits .u64 ((byteAt (Sig.σ i) (88 - f - 48) : Nat) : Int)) : Nat) : Int) = ((off i / 256 ^ (f - 33) : Nat) : Int) := by
            have hbits : ∀ m : Nat, m < 256 ^ 8 → natOfBits .u64 (m : Int) = m := by
              intro m hm
              have : (256 : Nat) ^ 8 = 18446744073709551616 := by decide
              simp only [natOfBits, IntKind.bits]
              show ((m : Int) % (2 ^ 64)).toNat = m
              omega
            have hb : byteAt (Sig.σ i) (88 - f - 48) = off i / 256 ^ (f - 33) % 256 := by
              unfold byteAt off
              congr 3
              omega
            rw [hbits _ (form_up hlt (by omega) (by omega)), hbits _ (Nat.lt_trans (byteAt_lt _ _) (by decide)), hb]
            have hq : off i / 256 ^ (f - 32) = off i / 256 ^ (f - 33) / 256 := by
              rw [Nat.div_div_eq_div_mul, ← Nat.pow_succ]
              congr 2
              omega
            rw [hq]
            generalize hx' : off i / 256 ^ (f - 33) = x'
            have hlor : Nat.lor (x' / 256 * 256) (x' % 256) = x' := by
              have h1 := Nat.two_pow_add_eq_or_of_lt (i := 8) (b := x' % 256) (Nat.mod_lt _ (by omega)) (x' / 256)
              have h2 : 2 ^ 8 * (x' / 256) = x' / 256 * 256 := by omega
              rw [h2] at h1
              show (x' / 256 * 256) ||| (x' % 256) = x'
              rw [← h1]; omega
            rw [hlor]
            refine u64_of_lt ?_
            rw [← hx']
            exact Nat.lt_of_le_of_lt (Nat.div_le_self _ _) hlt
          refine ⟨_, by simp only [Sem.run_bind, eqGuard_int, Result.andThen_ok]; exact hr, ?_⟩
          rw [hval]
          split at hv'
          · rename_i h1
            have h1 := Nat.eq_of_beq_eq_true h1
            subst h1
            simp at hv'; subst hv'
            simp only [Nat.sub_self, Nat.pow_zero, Nat.div_one]; exact .sym1 i
          · rename_i h1
            have h1 := Nat.ne_of_beq_eq_false h1
            simp at hv'; subst hv'
            refine .sym ?_
            simp only [formV, if_neg (by omega : f - 17 ≠ 0), if_neg (by omega : f - 17 ≠ 1), if_neg (by omega : f - 17 ≠ 2), if_pos (by omega : 17 ≤ f - 17 ∧ f - 17 ≤ 23), Option.some.injEq, Prod.mk.injEq, true_and]
            congr 3
        · cases hv'
      · exact binAny_yield hx hy (by intro k a k' b e; cases e) h
    · exact binAny_yield hx hy (by intro k a k' b e; cases e) h
  · rename_i f i k m
    split at h
    · rename_i v' hv'
      simp at h; subst h
      have := hy.of_int; subst this
      obtain ⟨k1, n1, hf1, rfl⟩ := hx.of_sym
      have hlt := off_lt i
      unfold symNat at hv'
      split at hv'
      · split at hv'
        · rename_i hc
          simp only [Bool.and_eq_true, Nat.beq_eq, eqK_iff] at hc
          obtain ⟨rfl, rfl, rfl⟩ := hc
          simp at hv'; subst hv'
          simp [formV] at hf1; obtain ⟨rfl, rfl⟩ := hf1
          obtain ⟨u, hr, hu⟩ := binInt_run (P := P) (w := w) (ρ := ρ) (t := t) (op := .sub) (k := .u64) (k' := .u64) (a := (off i : Nat)) (b := ((9223372036854775808 : Nat) : Int)) (.inl rfl) rfl
          have := hu.of_int; subst this
          refine ⟨_, by simp only [Sem.run_bind, eqGuard_int, Result.andThen_ok]; exact hr, ?_⟩
          have : ((off i : Nat) : Int) - ((9223372036854775808 : Nat) : Int) = Sig.σ i := by rw [off_eq]; omega
          rw [this]; exact .sym2 i
        · cases hv'
      · split at hv'
        · rename_i hc
          simp only [Bool.and_eq_true, Nat.beq_eq, eqK_iff] at hc
          obtain ⟨rfl, rfl, rfl⟩ := hc
          simp at hv'; subst hv'
          simp [formV] at hf1; obtain ⟨rfl, rfl⟩ := hf1
          obtain ⟨u, hr, hu⟩ := binInt_run (P := P) (w := w) (ρ := ρ) (t := t) (op := .add) (k := .u64) (k' := .u64) (a := IntKind.u64.wrap (Sig.σ i)) (b := ((9223372036854775808 : Nat) : Int)) (.inl rfl) rfl
          have := hu.of_int; subst this
          refine ⟨_, by simp only [Sem.run_bind, eqGuard_int, Result.andThen_ok]; exact hr, ?_⟩
          have : IntKind.u64.wrap (IntKind.u64.wrap (Sig.σ i) + ((9223372036854775808 : Nat) : Int)) = (off i : Nat) := by rw [off_eq]; exact wrap_add_off i
          rw [this]; exact .sym1 i
        · cases hv'
      · split at hv'
        · rename_i hc
          simp only [Bool.and_eq_true, Nat.beq_eq, Nat.ble_eq] at hc
          obtain ⟨rfl, h8, h56⟩ := hc
          simp [formV] at hf1; obtain ⟨rfl, rfl⟩ := hf1
          have hm : ¬ ((m : Int) < 0) := by omega
          obtain ⟨u, hr, hu⟩ := binInt_run (P := P) (w := w) (ρ := ρ) (t := t) (op := .shr) (v := .int .u64 (((off i : Nat) : Int).fdiv (2 ^ (min (m : Int).toNat IntKind.u64.bits)))) (k := .u64) (k' := k) (a := (off i : Nat)) (b := ((m : Nat) : Int)) (.inr rfl) (by simp only [binInt, if_neg hm])
          have := hu.of_int; subst this
          have hval : ((off i : Nat) : Int).fdiv (2 ^ (min (m : Int).toNat IntKind.u64.bits)) = ((off i / 256 ^ (m / 8) : Nat) : Int) := by
            have h1 : min (m : Int).toNat IntKind.u64.bits = m := by simp only [IntKind.bits, Int.toNat_natCast]; omega
            rw [h1]
            have h2 : (2 : Int) ^ m = ((256 ^ (m / 8) : Nat) : Int) := by
              have h3 : m = 8 * (m / 8) := by omega
              have h4 : (2 : Nat) ^ m = 256 ^ (m / 8) := by
                conv => lhs; rw [h3]
                rw [Nat.pow_mul]
              rw [← h4]; push_cast; rfl
            rw [h2, Int.fdiv_eq_ediv_of_nonneg _ (Int.natCast_nonneg _)]
            exact (Int.natCast_ediv _ _).symm
          refine ⟨_, by simp only [Sem.run_bind, eqGuard_int, Result.andThen_ok]; exact hr, ?_⟩
          rw [hval]
          split at hv'
          · rename_i h0
            simp at hv'; subst hv'
            rw [h0, Nat.pow_zero, Nat.div_one]; exact .sym1 i
          · rename_i t' h0
            simp only [Option.some.injEq] at hv'; subst hv'
            rw [h0]
            refine .sym ?_
            simp only [formV, if_neg (by omega : 16 + (t' + 1) ≠ 0), if_neg (by omega : 16 + (t' + 1) ≠ 1), if_neg (by omega : 16 + (t' + 1) ≠ 2), if_pos (by omega : 17 ≤ 16 + (t' + 1) ∧ 16 + (t' + 1) ≤ 23), Option.some.injEq, Prod.mk.injEq, true_and]
            congr 3
            omega
        · cases hv'
      · split at hv'
        · rename_i hc
          simp only [Bool.and_eq_true, Nat.beq_eq, Nat.ble_eq] at hc
          obtain ⟨rfl, h17, h23⟩ := hc
          simp at hv'; subst hv'
          simp only [formV, if_neg (by omega : f ≠ 0), if_neg (by omega : f ≠ 1), if_neg (by omega : f ≠ 2), if_pos (by omega : 17 ≤ f ∧ f ≤ 23), Option.some.injEq, Prod.mk.injEq] at hf1
          obtain ⟨rfl, rfl⟩ := hf1
          have hm : ¬ (((8 : Nat) : Int) < 0) := by omega
          obtain ⟨u, hr, hu⟩ := binInt_run (P := P) (w := w) (ρ := ρ) (t := t) (op := .shl) (v := .int .u64 (IntKind.u64.wrap (((off i / 256 ^ (f - 16) : Nat) : Int) * 2 ^ (min ((8 : Nat) : Int).toNat IntKind.u64.bits)))) (k := .u64) (k' := k) (a := ((off i / 256 ^ (f - 16) : Nat) : Int)) (b := ((8 : Nat) : Int)) (.inr rfl) (by simp only [binInt, if_neg hm])
          have := hu.of_int; subst this
          have hval : IntKind.u64.wrap (((off i / 256 ^ (f - 16) : Nat) : Int) * 2 ^ (min ((8 : Nat) : Int).toNat IntKind.u64.bits)) = ((off i / 256 ^ (f - 16) * 256 : Nat) : Int) := by
            have h1 : min ((8 : Nat) : Int).toNat IntKind.u64.bits = 8 := rfl
            rw [h1]
            have h2 : ((off i / 256 ^ (f - 16) : Nat) : Int) * 2 ^ 8 = ((off i / 256 ^ (f - 16) * 256 : Nat) : Int) := by rw [Int.natCast_mul]; rfl
            rw [h2]
            exact u64_of_lt (form_up hlt (by omega) (by omega))
          refine ⟨_, by simp only [Sem.run_bind, eqGuard_int, Result.andThen_ok]; exact hr, ?_⟩
          rw [hval]
          refine .sym ?_
          simp only [formV, if_neg (by omega : f + 16 ≠ 0), if_neg (by omega : f + 16 ≠ 1), if_neg (by omega : f + 16 ≠ 2), if_neg (by omega : ¬ (17 ≤ f + 16 ∧ f + 16 ≤ 23)), if_pos (by omega : 33 ≤ f + 16 ∧ f + 16 ≤ 39), Option.some.injEq, Prod.mk.injEq, true_and]
          congr 4
        · cases hv'
      · cases hv'
    · exact binAny_yield hx hy (by intro k a k' b e; cases e) h
  · rename_i i
    split at h
    · simp at h; subst h
      have := hx.of_int; subst this
      obtain ⟨k2, n2, hf2, rfl⟩ := hy.of_sym
      simp [formV] at hf2; obtain ⟨rfl, rfl⟩ := hf2
      have hlt := off_lt i
      obtain ⟨u, hr, hu⟩ := binInt_run (P := P) (w := w) (ρ := ρ) (t := t) (op := .or) (k := .u64) (k' := .u64) (a := Int.ofNat 0) (b := ((byteAt (Sig.σ i) 0 : Nat) : Int)) (.inl rfl) rfl
      have := hu.of_int; subst this
      have hval : IntKind.u64.wrap ((Nat.lor (natOfBits .u64 (Int.ofNat 0)) (natOfBits .u64 ((byteAt (Sig.σ i) 0 : Nat) : Int)) : Nat) : Int) = ((off i / 256 ^ 7 : Nat) : Int) := by
        have hb : byteAt (Sig.σ i) 0 = off i / 256 ^ 7 := by
          have := div_lt_pow hlt (t := 7) (by omega)
          unfold byteAt
          show off i / 256 ^ 7 % 256 = _
          exact Nat.mod_eq_of_lt (by simpa using this)
        have h0 : natOfBits .u64 (Int.ofNat 0) = 0 := rfl
        have h1 : natOfBits .u64 ((byteAt (Sig.σ i) 0 : Nat) : Int) = byteAt (Sig.σ i) 0 := by
          have := byteAt_lt (Sig.σ i) 0
          simp only [natOfBits, IntKind.bits]
          show (((byteAt (Sig.σ i) 0 : Nat) : Int) % (2 ^ 64)).toNat = _
          omega
        rw [h0, h1, hb]
        have : Nat.lor 0 (off i / 256 ^ 7) = off i / 256 ^ 7 := Nat.zero_or _
        rw [this]
        exact u64_of_lt (Nat.lt_of_le_of_lt (Nat.div_le_self _ _) hlt)
      refine ⟨_, by simp only [Sem.run_bind, eqGuard_int, Result.andThen_ok]; exact hr, ?_⟩
      rw [hval]
      exact .sym (by simp [formV])
    · exact binAny_yield hx hy (by intro k a k' b _ e; cases e) h
  · rename_i hn _ _ _ _ _ _
    exact binAny_yield hx hy (fun k a k' b e1 e2 => hn _ _ _ _ e1 e2) h
end
end A3
namespace A3
open Go
section
variable {P : Program} {X : List Nat} {N : Nat} {C : CC} {B : Nat} {w0 : World} {ρ : Ren} {s : St} {w : World} {v v1 v2 v3 : AV} {u1 u2 u3 : Value}
def LeafOf (P : Program) (t : TypeId) (l : Leaf) : Prop := ∃ d, P.underlying t = some d ∧ (leafC d = some l ∨ (l = .ptr ∧ ∃ e k, d = .pointer e ∧ sizeC P e = some (k + 1)))
theorem eq_ptr_none_some [Sig] (d : Nat) (t : TypeId) {e : TypeId} (b : Addr) (h : P.underlying t = some (.pointer e)) : (Op.equalIn (d + 1) t (.pointer none) (.pointer (some b))).run P w = .ok false w := by
  simp [Op.equalIn, run_under h]
theorem eq_ptr_some [Sig] (d : Nat) (t : TypeId) {e : TypeId} {k : Nat} {b : Nat} (o o' : Nat) (h : P.underlying t = some (.pointer e)) (hk : sizeC P e = some (k + 1)) :
    (Op.equalIn (d + 1) t (.pointer (some ⟨b, o, none⟩)) (.pointer (some ⟨b, o', none⟩))).run P w = .ok ((⟨b, o, none⟩ : Addr) == ⟨b, o', none⟩) w := by
  simp [Op.equalIn, run_under h, run_sizeC hk, sameAddr]
theorem eqLeaf_ptr {b : Bool} (h : eqLeaf .ptr v1 v2 = some b) : ∃ a c, v1 = .ptr a ∧ v2 = .ptr c := by
  generalize hl : Leaf.ptr = l at h
  unfold eqLeaf at h
  split at h <;> first
    | exact ⟨_, _, rfl, rfl⟩
    | (exfalso; cases hl; done)
    | (exfalso; cases h; done)
theorem leaf_equal [Sig] {l : Leaf} {t : TypeId} {b : Bool} (hl : LeafOf P t l) (h1 : VR ρ v1 u1) (h2 : VR ρ v2 u2) (h : eqLeaf l v1 v2 = some b) (D : Nat) :
    (Op.equalIn (D + 1) t u1 u2).run P w = .ok b w := by
  obtain ⟨d, hu, hd⟩ := hl
  rcases hd with hd | ⟨rfl, e, k, rfl, hk⟩
  · unfold leafC at hd
    split at hd <;> simp at hd <;> subst hd <;> unfold eqLeaf at h <;> split at h <;> simp_all
    case h_1 => cases h1; cases h2; simp [Op.equalIn, run_under hu]; exact h
    case h_2 =>
      obtain ⟨hj, h⟩ := h
      have hj := (eqK_iff _ _).1 hj
      subst hj; subst h
      cases h1; cases h2
      simp [Op.equalIn, run_under hu]; rfl
    case h_3 =>
      obtain ⟨_, _, rfl⟩ := h1.of_sym0
      obtain ⟨_, _, rfl⟩ := h2.of_sym0
      split at h
      · rename_i hg
        have heq := σ_eq (Nat.eq_of_beq_eq_true hg)
        simp at h; subst h
        simp [Op.equalIn, run_under hu]
        rw [Bool.eq_iff_iff]; simp [heq]
      · cases h
    case h_4 =>
      obtain ⟨x, x', rfl, rx, hx⟩ := h1.of_str
      obtain ⟨y, y', rfl, ry, hy⟩ := h2.of_str
      simp only [Op.equalIn, Sem.run_bind, run_under hu, Result.andThen_ok, Sem.run_pure, beq_toListBytes, eqC_bytes rx ry hx hy h]
    case h_8 => subst h; cases h1; cases h2 <;> simp [Op.equalIn, run_under hu]
    case h_9 => cases h1; cases h2; simp [Op.equalIn, run_under hu]
    case h_10 => subst h; cases h1; cases h2 <;> simp [Op.equalIn, run_under hu]
    case h_11 => cases h1; cases h2; simp [Op.equalIn, run_under hu]
    case h_12 => cases h1; cases h2; simp [Op.equalIn, run_under hu]
    case h_13 => cases h1; cases h2 <;> simp [Op.equalIn, run_under hu]
    case h_14 => cases h2; cases h1 <;> simp [Op.equalIn, run_under hu]
    case h_15 => cases h1; cases h2; simp [Op.equalIn, run_under hu]
    case h_16 => cases h1; cases h2; simp [Op.equalIn, run_under hu]
    case h_17 => cases h1; cases h2; simp [Op.equalIn, run_under hu]
  · have hp : P.underlying t = some (.pointer (P.pointee t)) := by rw [hu]; simp [Program.pointee, hu]
    have hpe : P.pointee t = e := by simp [Program.pointee, hu]
    cases v1 with
    | ptr a =>
      cases v2 with
      | ptr c =>
        cases a with
        | none =>
          simp only [eqLeaf, Option.some.injEq] at h
          have := h1.of_ptrN; subst this
          cases h2 with
          | ptrN => rw [run_equalIn_pointer_nil w D t none hp, ← h]; rfl
          | ptr hc => rw [eq_ptr_none_some D t _ hu, ← h]; rfl
        | some a =>
          obtain ⟨n, o⟩ := a
          obtain ⟨x, base, hx, rfl⟩ := h1.of_ptr
          cases c with
          | none =>
            simp only [eqLeaf, Option.some.injEq] at h
            have := h2.of_ptrN; subst this
            rw [run_equalIn_pointer_nil w D t _ hp, ← h]; rfl
          | some c =>
            obtain ⟨m, o'⟩ := c
            obtain ⟨y, base', hy, rfl⟩ := h2.of_ptr
            simp only [eqLeaf] at h
            split at h
            · rename_i hnm
              have hnm : n = m := Pos.beq_iff.1 hnm
              subst hnm
              rw [hx] at hy
              simp only [Option.some.injEq, Prod.mk.injEq] at hy
              obtain ⟨rfl, rfl⟩ := hy
              simp only [Option.some.injEq] at h
              rw [eq_ptr_some D t _ _ hu hk, ← h]
              congr 1
              cases hb : Nat.beq o o' with
              | true => have := Nat.eq_of_beq_eq_true hb; subst this; simp
              | false =>
                rw [beq_eq_false_iff_ne]
                intro e
                simp at e
                subst e
                simp at hb
            · cases h
      | _ => obtain ⟨_, _, e1, e2⟩ := eqLeaf_ptr h; cases e2
    | _ => obtain ⟨_, _, e1, e2⟩ := eqLeaf_ptr h; cases e1
end
end A3
namespace A3
open Go
section
variable {P : Program} {X : List Nat} {ρ : Ren} {w : World} {v v1 v2 v3 : AV} {u1 u2 u3 : Value}
theorem eqAll_append (x y : List AV) : ∀ (l m : List (Nat × Leaf)), eqAll x y (l ++ m) = match eqAll x y l with | some true => eqAll x y m | r => r
  | [], m => by simp [eqAll]
  | (i, l) :: r, m => by
    simp only [List.cons_append, eqAll]
    split
    · split
      · exact eqAll_append x y r m
      · rfl
      · rfl
    · rfl
theorem part_extract [Sig] {t : TypeId} {k : Nat} (xs : Array Value) (off m o : Nat) (hs : sizeC P t = some k) (h : o + k ≤ m) (ho : o < m) :
    (Go.part t (xs.extract off (off + m)) o).run P w = (Go.part t xs (off + o)).run P w := by
  have h1 : (xs.extract off (off + m)).extract o (o + k) = xs.extract (off + o) (off + o + k) := by
    rw [Array.extract_extract]
    congr 1
    omega
  have h2 : (xs.extract off (off + m))[o]? = xs[off + o]? := by
    rw [Array.getElem?_extract]
    rcases Nat.lt_or_ge (off + o) xs.size with h3 | h3
    · rw [if_pos]
      omega
    · rw [if_neg (by omega), Array.getElem?_eq_none h3]
  simp only [Go.part, Sem.run_bind]
  cases (isAgg t).run P w with
  | halt x w' => rfl
  | ok b w' =>
    cases b
    · simp only [Result.andThen_ok, Bool.false_eq_true, if_false, h2]
    · simp only [Result.andThen_ok, if_true, Sem.run_bind, run_sizeC hs, Sem.run_pure, h1, Nat.add_assoc]
def PartOf (P : Program) (A xs' : Array Value) (off m : Nat) : Prop := ∀ (t : TypeId) (k o : Nat) (w : World), sizeC P t = some k → o + k ≤ m → o < m → (Go.part t A o).run P w = (Go.part t xs' (off + o)).run P w
theorem PartOf.extract [Sig] (xs : Array Value) (off m : Nat) : PartOf P (xs.extract off (off + m)) xs off m := fun _ _ _ _ hs h ho => part_extract xs off m _ hs h ho
theorem PartOf.self (xs : Array Value) (m : Nat) : PartOf P xs xs 0 m := fun _ _ _ _ _ _ _ => by rw [Nat.zero_add]
def EqRuns [Sig] (P : Program) (ρ : Ren) (r : Nat → TypeId → Option (List (Nat × Leaf))) (D : Nat) : Prop :=
  ∀ (off : Nat) (t : TypeId) (ls : List (Nat × Leaf)) (xs ys : List AV) (xs' ys' : Array Value) (b : Bool) (w : World), r off t = some ls → VRs ρ xs xs'.toList → VRs ρ ys ys'.toList →
    eqAll xs ys ls = some b → ∃ a c, (Go.part t xs' off).run P w = .ok a w ∧ (Go.part t ys' off).run P w = .ok c w ∧ (Op.equalIn D t a c).run P w = .ok b w
theorem eqFields_run [Sig] {r : Nat → TypeId → Option (List (Nat × Leaf))} {D : Nat} (hr : EqRuns P ρ r D) (off m : Nat) {xs' ys' A A' : Array Value} (hA : PartOf P A xs' off m) (hA' : PartOf P A' ys' off m) : ∀ (fs : List Field) (ls : List (Nat × Leaf)) (xs ys : List AV) (b : Bool) (w : World),
    fs.all (fun f => match sizeC P f.type with | some k => Nat.ble (f.offset + k) m && Nat.blt f.offset m | none => false) = true → leavesF r off fs = some ls →
    VRs ρ xs xs'.toList → VRs ρ ys ys'.toList → eqAll xs ys ls = some b → (Op.eqFields D A A' fs).run P w = .ok b w
  | [], ls, xs, ys, b, w, _, hl, _, _, he => by
    simp [leavesF] at hl; subst hl
    simp [eqAll] at he; subst he
    rfl
  | f :: fs, ls, xs, ys, b, w, hall, hl, hx, hy, he => by
    simp only [List.all_cons, Bool.and_eq_true] at hall
    obtain ⟨hf, hall⟩ := hall
    simp only [leavesF] at hl
    split at hl
    · rename_i hn
      simp only [Op.eqFields, hn, ne_eq, not_true_eq_false, if_false]
      exact eqFields_run hr off m hA hA' fs ls xs ys b w hall hl hx hy he
    · rename_i hn
      split at hl
      · rename_i l1 l2 h1 h2
        simp at hl; subst hl
        split at hf
        · rename_i k hk
          simp only [Bool.and_eq_true, Nat.ble_eq, Nat.blt_eq] at hf
          rw [eqAll_append] at he
          simp only [Op.eqFields, ne_eq, hn, not_false_eq_true, if_true, Sem.run_bind, hA f.type k f.offset _ hk hf.1 hf.2, hA' f.type k f.offset _ hk hf.1 hf.2]
          split at he
          · rename_i he1
            obtain ⟨a, c, ha, hc, heq⟩ := hr _ _ _ xs ys xs' ys' true w h1 hx hy he1
            simp only [ha, hc, heq, Result.andThen_ok, Bool.not_true, Bool.false_eq_true, if_false]
            exact eqFields_run hr off m hA hA' fs l2 xs ys b w hall h2 hx hy he
          · rename_i he1
            have hb : b = false := by
              cases b with
              | false => rfl
              | true => exact absurd he he1
            subst hb
            obtain ⟨a, c, ha, hc, heq⟩ := hr _ _ _ xs ys xs' ys' false w h1 hx hy he
            simp only [ha, hc, heq, Result.andThen_ok, Bool.not_false, if_true, Sem.run_pure]
        · cases hf
      · cases hl
theorem eqElems_run [Sig] {r : Nat → TypeId → Option (List (Nat × Leaf))} {D : Nat} (hr : EqRuns P ρ r D) (off m k len : Nat) (e : TypeId) (hk : sizeC P e = some k) (hm : len * k ≤ m) (hk0 : 0 < k)
    (f : Nat → (Option Bool × Unit) → Sem (ForInStep (Option Bool × Unit))) {xs' ys' A A' : Array Value} (hA : PartOf P A xs' off m) (hA' : PartOf P A' ys' off m)
    (hf : ∀ i st, f i st = (do
      let a ← Go.part e A (i * k)
      let b ← Go.part e A' (i * k)
      if (!(← Op.equalIn D e a b)) = true then Pure.pure (ForInStep.done (some false, ())) else Pure.pure (ForInStep.yield (none, ())))) :
    ∀ (n : Nat) (ls : List (Nat × Leaf)) (xs ys : List AV) (b : Bool) (w : World), n ≤ len → leavesA r off k e len n = some ls → VRs ρ xs xs'.toList → VRs ρ ys ys'.toList → eqAll xs ys ls = some b →
      (forIn (List.range' (len - n) n) ((none, ()) : (Option Bool × Unit)) f).run P w = .ok (if b then none else some false, ()) w
  | 0, ls, xs, ys, b, w, _, hl, _, _, he => by
    simp [leavesA] at hl; subst hl
    simp [eqAll] at he; subst he
    rfl
  | n + 1, ls, xs, ys, b, w, hn, hl, hx, hy, he => by
    simp only [leavesA] at hl
    split at hl
    · rename_i l1 l2 h1 h2
      simp at hl; subst hl
      rw [eqAll_append] at he
      have hlt : (len - (n + 1)) * k + k ≤ m := by
        have : (len - (n + 1) + 1) * k ≤ len * k := Nat.mul_le_mul_right k (by omega)
        rw [Nat.add_mul, Nat.one_mul] at this
        omega
      have hp := fun w => hA e k ((len - (n + 1)) * k) w hk hlt (by omega)
      have hp' := fun w => hA' e k ((len - (n + 1)) * k) w hk hlt (by omega)
      simp only [List.range'_succ, List.forIn_cons, Sem.run_bind, hf, hp, hp']
      split at he
      · rename_i he1
        obtain ⟨a, c, ha, hc, heq⟩ := hr _ _ _ xs ys xs' ys' true w h1 hx hy he1
        simp only [ha, hc, heq, Result.andThen_ok, Bool.not_true, Bool.false_eq_true, if_false, Sem.run_pure]
        have := eqElems_run hr off m k len e hk hm hk0 f hA hA' hf n l2 xs ys b w (by omega) h2 hx hy he
        rw [show len - (n + 1) + 1 = len - n from by omega]
        exact this
      · rename_i he1
        have hb : b = false := by
          cases b with
          | false => rfl
          | true => exact absurd he he1
        subst hb
        obtain ⟨a, c, ha, hc, heq⟩ := hr _ _ _ xs ys xs' ys' false w h1 hx hy he
        simp only [ha, hc, heq, Result.andThen_ok, Bool.not_false, if_true, Sem.run_pure]
        rfl
    · cases hl
theorem leavesC_run [Sig] : ∀ (n : Nat) (D : Nat), n ≤ D → EqRuns P ρ (leavesC P n) D
  | 0, D, _ => fun off t ls xs ys xs' ys' b w hl => by simp [leavesC] at hl
  | n + 1, 0, h => by omega
  | n + 1, D + 1, h => fun off t ls xs ys xs' ys' b w hl hx hy he => by
    have ih := leavesC_run n D (by omega)
    simp only [leavesC] at hl
    split at hl
    · rename_i fs hu
      split at hl
      · cases hl
      · rename_i hst
        have hst : P.stoodInHeld t = false := by simpa using hst
        split at hl
        · cases hl
        · rename_i m hm
          split at hl
          · rename_i hall
            have ha : aggC P t = some (some m) := by simp [aggC, hu, hm]
            refine ⟨.agg (xs'.extract off (off + m)), .agg (ys'.extract off (off + m)), ?_, ?_, ?_⟩
            · simp [Go.part, run_isAgg ha, run_sizeC hm]
            · simp [Go.part, run_isAgg ha, run_sizeC hm]
            · have hfo : P.fieldsOf t = fs := by simp [Program.fieldsOf, hu]
              rw [run_equalIn_struct w D t _ _ (by rw [hfo]; exact hu) hst, hfo]
              exact eqFields_run ih off m (PartOf.extract _ _ _) (PartOf.extract _ _ _) fs.toList ls xs ys b w hall hl hx hy he
          · cases hl
    · rename_i len e hu
      split at hl
      · rename_i k m hk hm
        split at hl
        · rename_i hc
          simp only [Bool.and_eq_true, Nat.ble_eq, Nat.blt_eq] at hc
          have ha : aggC P t = some (some m) := by simp [aggC, hu, hm]
          refine ⟨.agg (xs'.extract off (off + m)), .agg (ys'.extract off (off + m)), ?_, ?_, ?_⟩
          · simp [Go.part, run_isAgg ha, run_sizeC hm]
          · simp [Go.part, run_isAgg ha, run_sizeC hm]
          · simp only [Op.equalIn, Sem.run_bind, run_under hu, Result.andThen_ok, run_sizeC hk, Std.Legacy.Range.forIn_eq_forIn_range', Std.Legacy.Range.size, Nat.sub_zero, Nat.add_one_sub_one, Nat.div_one]
            have := eqElems_run ih off m k len e hk hc.1 hc.2 _ (PartOf.extract xs' off m) (PartOf.extract ys' off m) (fun i st => rfl) len ls xs ys b w (Nat.le_refl _) hl hx hy he
            rw [Nat.sub_self] at this
            rw [this]
            cases b <;> rfl
        · cases hl
      · cases hl
    · rename_i d h1 h2 hu
      split at hl
      · rename_i l hlf
        simp at hl; subst hl
        simp only [eqAll, nth_eq] at he
        split at he
        · rename_i a b' ha hb
          obtain ⟨u, hu1, hr1⟩ := hx.get off a ha
          obtain ⟨u', hu2, hr2⟩ := hy.get off b' hb
          have hag : aggC P t = some none := by
            unfold aggC
            rw [hu]
            cases d <;> first | rfl | exact (h1 _ rfl).elim | exact (h2 _ _ rfl).elim
          refine ⟨u, u', ?_, ?_, ?_⟩
          · have : xs'[off]? = some u := by simpa using hu1
            simp [Go.part, run_isAgg hag, this]
          · have : ys'[off]? = some u' := by simpa using hu2
            simp [Go.part, run_isAgg hag, this]
          · refine leaf_equal ⟨d, hu, .inl hlf⟩ hr1 hr2 ?_ D
            split at he
            · simp at he; subst he; assumption
            · simp at he; subst he; assumption
            · cases he
        · cases he
      · cases hl
    · cases hl
theorem equal_agg [Sig] {D n : Nat} {t : TypeId} {ls : List (Nat × Leaf)} {xs ys : List AV} {xs' ys' : Array Value} {b : Bool} {m : Nat} (hn : n ≤ D + 1) (ht : aggC P t = some (some m)) (hl : leavesC P n 0 t = some ls)
    (hx : VRs ρ xs xs'.toList) (hy : VRs ρ ys ys'.toList) (he : eqAll xs ys ls = some b) : (Op.equalIn (D + 1) t (.agg xs') (.agg ys')).run P w = .ok b w := by
  cases n with
  | zero => simp [leavesC] at hl
  | succ n =>
    have ih := leavesC_run (P := P) (ρ := ρ) n D (by omega)
    simp only [leavesC] at hl
    split at hl
    · rename_i fs hu
      split at hl
      · cases hl
      · rename_i hst
        have hst : P.stoodInHeld t = false := by simpa using hst
        split at hl
        · cases hl
        · rename_i m hm
          split at hl
          · rename_i hall
            have hfo : P.fieldsOf t = fs := by simp [Program.fieldsOf, hu]
            rw [run_equalIn_struct w D t _ _ (by rw [hfo]; exact hu) hst, hfo]
            exact eqFields_run ih 0 m (PartOf.self _ _) (PartOf.self _ _) fs.toList ls xs ys b w hall hl hx hy he
          · cases hl
    · rename_i len e hu
      split at hl
      · rename_i k m hk hm
        split at hl
        · rename_i hc
          simp only [Bool.and_eq_true, Nat.ble_eq, Nat.blt_eq] at hc
          simp only [Op.equalIn, Sem.run_bind, run_under hu, Result.andThen_ok, run_sizeC hk, Std.Legacy.Range.forIn_eq_forIn_range', Std.Legacy.Range.size, Nat.sub_zero, Nat.add_one_sub_one, Nat.div_one]
          have := eqElems_run ih 0 m k len e hk hc.1 hc.2 _ (PartOf.self xs' m) (PartOf.self ys' m) (fun i st => rfl) len ls xs ys b w (Nat.le_refl _) hl hx hy he
          rw [Nat.sub_self] at this
          rw [this]
          cases b <;> rfl
        · cases hl
      · cases hl
    · rename_i d h1 h2 hu
      unfold aggC at ht
      rw [hu] at ht
      cases d <;> first | exact (h1 _ rfl).elim | exact (h2 _ _ rfl).elim | simp at ht
    · cases hl
end
end A3
namespace A3
open Go
section
variable {P : Program} {X : List Nat} {N : Nat} {C : CC} {B : Nat} {w0 : World} {ρ : Ren} {s : St} {w : World} {v v1 v2 v3 : AV} {u1 u2 u3 : Value}
def notNum : Value → Bool
  | .int .. | .float .. | .complex .. | .string _ => false
  | _ => true
theorem binOp_eql {t : TypeId} (h : notNum u1 = true) : Go.binOp .eql t u1 u2 = (do Pure.pure (.bool (← Op.equal t u1 u2))) := by
  cases u1 <;> simp [notNum] at h <;> cases u2 <;> rfl
theorem binOp_neq {t : TypeId} (h : notNum u1 = true) : Go.binOp .neq t u1 u2 = (do Pure.pure (.bool (!(← Op.equal t u1 u2)))) := by
  cases u1 <;> simp [notNum] at h <;> cases u2 <;> rfl
def eqOp (neg : Bool) : BinOp := if neg then .neq else .eql
theorem eql_run [Sig] {neg : Bool} {t : TypeId} {x y : Operand} {b : Bool} (hn : notNum u1 = true) (hg : ∀ op, (eqGuard op t x y u1 u2).run P w = .ok () w) (he : (Op.equal t u1 u2).run P w = .ok b w) (h : eqlV neg (some b) = some v) :
    Yield P ρ w (do eqGuard (eqOp neg) t x y u1 u2; Go.binOp (eqOp neg) t u1 u2) v := by
  cases neg
  · simp [eqlV] at h; subst h
    exact ⟨.bool b, by simp [eqOp, hg, binOp_eql hn, he], .bool b⟩
  · simp [eqlV] at h; subst h
    exact ⟨.bool (!b), by simp [eqOp, hg, binOp_neq hn, he], .bool _⟩
theorem eqGuard_plain {op : BinOp} {t : TypeId} {x y : Operand} (h1 : ∀ cs, u1 ≠ .agg cs) (h2 : u1 ≠ .nilIface) : (eqGuard op t x y u1 u2).run P w = .ok () w := by
  unfold eqGuard
  cases op <;> first | rfl | skip
  all_goals
    cases u1 <;> first | rfl | exact absurd rfl (h1 _) | exact absurd rfl h2 | skip
theorem eqGuard_const [Sig] {op : BinOp} {t : TypeId} {x : Operand} {c : Value} (h1 : ∀ cs, u1 ≠ .agg cs) : (eqGuard op t x (.const c) u1 u2).run P w = .ok () w := by
  by_cases h2 : u1 = .nilIface
  · subst h2
    unfold eqGuard
    cases op <;> first | rfl | skip
    all_goals
      cases u2 <;> first | rfl | simp
  · exact eqGuard_plain h1 h2
theorem eqGuard_agg {op : BinOp} {t : TypeId} {x y : Operand} {a b : Array Value} (h : P.eqGuardType P.depth t = false) : (eqGuard op t x y (.agg a) (.agg b)).run P w = .ok () w := by
  unfold eqGuard
  cases op <;> first | rfl | simp [h]
theorem eql_one [Sig] {neg : Bool} {t : TypeId} {l : Leaf} {x y : Operand} (hl : LeafOf P t l) (hi : l ≠ .int ∧ l ≠ .str) (hf : l = .iface → ∃ c, y = .const c) (h1 : VR ρ v1 u1) (h2 : VR ρ v2 u2)
    (h : eqlV neg (eqLeaf l v1 v2) = some v) : Yield P ρ w (do eqGuard (eqOp neg) t x y u1 u2; Go.binOp (eqOp neg) t u1 u2) v := by
  cases hb : eqLeaf l v1 v2 with
  | none => rw [hb] at h; simp [eqlV] at h
  | some b =>
    rw [hb] at h
    have he := leaf_equal (P := P) (w := w) hl h1 h2 hb 9999
    have hshape : notNum u1 = true ∧ (∀ cs, u1 ≠ .agg cs) ∧ (u1 = .nilIface → l = .iface) := by
      unfold eqLeaf at hb
      split at hb <;> simp at hb hi <;> cases h1 <;> simp [notNum]
    refine eql_run hshape.1 (fun op => ?_) he h
    by_cases hli : l = .iface
    · obtain ⟨c, rfl⟩ := hf hli
      exact eqGuard_const hshape.2.1
    · exact eqGuard_plain hshape.2.1 fun e => hli (hshape.2.2 e)
theorem eql_agg [Sig] {neg : Bool} {t : TypeId} {ls : List (Nat × Leaf)} {x y : Operand} {m : Nat} (hl : leavesC P 50 0 t = some ls) (hg : P.eqGuardType P.depth t = false) (hm : aggC P t = some (some m))
    (h1 : VR ρ v1 u1) (h2 : VR ρ v2 u2) (h : eqlV neg (eqBy (.agg ls) v1 v2) = some v) : Yield P ρ w (do eqGuard (eqOp neg) t x y u1 u2; Go.binOp (eqOp neg) t u1 u2) v := by
  simp only [eqBy] at h
  split at h
  · rename_i a c
    obtain ⟨xs', rfl, hx, _⟩ := h1.of_agg
    obtain ⟨ys', rfl, hy, _⟩ := h2.of_agg
    cases hb : eqAll a c ls with
    | none => rw [hb] at h; simp [eqlV] at h
    | some b =>
      rw [hb] at h
      exact eql_run rfl (fun op => eqGuard_agg hg) (equal_agg (P := P) (w := w) (D := 9999) (by omega) hm hl hx hy hb) h
  · simp [eqlV] at h
end
end A3
namespace A3
open Go
section
variable {P : Program} {X : List Nat} {N : Nat} {C : CC} {B : Nat} {w0 : World} {ρ : Ren} {s : St} {w : World} {v v1 v2 v3 : AV} {u1 u2 u3 : Value}
def KeyOf (d : TypeDesc) (l : Leaf) : Prop := (l = .int ∧ ∃ k, d = .int k) ∨ (l = .str ∧ d = .string)
def KeyAgg (P : Program) (t : TypeId) (ls : List (Nat × Leaf)) : Prop := ∃ fs : Array Field, P.underlying t = some (.struct fs) ∧ leavesC P 50 0 t = some ls ∧ keyLeaves P fs.toList 0 = some ls
def KeyC (P : Program) (t : TypeId) (c : Cmp) : Prop := (∃ d l, P.underlying t = some d ∧ KeyOf d l ∧ c = .one l) ∨ (∃ ls, KeyAgg P t ls ∧ c = .agg ls)
theorem cKey_eq {t : TypeId} {c : Cmp} (h : cKey P t = some c) : KeyC P t c := by
  unfold cKey at h
  split at h
  · rename_i k hu; simp at h; exact .inl ⟨_, _, hu, .inl ⟨rfl, k, rfl⟩, h.symm⟩
  · rename_i hu; simp at h; exact .inl ⟨_, _, hu, .inr ⟨rfl, rfl⟩, h.symm⟩
  · rename_i fs hu
    split at h
    · rename_i l m hl hm
      split at h
      · rename_i e
        subst e
        simp at h
        exact .inr ⟨l, ⟨fs, hu, hl, hm⟩, h.symm⟩
      · cases h
    · cases h
  · cases h
theorem run_checkKeyN [Sig] {t : TypeId} {d : TypeDesc} {l : Leaf} (hd : P.underlying t = some d) (hk : KeyOf d l) (e : Bool) (n : Nat) (u : Value) : (Instr.checkKey e (n + 1) t u).run P w = .ok () w := by
  rcases hk with ⟨_, k, rfl⟩ | ⟨_, rfl⟩ <;> simp only [Instr.checkKey, Sem.run_bind, run_under hd, Result.andThen_ok, Sem.run_pure]
theorem keyLeaves_cons {f : Field} {fs : List Field} {i : Nat} {ls : List (Nat × Leaf)} (h : keyLeaves P (f :: fs) i = some ls) : f.name ≠ "_" ∧ f.offset = i ∧ ∃ l m d, ls = (i, l) :: m ∧ keyLeaves P fs (i + 1) = some m ∧ P.underlying f.type = some d ∧
    ((l = .int ∧ ∃ k, d = .int k) ∨ (l = .str ∧ d = .string) ∨ (l = .bool ∧ d = .bool)) := by
  simp only [keyLeaves] at h
  split at h
  · cases h
  · rename_i hc
    simp only [Bool.or_eq_true, decide_eq_true_eq, not_or, ne_eq, Decidable.not_not] at hc
    refine ⟨hc.1, hc.2, ?_⟩
    split at h
    · rename_i k m hu hm; simp at h; exact ⟨_, _, _, h.symm, hm, hu, .inl ⟨rfl, k, rfl⟩⟩
    · rename_i m hu hm; simp at h; exact ⟨_, _, _, h.symm, hm, hu, .inr (.inl ⟨rfl, rfl⟩)⟩
    · rename_i m hu hm; simp at h; exact ⟨_, _, _, h.symm, hm, hu, .inr (.inr ⟨rfl, rfl⟩)⟩
    · cases h
theorem forIn_unit {α : Type} (body : α → PUnit → Sem (ForInStep PUnit)) : ∀ (l : List α), (∀ x ∈ l, (body x ⟨⟩).run P w = .ok (.yield ⟨⟩) w) → (forIn l PUnit.unit body).run P w = .ok ⟨⟩ w
  | [], _ => rfl
  | x :: l, h => by
    rw [List.forIn_cons, Sem.run_bind, h x List.mem_cons_self]
    exact forIn_unit body l fun y hy => h y (List.mem_cons_of_mem _ hy)
theorem keyLeaves_mem [Sig] : ∀ {fs : List Field} {i : Nat} {ls : List (Nat × Leaf)}, keyLeaves P fs i = some ls → ls.length = fs.length ∧ ∀ f ∈ fs, f.name ≠ "_" ∧ i ≤ f.offset ∧ f.offset < i + fs.length ∧ ∃ d, P.underlying f.type = some d ∧ ((∃ k, d = .int k) ∨ d = .string ∨ d = .bool)
  | [], i, ls, h => by simp [keyLeaves] at h; subst h; simp
  | f :: fs, i, ls, h => by
    obtain ⟨h1, h2, l, m, d, rfl, h3, h4, h5⟩ := keyLeaves_cons h
    obtain ⟨h6, h7⟩ := keyLeaves_mem h3
    refine ⟨by simp [h6], fun g hg => ?_⟩
    rcases List.mem_cons.1 hg with rfl | hg
    · refine ⟨h1, by omega, by simp; omega, d, h4, ?_⟩
      rcases h5 with ⟨_, h5⟩ | ⟨_, h5⟩ | ⟨_, h5⟩
      · exact .inl h5
      · exact .inr (.inl h5)
      · exact .inr (.inr h5)
    · obtain ⟨h8, h9, h10, h11⟩ := h7 g hg
      exact ⟨h8, by omega, by simp; omega, h11⟩
theorem run_checkKey [Sig] {t : TypeId} {c : Cmp} (hk : KeyC P t c) (e : Bool) {v : AV} {u : Value} (hv : VR ρ v u) (ho : keyOk c v = true) : (Instr.checkKey e 10000 t u).run P w = .ok () w := by
  rcases hk with ⟨d, l, hd, hk, _⟩ | ⟨ls, ⟨fs, hu, _, hl⟩, rfl⟩
  · exact run_checkKeyN hd hk e 9999 u
  · unfold keyOk at ho
    simp only at ho
    split at ho
    · rename_i a
      obtain ⟨cs, rfl, hcs, _⟩ := hv.of_agg
      have hlen := Nat.eq_of_beq_eq_true ho
      rw [lenN_eq, lenN_eq] at hlen
      obtain ⟨hll, hmem⟩ := keyLeaves_mem hl
      have hsz : cs.size = fs.size := by
        have := hcs.length
        simp at this hll; omega
      obtain ⟨m, hm, k, hk⟩ : ∃ m, 10000 = m + 1 ∧ ∃ k, m = k + 1 := ⟨9999, rfl, 9998, rfl⟩
      rw [hm]
      simp only [Instr.checkKey, Sem.run_bind, run_under hu, Result.andThen_ok]
      rw [← Array.forIn_toList]
      refine (congrArg (fun r => Result.andThen r (fun _ w2 => Sem.run P (Pure.pure ()) w2)) (forIn_unit _ _ ?_)).trans rfl
      intro f hf
      obtain ⟨h1, h2, h3, d, h4, h5⟩ := hmem f hf
      have hag : aggC P f.type = some none := by
        unfold aggC
        rw [h4]
        rcases h5 with ⟨k, rfl⟩ | rfl | rfl <;> rfl
      have hlt : f.offset < cs.size := by simp at h3; omega
      have hpart : (Go.part f.type cs f.offset).run P w = .ok cs[f.offset] w := by
        simp [Go.part, run_isAgg hag, hlt]
      have hck : ∀ u, (Instr.checkKey e m f.type u).run P w = .ok () w := by
        intro u
        subst hk
        rcases h5 with ⟨k, rfl⟩ | rfl | rfl <;> simp only [Instr.checkKey, Sem.run_bind, run_under h4, Result.andThen_ok, Sem.run_pure]
      simp [h1, hpart, hck]
    · cases ho
theorem sameNow_eq [Sig] {d : TypeDesc} {l : Leaf} {b : Bool} (hk : KeyOf d l) (h1 : VR ρ v1 u1) (h2 : VR ρ v2 u2) (h : eqLeaf l v1 v2 = some b) : Instr.sameNow d u1 u2 = some b := by
  rcases hk with ⟨rfl, k, rfl⟩ | ⟨rfl, rfl⟩
  · unfold eqLeaf at h
    split at h <;> simp at *
    · rename_i j a k' c
      obtain ⟨hj, h⟩ := h
      have hj := (eqK_iff _ _).1 hj
      subst hj
      have := h1.of_int; subst this
      have := h2.of_int; subst this
      simp [Instr.sameNow]
      rw [← h]; rfl
    · obtain ⟨_, _, rfl⟩ := h1.of_sym0
      obtain ⟨_, _, rfl⟩ := h2.of_sym0
      split at h
      · rename_i hg
        have heq := σ_eq (Nat.eq_of_beq_eq_true hg)
        simp at h; subst h
        simp [Instr.sameNow]
        rw [Bool.eq_iff_iff]; simp [heq]
      · cases h
  · unfold eqLeaf at h
    split at h <;> simp at *
    obtain ⟨x, x', rfl, rx, hx⟩ := h1.of_str
    obtain ⟨y, y', rfl, ry, hy⟩ := h2.of_str
    simp [Instr.sameNow]
    rw [beq_toListBytes, eqC_bytes rx ry hx hy h]
theorem sameNow_agg {d : TypeDesc} {cs : Array Value} (u : Value) : Instr.sameNow d (.agg cs) u = none := by
  cases d <;> rfl
theorem eqKey_one {l : Leaf} {b : Bool} (h : eqKey (.one l) v1 v2 = some b) : eqLeaf l v1 v2 = some b := by
  simpa [eqKey, keyOk, eqBy] using h
theorem eqKey_agg {ls : List (Nat × Leaf)} {b : Bool} (h : eqKey (.agg ls) v1 v2 = some b) : ∃ x y, v1 = .agg x ∧ v2 = .agg y ∧ x.length = ls.length ∧ y.length = ls.length ∧ eqAll x y ls = some b := by
  unfold eqKey at h
  split at h
  · rename_i hk
    simp only [Bool.and_eq_true, keyOk] at hk
    obtain ⟨hk1, hk2⟩ := hk
    split at hk1
    · rename_i x
      split at hk2
      · rename_i y
        have h1 := Nat.eq_of_beq_eq_true hk1
        have h2 := Nat.eq_of_beq_eq_true hk2
        rw [lenN_eq, lenN_eq] at h1 h2
        exact ⟨x, y, rfl, rfl, h1, h2, by simpa [eqBy] using h⟩
      · cases hk2
    · cases hk1
  · cases h
theorem equal_key [Sig] {t : TypeId} {ls : List (Nat × Leaf)} {b : Bool} (hk : KeyAgg P t ls) (h1 : VR ρ v1 u1) (h2 : VR ρ v2 u2) (h : eqKey (.agg ls) v1 v2 = some b) : (Op.equal t u1 u2).run P w = .ok b w := by
  obtain ⟨fs, hu, hl, _⟩ := hk
  obtain ⟨x, y, rfl, rfl, _, _, he⟩ := eqKey_agg h
  obtain ⟨xs', rfl, hx, _⟩ := h1.of_agg
  obtain ⟨ys', rfl, hy, _⟩ := h2.of_agg
  have hm : ∃ m, aggC P t = some (some m) := by
    obtain ⟨n50, hn50⟩ : ∃ n, 50 = n + 1 := ⟨49, rfl⟩
    rw [hn50] at hl
    simp only [leavesC, hu] at hl
    split at hl
    · cases hl
    · split at hl
      · cases hl
      · rename_i m hm; exact ⟨m, by simp [aggC, hu, hm]⟩
  obtain ⟨m, hm⟩ := hm
  exact equal_agg (P := P) (w := w) (D := 9999) (by omega) hm hl hx hy he
theorem findNow_eq [Sig] {d : TypeDesc} {l : Leaf} (hk : KeyOf d l) (h1 : VR ρ v1 u1) : ∀ {es : List (AV × AV)} {ces : List MapEntry} {r : Option AV} (i : Nat), MapR ρ es ces → mapFind (.one l) v1 es = some r →
    ∃ r', Instr.findNow d u1 ces i = some r' ∧ ((r = none ∧ r' = none) ∨ (∃ x j u, r = some x ∧ r' = some (j, u) ∧ VR ρ x u))
  | [], _, r, i, .nil, h => by simp [mapFind] at h; subst h; exact ⟨none, rfl, .inl ⟨rfl, rfl⟩⟩
  | _ :: es, _, r, i, .cons (k := k) (v := x) (e := e) (m := m) hkr hvr t, h => by
    simp only [mapFind] at h
    split at h
    · cases h
    · rename_i he
      simp at h; subst h
      exact ⟨some (i, e.val), by simp [Instr.findNow, sameNow_eq hk h1 hkr (eqKey_one he)], .inr ⟨x, i, e.val, rfl, rfl, hvr⟩⟩
    · rename_i he
      obtain ⟨r', hr, hres⟩ := findNow_eq hk h1 (i + 1) t h
      exact ⟨r', by simp [Instr.findNow, sameNow_eq hk h1 hkr (eqKey_one he), hr], hres⟩
theorem findAsking_eq [Sig] {t : TypeId} {ls : List (Nat × Leaf)} (hk : KeyAgg P t ls) (h1 : VR ρ v1 u1) : ∀ {es : List (AV × AV)} {ces : List MapEntry} {r : Option AV} (i : Nat), MapR ρ es ces → mapFind (.agg ls) v1 es = some r →
    ∃ r', (Instr.findAsking t u1 ces i).run P w = .ok r' w ∧ ((r = none ∧ r' = none) ∨ (∃ x j u, r = some x ∧ r' = some (j, u) ∧ VR ρ x u))
  | [], _, r, i, .nil, h => by simp [mapFind] at h; subst h; exact ⟨none, rfl, .inl ⟨rfl, rfl⟩⟩
  | _ :: es, _, r, i, .cons (k := k) (v := x) (e := e) (m := m) hkr hvr tl, h => by
    simp only [mapFind] at h
    split at h
    · cases h
    · rename_i he
      simp at h; subst h
      exact ⟨some (i, e.val), by simp [Instr.findAsking, equal_key hk h1 hkr he], .inr ⟨x, i, e.val, rfl, rfl, hvr⟩⟩
    · rename_i he
      obtain ⟨r', hr, hres⟩ := findAsking_eq hk h1 (i + 1) tl h
      exact ⟨r', by simp [Instr.findAsking, equal_key hk h1 hkr he, hr], hres⟩
theorem findNow_agg [Sig] {d : TypeDesc} {cs : Array Value} {e : MapEntry} {ces : List MapEntry} {i : Nat} : Instr.findNow d (.agg cs) (e :: ces) i = none := by
  simp [Instr.findNow, sameNow_agg]
theorem findKey_eq [Sig] {t : TypeId} {c : Cmp} (hk : KeyC P t c) (h1 : VR ρ v1 u1) (ho : keyOk c v1 = true) {es : List (AV × AV)} {ces : List MapEntry} {r : Option AV} (hm : MapR ρ es ces) (h : mapFind c v1 es = some r) :
    ∃ r', (Instr.findKey t u1 ces).run P w = .ok r' w ∧ ((r = none ∧ r' = none) ∨ (∃ x j u, r = some x ∧ r' = some (j, u) ∧ VR ρ x u)) := by
  rcases hk with ⟨d, l, hd, hk, rfl⟩ | ⟨ls, hk, rfl⟩
  · obtain ⟨r', hr, hres⟩ := findNow_eq hk h1 0 hm h
    exact ⟨r', by simp [Instr.findKey, run_under hd, hr], hres⟩
  · obtain ⟨r', hr, hres⟩ := findAsking_eq (w := w) hk h1 0 hm h
    refine ⟨r', ?_, hres⟩
    obtain ⟨fs, hu, _⟩ := hk
    simp only [keyOk] at ho
    split at ho
    · obtain ⟨cs, rfl, _⟩ := h1.of_agg
      cases hm with
      | nil => simp [Instr.findKey, run_under hu, Instr.findNow]; simp [Instr.findAsking] at hr; exact hr
      | cons => simp [Instr.findKey, run_under hu, findNow_agg]; exact hr
    · cases ho
theorem lookup_yield [Sig] {t kt e : TypeId} {l : Cmp} {z : AV} {ok : Bool} (ht : P.underlying t = some (.map kt e)) (hk : cKey P kt = some l) (hz : zeroC P e = some z) (hw : WR C B w0 ρ s w)
    (hx : VR ρ v1 u1) (hkey : VR ρ v2 u2) (h : lookupV z l v1 v2 ok s = some v) : Yield P ρ w (Instr.lookup t u1 u2 ok) v := by
  obtain ⟨i, zv, hi, hzv, hc⟩ := zeroC_eq hz
  have hzr : VR ρ z zv := constOf_VR hc
  have hkd := cKey_eq hk
  unfold lookupV at h
  split at h
  · split at h
    case h_2 => cases h
    rename_i hok
    have hck := fun e => run_checkKey (P := P) (w := w) hkd e hkey hok
    have := hx.of_mapN; subst this
    simp at h; subst h
    refine ⟨_, ?_, okV_VR (ok := ok) (b := false) hzr⟩
    have hfk : (Instr.findKey kt u2 []).run P w = .ok none w := by
      obtain ⟨r', hr', hres⟩ := findKey_eq (w := w) hkd hkey hok (.nil) (rfl : mapFind l v2 [] = some none)
      rcases hres with ⟨_, rfl⟩ | ⟨x, _, _, hx, _⟩
      · exact hr'
      · cases hx
    simp [Instr.lookup, run_under ht, hck, hfk, run_zero hi hzv]
  · rename_i r
    split at h
    case h_2 => cases h
    · rename_i es hok hes
      have hck := fun e => run_checkKey (P := P) (w := w) hkd e hkey hok
      obtain ⟨b, hb, rfl⟩ := hx.of_map
      obtain ⟨_, _, ces, clock, hheap, hr⟩ := hw.map _ _ _ _ hb (mapOf_eq hes)
      unfold foundV at h
      split at h
      · cases h
      · rename_i hf
        simp at h; subst h
        obtain ⟨r', hfk, hres⟩ := findKey_eq (w := w) hkd hkey hok hr.r hf
        rcases hres with ⟨_, rfl⟩ | ⟨x, j, u, hx, _⟩
        · refine ⟨_, ?_, okV_VR (ok := ok) (b := false) hzr⟩
          simp [Instr.lookup, run_under ht, run_getMap hheap, hck, hfk, run_zero hi hzv]
        · cases hx
      · rename_i x hf
        simp at h; subst h
        obtain ⟨r', hfk, hres⟩ := findKey_eq (w := w) hkd hkey hok hr.r hf
        rcases hres with ⟨hx, _⟩ | ⟨x', j, u, hx, rfl, hxu⟩
        · cases hx
        · simp at hx; subst hx
          refine ⟨_, ?_, okV_VR (ok := ok) (b := true) hxu⟩
          simp [Instr.lookup, run_under ht, run_getMap hheap, hck, hfk]
  · cases h
theorem MapW.push' [Sig] {es : List (AV × AV)} {ces : Array MapEntry} {c : Nat} (h : MapW ρ es ces c) {es' : List (AV × AV)} {e : MapEntry} (hm : MapR ρ es' (ces.push e).toList) (he : e.born = c) : MapW ρ es' (ces.push e) (c + 1) := by
  refine ⟨hm, ?_, by simp [h.clock]⟩
  intro i d hd
  rw [Array.getElem?_push] at hd
  split at hd
  · rename_i hi
    simp at hd; subst hd
    rw [he, h.clock, hi]
  · exact h.born i d hd
theorem MapW.modify [Sig] {es es' : List (AV × AV)} {ces : Array MapEntry} {c : Nat} (h : MapW ρ es ces c) (j : Nat) (f : MapEntry → MapEntry) (hf : ∀ e, (f e).born = e.born) (hm : MapR ρ es' (ces.modify j f).toList) : MapW ρ es' (ces.modify j f) c := by
  refine ⟨hm, ?_, by simp [h.clock]⟩
  intro i d hd
  rw [Array.getElem?_modify] at hd
  split at hd
  · rename_i hi
    cases hq : ces[i]? with
    | none => rw [hq] at hd; simp at hd
    | some e => rw [hq] at hd; simp at hd; rw [← hd, hf]; exact h.born i e hq
  · exact h.born i d hd
theorem MapR.push [Sig] : ∀ {es : List (AV × AV)} {ces : List MapEntry} {k x : AV} {e : MapEntry}, MapR ρ es ces → VR ρ k e.key → VR ρ x e.val → MapR ρ (es ++ [(k, x)]) (ces ++ [e])
  | _, _, _, _, _, .nil, hk, hv => .cons hk hv .nil
  | _, _, _, _, _, .cons a b t, hk, hv => .cons a b (t.push hk hv)
theorem MapW.push [Sig] {es : List (AV × AV)} {ces : Array MapEntry} {c : Nat} {k x : AV} {uk ux : Value} (h : MapW ρ es ces c) (hk : VR ρ k uk) (hx : VR ρ x ux) : MapW ρ (es ++ [(k, x)]) (ces.push { key := uk, val := ux, born := c }) (c + 1) :=
  h.push' (by rw [Array.toList_push]; exact h.r.push hk hx) rfl
theorem sameBits_leaf [Sig] {l : Leaf} {D : Nat} (hl : l = .int ∨ l = .str ∨ l = .bool) (h1 : VR ρ v1 u1) (h2 : VR ρ v2 u2) (h : eqLeaf l v1 v2 = some true) : Instr.sameBits D u2 u1 = true := by
  rcases hl with rfl | rfl | rfl
  · unfold eqLeaf at h
    split at h <;> simp at *
    · obtain ⟨hj, h⟩ := h
      have hj := (eqK_iff _ _).1 hj
      subst hj; subst h
      have := h1.of_int; subst this
      have := h2.of_int; subst this
      cases D <;> simp [Instr.sameBits]
    · split at h
      · simp at h; subst h
        obtain ⟨_, _, rfl⟩ := h1.of_sym0
        obtain ⟨_, _, rfl⟩ := h2.of_sym0
        cases D <;> simp [Instr.sameBits]
      · cases h
  · unfold eqLeaf at h
    split at h <;> simp at *
    obtain ⟨x, x', rfl, rx, hx⟩ := h1.of_str
    obtain ⟨y, y', rfl, ry, hy⟩ := h2.of_str
    have := eqC_bytes rx ry hx hy h
    have : y == x := by rw [beq_toListBytes, beq_iff_eq]; rw [beq_iff_eq] at this; exact this.symm
    cases D <;> simp [Instr.sameBits] <;> simpa using this
  · unfold eqLeaf at h
    split at h <;> simp at *
    subst h
    have := h1.of_bool; subst this
    have := h2.of_bool; subst this
    cases D <;> simp [Instr.sameBits]
theorem keyLeaves_get [Sig] : ∀ {fs : List Field} {i : Nat} {ls : List (Nat × Leaf)}, keyLeaves P fs i = some ls → ∀ (j : Nat) (p : Nat × Leaf), ls[j]? = some p → p.1 = i + j ∧ (p.2 = .int ∨ p.2 = .str ∨ p.2 = .bool)
  | [], i, ls, h, j, p, hp => by simp [keyLeaves] at h; subst h; simp at hp
  | f :: fs, i, ls, h, j, p, hp => by
    obtain ⟨_, _, l, m, d, rfl, h3, _, h5⟩ := keyLeaves_cons h
    cases j with
    | zero =>
      simp at hp; subst hp
      refine ⟨rfl, ?_⟩
      rcases h5 with ⟨h5, _⟩ | ⟨h5, _⟩ | ⟨h5, _⟩
      · exact .inl h5
      · exact .inr (.inl h5)
      · exact .inr (.inr h5)
    | succ j =>
      obtain ⟨h6, h7⟩ := keyLeaves_get h3 j p (by simpa using hp)
      exact ⟨by omega, h7⟩
theorem eqAll_get {x y : List AV} : ∀ {ls : List (Nat × Leaf)}, eqAll x y ls = some true → ∀ p ∈ ls, ∃ a b, x[p.1]? = some a ∧ y[p.1]? = some b ∧ eqLeaf p.2 a b = some true
  | [], _, p, hp => by simp at hp
  | (i, l) :: ls, h, p, hp => by
    simp only [eqAll, nth_eq] at h
    split at h
    · rename_i a b ha hb
      split at h
      · rename_i he
        rcases List.mem_cons.1 hp with rfl | hp
        · exact ⟨a, b, ha, hb, he⟩
        · exact eqAll_get h p hp
      · cases h
      · cases h
    · cases h
theorem sameBits_key [Sig] {t : TypeId} {ls : List (Nat × Leaf)} (hk : KeyAgg P t ls) (h1 : VR ρ v1 u1) (h2 : VR ρ v2 u2) (h : eqKey (.agg ls) v1 v2 = some true) : Instr.sameBits 10000 u2 u1 = true := by
  obtain ⟨fs, _, _, hl⟩ := hk
  obtain ⟨x, y, rfl, rfl, hxl, hyl, he⟩ := eqKey_agg h
  obtain ⟨xs', rfl, hx, _⟩ := h1.of_agg
  obtain ⟨ys', rfl, hy, _⟩ := h2.of_agg
  have h3 := hx.length
  have h4 := hy.length
  simp at h3 h4
  show (ys'.size == xs'.size && (ys'.toList.zip xs'.toList).all fun (x, y) => Instr.sameBits 9999 x y) = true
  have hsz : ys'.size = xs'.size := by omega
  rw [hsz, beq_self_eq_true, Bool.true_and, List.all_eq_true]
  rintro ⟨b', a'⟩ hm
  obtain ⟨j, hj, e⟩ := List.getElem_of_mem hm
  rw [List.getElem_zip] at e
  simp only [Prod.mk.injEq] at e
  simp at hj
  have hjl : j < ls.length := by omega
  obtain ⟨hp1, hp2⟩ := keyLeaves_get hl j ls[j] (by simp [hjl])
  obtain ⟨a, b, ha, hb, hab⟩ := eqAll_get he ls[j] (List.getElem_mem hjl)
  rw [Nat.zero_add] at hp1
  rw [hp1] at ha hb
  obtain ⟨ua, hua, hra⟩ := hx.get j a ha
  obtain ⟨ub, hub, hrb⟩ := hy.get j b hb
  have e1 : ua = a' := by
    rw [← e.2]
    have := List.getElem?_eq_some_iff.1 hua
    exact this.2.symm
  have e2 : ub = b' := by
    rw [← e.1]
    have := List.getElem?_eq_some_iff.1 hub
    exact this.2.symm
  subst e1; subst e2
  exact sameBits_leaf hp2 hra hrb hab
theorem mapPut_one [Sig] {d : TypeDesc} {l : Leaf} (hk : KeyOf d l) (h1 : VR ρ v1 u1) (h2 : VR ρ v2 u2) : ∀ {es es' : List (AV × AV)} {ces : List MapEntry} (i : Nat), MapR ρ es ces → mapPut (.one l) v1 v2 es = some es' →
    (Instr.findNow d u1 ces i = some none ∧ es' = es ++ [(v1, v2)]) ∨
    (∃ j e, Instr.findNow d u1 ces i = some (some (i + j, e.val)) ∧ ces[j]? = some e ∧ Instr.sameBits 10000 e.key u1 = true ∧ MapR ρ es' (ces.modify j fun e => { e with key := u1, val := u2 }))
  | [], _, _, i, .nil, h => by simp [mapPut] at h; subst h; exact .inl ⟨rfl, rfl⟩
  | _ :: es, es', _, i, .cons (k := k) (v := x) (e := e) (m := m) hkr hvr t, h => by
    simp only [mapPut] at h
    split at h
    · cases h
    · rename_i he
      have he := eqKey_one he
      simp at h; subst h
      refine .inr ⟨0, e, ?_, rfl, sameBits_leaf (by rcases hk with ⟨h, _⟩ | ⟨h, _⟩ <;> simp [h]) h1 hkr he, ?_⟩
      · simp [Instr.findNow, sameNow_eq hk h1 hkr he]
      · exact .cons h1 h2 t
    · rename_i he
      have he := eqKey_one he
      split at h
      · cases h
      · rename_i m' hm
        simp at h; subst h
        rcases mapPut_one hk h1 h2 (i + 1) t hm with ⟨hf, rfl⟩ | ⟨j, e', hf, hj, hs, hr⟩
        · exact .inl ⟨by simp [Instr.findNow, sameNow_eq hk h1 hkr he, hf], rfl⟩
        · refine .inr ⟨j + 1, e', ?_, by simpa using hj, hs, ?_⟩
          · simp [Instr.findNow, sameNow_eq hk h1 hkr he, hf]; omega
          · exact .cons hkr hvr hr
theorem mapPut_agg [Sig] {t : TypeId} {ls : List (Nat × Leaf)} (hk : KeyAgg P t ls) (h1 : VR ρ v1 u1) (h2 : VR ρ v2 u2) : ∀ {es es' : List (AV × AV)} {ces : List MapEntry} (i : Nat), MapR ρ es ces → mapPut (.agg ls) v1 v2 es = some es' →
    ((Instr.findAsking t u1 ces i).run P w = .ok none w ∧ es' = es ++ [(v1, v2)]) ∨
    (∃ j e, (Instr.findAsking t u1 ces i).run P w = .ok (some (i + j, e.val)) w ∧ ces[j]? = some e ∧ Instr.sameBits 10000 e.key u1 = true ∧ MapR ρ es' (ces.modify j fun e => { e with key := u1, val := u2 }))
  | [], _, _, i, .nil, h => by simp [mapPut] at h; subst h; exact .inl ⟨rfl, rfl⟩
  | _ :: es, es', _, i, .cons (k := k) (v := x) (e := e) (m := m) hkr hvr tl, h => by
    simp only [mapPut] at h
    split at h
    · cases h
    · rename_i he
      simp at h; subst h
      refine .inr ⟨0, e, ?_, rfl, sameBits_key hk h1 hkr he, ?_⟩
      · simp [Instr.findAsking, equal_key hk h1 hkr he]
      · exact .cons h1 h2 tl
    · rename_i he
      split at h
      · cases h
      · rename_i m' hm
        simp at h; subst h
        rcases mapPut_agg hk h1 h2 (i + 1) tl hm with ⟨hf, rfl⟩ | ⟨j, e', hf, hj, hs, hr⟩
        · exact .inl ⟨by simp [Instr.findAsking, equal_key hk h1 hkr he, hf], rfl⟩
        · refine .inr ⟨j + 1, e', ?_, by simpa using hj, hs, ?_⟩
          · simp [Instr.findAsking, equal_key hk h1 hkr he, hf]; omega
          · exact .cons hkr hvr hr
theorem mapPut_eq [Sig] {t : TypeId} {c : Cmp} (hk : KeyC P t c) (h1 : VR ρ v1 u1) (ho : keyOk c v1 = true) (h2 : VR ρ v2 u2) {es es' : List (AV × AV)} {ces : List MapEntry} (hm : MapR ρ es ces) (h : mapPut c v1 v2 es = some es') :
    ((Instr.findKey t u1 ces).run P w = .ok none w ∧ es' = es ++ [(v1, v2)]) ∨
    (∃ j e, (Instr.findKey t u1 ces).run P w = .ok (some (j, e.val)) w ∧ ces[j]? = some e ∧ Instr.sameBits 10000 e.key u1 = true ∧ MapR ρ es' (ces.modify j fun e => { e with key := u1, val := u2 })) := by
  rcases hk with ⟨d, l, hd, hk, rfl⟩ | ⟨ls, hk, rfl⟩
  · rcases mapPut_one hk h1 h2 0 hm h with ⟨hf, he⟩ | ⟨j, e, hf, hj, hs, hr⟩
    · exact .inl ⟨by simp [Instr.findKey, run_under hd, hf], he⟩
    · exact .inr ⟨j, e, by simp [Instr.findKey, run_under hd, hf], hj, hs, hr⟩
  · have key : ∀ r, (Instr.findAsking t u1 ces 0).run P w = .ok r w → (Instr.findKey t u1 ces).run P w = .ok r w := by
      intro r hr
      obtain ⟨fs, hu, _⟩ := hk
      simp only [keyOk] at ho
      split at ho
      · obtain ⟨cs, rfl, _⟩ := h1.of_agg
        cases hm with
        | nil => simp [Instr.findKey, run_under hu, Instr.findNow]; simp [Instr.findAsking] at hr; exact hr
        | cons => simp [Instr.findKey, run_under hu, findNow_agg]; exact hr
      · cases ho
    rcases mapPut_agg (w := w) hk h1 h2 0 hm h with ⟨hf, he⟩ | ⟨j, e, hf, hj, hs, hr⟩
    · exact .inl ⟨key _ hf, he⟩
    · exact .inr ⟨j, e, key _ (by simpa using hf), hj, hs, hr⟩
theorem mapUpdate_run [Sig] {t kt e : TypeId} {l : Cmp} {s' : St} (ht : P.underlying t = some (.map kt e)) (hk : cKey P kt = some l) (hw : WR C B w0 ρ s w)
    (hx : VR ρ v1 u1) (hkey : VR ρ v2 u2) (hval : VR ρ v3 u3) (h : mapUpdateR l v1 v2 v3 s = some (v, s')) :
    ∃ r b es es' O, v = .dead ∧ ρ r = some (b, ⟨0, 0⟩) ∧ s.heap.get r = some (.map es) ∧ s' = s.put r (.map es') ∧ (Instr.mapUpdate t u1 u2 u3).run P w = .ok () { w with heap := w.heap.setIfInBounds b O } ∧
      WR C B w0 ρ s' { w with heap := w.heap.setIfInBounds b O } := by
  have hkd := cKey_eq hk
  unfold mapUpdateR at h
  split at h
  · rename_i r
    split at h
    case h_2 => cases h
    · rename_i es hok hes
      have hck := fun e => run_checkKey (P := P) (w := w) hkd e hkey hok
      split at h
      · cases h
      · rename_i es' hes'
        simp at h
        obtain ⟨rfl, rfl⟩ := h
        have hget := mapOf_eq hes
        obtain ⟨b, hb, rfl⟩ := hx.of_map
        obtain ⟨_, _, ces, clock, hheap, hr⟩ := hw.map _ _ _ _ hb hget
        rcases mapPut_eq (w := w) hkd hkey hok hval hr.r hes' with ⟨hfk, rfl⟩ | ⟨j, e', hfk, hj, hs, hr'⟩
        · refine ⟨r, b, es, _, .map (ces.push { key := u2, val := u3, born := clock }) (clock + 1), rfl, hb, hget, rfl, ?_, ?_⟩
          · simp [Instr.mapUpdate, run_under ht, run_getMap hheap, hck, hfk, setObj, Sem.run, hheap]
          · refine hw.putObj _ hb (.inl ⟨es, hget⟩) (.inl ⟨_, _, _, rfl, rfl, ?_⟩)
            exact hr.push hkey hval
        · refine ⟨r, b, es, _, .map (ces.modify j fun e => { e with key := u2, val := u3 }) clock, rfl, hb, hget, rfl, ?_, ?_⟩
          · have hj' : ces[j]? = some e' := by simpa using hj
            simp [Instr.mapUpdate, run_under ht, run_getMap hheap, hck, hfk, setObj, Sem.run, hheap, hj', Instr.keyThatStays, hs]
          · refine hw.putObj _ hb (.inl ⟨es, hget⟩) (.inl ⟨_, _, _, rfl, rfl, ?_⟩)
            exact hr.modify j _ (fun _ => rfl) (by simpa [Array.toList_modify] using hr')
  · cases h
theorem mapIdx_now [Sig] {d : TypeDesc} {l : Leaf} (hk : KeyOf d l) (h1 : VR ρ v1 u1) : ∀ {es : List (AV × AV)} {ces : List MapEntry} {r : Option (Nat × AV)} (i : Nat), MapR ρ es ces → mapIdx (.one l) v1 es i = some r →
    ∃ r', Instr.findNow d u1 ces i = some r' ∧ ((r = none ∧ r' = none) ∨ (∃ x j u, r = some (j, x) ∧ r' = some (j, u) ∧ VR ρ x u))
  | [], _, r, i, .nil, h => by simp [mapIdx] at h; subst h; exact ⟨none, rfl, .inl ⟨rfl, rfl⟩⟩
  | _ :: es, _, r, i, .cons (k := k) (v := x) (e := e) (m := m) hkr hvr t, h => by
    simp only [mapIdx] at h
    split at h
    · cases h
    · rename_i he
      simp at h; subst h
      exact ⟨some (i, e.val), by simp [Instr.findNow, sameNow_eq hk h1 hkr (eqKey_one he)], .inr ⟨x, i, e.val, rfl, rfl, hvr⟩⟩
    · rename_i he
      obtain ⟨r', hr, hres⟩ := mapIdx_now hk h1 (i + 1) t h
      exact ⟨r', by simp [Instr.findNow, sameNow_eq hk h1 hkr (eqKey_one he), hr], hres⟩
theorem mapIdx_asking [Sig] {t : TypeId} {ls : List (Nat × Leaf)} (hk : KeyAgg P t ls) (h1 : VR ρ v1 u1) : ∀ {es : List (AV × AV)} {ces : List MapEntry} {r : Option (Nat × AV)} (i : Nat), MapR ρ es ces → mapIdx (.agg ls) v1 es i = some r →
    ∃ r', (Instr.findAsking t u1 ces i).run P w = .ok r' w ∧ ((r = none ∧ r' = none) ∨ (∃ x j u, r = some (j, x) ∧ r' = some (j, u) ∧ VR ρ x u))
  | [], _, r, i, .nil, h => by simp [mapIdx] at h; subst h; exact ⟨none, rfl, .inl ⟨rfl, rfl⟩⟩
  | _ :: es, _, r, i, .cons (k := k) (v := x) (e := e) (m := m) hkr hvr tl, h => by
    simp only [mapIdx] at h
    split at h
    · cases h
    · rename_i he
      simp at h; subst h
      exact ⟨some (i, e.val), by simp [Instr.findAsking, equal_key hk h1 hkr he], .inr ⟨x, i, e.val, rfl, rfl, hvr⟩⟩
    · rename_i he
      obtain ⟨r', hr, hres⟩ := mapIdx_asking hk h1 (i + 1) tl h
      exact ⟨r', by simp [Instr.findAsking, equal_key hk h1 hkr he, hr], hres⟩
theorem mapIdx_eq [Sig] {t : TypeId} {c : Cmp} (hk : KeyC P t c) (h1 : VR ρ v1 u1) (ho : keyOk c v1 = true) {es : List (AV × AV)} {ces : List MapEntry} {r : Option (Nat × AV)} (hm : MapR ρ es ces) (h : mapIdx c v1 es 0 = some r) :
    ∃ r', (Instr.findKey t u1 ces).run P w = .ok r' w ∧ ((r = none ∧ r' = none) ∨ (∃ x j u, r = some (j, x) ∧ r' = some (j, u) ∧ VR ρ x u)) := by
  rcases hk with ⟨d, l, hd, hk, rfl⟩ | ⟨ls, hk, rfl⟩
  · obtain ⟨r', hr, hres⟩ := mapIdx_now hk h1 0 hm h
    exact ⟨r', by simp [Instr.findKey, run_under hd, hr], hres⟩
  · obtain ⟨r', hr, hres⟩ := mapIdx_asking (w := w) hk h1 0 hm h
    refine ⟨r', ?_, hres⟩
    obtain ⟨fs, hu, _⟩ := hk
    simp only [keyOk] at ho
    split at ho
    · obtain ⟨cs, rfl, _⟩ := h1.of_agg
      cases hm with
      | nil => simp [Instr.findKey, run_under hu, Instr.findNow]; simp [Instr.findAsking] at hr; exact hr
      | cons => simp [Instr.findKey, run_under hu, findNow_agg]; exact hr
    · cases ho
theorem mapEntry_run [Sig] {t kt e : TypeId} {l : Cmp} {z : AV} {s' : St} (ht : P.underlying t = some (.map kt e)) (hk : cKey P kt = some l) (hz : zeroC P e = some z) (hw : WR C B w0 ρ s w)
    (hx : VR ρ v1 u1) (hkey : VR ρ v2 u2) (h : mapEntryR l z v1 v2 s = some (v, s')) :
    ∃ r b es es' O u, ρ r = some (b, ⟨0, 0⟩) ∧ s.heap.get r = some (.map es) ∧ s' = s.put r (.map es') ∧ (Instr.mapEntry t u1 u2).run P w = .ok u { w with heap := w.heap.setIfInBounds b O } ∧ VR ρ v u ∧
      WR C B w0 ρ s' { w with heap := w.heap.setIfInBounds b O } := by
  have hkd := cKey_eq hk
  obtain ⟨i, zv, hi, hzv, hc⟩ := zeroC_eq hz
  have hzr : VR ρ z zv := constOf_VR hc
  unfold mapEntryR at h
  split at h
  · rename_i r
    split at h
    case h_2 => cases h
    · rename_i es hok hes
      have hck := fun e => run_checkKey (P := P) (w := w) hkd e hkey hok
      have hget := mapOf_eq hes
      obtain ⟨b, hb, rfl⟩ := hx.of_map
      obtain ⟨_, _, ces, clock, hheap, hr⟩ := hw.map _ _ _ _ hb hget
      split at h
      · cases h
      · rename_i j x hf
        split at h
        · cases h
        · rename_i es' hes'
          simp only [Option.some.injEq, Prod.mk.injEq] at h
          obtain ⟨rfl, rfl⟩ := h
          obtain ⟨r', hfk, hres⟩ := mapIdx_eq (w := w) hkd hkey hok hr.r hf
          rcases hres with ⟨hx, _⟩ | ⟨x', j', u, hx, rfl, hxu⟩
          · cases hx
          · simp only [Option.some.injEq, Prod.mk.injEq] at hx
            obtain ⟨rfl, rfl⟩ := hx
            rcases mapPut_eq (w := w) hkd hkey hok hxu hr.r hes' with ⟨hfk', _⟩ | ⟨j', e', hfk', hj, hs, hr'⟩
            · rw [hfk] at hfk'; simp at hfk'
            · rw [hfk] at hfk'
              simp only [Result.ok.injEq, Option.some.injEq, Prod.mk.injEq, and_true] at hfk'
              obtain ⟨rfl, rfl⟩ := hfk'
              have hj' : ces[j]? = some e' := by simpa using hj
              have hborn := hr.born j e' hj'
              refine ⟨r, b, es, _, .map (ces.modify j fun e => { e with key := u2 }) clock, .tuple #[e'.val, goInt e'.born], hb, hget, rfl, ?_, ?_, ?_⟩
              · simp [Instr.mapEntry, run_under ht, run_getMap hheap, hck, hfk, setObj, Sem.run, hheap, hj', Instr.keyThatStays, hs]
              · rw [hborn]; exact .tuple (.cons hxu (.cons (.int _ _) .nil))
              · refine hw.putObj _ hb (.inl ⟨es, hget⟩) (.inl ⟨_, _, _, rfl, rfl, ?_⟩)
                refine hr.modify j _ (fun _ => rfl) ?_
                have he : (ces.toList.modify j fun e => { e with key := u2, val := e'.val }) = ces.toList.modify j fun e => { e with key := u2 } := by
                  apply List.ext_getElem?
                  intro q
                  rw [List.getElem?_modify, List.getElem?_modify]
                  by_cases hq : j = q
                  · subst hq; simp only [if_true]; rw [hj]; rfl
                  · simp only [if_neg hq]
                rw [Array.toList_modify, ← he]; exact hr'
      · rename_i hf
        simp only [Option.some.injEq, Prod.mk.injEq] at h
        obtain ⟨rfl, rfl⟩ := h
        obtain ⟨r', hfk, hres⟩ := mapIdx_eq (w := w) hkd hkey hok hr.r hf
        rcases hres with ⟨_, rfl⟩ | ⟨x', j', u, hx, _⟩
        · refine ⟨r, b, es, _, .map (ces.push { key := u2, val := zv, born := clock }) (clock + 1), .tuple #[zv, goInt clock], hb, hget, rfl, ?_, ?_, ?_⟩
          · simp [Instr.mapEntry, run_under ht, run_getMap hheap, hck, hfk, setObj, Sem.run, hheap, run_zero hi hzv]
          · have : lenN es = clock := by rw [lenN_eq, hr.r.length, hr.clock, Array.length_toList]
            rw [this]; exact .tuple (.cons hzr (.cons (.int _ _) .nil))
          · refine hw.putObj _ hb (.inl ⟨es, hget⟩) (.inl ⟨_, _, _, rfl, rfl, ?_⟩)
            rw [app_eq]
            exact hr.push hkey hzr
        · cases hx
  · cases h
theorem mapSet_R [Sig] : ∀ {es es' : List (AV × AV)} {ces : List MapEntry} {i : Nat}, VR ρ v3 u3 → MapR ρ es ces → mapSet v3 es i = some es' → i < ces.length ∧ MapR ρ es' (ces.modify i fun e => { e with val := u3 })
  | [], _, _, _, _, .nil, h => by simp [mapSet] at h
  | _ :: es, _, _, 0, h3, .cons hk hv t, h => by
    simp [mapSet] at h; subst h
    exact ⟨by simp, .cons hk h3 t⟩
  | _ :: es, _, _, i + 1, h3, .cons hk hv t, h => by
    simp only [mapSet] at h
    split at h
    · cases h
    · rename_i m hm
      simp at h; subst h
      obtain ⟨h1, h2⟩ := mapSet_R h3 t hm
      exact ⟨by simpa using h1, .cons hk hv h2⟩
theorem entryStore_run [Sig] {t : TypeId} {s' : St} (hw : WR C B w0 ρ s w)
    (hx : VR ρ v1 u1) (hi : VR ρ v2 u2) (hval : VR ρ v3 u3) (h : entryStoreR v1 v2 v3 s = some (v, s')) :
    ∃ r b es es' O, v = .dead ∧ ρ r = some (b, ⟨0, 0⟩) ∧ s.heap.get r = some (.map es) ∧ s' = s.put r (.map es') ∧ (Instr.entryStore t u1 u2 u3).run P w = .ok () { w with heap := w.heap.setIfInBounds b O } ∧
      WR C B w0 ρ s' { w with heap := w.heap.setIfInBounds b O } := by
  unfold entryStoreR at h
  split at h
  · rename_i r i hn
    split at h
    · cases h
    · rename_i es hes
      split at h
      · cases h
      · rename_i es' hes'
        simp only [Option.some.injEq, Prod.mk.injEq] at h
        obtain ⟨rfl, rfl⟩ := h
        obtain ⟨kk, rfl⟩ := hi.of_nat hn
        have hget := mapOf_eq hes
        obtain ⟨b, hb, rfl⟩ := hx.of_map
        obtain ⟨_, _, ces, clock, hheap, hr⟩ := hw.map _ _ _ _ hb hget
        obtain ⟨hlt, hr'⟩ := mapSet_R hval hr.r hes'
        have hlt : i < ces.size := by simpa using hlt
        have hidx : ces.findIdx? (fun e => (e.born : Int) == (i : Int)) = some i := by
          rw [Array.findIdx?_eq_some_iff_getElem]
          refine ⟨hlt, ?_, ?_⟩
          · have := hr.born i ces[i] (by simp [hlt])
            simp [this]
          · intro j hj
            have hjs : j < ces.size := by omega
            have := hr.born j ces[j] (by simp [hjs])
            simp only [this, beq_iff_eq]
            omega
        refine ⟨r, b, es, _, .map (ces.modify i fun e => { e with val := u3 }) clock, rfl, hb, hget, rfl, ?_, ?_⟩
        · simp [Instr.entryStore, run_getMap hheap, asInt, asIntOf, hidx, setObj, Sem.run, hheap]
        · refine hw.putObj _ hb (.inl ⟨es, hget⟩) (.inl ⟨_, _, _, rfl, rfl, ?_⟩)
          exact hr.modify i _ (fun _ => rfl) (by simpa [Array.toList_modify] using hr')
  · cases h
end
end A3
