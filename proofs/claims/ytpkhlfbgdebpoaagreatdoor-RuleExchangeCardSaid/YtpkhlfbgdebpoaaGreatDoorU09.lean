/- The evaluator for the kernel, second part: what it gives is what the abstract machine gives. -/
import Derived.Test.YtpkhlfbgdebpoaaGreatDoorU08
namespace A3
open Go
def Ok (r : Option (AV × St)) (k : KM) (t : Tmps) (q : Q) : Prop := ∃ v s, r = some (v, s) ∧ k v t q s.heap s.next s.ty = true
section
variable {k : KM} {t : Tmps} {q : Q} {h : T Obj} {m : Pos} {y : T Nat}
theorem optK_ok {r : Option AV} (e : optK r k t q h m y = true) : Ok (pureR r ⟨h, m, y⟩) k t q := by
  cases r with
  | none => cases e
  | some v => exact ⟨v, ⟨h, m, y⟩, rfl, e⟩
theorem resK_ok {r : Option (AV × St)} (e : resK r k t q = true) : Ok r k t q := by
  rcases r with _ | ⟨v, s⟩
  · cases e
  · exact ⟨v, s, rfl, e⟩
theorem forceK_eq (v : AV) : forceK v k = k v := by cases v <;> rfl
theorem tag1_ok {n : Pos} {o : Obj} {mk : Pos → AV} (e : tag1 y h n o mk k t q = true) : k (mk n) t q (setTO n o h) (succX n) y = true := by
  unfold tag1 at e
  cases hg : getTN n y <;> rw [hg] at e
  · cases e
  · exact e
theorem newK_ok {ty : Option Nat} {o : Obj} {mk : Pos → AV} (e : newK ty o mk k t q h m y = true) : Ok (some (mk m, (St.tag ⟨h, m, y⟩ ty).alloc o)) k t q := by
  refine ⟨_, _, rfl, ?_⟩
  cases ty with
  | none =>
    have e' : k (mk m) t q (setTO m o h) (succX m) y = true := e
    simpa only [St.tag, St.alloc, ← setTO_eq, ← succX_eq] using e'
  | some u => simpa only [St.tag, St.alloc, ← setTO_eq, ← setTN_eq, ← succX_eq] using tag1_ok (y := setTN m u y) e
theorem softK_ok {ty : Option Nat} {cs : List AV} {mk : Pos → AV} (e : softK ty cs mk k t q h m y = true) : Ok (some (mk m, (St.tag ⟨h, m, y⟩ ty).allocSoft cs)) k t q := by
  refine ⟨_, _, rfl, ?_⟩
  cases ty with
  | none =>
    have e' : k (mk m) t q (setTO (succX m) (.grp 0 0 false) (setTO m (.cells cs false (some (succX m, 0))) h)) (succX (succX m)) y = true := e
    simpa only [St.tag, St.allocSoft, St.alloc, ← setTO_eq, ← succX_eq] using e'
  | some u =>
    have e' : tag2 (setTN m u y) h m cs mk k t q = true := e
    unfold tag2 at e'
    cases hg : getTN m (setTN m u y) <;> rw [hg] at e'
    · cases e'
    · simpa only [St.tag, St.allocSoft, St.alloc, ← setTO_eq, ← setTN_eq, ← succX_eq] using e'
theorem heapK_ok {r : Option (T Obj)} {v : AV} (e : heapK r v k t q m y = true) : Ok (match r.map (fun h => ({ heap := h, next := m, ty := y } : St)) with | none => none | some s => some (v, s)) k t q := by
  cases r with
  | none => cases e
  | some h => exact ⟨v, ⟨h, m, y⟩, rfl, e⟩
theorem iMov_ok {x : Opd} (e : iMov x k t q h m y = true) : Ok (step (.mov x) t ⟨h, m, y⟩) k t q := by
  unfold iMov at e; rw [forceK_eq, eO_eq] at e
  exact ⟨_, _, rfl, e⟩
theorem iPick_ok {c a b : Opd} (e : iPick c a b k t q h m y = true) : Ok (step (.pick c a b) t ⟨h, m, y⟩) k t q := by
  unfold iPick at e
  cases hv : viB (eO c t) <;> rw [hv] at e
  · cases e
  · have e : forceK (eO a t) k t q h m y = true := e
    rw [forceK_eq, eO_eq] at e; rw [eO_eq] at hv
    exact ⟨_, _, by simp only [step, viB_t hv, pickV, pureR]; rfl, e⟩
  · have e : forceK (eO b t) k t q h m y = true := e
    rw [forceK_eq, eO_eq] at e; rw [eO_eq] at hv
    exact ⟨_, _, by simp only [step, viB_f hv, pickV, pureR]; rfl, e⟩
theorem iBox_ok {ty : Option Nat} {v : Opd} (e : iBox ty v k t q h m y = true) : Ok (step (.box ty v) t ⟨h, m, y⟩) k t q := by
  unfold iBox at e; rw [cellsX_eq, eO_eq] at e
  simp only [step]
  cases hc : (v.eval t).cells? with
  | none => rw [hc] at e; cases e
  | some cs =>
    rw [hc] at e
    have e := newK_ok e
    cases ty <;> exact e
theorem fillX_eq (l : List (Nat × Nat × Opd)) (t : Tmps) : ∀ cs, fillX cs l t = fill cs (evalParts t l) := by
  induction l with
  | nil => intro cs; rfl
  | cons p l ih =>
    intro cs
    obtain ⟨i, r, x⟩ := p
    show fill1 i r (eO x t) cs t (fun cs t => fillX cs l t) = _
    unfold fill1; rw [cellsX_eq, eO_eq]; simp only [evalParts, fill]
    cases (x.eval t).cells? with
    | none => rfl
    | some vs =>
      show Bool.rec (motive := fun _ => List AV → Nat → List AV → Tmps → (List AV → Tmps → Option (List AV)) → Option (List AV)) _ _ (Nat.beq (lenX vs) r) vs i cs t _ = _
      rw [lenX_eq]; simp only
      cases Nat.beq (lenN vs) r with
      | false => rfl
      | true =>
        show Option.rec (motive := fun _ => Tmps → (List AV → Tmps → Option (List AV)) → Option (List AV)) _ _ (overX cs i vs) t _ = _
        rw [overX_eq]; simp only
        cases over cs i vs with
        | none => rfl
        | some cs => exact ih cs
theorem iBuild_ok {zero : List AV} {parts : List (Nat × Nat × Opd)} (e : iBuild zero parts k t q h m y = true) : Ok (step (.build zero parts) t ⟨h, m, y⟩) k t q := by
  unfold iBuild at e; rw [fillX_eq] at e; simp only [step]
  cases hf : fill zero (evalParts t parts) <;> rw [hf] at e
  · cases e
  · exact ⟨_, _, rfl, e⟩
theorem iBuildSlice_ok {zero : List AV} {len : Nat} {parts : List (Nat × Nat × Opd)} (e : iBuildSlice zero len parts k t q h m y = true) : Ok (step (.buildSlice zero len parts) t ⟨h, m, y⟩) k t q := by
  unfold iBuildSlice at e; rw [fillX_eq] at e; simp only [step]
  cases hf : fill zero (evalParts t parts) <;> rw [hf] at e
  · cases e
  · exact newK_ok e
theorem iLoad_ok {n : Option Nat} {a : Opd} (e : iLoad n a k t q h m y = true) : Ok (step (.load n a) t ⟨h, m, y⟩) k t q := by
  unfold iLoad at e; rw [eO_eq] at e; simp only [step]
  cases hv : viP (a.eval t) with
  | no => rw [hv] at e; cases e
  | nil => rw [hv] at e; cases e
  | «at» p o =>
    rw [hv] at e; rw [viP_at hv]
    have e : optK (loadX p o n (St.heap ⟨h, m, y⟩)) k t q h m y = true := e
    rw [loadX_eq] at e
    exact optK_ok e
theorem iStore_ok {n : Nat} {a v : Opd} (e : iStore n a v k t q h m y = true) : Ok (step (.store n a v) t ⟨h, m, y⟩) k t q := by
  unfold iStore at e; rw [eO_eq] at e; simp only [step]
  cases hv : viP (a.eval t) with
  | no => rw [hv] at e; cases e
  | nil => rw [hv] at e; cases e
  | «at» p o =>
    rw [hv] at e; rw [viP_at hv]; simp only [cellsX_eq, eO_eq] at e; unfold storeR
    cases hc : (v.eval t).cells? with
    | none => rw [hc] at e; cases e
    | some vs =>
      rw [hc] at e; simp only [lenX_eq] at e ⊢
      cases hl : Nat.beq (lenN vs) n with
      | false => rw [hl] at e; cases e
      | true =>
        rw [hl] at e; simp only
        cases n with
        | zero => exact ⟨_, _, rfl, e⟩
        | succ n =>
          have e : heapK (storeH p o vs (St.heap ⟨h, m, y⟩)) .dead k t q m y = true := e
          have e := heapK_ok e
          simp only [storeH_eq]
          cases hs : storeH p o vs h with
          | none => simp only [hs] at e; obtain ⟨v, s, e1, _⟩ := e; cases e1
          | some h' => simpa only [hs, Option.map] using e
theorem nilOkX_ok {v : AV} (e : nilOkX v = true) : nilCheckV v = some v := by
  cases v <;> first | cases e | skip
  · rename_i a; rcases a with _ | a
    · cases e
    · rfl
  · rfl
  · rfl
  · rename_i f a b; cases f <;> first | rfl | cases e
theorem iNilCheck_ok {x : Opd} (e : iNilCheck x k t q h m y = true) : Ok (step (.nilCheck x) t ⟨h, m, y⟩) k t q := by
  unfold iNilCheck at e; rw [eO_eq] at e; simp only [step]
  cases hv : nilOkX (x.eval t) <;> rw [hv] at e
  · cases e
  · have e : forceK (eO x t) k t q h m y = true := e
    rw [forceK_eq, eO_eq] at e
    rw [nilOkX_ok hv]; exact ⟨_, _, rfl, e⟩
theorem strX_eq (op : BinOp) (a b : List Nat) : strX op a b = binStr op a b := by
  cases op <;> first | rfl | skip
  · unfold strX binStr; simp only [lenXN_eq, appXN_eq]; rfl
  · unfold strX binStr; simp only [eqCX_eq]
  · unfold strX binStr; simp only [eqCX_eq]
  · unfold strX binStr; simp only [ltCX_eq]
  · unfold strX binStr; simp only [ltCX_eq]
theorem binS_eq (op : BinOp) (x y : AV) : binS op x y = binOp op x y := by
  unfold binS
  split
  · rename_i a b ha hb; rw [viT_is ha, viT_is hb]; exact strX_eq op a b
  · rfl
theorem binX_eq (op : BinOp) (x y : AV) : binX op x y = binOp op x y := by
  unfold binX
  cases hx : viI x with
  | no => exact binS_eq op x y
  | is k a =>
    show VI.rec (motive := fun _ => IntKind → Int → BinOp → AV → AV → Option AV) _ _ (viI y) k a op x y = _
    cases hy : viI y with
    | no => rfl
    | is k' b => rw [viI_is hx, viI_is hy]; exact intX_eq op k a k' b
theorem unX_eq (op : UnOp) (v : AV) : unX op v = unOp op v := by
  cases op <;> first | rfl | skip
  show VB.rec (motive := fun _ => Option AV) none (some (.bool false)) (some (.bool true)) (viB v) = _
  cases v <;> first | rfl | skip
  rename_i b; cases b <;> rfl
theorem convIntX_eq (k : IntKind) (v : AV) : convIntX k v = convIntV k v := by
  unfold convIntX
  cases hv : viI v with
  | no => rfl
  | is j n => rw [viI_is hv]; show some (AV.int k (wrapZ k n)) = _; rw [wrapZ_eq]; rfl
theorem fixedX_eq (l : List Nat) : fixedX l = fixedS l := by
  induction l with
  | nil => rfl
  | cons c l ih =>
    show Bool.rec (motive := fun _ => Nat → Bool → Bool) _ _ (Nat.ble c 255) c (fixedX l) = _
    rw [ih]; simp only [fixedS]
    cases hb : Nat.ble c 255 with
    | false => show (fixedB c && fixedS l) = _; cases fixedB c <;> rfl
    | true =>
      have : fixedB c = true := by simp only [fixedB, blt255, hb]
      rw [this]
theorem byteVX_eq (c : Nat) : byteVX c = byteV c := by
  unfold byteVX
  cases hb : Nat.ble c 255 with
  | false => rfl
  | true => simp only [byteV, blt255, hb]
theorem byteCellsX_eq (l : List Nat) : byteCellsX l = byteCells l := by
  induction l with
  | nil => rfl
  | cons c l ih => show byteVX c :: byteCellsX l = _; rw [ih, byteVX_eq]; rfl
theorem iConvBytes_ok {ty : Option Nat} {x : Opd} (e : iConvBytes ty x k t q h m y = true) : Ok (step (.convBytes ty x) t ⟨h, m, y⟩) k t q := by
  unfold iConvBytes at e; rw [eO_eq] at e; simp only [step]
  cases hv : viT (x.eval t) with
  | none => rw [hv] at e; cases e
  | some b =>
    rw [hv] at e; rw [viT_is hv]; simp only [fixedX_eq, lenXN_eq, byteCellsX_eq] at e; simp only [convBytesR]
    cases hf : fixedS b with
    | false => rw [hf] at e; cases e
    | true => rw [hf] at e; have e := softK_ok e; cases ty <;> exact e
theorem firstS_eq (s : St) (size : Nat) (a : Option (Pos × Nat)) (n l c : Nat) (f : Option Nat) : firstS s.heap size a n = s.first size (.slice a l c f) n := by
  unfold firstS St.first
  cases n with
  | zero => rfl
  | succ n =>
    cases a with
    | none => rfl
    | some a =>
      simp only [okCells_eq]
      cases s.cells a.1 with
      | none => rfl
      | some cs => simp only [atLeastX_eq, dropX_eq, takeX_eq]; rfl
theorem firstX_eq (s : St) (size : Nat) (v : AV) (n : Nat) : firstX s.heap size v n = s.first size v n := by
  unfold firstX
  cases v <;> first | rfl | exact firstS_eq s size _ n _ _ _ | skip
  rename_i b
  show (match Nat.beq size 1 && fixedX b with | true => some (byteCellsX (takeXN b n)) | false => none) = _
  rw [fixedX_eq, byteCellsX_eq, takeXN_eq]; rfl
theorem cellBytesX_eq (l : List AV) : cellBytesX l = cellBytes l := by
  induction l with
  | nil => rfl
  | cons v l ih =>
    show (match cellByte v with | none => none | some c => match cellBytesX l with | none => none | some m => some (c :: m)) = _
    rw [ih]
    cases v <;> first | rfl | skip
    · rename_i k n
      cases k <;> first | rfl | skip
      cases n with
      | negSucc n => rfl
      | ofNat b =>
        show (match (match Nat.ble b 255 with | true => some b | false => none) with | none => none | some c => match cellBytes l with | none => none | some m => some (c :: m)) = _
        simp only [cellBytes, blt255]
        cases Nat.ble b 255 <;> cases cellBytes l <;> rfl
    · rename_i k; cases k <;> first | rfl | skip
      show (match cellBytes l with | none => none | some m => some (265 :: m)) = _
      simp only [cellBytes]; cases cellBytes l <;> rfl
    · rename_i c
      show (match cellBytes l with | none => none | some m => some (c :: m)) = _
      simp only [cellBytes]; cases cellBytes l <;> rfl
theorem bytesStrX_eq (cs : Option (List AV)) : bytesStrX cs = bytesStr cs := by
  cases cs with
  | none => rfl
  | some cs => simp only [bytesStrX, bytesStr, cellBytesX_eq]; rfl
theorem iConvStr_ok {x : Opd} (e : iConvStr x k t q h m y = true) : Ok (step (.convStr x) t ⟨h, m, y⟩) k t q := by
  unfold iConvStr at e; rw [eO_eq] at e; simp only [step]
  cases hv : viS (x.eval t) with
  | no => rw [hv] at e; cases e
  | is a l c f =>
    rw [hv] at e; rw [viS_is hv]
    have e : optK (bytesStrX (firstS (St.heap ⟨h, m, y⟩) 1 a l)) k t q h m y = true := e
    rw [firstS_eq _ _ _ _ l c f, bytesStrX_eq] at e
    exact optK_ok e
theorem iMakeSlice_ok {zero : List AV} {l c : Opd} (e : iMakeSlice zero l c k t q h m y = true) : Ok (step (.makeSlice zero l c) t ⟨h, m, y⟩) k t q := by
  unfold iMakeSlice at e; simp only [natX_eq, eO_eq, repX_eq] at e; simp only [step, makeSliceR]
  cases hl : natOf (l.eval t) with
  | none => rw [hl] at e; cases e
  | some l =>
    cases hc : natOf (c.eval t) with
    | none => rw [hl, hc] at e; cases e
    | some c =>
      rw [hl, hc] at e; simp only at e ⊢
      cases hb : Nat.ble l c && Nat.ble c 100000 with
      | false => rw [hb] at e; cases e
      | true => rw [hb] at e; exact newK_ok e
theorem boundX_eq (v : Option AV) (d most : Nat) : boundX v d most = bound v d most := by
  unfold boundX bound
  cases v with
  | none => rfl
  | some v => simp only [natX_eq]; rfl
theorem sliceX_eq (kd : Kd) (size : Nat) (x : AV) (lo hi mx : Option AV) : sliceX kd size x lo hi mx = sliceOf kd size x lo hi mx := by
  cases kd <;> first | rfl | skip
  · unfold sliceX
    cases hv : viT x with
    | none => cases x <;> first | rfl | cases hv
    | some b =>
      rw [viT_is hv]; simp only [sliceOf, fixedX_eq, boundX_eq, lenXN_eq, takeXN_eq, dropXN_eq]
      cases fixedS b with
      | false => rfl
      | true =>
        simp only
        cases mx with
        | some m => rfl
        | none =>
          simp only
          cases bound hi (lenN b) (lenN b) with
          | none => rfl
          | some h => simp only; cases bound lo 0 h <;> rfl
  · unfold sliceX
    cases hv : viS x with
    | no => cases x <;> first | rfl | cases hv
    | is a len cap soft =>
      rw [viS_is hv]; simp only [sliceOf, boundX_eq]; rfl
theorem eOo_eq (x : Option Opd) (t : Tmps) : eOo x t = evalO t x := by cases x <;> simp only [eOo, evalO, eO_eq]
theorem iSlice_ok {kd : Kd} {size : Nat} {x : Opd} {lo hi mx : Option Opd} (e : iSlice kd size x lo hi mx k t q h m y = true) : Ok (step (.slice kd size x lo hi mx) t ⟨h, m, y⟩) k t q := by
  unfold iSlice at e; rw [sliceX_eq, eOo_eq, eOo_eq, eOo_eq, eO_eq] at e; exact optK_ok e
theorem iFieldAddr_ok {off : Nat} {x : Opd} (e : iFieldAddr off x k t q h m y = true) : Ok (step (.fieldAddr off x) t ⟨h, m, y⟩) k t q := by
  unfold iFieldAddr at e; rw [eO_eq] at e; simp only [step]
  cases hv : viP (x.eval t) with
  | no => rw [hv] at e; cases e
  | nil => rw [hv] at e; cases e
  | «at» p o => rw [hv] at e; rw [viP_at hv]; exact ⟨_, _, rfl, e⟩
theorem iField_ok {off : Nat} {n : Option Nat} {x : Opd} (e : iField off n x k t q h m y = true) : Ok (step (.field off n x) t ⟨h, m, y⟩) k t q := by
  unfold iField at e; rw [eO_eq] at e; simp only [step]
  cases hv : viA (x.eval t) with
  | none => rw [hv] at e; cases e
  | some cs =>
    rw [hv] at e; rw [viA_is hv]
    have e : optK (partX cs off n) k t q h m y = true := e
    rw [partX_eq] at e; exact optK_ok e
theorem elemK_ok {a : Option (Pos × Nat)} {len size i : Nat} (e : elemK a len size i k t q h m y = true) : Ok (pureR (elemAddr a len size i) ⟨h, m, y⟩) k t q := by
  unfold elemK at e
  have hb : Nat.blt i len = Nat.ble (Nat.succ i) len := rfl
  unfold elemAddr; rw [hb]
  cases hl : Nat.ble (Nat.succ i) len with
  | false => rw [hl] at e; cases e
  | true =>
    rw [hl] at e
    cases a with
    | none => cases e
    | some a => exact ⟨_, _, rfl, e⟩
theorem iIndexAddr_ok {arr : Option Nat} {size : Nat} {x i : Opd} (e : iIndexAddr arr size x i k t q h m y = true) : Ok (step (.indexAddr arr size x i) t ⟨h, m, y⟩) k t q := by
  unfold iIndexAddr at e; rw [natX_eq, eO_eq] at e; simp only [step]
  cases hi : natOf (i.eval t) with
  | none => rw [hi] at e; cases e
  | some i =>
    rw [hi] at e; simp only [eO_eq] at e
    cases arr with
    | none =>
      have e : VS.rec (motive := fun _ => Nat → Nat → KM → M) _ _ (viS (x.eval t)) i size k t q h m y = true := e
      cases hv : viS (x.eval t) with
      | no => rw [hv] at e; cases e
      | is a len c f => rw [hv] at e; rw [viS_is hv]; exact elemK_ok e
    | some n =>
      have e : VP.rec (motive := fun _ => Nat → Nat → Nat → KM → M) _ _ _ (viP (x.eval t)) n i size k t q h m y = true := e
      cases hv : viP (x.eval t) with
      | no => rw [hv] at e; cases e
      | nil => rw [hv] at e; cases e
      | «at» p o => rw [hv] at e; rw [viP_at hv]; exact elemK_ok e
theorem iIndexStr_ok {x i : Opd} (e : iIndexStr x i k t q h m y = true) : Ok (step (.indexStr x i) t ⟨h, m, y⟩) k t q := by
  unfold iIndexStr at e; simp only [natX_eq, eO_eq] at e; simp only [step]
  cases hi : natOf (i.eval t) with
  | none => rw [hi] at e; cases e
  | some i =>
    cases hv : viT (x.eval t) with
    | none => rw [hi, hv] at e; cases e
    | some b =>
      rw [hi, hv] at e; rw [viT_is hv]; simp only [fixedX_eq, nthXN_eq, byteVX_eq] at e; simp only [indexStrV]
      cases hf : fixedS b with
      | false => rw [hf] at e; cases e
      | true =>
        cases hn : nth b i with
        | none => rw [hf, hn] at e; cases e
        | some c => rw [hf, hn] at e; exact ⟨_, _, rfl, e⟩
theorem iIndexArr_ok {n : Nat} {p : Option Nat} {size : Nat} {x i : Opd} (e : iIndexArr n p size x i k t q h m y = true) : Ok (step (.indexArr n p size x i) t ⟨h, m, y⟩) k t q := by
  unfold iIndexArr at e; simp only [natX_eq, eO_eq] at e; simp only [step]
  cases hi : natOf (i.eval t) with
  | none => rw [hi] at e; cases e
  | some i =>
    cases hv : viA (x.eval t) with
    | none => rw [hi, hv] at e; cases e
    | some cs =>
      rw [hi, hv] at e; rw [viA_is hv]; simp only [partX_eq] at e; simp only [indexArrV]
      have hb : Nat.blt i n = Nat.ble (Nat.succ i) n := rfl
      rw [hb]
      cases hl : Nat.ble (Nat.succ i) n with
      | false => rw [hl] at e; cases e
      | true => rw [hl] at e; exact optK_ok e
end
end A3
namespace A3
open Go
section
variable {k : KM} {t : Tmps} {q : Q} {h : T Obj} {m : Pos} {y : T Nat}
theorem keyOkX_eq (c : Cmp) (k : AV) : keyOkX c k = keyOk c k := by
  cases c with
  | one l => rfl
  | agg ls =>
    show (match viA k with | some a => Nat.beq (lenX a) (lenN ls) | none => false) = _
    cases k <;> first | rfl | skip
    rename_i a
    show Nat.beq (lenX a) (lenN ls) = _
    rw [lenX_eq]; rfl
theorem eqKeyX_eq (c : Cmp) (x y : AV) : eqKeyX c x y = eqKey c x y := by
  unfold eqKeyX eqKey; rw [keyOkX_eq, keyOkX_eq, eqByX_eq]; cases keyOk c x && keyOk c y <;> rfl
theorem mapFindX_eq (l : Cmp) (k : AV) (es : List (AV × AV)) : mapFindX l k es = mapFind l k es := by
  induction es with
  | nil => rfl
  | cons p es ih =>
    show (match eqKeyX l k p.1 with | none => none | some true => some (some p.2) | some false => mapFindX l k es) = _
    rw [ih, eqKeyX_eq]; simp only [mapFind]
    cases eqKey l k p.1 with
    | none => rfl
    | some b => cases b <;> rfl
theorem mapPutX_eq (l : Cmp) (k v : AV) (es : List (AV × AV)) : mapPutX l k v es = mapPut l k v es := by
  induction es with
  | nil => rfl
  | cons p es ih =>
    show (match eqKeyX l k p.1 with | none => none | some true => some ((k, v) :: es) | some false => match mapPutX l k v es with | none => none | some m => some (p :: m)) = _
    rw [ih, eqKeyX_eq]; simp only [mapPut]
    cases eqKey l k p.1 with
    | none => rfl
    | some b =>
      cases b
      · simp only; cases mapPut l k v es <;> rfl
      · rfl
theorem viM_none {v : AV} (e : viM v = some none) : v = .map none := by cases v <;> first | (cases e; rfl) | cases e
theorem viM_some {v : AV} {r : Pos} (e : viM v = some (some r)) : v = .map (some r) := by cases v <;> first | (cases e; rfl) | cases e
theorem mapOfX_eq (s : St) (r : Pos) : mapOfX s.heap r = mapOf s r := by
  unfold mapOfX mapOf; rw [getTO_eq]; cases s.heap.get r with
  | none => rfl
  | some o => cases o <;> rfl
theorem mapOfX_eq' (r : Pos) : mapOfX h r = mapOf ⟨h, m, y⟩ r := mapOfX_eq ⟨h, m, y⟩ r
theorem iLookup_ok {zero : AV} {l : Cmp} {x k' : Opd} {ok : Bool} (e : iLookup zero l x k' ok k t q h m y = true) : Ok (step (.lookup zero l x k' ok) t ⟨h, m, y⟩) k t q := by
  unfold iLookup at e; simp only [eO_eq, keyOkX_eq, mapFindX_eq] at e; simp only [step]
  cases hv : viM (x.eval t) with
  | none => rw [hv] at e; cases e
  | some r =>
    rw [hv] at e
    cases r with
    | none =>
      rw [viM_none hv]; simp only [lookupV] at e ⊢
      cases hk : keyOk l (k'.eval t) with
      | false => rw [hk] at e; cases e
      | true => rw [hk] at e; exact ⟨_, _, rfl, e⟩
    | some r =>
      rw [viM_some hv]; simp only [lookupV, mapOfX_eq' (m := m) (y := y)] at e ⊢
      cases hk : keyOk l (k'.eval t) with
      | false => rw [hk] at e; cases e
      | true =>
        cases hm : mapOf ⟨h, m, y⟩ r with
        | none => rw [hk, hm] at e; cases e
        | some es => rw [hk, hm] at e; exact optK_ok e
theorem iMapUpdate_ok {l : Cmp} {x k' v : Opd} (e : iMapUpdate l x k' v k t q h m y = true) : Ok (step (.mapUpdate l x k' v) t ⟨h, m, y⟩) k t q := by
  unfold iMapUpdate at e; simp only [eO_eq, keyOkX_eq, mapPutX_eq] at e; simp only [step]
  cases hv : viM (x.eval t) with
  | none => rw [hv] at e; cases e
  | some r =>
    rw [hv] at e
    cases r with
    | none => cases e
    | some r =>
      rw [viM_some hv]; simp only [mapUpdateR, mapOfX_eq' (m := m) (y := y)] at e ⊢
      cases hk : keyOk l (k'.eval t) with
      | false => rw [hk] at e; cases e
      | true =>
        cases hm : mapOf ⟨h, m, y⟩ r with
        | none => rw [hk, hm] at e; cases e
        | some es =>
          rw [hk, hm] at e; simp only at e ⊢
          cases hp : mapPut l (k'.eval t) (v.eval t) es with
          | none => rw [hp] at e; cases e
          | some es' =>
            rw [hp] at e
            refine ⟨_, _, rfl, ?_⟩
            have e : k .dead t q (setTO r (.map es') h) m y = true := e
            rw [setTO_eq] at e; exact e
theorem iExtract_ok {x : Opd} {i : Nat} (e : iExtract x i k t q h m y = true) : Ok (step (.extract x i) t ⟨h, m, y⟩) k t q := by
  unfold iExtract at e; rw [eO_eq] at e; simp only [step]
  cases hv : viU (x.eval t) with
  | none => rw [hv] at e; cases e
  | some vs =>
    rw [hv] at e; rw [viU_is hv]
    have e : optK (nthX vs i) k t q h m y = true := e
    rw [nthX_eq] at e; exact optK_ok e
theorem iLen_ok {kd : Kd} {x : Opd} (e : iLen kd x k t q h m y = true) : Ok (step (.bi (.len kd) [x]) t ⟨h, m, y⟩) k t q := by
  simp only [step, evals, biR]
  cases kd with
  | str =>
    have e : (match viT (eO x t) with | some b => (match fixedX b with | true => k (.int .i64 (Int.ofNat (lenXN b))) t q h m y | false => false) | none => false) = true := e
    rw [eO_eq] at e
    cases hv : viT (x.eval t) with
    | none => rw [hv] at e; cases e
    | some b =>
      rw [hv] at e; rw [viT_is hv]; simp only [fixedX_eq, lenXN_eq] at e; simp only [lenV]
      cases hf : fixedS b with
      | false => rw [hf] at e; cases e
      | true => rw [hf] at e; exact ⟨_, _, rfl, e⟩
  | slice =>
    have e : VS.rec (motive := fun _ => KM → M) (fun _ _ _ _ _ _ => false) (fun _ n _ _ k => k (.int .i64 (Int.ofNat n))) (viS (eO x t)) k t q h m y = true := e
    rw [eO_eq] at e
    cases hv : viS (x.eval t) with
    | no => rw [hv] at e; cases e
    | is a l c f => rw [hv] at e; rw [viS_is hv]; exact ⟨_, _, rfl, e⟩
  | map =>
    have e : (match viM (eO x t) with | some none => k (.int .i64 (Int.ofNat 0)) t q h m y | some (some r) => (match mapOfX h r with | some es => k (.int .i64 (Int.ofNat (lenN es))) t q h m y | none => false) | none => false) = true := e
    rw [eO_eq] at e
    cases hv : viM (x.eval t) with
    | none => rw [hv] at e; cases e
    | some r =>
      rw [hv] at e
      cases r with
      | none => rw [viM_none hv]; exact ⟨_, _, rfl, e⟩
      | some r =>
        rw [viM_some hv]; simp only [lenV, mapOfX_eq' (m := m) (y := y)] at e ⊢
        cases hm : mapOf ⟨h, m, y⟩ r with
        | none => rw [hm] at e; cases e
        | some es => rw [hm] at e; exact ⟨_, _, rfl, e⟩
  | arr n => cases e
theorem lenOfX_eq (v : AV) : lenOfX v = lenOf v := by
  unfold lenOfX
  cases v <;> first | rfl | skip
  rename_i b
  show (match fixedX b with | true => some (lenXN b) | false => none) = _
  rw [fixedX_eq, lenXN_eq]; rfl
theorem hasX_eq (s : St) (n : Pos) (ty : Option Nat) : hasX s.ty n ty = s.has n ty := by
  unfold hasX St.has
  cases ty with
  | none => rfl
  | some u =>
    simp only [getTN_eq]
    cases s.ty.get n <;> rfl
theorem growK_ok {size : Nat} {ty : Option Nat} {base : Option (Pos × Nat)} {sLen sCap n : Nat} {soft : Option Nat} {new : List AV} (h1 : Nat.ble (sLen + (n + 1)) sCap = false) (h2 : Nat.ble (sLen + (n + 1)) 1000000000 = true)
    (e : growK size ty base sLen (n + 1) soft new k t q h m y = true) : Ok (appendGo ⟨h, m, y⟩ size ty base sLen sCap soft (n + 1) new) k t q := by
  unfold growK at e
  have e0 : firstS h size base sLen = St.first ⟨h, m, y⟩ size (.slice base sLen sCap soft) sLen := firstS_eq ⟨h, m, y⟩ size base sLen sLen sCap soft
  rw [e0] at e; simp only [appendGo, h1, h2]
  cases hf : St.first ⟨h, m, y⟩ size (.slice base sLen sCap soft) sLen with
  | none => rw [hf] at e; cases e
  | some old =>
    rw [hf] at e; simp only [appX_eq] at e ⊢
    cases soft with
    | none => have e := softK_ok e; cases ty <;> exact e
    | some sz =>
      cases base with
      | none => cases e
      | some a =>
        obtain ⟨p, o⟩ := a
        simp only [getTO_eq] at e ⊢
        cases hg : h.get p with
        | none => rw [hg] at e; cases e
        | some ob =>
          rw [hg] at e
          cases ob with
          | cells cs ro g =>
            cases ro with
            | true => cases e
            | false =>
              cases g with
              | none => cases e
              | some gk =>
                obtain ⟨g, kk⟩ := gk
                simp only at e ⊢
                cases hgg : h.get g with
                | none => rw [hgg] at e; cases e
                | some og =>
                  rw [hgg] at e
                  cases og with
                  | grp cur floor r =>
                    cases r with
                    | true => cases e
                    | false =>
                      simp only [lenX_eq] at e ⊢
                      have hd : Nat.add o (Nat.mul sLen size) = o + sLen * size := rfl
                      rw [hd] at e
                      cases hb : Nat.beq cur kk && (Nat.ble floor kk && (Nat.beq (o + sLen * size) (lenN cs) && (!Nat.beq sLen 0 && Nat.beq sz size))) with
                      | false => rw [hb] at e; cases e
                      | true =>
                        rw [hb] at e
                        have e := newK_ok e
                        have hh : hasX y p ty = St.has ⟨h, m, y⟩ p ty := hasX_eq ⟨h, m, y⟩ p ty
                        obtain ⟨v, s, e1, e2⟩ := e
                        refine ⟨v, s, ?_, e2⟩
                        rw [← e1, hh, setTO_eq]
                        cases St.has ⟨h, m, y⟩ p ty <;> rfl
                  | _ => cases e
          | _ => cases e
theorem appendK_ok {size : Nat} {ty : Option Nat} {base : Option (Pos × Nat)} {sLen sCap n : Nat} {soft : Option Nat} {new : List AV}
    (e : appendK size ty base sLen sCap soft n new k t q h m y = true) : Ok (appendGo ⟨h, m, y⟩ size ty base sLen sCap soft n new) k t q := by
  unfold appendK at e
  cases n with
  | zero =>
    simp only [appendGo] at e ⊢
    cases hb : Nat.ble sLen sCap with
    | false => rw [hb] at e; cases e
    | true => rw [hb] at e; exact ⟨_, _, rfl, e⟩
  | succ n =>
    simp only at e
    have hd : Nat.add sLen (Nat.succ n) = sLen + (n + 1) := rfl
    rw [hd] at e
    cases hb : Nat.ble (sLen + (n + 1)) sCap with
    | true =>
      rw [hb] at e; simp only [appendGo, hb] at e ⊢
      cases base with
      | none => cases e
      | some a =>
        obtain ⟨p, o⟩ := a
        simp only at e ⊢
        have e := heapK_ok e
        rw [storeH_eq]
        have hd2 : Nat.add o (Nat.mul sLen size) = o + sLen * size := rfl
        rw [hd2] at e
        cases hs : storeH p (o + sLen * size) new h with
        | none => simp only [hs] at e; obtain ⟨v, s, e1, _⟩ := e; cases e1
        | some h' => simpa only [hs, Option.map] using e
    | false =>
      rw [hb] at e; simp only at e
      cases hb2 : Nat.ble (sLen + (n + 1)) 1000000000 with
      | false => rw [hb2] at e; cases e
      | true => rw [hb2] at e; exact growK_ok hb hb2 e
theorem iAppend_ok {size : Nat} {zero : List AV} {zeros : Bool} {ty : Option Nat} {l x : Opd} (e : iAppend size zero zeros ty l x k t q h m y = true) : Ok (step (.bi (.append size zero zeros ty) [l, x]) t ⟨h, m, y⟩) k t q := by
  unfold iAppend at e; simp only [eO_eq, natX_eq, repX_eq, lenOfX_eq] at e; simp only [step, evals, biR, St.append]
  cases hv : viS (l.eval t) with
  | no => rw [hv] at e; cases e
  | is base sLen sCap soft =>
    rw [hv] at e; rw [viS_is hv]
    cases zeros with
    | true =>
      simp only at e ⊢
      cases hn : natOf (x.eval t) with
      | none => rw [hn] at e; cases e
      | some n =>
        rw [hn] at e; simp only at e ⊢
        cases hb : Nat.ble n 100000 with
        | false => rw [hb] at e; cases e
        | true => rw [hb] at e; exact appendK_ok e
    | false =>
      simp only at e ⊢
      cases hn : lenOf (x.eval t) with
      | none => rw [hn] at e; cases e
      | some n =>
        rw [hn] at e; simp only at e ⊢
        have e0 : firstX h size (x.eval t) n = St.first ⟨h, m, y⟩ size (x.eval t) n := firstX_eq ⟨h, m, y⟩ size _ n
        rw [e0] at e
        cases hf : St.first ⟨h, m, y⟩ size (x.eval t) n with
        | none => rw [hf] at e; cases e
        | some new => rw [hf] at e; exact appendK_ok e
theorem cold_ok {o : AOp} (e : cold o k t q h m y = true) : Ok (step o t ⟨h, m, y⟩) k t q := resK_ok e
theorem iToUnsafe_ok {x : Opd} (e : iToUnsafe x k t q h m y = true) : Ok (step (.toUnsafe x) t ⟨h, m, y⟩) k t q := by
  unfold iToUnsafe at e; rw [eO_eq] at e; simp only [step]
  cases hv : viP (x.eval t) with
  | no => rw [hv] at e; cases e
  | nil => rw [hv] at e; rw [viP_nil hv]; exact ⟨_, _, rfl, e⟩
  | «at» p o =>
    rw [hv] at e; rw [viP_at hv]
    have e : (match okCells (St.heap ⟨h, m, y⟩) (getTO p (St.heap ⟨h, m, y⟩)) with
      | none => false
      | some cs => match Nat.ble (Nat.succ o) (lenX cs) with
        | true => k (.ptr (some (p, o))) t q h m y
        | false => false) = true := e
    rw [okCells_eq] at e; simp only [toUnsafeV]
    cases hc : St.cells ⟨h, m, y⟩ p with
    | none => rw [hc] at e; cases e
    | some cs =>
      rw [hc] at e; simp only [lenX_eq] at e ⊢
      have hb : Nat.blt o (lenN cs) = Nat.ble (Nat.succ o) (lenN cs) := rfl
      rw [hb]
      cases hl : Nat.ble (Nat.succ o) (lenN cs) with
      | false => rw [hl] at e; cases e
      | true => rw [hl] at e; exact ⟨_, _, rfl, e⟩
theorem iFromUnsafe_ok {tys : List (Nat × Nat × Nat)} {x : Opd} (e : iFromUnsafe tys x k t q h m y = true) : Ok (step (.fromUnsafe tys x) t ⟨h, m, y⟩) k t q := by
  unfold iFromUnsafe at e; rw [eO_eq] at e; simp only [step]
  cases hv : viP (x.eval t) with
  | no => rw [hv] at e; cases e
  | nil => rw [hv] at e; rw [viP_nil hv]; exact ⟨_, _, rfl, e⟩
  | «at» p o =>
    rw [hv] at e; rw [viP_at hv]
    have e : (match getTO p h with
      | some (.cells cs _ none) => match getTN p y with
        | none => false
        | some u => match isAt u o (lenX cs) tys with
          | true => k (.ptr (some (p, o))) t q h m y
          | false => false
      | _ => false) = true := e
    rw [getTO_eq, getTN_eq] at e; simp only [fromUnsafeV]
    cases hg : h.get p with
    | none => rw [hg] at e; cases e
    | some ob =>
      rw [hg] at e
      cases ob with
      | cells cs ro g =>
        cases g with
        | some gk => cases e
        | none =>
          simp only at e ⊢
          cases hy : y.get p with
          | none => rw [hy] at e; cases e
          | some u =>
            rw [hy] at e; simp only [lenX_eq] at e ⊢
            cases hl : isAt u o (lenN cs) tys with
            | false => rw [hl] at e; cases e
            | true => rw [hl] at e; exact ⟨_, _, rfl, e⟩
      | _ => cases e
theorem iSliceData_ok {x : Opd} (e : iSliceData x k t q h m y = true) : Ok (step (.bi .unsafeSliceData [x]) t ⟨h, m, y⟩) k t q := by
  unfold iSliceData at e; rw [eO_eq] at e; simp only [step, evals, biR]
  cases hv : viS (x.eval t) with
  | no => rw [hv] at e; cases e
  | is a l c f =>
    rw [hv] at e; rw [viS_is hv]
    cases a with
    | none => exact ⟨_, _, rfl, e⟩
    | some a => cases c with
      | zero => cases e
      | succ c => exact ⟨_, _, rfl, e⟩
theorem freezeX_eq (s : St) (n : Pos) (ho : s.owns n = true) : (freezeX s.heap n).map (fun h => { s with heap := h }) = freeze s n := by
  unfold freezeX freeze; rw [getTO_eq]
  unfold St.owns at ho
  cases hg : s.heap.get n with
  | none => rw [hg] at ho; cases ho
  | some ob =>
    rw [hg] at ho
    cases ob with
    | cells cs ro g =>
      cases ro with
      | true => cases ho
      | false =>
        cases g with
        | none => simp only [Option.map, setTO_eq, St.put]
        | some gk =>
          obtain ⟨g, kk⟩ := gk
          simp only [getTO_eq]
          cases s.heap.get g with
          | none => rfl
          | some og => cases og <;> simp only [Option.map, setTO_eq, St.put]
    | _ => cases ho
theorem freezeX_owns {h : T Obj} {n : Pos} {h' : T Obj} (e : freezeX h n = some h') : St.owns ⟨h, m, y⟩ n = true := by
  unfold freezeX at e; rw [getTO_eq] at e
  unfold St.owns
  show (match h.get n with | some (.cells _ false _) => true | _ => false) = true
  cases hg : h.get n with
  | none => rw [hg] at e; cases e
  | some ob =>
    rw [hg] at e
    cases ob with
    | cells cs ro g =>
      cases ro with
      | true => cases e
      | false => rfl
    | _ => cases e
theorem iUnsafeString_ok {tys : List Nat} {p n : Opd} (e : iUnsafeString tys p n k t q h m y = true) : Ok (step (.bi (.unsafeString tys) [p, n]) t ⟨h, m, y⟩) k t q := by
  unfold iUnsafeString at e; simp only [natX_eq, eO_eq] at e; simp only [step, evals, biR, unsafeStringR]
  cases hn : natOf (n.eval t) with
  | none => rw [hn] at e; cases e
  | some n =>
    rw [hn] at e
    cases n with
    | zero =>
      cases hv : viP (p.eval t) with
      | no => rw [hv] at e; cases e
      | nil => rw [hv] at e; rw [viP_nil hv]; exact ⟨_, _, rfl, e⟩
      | «at» a o => rw [hv] at e; rw [viP_at hv]; exact ⟨_, _, rfl, e⟩
    | succ n =>
      cases hv : viP (p.eval t) with
      | no => rw [hv] at e; cases e
      | nil => rw [hv] at e; cases e
      | «at» a o =>
        rw [hv] at e; rw [viP_at hv]; simp only at e ⊢
        have e0 : firstS h 1 (some (a, o)) (n + 1) = St.first ⟨h, m, y⟩ 1 (.slice (some (a, o)) (n + 1) (n + 1) none) (n + 1) := firstS_eq ⟨h, m, y⟩ 1 _ _ _ _ _
        rw [e0, bytesStrX_eq, getTN_eq] at e
        cases hb : bytesStr (St.first ⟨h, m, y⟩ 1 (.slice (some (a, o)) (n + 1) (n + 1) none) (n + 1)) with
        | none => rw [hb] at e; cases e
        | some v =>
          rw [hb] at e; simp only at e ⊢
          cases ht : hasTy tys (y.get a) with
          | false => rw [ht] at e; cases e
          | true =>
            cases hl : Nat.ble (n + 1) 1000000000 with
            | false => rw [ht, hl] at e; cases e
            | true =>
              rw [ht, hl] at e
              have e : heapK (freezeX h a) v k t q m y = true := e
              cases hf : freezeX h a with
              | none => rw [hf] at e; cases e
              | some h' =>
                rw [hf] at e
                have ho := freezeX_owns (m := m) (y := y) hf
                rw [ho]; simp only [Bool.and_self]
                rw [← freezeX_eq ⟨h, m, y⟩ a ho, hf]
                exact ⟨_, _, rfl, e⟩
theorem iCap_ok {x : Opd} (e : iCap x k t q h m y = true) : Ok (step (.bi .cap [x]) t ⟨h, m, y⟩) k t q := by
  unfold iCap at e; rw [eO_eq] at e; simp only [step, evals, biR]
  cases hv : viS (x.eval t) with
  | no => rw [hv] at e; cases e
  | is a l c f =>
    rw [hv] at e; rw [viS_is hv]
    cases f with
    | none => exact ⟨_, _, rfl, e⟩
    | some f => cases e
theorem viIf_is {v : AV} {tv : Nat × AV} (e : viIf v = some tv) : v = .iface tv.1 tv.2 := by cases v <;> first | (cases e; rfl) | cases e
theorem iTypeAssert_ok {ty : Nat} {zero : AV} {x : Opd} {ok : Bool} (e : iTypeAssert ty zero x ok k t q h m y = true) : Ok (step (.typeAssert ty zero x ok) t ⟨h, m, y⟩) k t q := by
  unfold iTypeAssert at e; rw [eO_eq] at e; simp only [step]
  cases hv : viIf (x.eval t) with
  | none => rw [hv] at e; exact optK_ok e
  | some uv =>
    rw [hv] at e; rw [viIf_is hv]; simp only [typeAssertV] at e ⊢
    cases hb : Nat.beq uv.1 ty with
    | true => rw [hb] at e; exact ⟨_, _, rfl, e⟩
    | false =>
      rw [hb] at e
      cases ok with
      | true => exact ⟨_, _, rfl, e⟩
      | false => cases e
theorem biK_ok {b : Bi} {args : List Opd} (e : biK b args k t q h m y = true) : Ok (step (.bi b args) t ⟨h, m, y⟩) k t q := by
  cases b with
  | len kd =>
    cases args with
    | nil => cases e
    | cons x l => cases l with
      | nil => exact iLen_ok e
      | cons _ _ => cases e
  | cap =>
    rcases args with _ | ⟨x, _ | ⟨_, _⟩⟩
    · cases e
    · exact iCap_ok e
    · cases e
  | unsafeSliceData =>
    rcases args with _ | ⟨x, _ | ⟨_, _⟩⟩
    · cases e
    · exact iSliceData_ok e
    · cases e
  | unsafeString tys =>
    rcases args with _ | ⟨p, _ | ⟨n, _ | ⟨_, _⟩⟩⟩
    · cases e
    · cases e
    · exact iUnsafeString_ok e
    · cases e
  | append size zero zeros ty =>
    rcases args with _ | ⟨l, _ | ⟨x, _ | ⟨_, _⟩⟩⟩
    · cases e
    · cases e
    · exact iAppend_ok e
    · cases e
  | _ => exact cold_ok e
def simple : AOp → Bool
  | .call .. | .invoke .. | .recover | .defer .. | .panic _ | .bad => false
  | _ => true
theorem opK_ok {o : AOp} {en : En} {kill : List Pos} (hs : simple o = true) (e : opK o en kill k t q h m y = true) : Ok (step o t ⟨h, m, y⟩) k t q := by
  cases o with
  | mov x => exact iMov_ok e
  | pick c a b => exact iPick_ok e
  | alloc ty zero => have e := newK_ok e; cases ty <;> exact e
  | box ty v => exact iBox_ok e
  | build zero parts => exact iBuild_ok e
  | buildSlice zero len parts => exact iBuildSlice_ok e
  | load n a => exact iLoad_ok e
  | store n a v => exact iStore_ok e
  | nilCheck x => exact iNilCheck_ok e
  | bin op x y' =>
    have e : optK (binX op (eO x t) (eO y' t)) k t q h m y = true := e
    rw [binX_eq, eO_eq, eO_eq] at e; exact optK_ok e
  | eql neg c x y' =>
    have e : optK (eqlV neg (eqByX c (eO x t) (eO y' t))) k t q h m y = true := e
    rw [eqByX_eq, eO_eq, eO_eq] at e; exact optK_ok e
  | un op x =>
    have e : optK (unX op (eO x t)) k t q h m y = true := e
    rw [unX_eq, eO_eq] at e; exact optK_ok e
  | convInt i x =>
    have e : optK (convIntX i (eO x t)) k t q h m y = true := e
    rw [convIntX_eq, eO_eq] at e; exact optK_ok e
  | toFlt x => exact cold_ok e
  | fltInt i x => exact cold_ok e
  | convBytes ty x => exact iConvBytes_ok e
  | toUnsafe x => exact iToUnsafe_ok e
  | fromUnsafe tys x => exact iFromUnsafe_ok e
  | convStr x => exact iConvStr_ok e
  | asStr x => exact cold_ok e
  | makeInterface ty x =>
    have e : k (.iface ty (eO x t)) t q h m y = true := e
    rw [eO_eq] at e; exact ⟨_, _, rfl, e⟩
  | makeFunc fn a b =>
    have e : k (.func fn (eOs a t) (eOs b t)) t q h m y = true := e
    rw [eOs_eq, eOs_eq] at e; exact ⟨_, _, rfl, e⟩
  | makeMap =>
    have e : newK none (.map []) mkMapV k t q h m y = true := e
    exact newK_ok e
  | makeSlice zero l c => exact iMakeSlice_ok e
  | slice kd size x lo hi mx => exact iSlice_ok e
  | fieldAddr off x => exact iFieldAddr_ok e
  | field off n x => exact iField_ok e
  | indexAddr arr size x i => exact iIndexAddr_ok e
  | indexStr x i => exact iIndexStr_ok e
  | indexArr n p size x i => exact iIndexArr_ok e
  | lookup zero l x k' ok => exact iLookup_ok e
  | mapUpdate l x k' v => exact iMapUpdate_ok e
  | mapEntry l zero x k' => exact cold_ok e
  | entryStore x i v => exact cold_ok e
  | typeAssert ty zero x ok => exact iTypeAssert_ok e
  | extract x i => exact iExtract_ok e
  | bi b args => exact biK_ok e
  | call f args => cases hs
  | invoke r ms args => cases hs
  | recover => cases hs
  | defer f args => cases hs
  | panic x => cases hs
  | bad => cases hs
theorem eqStrX_eq (a : List Nat) : ∀ b, eqStrX a b = eqStr a b := by
  induction a with
  | nil => intro b; cases b <;> rfl
  | cons c a ih =>
    intro b
    cases b with
    | nil => rfl
    | cons d b =>
      show Bool.rec (motive := fun _ => List Nat → (List Nat → Bool) → Bool) _ _ (Nat.beq c d) b (eqStrX a) = _
      simp only [eqStr]
      cases Nat.beq c d with
      | false => rfl
      | true => exact ih b
theorem same1_eq (v u : AV) (e : same1 v u = true) : same v u = true := by
  unfold same1 at e
  split at e
  · rename_i j a k b hv hu; rw [viI_is hv, viI_is hu]; simp only [same]; rw [← eqKX_eq, ← eqZ_eq]; exact e
  · split at e
    · rename_i p a q b hv hu; rw [viP_at hv, viP_at hu]; simp only [same, eqOA]; rw [← beqP_eq]; exact e
    · split at e
      · rename_i x l c f y m d g hv hu; rw [viS_is hv, viS_is hu]; simp only [same]
        have : eqOAX x y = eqOA x y := by cases x <;> cases y <;> first | rfl | (simp only [eqOAX, eqOA, beqP_eq])
        rw [← this]; exact e
      · split at e
        · rename_i a b hv hu; rw [viT_is hv, viT_is hu]; simp only [same]; rw [← eqStrX_eq]; exact e
        · exact e
theorem same1s_eq (a : List AV) : ∀ b, same1s a b = true → sames a b = true := by
  induction a with
  | nil => intro b e; cases b <;> first | rfl | cases e
  | cons v a ih =>
    intro b e
    cases b with
    | nil => cases e
    | cons u b =>
      have e : Bool.rec (motive := fun _ => List AV → (List AV → Bool) → Bool) (fun _ _ => false) (fun y ih => ih y) (same1 v u) b (same1s a) = true := e
      cases hs : same1 v u with
      | false => rw [hs] at e; cases e
      | true => rw [hs] at e; simp only [sames, same1_eq v u hs]; exact ih b e
theorem sameX_ok {v u : AV} (e : sameX v u = true) : same v u = true := by
  unfold sameX at e
  split at e
  · rename_i a b hv hu; rw [viA_is hv, viA_is hu]; simp only [same]; exact same1s_eq a b e
  · exact same1_eq v u e
theorem opK_no {o : AOp} (hs : simple o = false) : opK o enNo [] k t q h m y = false := by
  cases o <;> first | cases hs | skip
  · rfl
  · rename_i r ms args
    show (match viIf (eO r t) with | some tv => (match findM tv.1 ms with | some f => enNo.ap (.func (.fn f) [] []) (tv.2 :: eOs args t) ctxN (retK k enNo.K [] t q) h m y | none => false) | none => false) = false
    cases viIf (eO r t) with
    | none => rfl
    | some tv => simp only; cases findM tv.1 ms <;> rfl
  · rfl
  · rfl
  · rename_i x
    show (match viIf (eO x t) with | some tv => enNo.K (.panic (.iface tv.1 tv.2)) (killAll t []) q h m y | none => false) = false
    cases viIf (eO x t) <;> rfl
  · rfl
theorem wantedX_eq (t : Tmps) (g : Pos × Bool) : wanted t (some g) = (match wantedX t g with | .no => none | .t => some true | .f => some false) := by
  obtain ⟨p, w⟩ := g
  unfold wanted wantedX; rw [getT_eq]; simp only
  cases t.get p with
  | none => rfl
  | some v =>
    show _ = (match VB.rec (motive := fun _ => AV → Bool → VB) _ _ _ (viB v) v w with | .no => none | .t => some true | .f => some false)
    cases v with
    | bool b => cases b <;> cases w <;> rfl
    | tuple vs => cases vs <;> rfl
    | _ => rfl
theorem agnK_ok (l : List Again) {ih : M} (e : agnK l ih t q h m y = true) : again t ⟨h, m, y⟩ l = true ∧ ih t q h m y = true := by
  induction l with
  | nil => exact ⟨rfl, e⟩
  | cons r l hl =>
    have e : (match wanted t r.guard with
      | none => false
      | some false => agnK l ih t q h m y
      | some true => opK r.op enNo [] (agnE r.dst (agnK l ih) t q h m y) t q h m y) = true := by
      obtain ⟨dst, op, g⟩ := r
      cases g with
      | none => exact e
      | some g =>
        have e : VB.rec (motive := fun _ => Again → M → M) (fun _ _ _ _ _ _ _ => false) (fun r ih t q h m y => opK r.op enNo [] (agnE r.dst ih t q h m y) t q h m y) (fun _ ih => ih) (wantedX t g) (⟨dst, op, some g⟩ : Again) (agnK l ih) t q h m y = true := e
        simp only [wantedX_eq]
        cases hw : wantedX t g with
        | no => rw [hw] at e; cases e
        | t => rw [hw] at e; exact e
        | f => rw [hw] at e; exact e
    simp only [again]
    cases hw : wanted t r.guard with
    | none => rw [hw] at e; cases e
    | some b =>
      rw [hw] at e
      cases b with
      | false => exact hl e
      | true =>
        simp only at e ⊢
        cases hs : simple r.op with
        | false => rw [opK_no hs] at e; cases e
        | true =>
          obtain ⟨v, s, e1, e2⟩ := opK_ok hs e
          rw [e1]; unfold agnE at e2; rw [getT_eq] at e2
          cases hg : t.get r.dst with
          | none => rw [hg] at e2; cases e2
          | some u =>
            rw [hg] at e2; simp only at e2 ⊢
            cases hsm : sameX v u with
            | false => rw [hsm] at e2; cases e2
            | true =>
              rw [hsm] at e2; rw [sameX_ok hsm]
              exact hl e2
end
end A3
namespace A3
open Go
def Den (A : Prog) (r : Req) (x : Res) : Prop := ∃ n0, ∀ n, n0 ≤ n → den A n r = some x
section
variable {A : Prog} {x : Ctx} {fr fr1 : Fr} {s s1 : St} {r : Res}
theorem Den.step1 {r : Req} {x : Res} (f : (Req → Option Res) → Option Res) (hf : ∀ n, den A (n + 1) r = f (den A n)) (h : ∃ n0, ∀ n, n0 ≤ n → f (den A n) = some x) : Den A r x := by
  obtain ⟨n0, h⟩ := h
  refine ⟨n0 + 1, fun n hn => ?_⟩
  obtain ⟨m, rfl⟩ : ∃ m, n = m + 1 := ⟨n - 1, by omega⟩
  rw [hf m]; exact h m (by omega)
theorem Den.skip : Den A (.code .skip x fr s) (.ex .normal fr s) := ⟨1, fun n hn => by obtain ⟨m, rfl⟩ : ∃ m, n = m + 1 := ⟨n - 1, by omega⟩; rw [den]⟩
theorem Den.exit {id : Nat} : Den A (.code (.exit id) x fr s) (.ex (.exit id) fr s) := ⟨1, fun n hn => by obtain ⟨m, rfl⟩ : ∃ m, n = m + 1 := ⟨n - 1, by omega⟩; rw [den]⟩
theorem Den.ret : Den A (.code .ret x fr s) (.ex .ret fr s) := ⟨1, fun n hn => by obtain ⟨m, rfl⟩ : ∃ m, n = m + 1 := ⟨n - 1, by omega⟩; rw [den]⟩
theorem Den.region {ops : List AOper} (h : Den A (.ops ops x fr s) r) : Den A (.code (.region ops) x fr s) r := by
  obtain ⟨n0, h⟩ := h
  exact ⟨n0 + 1, fun n hn => by obtain ⟨m, rfl⟩ : ∃ m, n = m + 1 := ⟨n - 1, by omega⟩; rw [den]; exact h m (by omega)⟩
theorem Den.seq {a b : ACode} (h : Den A (.code a x fr s) (.ex .normal fr1 s1)) (h' : Den A (.code b x fr1 s1) r) : Den A (.code (.seq a b) x fr s) r := by
  obtain ⟨n0, h⟩ := h; obtain ⟨n1, h'⟩ := h'
  exact ⟨n0 + n1 + 1, fun n hn => by obtain ⟨m, rfl⟩ : ∃ m, n = m + 1 := ⟨n - 1, by omega⟩; rw [den]; simp only [h m (by omega)]; exact h' m (by omega)⟩
theorem Den.seq' {a b : ACode} {e : Ex} (he : e ≠ .normal) (h : Den A (.code a x fr s) (.ex e fr1 s1)) : Den A (.code (.seq a b) x fr s) (.ex e fr1 s1) := by
  obtain ⟨n0, h⟩ := h
  refine ⟨n0 + 1, fun n hn => ?_⟩
  obtain ⟨m, rfl⟩ : ∃ m, n = m + 1 := ⟨n - 1, by omega⟩
  rw [den]; simp only [h m (by omega)]
  cases e <;> first | exact absurd rfl he | rfl
theorem Den.condT {c : Opd} {a b : ACode} (hc : c.eval fr.tmps = .bool true) (h : Den A (.code a x fr s) r) : Den A (.code (.cond c a b) x fr s) r := by
  obtain ⟨n0, h⟩ := h
  exact ⟨n0 + 1, fun n hn => by obtain ⟨m, rfl⟩ : ∃ m, n = m + 1 := ⟨n - 1, by omega⟩; rw [den]; simp only [hc]; exact h m (by omega)⟩
theorem Den.condF {c : Opd} {a b : ACode} (hc : c.eval fr.tmps = .bool false) (h : Den A (.code b x fr s) r) : Den A (.code (.cond c a b) x fr s) r := by
  obtain ⟨n0, h⟩ := h
  exact ⟨n0 + 1, fun n hn => by obtain ⟨m, rfl⟩ : ∃ m, n = m + 1 := ⟨n - 1, by omega⟩; rw [den]; simp only [hc]; exact h m (by omega)⟩
theorem Den.block {id : Nat} {b : ACode} {e : Ex} (h : Den A (.code b x fr s) (.ex e fr1 s1)) :
    Den A (.code (.block id b) x fr s) (.ex (match e with | .exit j => if j = id then .normal else .exit j | e => e) fr1 s1) := by
  obtain ⟨n0, h⟩ := h
  refine ⟨n0 + 1, fun n hn => ?_⟩
  obtain ⟨m, rfl⟩ : ∃ m, n = m + 1 := ⟨n - 1, by omega⟩
  rw [den]; simp only [h m (by omega)]
  cases e <;> first | rfl | skip
  simp only; split <;> rfl
theorem Den.loop {b : ACode} (h : Den A (.code b x fr s) (.ex .normal fr1 s1)) (h' : Den A (.code (.loop b) x fr1 s1) r) : Den A (.code (.loop b) x fr s) r := by
  obtain ⟨n0, h⟩ := h; obtain ⟨n1, h'⟩ := h'
  exact ⟨n0 + n1 + 1, fun n hn => by obtain ⟨m, rfl⟩ : ∃ m, n = m + 1 := ⟨n - 1, by omega⟩; rw [den]; simp only [h m (by omega)]; exact h' m (by omega)⟩
theorem Den.loop' {b : ACode} {e : Ex} (he : e ≠ .normal) (h : Den A (.code b x fr s) (.ex e fr1 s1)) : Den A (.code (.loop b) x fr s) (.ex e fr1 s1) := by
  obtain ⟨n0, h⟩ := h
  refine ⟨n0 + 1, fun n hn => ?_⟩
  obtain ⟨m, rfl⟩ : ∃ m, n = m + 1 := ⟨n - 1, by omega⟩
  rw [den]; simp only [h m (by omega)]
  cases e <;> first | exact absurd rfl he | rfl
theorem Den.rangePanic {f : Opd} {params : List Pos} {asg body : ACode} {v : AV} {rc : Bool} (hr : roundOk x s = true)
    (h : Den A (.apply (f.eval fr.tmps) [.func (.yield s.next) [] []] ctxN (s.alloc (.loop { st := .ready, pending := none, tmps := fr.tmps, params, assign := asg, body }))) (.out (.panic v) rc s1)) :
    Den A (.code (.rangeFunc f params asg body) x fr s) (.ex (.panic v) fr s1) := by
  obtain ⟨n0, h⟩ := h
  exact ⟨n0 + 1, fun n hn => by obtain ⟨m, rfl⟩ : ∃ m, n = m + 1 := ⟨n - 1, by omega⟩; rw [den]; simp only [hr, h m (by omega)]⟩
theorem Den.rangeRet {f : Opd} {params : List Pos} {asg body : ACode} {v : AV} {rc : Bool} {l : ALoop} (hr : roundOk x s = true)
    (h : Den A (.apply (f.eval fr.tmps) [.func (.yield s.next) [] []] ctxN (s.alloc (.loop { st := .ready, pending := none, tmps := fr.tmps, params, assign := asg, body }))) (.out (.ret v) rc s1))
    (hl : s1.heap.get s.next = some (.loop l)) (hb : l.st ≠ .busy) :
    Den A (.code (.rangeFunc f params asg body) x fr s) (.ex (match l.pending with | none => .normal | some e => e) fr (s1.put s.next (.loop { l with st := .exhausted }))) := by
  obtain ⟨n0, h⟩ := h
  refine ⟨n0 + 1, fun n hn => ?_⟩
  obtain ⟨m, rfl⟩ : ∃ m, n = m + 1 := ⟨n - 1, by omega⟩
  rw [den]; simp only [hr, h m (by omega), hl]
  cases hq : l.st <;> first | exact absurd hq hb | rfl
variable {l : List AOper} {o : AOper}
theorem Den.nil : Den A (.ops [] x fr s) (.ex .normal fr s) := ⟨1, fun n hn => by obtain ⟨m, rfl⟩ : ∃ m, n = m + 1 := ⟨n - 1, by omega⟩; rw [den]⟩
theorem Den.unwanted (hw : wanted fr.tmps o.guard = some false) (h : Den A (.ops l x { fr with tmps := putDst fr.tmps o.dst (.tuple []) } s) r) : Den A (.ops (o :: l) x fr s) r := by
  obtain ⟨n0, h⟩ := h
  exact ⟨n0 + 1, fun n hn => by obtain ⟨m, rfl⟩ : ∃ m, n = m + 1 := ⟨n - 1, by omega⟩; rw [den]; simp only [hw]; exact h m (by omega)⟩
theorem Den.next {v : AV} {f1 : Fr} (_hw : wanted fr.tmps o.guard = some true) (ha : again (putDst f1.tmps o.dst v) s1 o.again = true) (h : Den A (.ops l x { f1 with tmps := putDst f1.tmps o.dst v } s1) r)
    (hd : ∃ n0, ∀ n, n0 ≤ n → den A (n + 1) (.ops (o :: l) x fr s) = (match again (putDst f1.tmps o.dst v) s1 o.again with | true => den A n (.ops l x { f1 with tmps := putDst f1.tmps o.dst v } s1) | false => none)) : Den A (.ops (o :: l) x fr s) r := by
  obtain ⟨n0, h⟩ := h; obtain ⟨n1, hd⟩ := hd
  refine ⟨n0 + n1 + 1, fun n hn => ?_⟩
  obtain ⟨m, rfl⟩ : ∃ m, n = m + 1 := ⟨n - 1, by omega⟩
  rw [hd m (by omega), ha]; exact h m (by omega)
end
section
variable {A : Prog} {ap : APK} {t : Tmps} {q : Q} {h : T Obj} {m : Pos} {y : T Nat}
def ApOk (A : Prog) (ap : APK) : Prop := ∀ f args x K h m y, ap f args x K h m y = true → ∃ o rc s, Den A (.apply f args x ⟨h, m, y⟩) (.out o rc s) ∧ K o rc s.heap s.next s.ty = true
def frOf (t : Tmps) (q : Q) : Fr := { tmps := t, defers := q.ds, recd := q.rc }
theorem nextK_ok {dst : Option Pos} {ag : List Again} {ih : M} {v : AV} (e : nextK dst ag ih v t q h m y = true) : again (putDst t dst v) ⟨h, m, y⟩ ag = true ∧ ih (putDst t dst v) q h m y = true := by
  cases dst with
  | none =>
    cases ag with
    | nil => exact ⟨rfl, e⟩
    | cons a l => exact agnK_ok (a :: l) e
  | some d =>
    simp only [putDst, ← setT_eq]
    cases ag with
    | nil => exact ⟨rfl, e⟩
    | cons a l => exact agnK_ok (a :: l) e
theorem retK_ret {k : KM} {K : Ex → M} {kill : List Pos} {v : AV} {rc : Bool} : retK k K kill t q (.ret v) rc h m y = k v t q h m y := rfl
theorem retK_panic {k : KM} {K : Ex → M} {kill : List Pos} {v : AV} {rc : Bool} : retK k K kill t q (.panic v) rc h m y = K (.panic v) (killAll t kill) q h m y := rfl
theorem isFunc_is {v : AV} (e : isFunc v = true) : ∃ f a b, v = .func f a b := by cases v <;> first | exact ⟨_, _, _, rfl⟩ | cases e
theorem op_ok (hap : ApOk A ap) {x : Ctx} {K : Ex → M} {dst : Option Pos} {op : AOp} {g : Option (Pos × Bool)} {ag : List Again} {kill : List Pos} {l : List AOper} {ih : M}
    (hih : ∀ t q h m y, ih t q h m y = true → ∃ e t' q' s, Den A (.ops l x (frOf t q) ⟨h, m, y⟩) (.ex e (frOf t' q') s) ∧ K e t' q' s.heap s.next s.ty = true)
    (hw : wanted t g = some true) (e : opK op ⟨ap, x, K⟩ kill (nextK dst ag ih) t q h m y = true) :
    ∃ e t' q' s, Den A (.ops (⟨dst, op, g, ag, kill⟩ :: l) x (frOf t q) ⟨h, m, y⟩) (.ex e (frOf t' q') s) ∧ K e t' q' s.heap s.next s.ty = true := by
  cases hs : simple op with
  | true =>
    obtain ⟨v, s, e1, e2⟩ := opK_ok hs e
    obtain ⟨ha, e3⟩ := nextK_ok e2
    obtain ⟨e', t', q', s', hd, hk⟩ := hih _ _ _ _ _ e3
    refine ⟨e', t', q', s', Den.next (v := v) (f1 := frOf t q) (s1 := s) hw ha hd ⟨0, fun n _ => ?_⟩, hk⟩
    rw [den]
    have hw' : wanted (frOf t q).tmps g = some true := hw
    simp only [hw']
    cases op <;> first | (cases hs; done) | (simp only [show (frOf t q).tmps = t from rfl, e1]; done) | (simp only [show (frOf t q).tmps = t from rfl, e1]; rfl)
  | false =>
    cases op <;> first | cases hs | skip
    · rename_i f args
      have e : ap (eO f t) (eOs args t) ctxN (retK (nextK dst ag ih) K kill t q) h m y = true := e
      rw [eO_eq, eOs_eq] at e
      obtain ⟨o, rc, s, ⟨n0, hd0⟩, e1⟩ := hap _ _ _ _ _ _ _ e
      cases o with
      | ret v =>
        rw [retK_ret] at e1
        obtain ⟨ha, e3⟩ := nextK_ok e1
        obtain ⟨e', t', q', s', hd, hk⟩ := hih _ _ _ _ _ e3
        refine ⟨e', t', q', s', Den.next (v := v) (f1 := frOf t q) (s1 := s) hw ha hd ⟨n0, fun n hn => ?_⟩, hk⟩
        rw [den]
        have hw' : wanted (frOf t q).tmps g = some true := hw
        simp only [show (frOf t q).tmps = t from rfl, hw, hd0 n hn]; rfl
      | panic v =>
        rw [retK_panic] at e1
        refine ⟨.panic v, killAll t kill, q, s, ⟨n0 + 1, fun n hn => ?_⟩, e1⟩
        obtain ⟨m, rfl⟩ : ∃ m, n = m + 1 := ⟨n - 1, by omega⟩
        rw [den]
        have hw' : wanted (frOf t q).tmps g = some true := hw
        simp only [show (frOf t q).tmps = t from rfl, hw, hd0 m (by omega)]; rfl
    · rename_i r ms args
      have e : (match viIf (eO r t) with
        | some tv => (match findM tv.1 ms with
          | some f => ap (.func (.fn f) [] []) (tv.2 :: eOs args t) ctxN (retK (nextK dst ag ih) K kill t q) h m y
          | none => false)
        | none => false) = true := e
      rw [eO_eq] at e
      cases hv : viIf (r.eval t) with
      | none => rw [hv] at e; cases e
      | some tv =>
        rw [hv] at e; simp only at e
        cases hf : findM tv.1 ms with
        | none => rw [hf] at e; cases e
        | some f =>
          rw [hf] at e; simp only [eOs_eq] at e
          obtain ⟨o, rc, s, ⟨n0, hd0⟩, e1⟩ := hap _ _ _ _ _ _ _ e
          have hw' : wanted (frOf t q).tmps g = some true := hw
          have hr := viIf_is hv
          cases o with
          | ret v =>
            rw [retK_ret] at e1
            obtain ⟨ha, e3⟩ := nextK_ok e1
            obtain ⟨e', t', q', s', hd, hk⟩ := hih _ _ _ _ _ e3
            refine ⟨e', t', q', s', Den.next (v := v) (f1 := frOf t q) (s1 := s) hw ha hd ⟨n0, fun n hn => ?_⟩, hk⟩
            rw [den]
            simp only [show (frOf t q).tmps = t from rfl, hw, hr, hf, hd0 n hn]; rfl
          | panic v =>
            rw [retK_panic] at e1
            refine ⟨.panic v, killAll t kill, q, s, ⟨n0 + 1, fun n hn => ?_⟩, e1⟩
            obtain ⟨m, rfl⟩ : ∃ m, n = m + 1 := ⟨n - 1, by omega⟩
            rw [den]
            simp only [show (frOf t q).tmps = t from rfl, hw, hr, hf, hd0 m (by omega)]; rfl
    · have e : (match x.round with
        | some _ => false
        | none => match x.pend with
          | some (some v) => (match q.rc with
            | false => nextK dst ag ih v t ⟨q.ds, true⟩ h m y
            | true => nextK dst ag ih .nilIface t q h m y)
          | _ => nextK dst ag ih .nilIface t q h m y) = true := e
      have hw' : wanted (frOf t q).tmps g = some true := hw
      cases hr : x.round with
      | some l => rw [hr] at e; cases e
      | none =>
        rw [hr] at e; simp only at e
        have nilCase : (∀ v, x.pend = some (some v) → q.rc = true) → nextK dst ag ih .nilIface t q h m y = true → ∃ e t' q' s, Den A (.ops (⟨dst, .recover, g, ag, kill⟩ :: l) x (frOf t q) ⟨h, m, y⟩) (.ex e (frOf t' q') s) ∧ K e t' q' s.heap s.next s.ty = true := by
          intro hp e
          obtain ⟨ha, e3⟩ := nextK_ok e
          obtain ⟨e', t', q', s', hd, hk⟩ := hih _ _ _ _ _ e3
          refine ⟨e', t', q', s', Den.next (v := .nilIface) (f1 := frOf t q) (s1 := ⟨h, m, y⟩) hw ha hd ⟨0, fun n _ => ?_⟩, hk⟩
          rw [den]; simp only [hw', hr]
          cases hp1 : x.pend with
          | none => rfl
          | some p => cases p with
            | none => rfl
            | some v =>
              have : (frOf t q).recd = true := hp v hp1
              simp only [this]; rfl
        cases hp1 : x.pend with
        | none => rw [hp1] at e; exact nilCase (fun v hv => by rw [hp1] at hv; cases hv) e
        | some p =>
          rw [hp1] at e
          cases p with
          | none => exact nilCase (fun v hv => by rw [hp1] at hv; cases hv) e
          | some v =>
            simp only at e
            cases hq : q.rc with
            | true => rw [hq] at e; exact nilCase (fun _ _ => hq) e
            | false =>
              rw [hq] at e
              obtain ⟨ha, e3⟩ := nextK_ok e
              obtain ⟨e', t', q', s', hd, hk⟩ := hih _ _ _ _ _ e3
              refine ⟨e', t', q', s', Den.next (v := v) (f1 := frOf t ⟨q.ds, true⟩) (s1 := ⟨h, m, y⟩) hw ha hd ⟨0, fun n _ => ?_⟩, hk⟩
              rw [den]
              have : (frOf t q).recd = false := hq
              simp only [hw', hr, hp1, this]; rfl
    · rename_i f args
      have e : (match x.round with
        | some _ => false
        | none => match isFunc (eO f t) with
          | true => nextK dst ag ih .dead t ⟨⟨eO f t, eOs args t⟩ :: q.ds, q.rc⟩ h m y
          | false => false) = true := e
      have hw' : wanted (frOf t q).tmps g = some true := hw
      rw [eO_eq, eOs_eq] at e
      cases hr : x.round with
      | some l => rw [hr] at e; cases e
      | none =>
        rw [hr] at e; simp only at e
        cases hf : isFunc (f.eval t) with
        | false => rw [hf] at e; cases e
        | true =>
          rw [hf] at e
          obtain ⟨ha, e3⟩ := nextK_ok e
          obtain ⟨e', t', q', s', hd, hk⟩ := hih _ _ _ _ _ e3
          refine ⟨e', t', q', s', Den.next (v := .dead) (f1 := frOf t ⟨⟨f.eval t, evals t args⟩ :: q.ds, q.rc⟩) (s1 := ⟨h, m, y⟩) hw ha hd ⟨0, fun n _ => ?_⟩, hk⟩
          obtain ⟨fn, a, b, hfe⟩ := isFunc_is hf
          rw [den]
          have : f.eval (frOf t q).tmps = .func fn a b := hfe
          simp only [hw', hr, this, hfe]; rfl
    · rename_i v
      have e : (match viIf (eO v t) with
        | some tv => K (.panic (.iface tv.1 tv.2)) (killAll t kill) q h m y
        | none => false) = true := e
      have hw' : wanted (frOf t q).tmps g = some true := hw
      rw [eO_eq] at e
      cases hv : viIf (v.eval t) with
      | none => rw [hv] at e; cases e
      | some tv =>
        rw [hv] at e
        refine ⟨.panic (.iface tv.1 tv.2), killAll t kill, q, ⟨h, m, y⟩, ⟨1, fun n hn => ?_⟩, e⟩
        obtain ⟨m, rfl⟩ : ∃ m, n = m + 1 := ⟨n - 1, by omega⟩
        rw [den]
        have : v.eval (frOf t q).tmps = .iface tv.1 tv.2 := viIf_is hv
        simp only [hw', this]; rfl
    · cases e
theorem ops_ok (hap : ApOk A ap) {x : Ctx} {K : Ex → M} (l : List AOper) : ∀ t q h m y, opsK l ⟨ap, x, K⟩ t q h m y = true →
    ∃ e t' q' s, Den A (.ops l x (frOf t q) ⟨h, m, y⟩) (.ex e (frOf t' q') s) ∧ K e t' q' s.heap s.next s.ty = true := by
  induction l with
  | nil => intro t q h m y e; exact ⟨.normal, t, q, ⟨h, m, y⟩, Den.nil, e⟩
  | cons o l hl =>
    intro t q h m y e
    obtain ⟨dst, op, g, ag, kill⟩ := o
    cases g with
    | none =>
      have e : opK op ⟨ap, x, K⟩ kill (nextK dst ag (opsK l ⟨ap, x, K⟩)) t q h m y = true := e
      exact op_ok hap hl rfl e
    | some g =>
      have e : (match wanted t (some g) with
        | none => false
        | some false => opsK l ⟨ap, x, K⟩ (putDst t dst (.tuple [])) q h m y
        | some true => opK op ⟨ap, x, K⟩ kill (nextK dst ag (opsK l ⟨ap, x, K⟩)) t q h m y) = true := by
        have e : VB.rec (motive := fun _ => AOp → En → List Pos → Option Pos → KM → M → M) (fun _ _ _ _ _ _ _ _ _ _ _ => false)
          (fun o e kill _ k _ => opK o e kill k) (fun _ _ _ dst _ ih t => Option.rec (motive := fun _ => M → M) (fun ih => ih) (fun d ih t => ih (setT d (.tuple []) t)) dst ih t) (wantedX t g) op ⟨ap, x, K⟩ kill dst (nextK dst ag (opsK l ⟨ap, x, K⟩)) (opsK l ⟨ap, x, K⟩) t q h m y = true := e
        rw [wantedX_eq]
        cases hw : wantedX t g with
        | no => rw [hw] at e; cases e
        | t => rw [hw] at e; exact e
        | f =>
          rw [hw] at e
          cases dst with
          | none => exact e
          | some d => simp only [putDst, ← setT_eq]; exact e
      cases hw : wanted t (some g) with
      | none => rw [hw] at e; cases e
      | some b =>
        rw [hw] at e
        cases b with
        | true => exact op_ok hap hl hw e
        | false =>
          obtain ⟨e', t', q', s', hd, hk⟩ := hl _ _ _ _ _ e
          exact ⟨e', t', q', s', Den.unwanted (o := ⟨dst, op, some g, ag, kill⟩) hw hd, hk⟩
theorem code_ok (hap : ApOk A ap) (c : ACode) : ∀ x K t q h m y, codeK c ap x K t q h m y = true →
    ∃ e t' q' s, Den A (.code c x (frOf t q) ⟨h, m, y⟩) (.ex e (frOf t' q') s) ∧ K e t' q' s.heap s.next s.ty = true := by
  induction c with
  | skip => intro x K t q h m y e; exact ⟨.normal, t, q, ⟨h, m, y⟩, Den.skip, e⟩
  | exit id => intro x K t q h m y e; exact ⟨.exit id, t, q, ⟨h, m, y⟩, Den.exit, e⟩
  | ret => intro x K t q h m y e; exact ⟨.ret, t, q, ⟨h, m, y⟩, Den.ret, e⟩
  | bad => intro x K t q h m y e; cases e
  | region ops =>
    intro x K t q h m y e
    obtain ⟨e', t', q', s', hd, hk⟩ := ops_ok hap ops _ _ _ _ _ e
    exact ⟨e', t', q', s', Den.region hd, hk⟩
  | seq a b iha ihb =>
    intro x K t q h m y e
    obtain ⟨e1, t1, q1, s1, hd1, hk1⟩ := iha x (seqN (codeK b) ap x K) t q h m y e
    cases e1 with
    | normal =>
      obtain ⟨e', t', q', s', hd, hk⟩ := ihb x K t1 q1 _ _ _ hk1
      exact ⟨e', t', q', s', Den.seq hd1 hd, hk⟩
    | exit id => exact ⟨_, t1, q1, s1, Den.seq' (by intro h; cases h) hd1, hk1⟩
    | ret => exact ⟨_, t1, q1, s1, Den.seq' (by intro h; cases h) hd1, hk1⟩
    | panic v => exact ⟨_, t1, q1, s1, Den.seq' (by intro h; cases h) hd1, hk1⟩
  | cond c a b iha ihb =>
    intro x K t q h m y e
    have e : VB.rec (motive := fun _ => (APK → Ctx → (Ex → M) → M) → (APK → Ctx → (Ex → M) → M) → APK → Ctx → (Ex → M) → M)
      (fun _ _ _ _ _ _ _ _ _ _ => false) (fun a _ => a) (fun _ b => b) (viB (eO c t)) (codeK a) (codeK b) ap x K t q h m y = true := e
    rw [eO_eq] at e
    cases hv : viB (c.eval t) with
    | no => rw [hv] at e; cases e
    | t =>
      rw [hv] at e
      obtain ⟨e', t', q', s', hd, hk⟩ := iha x K t q h m y e
      exact ⟨e', t', q', s', Den.condT (viB_t hv) hd, hk⟩
    | f =>
      rw [hv] at e
      obtain ⟨e', t', q', s', hd, hk⟩ := ihb x K t q h m y e
      exact ⟨e', t', q', s', Den.condF (viB_f hv) hd, hk⟩
  | block id b ihb =>
    intro x K t q h m y e
    obtain ⟨e1, t1, q1, s1, hd1, hk1⟩ := ihb x (blockN id K) t q h m y e
    refine ⟨_, t1, q1, s1, Den.block hd1, ?_⟩
    cases e1 with
    | normal => exact hk1
    | ret => exact hk1
    | panic v => exact hk1
    | exit j =>
      have hk1 : Bool.rec (motive := fun _ => Nat → (Ex → M) → M) (fun j K => K (.exit j)) (fun _ K => K .normal) (Nat.beq j id) j K t1 q1 s1.heap s1.next s1.ty = true := hk1
      simp only
      cases hb : Nat.beq j id with
      | true => rw [hb] at hk1; rw [if_pos (beq_iff'.1 hb)]; exact hk1
      | false =>
        rw [hb] at hk1
        rw [if_neg (fun hj => by rw [beq_iff'.2 hj] at hb; cases hb)]; exact hk1
  | loop b ihb =>
    intro x K t q h m y e
    have key : ∀ n t q h m y, loopR (codeK b ap x) K n t q h m y = true → ∃ e t' q' s, Den A (.code (.loop b) x (frOf t q) ⟨h, m, y⟩) (.ex e (frOf t' q') s) ∧ K e t' q' s.heap s.next s.ty = true := by
      intro n
      induction n with
      | zero => intro t q h m y e; cases e
      | succ n hn =>
        intro t q h m y e
        obtain ⟨e1, t1, q1, s1, hd1, hk1⟩ := ihb x (loopN (loopR (codeK b ap x) K n) K) t q h m y e
        cases e1 with
        | normal =>
          obtain ⟨e', t', q', s', hd, hk⟩ := hn _ _ _ _ _ hk1
          exact ⟨e', t', q', s', Den.loop hd1 hd, hk⟩
        | exit id => exact ⟨_, t1, q1, s1, Den.loop' (by intro h; cases h) hd1, hk1⟩
        | ret => exact ⟨_, t1, q1, s1, Den.loop' (by intro h; cases h) hd1, hk1⟩
        | panic v => exact ⟨_, t1, q1, s1, Den.loop' (by intro h; cases h) hd1, hk1⟩
    have e : loopR (codeK b ap x) K 1000000000 t q h m y = true := e
    exact key _ _ _ _ _ _ e
  | rangeFunc f params asg body _ _ =>
    intro x K t q h m y e
    have e : (match roundOk x ⟨h, m, y⟩ with
      | false => false
      | true => ap (eO f t) [.func (.yield m) [] []] ctxN (rangeE m K t q) (setTO m (.loop { st := .ready, pending := none, tmps := t, params := params, assign := asg, body := body }) h) (succX m) y) = true := e
    cases hr : roundOk x ⟨h, m, y⟩ with
    | false => rw [hr] at e; cases e
    | true =>
      rw [hr] at e; simp only [eO_eq, setTO_eq, succX_eq] at e
      obtain ⟨o, rc, s, hd, e1⟩ := hap _ _ _ _ _ _ _ e
      cases o with
      | panic v => exact ⟨_, t, q, s, Den.rangePanic (fr := frOf t q) hr hd, e1⟩
      | ret v =>
        have e1 : (match getTO m s.heap with
          | some (.loop r) => match r.st with
            | .busy => false
            | _ => K (match r.pending with | none => .normal | some e => e) t q (setTO m (.loop { r with st := .exhausted }) s.heap) s.next s.ty
          | _ => false) = true := e1
        rw [getTO_eq] at e1
        cases hg : s.heap.get m with
        | none => rw [hg] at e1; cases e1
        | some ob =>
          rw [hg] at e1
          cases ob with
          | loop r =>
            simp only [setTO_eq] at e1
            have hb : r.st ≠ .busy := by intro hb; rw [hb] at e1; cases e1
            refine ⟨_, t, q, _, Den.rangeRet (fr := frOf t q) hr hd hg hb, ?_⟩
            cases hq : r.st <;> rw [hq] at e1 <;> first | exact absurd hq hb | exact e1
          | _ => cases e1
end
end A3
namespace A3
open Go
theorem setParamsX_eq (ps : List Pos) : ∀ vs t, setParamsX ps vs t = setParams ps vs t := by
  induction ps with
  | nil => intro vs t; cases vs <;> rfl
  | cons p ps ih =>
    intro vs t
    cases vs with
    | nil => rfl
    | cons v vs =>
      show setParamsX ps vs (setT p v t) = _
      rw [ih, setT_eq]; rfl
theorem orDead_get (t : Tmps) (i : Pos) : orDead (getT i t) = (match t.get i with | some v => v | none => .dead) := by
  rw [getT_eq]; cases t.get i <;> rfl
theorem resultX_eq (s : St) (t : Tmps) (r : ARes) : resultX s.heap t r = resultOf s t r := by
  cases r with
  | tmp i => show some (orDead (getT i t)) = _; rw [orDead_get]; rfl
  | cell a n =>
    show VP.rec (motive := fun _ => Option Nat → T Obj → Option AV) (fun _ _ => none) (fun _ _ => none) (fun p o n h => loadX p o n h) (viP (orDead (getT a t))) n s.heap = _
    rw [orDead_get]; simp only [resultOf]
    cases hg : t.get a with
    | none => rfl
    | some v =>
      simp only
      cases hv : viP v with
      | no => cases v <;> first | rfl | skip
              rename_i p; rcases p with _ | ⟨p, o⟩ <;> cases hv
      | nil => rw [viP_nil hv]
      | «at» p o => rw [viP_at hv]; exact loadX_eq p o n s
theorem resultsX_eq (s : St) (t : Tmps) (l : List ARes) : resultsX s.heap t l = resultsOf s t l := by
  induction l with
  | nil => rfl
  | cons r l ih =>
    show Option.rec (motive := fun _ => (T Obj → Tmps → Option (List AV)) → T Obj → Tmps → Option (List AV)) (fun _ _ _ => none) (fun v ih h t => consO v (ih h t)) (resultX s.heap t r) (fun h t => resultsX h t l) s.heap t = _
    rw [resultX_eq]; simp only [resultsOf]
    cases resultOf s t r with
    | none => rfl
    | some v =>
      show consO v (resultsX s.heap t l) = _
      rw [ih]; cases resultsOf s t l <;> rfl
theorem oneOfX_eq (vs : List AV) : oneOfX vs = oneOf vs := by
  rcases vs with _ | ⟨v, _ | ⟨w, l⟩⟩ <;> rfl
section
variable {A : Prog} {ap : APK}
theorem leave_ok (hap : ApOk A ap) (f : AFunc) (q : Q) (t : Tmps) (ds : List ADefer) : ∀ p K h m y, leaveK ap f ds p t q.rc K h m y = true →
    ∃ o rc s, Den A (.leave f p ds (frOf t q) ⟨h, m, y⟩) (.out o rc s) ∧ K o rc s.heap s.next s.ty = true := by
  induction ds with
  | nil =>
    intro p K h m y e
    cases p with
    | some v => exact ⟨.panic v, q.rc, ⟨h, m, y⟩, ⟨1, fun n hn => by obtain ⟨m, rfl⟩ : ∃ m, n = m + 1 := ⟨n - 1, by omega⟩; rw [den]; rfl⟩, e⟩
    | none =>
      have e : leftK (resultsX h t f.results) q.rc K h m y = true := e
      have hr : resultsX h t f.results = resultsOf ⟨h, m, y⟩ t f.results := resultsX_eq ⟨h, m, y⟩ t f.results
      rw [hr] at e
      cases hq : resultsOf ⟨h, m, y⟩ t f.results with
      | none => rw [hq] at e; cases e
      | some vs =>
        rw [hq] at e
        have e : K (.ret (oneOfX vs)) q.rc h m y = true := e
        rw [oneOfX_eq] at e
        refine ⟨.ret (oneOf vs), q.rc, ⟨h, m, y⟩, ⟨1, fun n hn => ?_⟩, e⟩
        obtain ⟨m', rfl⟩ : ∃ m', n = m' + 1 := ⟨n - 1, by omega⟩
        rw [den]; simp only [show (frOf t q).tmps = t from rfl, hq]; rfl
  | cons d ds ih =>
    intro p K h m y e
    have e : ap d.f d.args { pend := some p, round := none } (fun o recd h m y => match o with | .ret _ => leaveK ap f ds (match recd with | true => none | false => p) t q.rc K h m y | .panic _ => false) h m y = true := e
    obtain ⟨o, rc, s, ⟨n0, hd⟩, e1⟩ := hap _ _ _ _ _ _ _ e
    cases o with
    | panic v => cases e1
    | ret v =>
      obtain ⟨o', rc', s', ⟨n1, hd'⟩, e2⟩ := ih _ K _ _ _ e1
      refine ⟨o', rc', s', ⟨n0 + n1 + 1, fun n hn => ?_⟩, e2⟩
      obtain ⟨m', rfl⟩ : ∃ m', n = m' + 1 := ⟨n - 1, by omega⟩
      rw [den]; simp only [hd m' (by omega)]
      have := hd' m' (by omega)
      cases rc <;> exact this
theorem body_ok (hap : ApOk A ap) {f : AFunc} {args : List AV} {x : Ctx} {K : KO} {h : T Obj} {m : Pos} {y : T Nat} (e : bodyK f ap args x K h m y = true) :
    ∃ t o rc s, setParams f.params args .nil = some t ∧ (∃ ee fr s1, Den A (.code f.body x { tmps := t, defers := [], recd := false } ⟨h, m, y⟩) (.ex ee fr s1) ∧
      match ee with
      | .panic v => Den A (.leave f (some v) fr.defers fr s1) (.out o rc s)
      | .exit _ => False
      | _ => Den A (.leave f none fr.defers fr s1) (.out o rc s)) ∧ K o rc s.heap s.next s.ty = true := by
  unfold bodyK at e; rw [setParamsX_eq] at e
  cases hp : setParams f.params args .nil with
  | none => rw [hp] at e; cases e
  | some t =>
    rw [hp] at e
    obtain ⟨ee, t', q', s1, hd, e1⟩ := code_ok hap f.body x (endK ap f K) t ⟨[], false⟩ h m y e
    cases ee with
    | normal =>
      obtain ⟨o, rc, s, hd', e2⟩ := leave_ok hap f q' t' q'.ds none K _ _ _ e1
      exact ⟨t, o, rc, s, rfl, ⟨.normal, frOf t' q', s1, hd, hd'⟩, e2⟩
    | exit id => cases e1
    | ret =>
      obtain ⟨o, rc, s, hd', e2⟩ := leave_ok hap f q' t' q'.ds none K _ _ _ e1
      exact ⟨t, o, rc, s, rfl, ⟨.ret, frOf t' q', s1, hd, hd'⟩, e2⟩
    | panic v =>
      obtain ⟨o, rc, s, hd', e2⟩ := leave_ok hap f q' t' q'.ds (some v) K _ _ _ e1
      exact ⟨t, o, rc, s, rfl, ⟨.panic v, frOf t' q', s1, hd, hd'⟩, e2⟩
theorem func_ok (hap : ApOk A ap) {g : Nat} {args : List AV} {x : Ctx} {K : KO} {h : T Obj} {m : Pos} {y : T Nat} (hpr : primR A g args x ⟨h, m, y⟩ = none) (e : funcK A g ap args x K h m y = true) :
    ∃ o rc s, Den A (.call g args x ⟨h, m, y⟩) (.out o rc s) ∧ K o rc s.heap s.next s.ty = true := by
  unfold funcK at e
  cases hf : A.func g with
  | none => rw [hf] at e; cases e
  | some f =>
    rw [hf] at e
    obtain ⟨t, o, rc, s, hp, ⟨ee, fr, s1, ⟨n0, hd⟩, hl⟩, e1⟩ := body_ok hap e
    refine ⟨o, rc, s, ?_, e1⟩
    cases ee with
    | exit id => exact hl.elim
    | normal =>
      obtain ⟨n1, hl⟩ := hl
      refine ⟨n0 + n1 + 1, fun n hn => ?_⟩
      obtain ⟨m', rfl⟩ : ∃ m', n = m' + 1 := ⟨n - 1, by omega⟩
      rw [den]; simp only [hpr, hf, hp, hd m' (by omega)]; exact hl m' (by omega)
    | ret =>
      obtain ⟨n1, hl⟩ := hl
      refine ⟨n0 + n1 + 1, fun n hn => ?_⟩
      obtain ⟨m', rfl⟩ : ∃ m', n = m' + 1 := ⟨n - 1, by omega⟩
      rw [den]; simp only [hpr, hf, hp, hd m' (by omega)]; exact hl m' (by omega)
    | panic v =>
      obtain ⟨n1, hl⟩ := hl
      refine ⟨n0 + n1 + 1, fun n hn => ?_⟩
      obtain ⟨m', rfl⟩ : ∃ m', n = m' + 1 := ⟨n - 1, by omega⟩
      rw [den]; simp only [hpr, hf, hp, hd m' (by omega)]; exact hl m' (by omega)
theorem call_ok (hap : ApOk A ap) {g : Nat} {args : List AV} {x : Ctx} {K : KO} {h : T Obj} {m : Pos} {y : T Nat} (e : callK A g ap args x K h m y = true) :
    ∃ o rc s, Den A (.call g args x ⟨h, m, y⟩) (.out o rc s) ∧ K o rc s.heap s.next s.ty = true := by
  unfold callK at e
  cases hp : A.prim g with
  | none =>
    rw [hp] at e
    exact func_ok hap (by simp only [primR, hp]) e
  | some p =>
    rw [hp] at e
    have e : (match primR A g args x ⟨h, m, y⟩ with | some vs => St.rec (motive := fun _ => AV → KO → Bool) (fun h m y v K => K (.ret v) false h m y) vs.2 vs.1 K | none => funcK A g ap args x K h m y) = true := e
    cases hpr : primR A g args x ⟨h, m, y⟩ with
    | none => rw [hpr] at e; exact func_ok hap hpr e
    | some vs =>
      obtain ⟨v, s⟩ := vs
      rw [hpr] at e
      refine ⟨.ret v, false, s, ⟨1, fun n hn => ?_⟩, e⟩
      obtain ⟨m', rfl⟩ : ∃ m', n = m' + 1 := ⟨n - 1, by omega⟩
      rw [den]; simp only [hpr]
theorem viF_fn {v : AV} {g : Nat} {a b : List AV} (e : viF v = .fn g a b) : v = .func (.fn g) a b := by
  cases v <;> first | cases e | skip
  rename_i f _ _; cases f <;> cases e; rfl
theorem viF_yield {v : AV} {l : Pos} {a : List AV} (e : viF v = .yield l a) : ∃ b, v = .func (.yield l) a b := by
  cases v <;> first | cases e | skip
  rename_i f _ b; cases f <;> cases e; exact ⟨b, rfl⟩
def yOut (l : Pos) (r : ALoop) (s : St) (e : Ex) : Res := match e with
  | .panic v => .out (.panic v) false s
  | .normal => .out (.ret (.bool true)) false (s.put l (.loop { r with st := .ready, pending := none }))
  | .exit i => .out (.ret (.bool false)) false (s.put l (.loop { r with st := .done, pending := some (.exit i) }))
  | .ret => .out (.ret (.bool false)) false (s.put l (.loop { r with st := .done, pending := some .ret }))
theorem yield_ok (hap : ApOk A ap) {l : Pos} {first cap args : List AV} {x : Ctx} {K : KO} {h : T Obj} {m : Pos} {y : T Nat} (e : yieldK l first ap args x K h m y = true) :
    ∃ o rc s, Den A (.apply (.func (.yield l) first cap) args x ⟨h, m, y⟩) (.out o rc s) ∧ K o rc s.heap s.next s.ty = true := by
  unfold yieldK at e
  cases hp : x.pend with
  | some p => rw [hp] at e; cases e
  | none =>
    rw [hp] at e; simp only [getTO_eq] at e
    cases hg : h.get l with
    | none => rw [hg] at e; cases e
    | some o =>
      rw [hg] at e
      cases o with
      | loop r0 =>
        simp only at e
        cases hst : r0.st <;> rw [hst] at e <;> first | cases e | skip
        simp only [setParamsX_eq, appX_eq] at e
        cases hs : setParams r0.params (app first args) r0.tmps with
        | none => rw [hs] at e; cases e
        | some t =>
          rw [hs] at e
          obtain ⟨e1, t1, q1, s1, ⟨n1, hd1⟩, hk1⟩ := code_ok hap r0.assign (ctxR l) (yieldB l r0.body ap K) t ⟨[], false⟩ h m y e
          cases e1 <;> first | cases hk1 | skip
          have hk1 : (match getTO l s1.heap with
            | some (.loop r) => match r.st with
              | .ready => codeK r0.body ap (ctxR l) (yieldE l K) t1 q1 (setTO l (.loop { r with st := .busy }) s1.heap) s1.next s1.ty
              | _ => false
            | _ => false) = true := hk1
          rw [getTO_eq] at hk1
          cases hg1 : s1.heap.get l with
          | none => rw [hg1] at hk1; cases hk1
          | some o1 =>
            rw [hg1] at hk1
            cases o1 with
            | loop r =>
              simp only at hk1
              cases hst1 : r.st <;> rw [hst1] at hk1 <;> first | cases hk1 | skip
              simp only [setTO_eq] at hk1
              obtain ⟨e2, t2, q2, s2, ⟨n2, hd2⟩, hk2⟩ := code_ok hap r0.body (ctxR l) (yieldE l K) t1 q1 _ _ _ hk1
              unfold yieldE at hk2
              rw [getTO_eq] at hk2
              cases hg2 : s2.heap.get l with
              | none => rw [hg2] at hk2; cases hk2
              | some o2 =>
                rw [hg2] at hk2
                cases o2 with
                | loop r2 =>
                  simp only [setTO_eq] at hk2
                  have fin : Den A (.apply (.func (.yield l) first cap) args x ⟨h, m, y⟩) (yOut l r2 s2 e2) := by
                    refine ⟨n1 + n2 + 1, fun n hn => ?_⟩
                    obtain ⟨m', rfl⟩ : ∃ m', n = m' + 1 := ⟨n - 1, by omega⟩
                    rw [den]
                    have hd2' : den A m' (.code r0.body (ctxR l) (frOf t1 q1) (s1.put l (.loop { r with st := .busy }))) = some (.ex e2 (frOf t2 q2) s2) := hd2 m' (by omega)
                    have hd1' : den A m' (.code r0.assign (ctxR l) { tmps := t, defers := [], recd := false } ⟨h, m, y⟩) = some (.ex .normal (frOf t1 q1) s1) := hd1 m' (by omega)
                    simp only [hp, hg, hst, hs, hd1', hg1, hst1, hd2', hg2]
                    cases e2 <;> rfl
                  cases e2 with
                  | normal => exact ⟨_, _, _, fin, hk2⟩
                  | exit i => exact ⟨_, _, _, fin, hk2⟩
                  | ret => exact ⟨_, _, _, fin, hk2⟩
                  | panic v => exact ⟨_, _, _, fin, hk2⟩
                | _ => cases hk2
            | _ => cases hk1
      | _ => cases e
theorem ap_ok (n : Nat) : ApOk A (apK A n) := by
  induction n with
  | zero => intro f args x K h m y e; cases e
  | succ n ih =>
    intro f args x K h m y e
    have e : VF.rec (motive := fun _ => Prog → APK → List AV → Ctx → KO → T Obj → Pos → T Nat → Bool) (fun _ _ _ _ _ _ _ _ => false)
      (fun g first captured A ap args x K h m y => callK A g ap (appX first (appX args captured)) x K h m y) (fun l first _ ap args x K h m y => yieldK l first ap args x K h m y) (viF f) A (apK A n) args x K h m y = true := e
    cases hv : viF f with
    | no => rw [hv] at e; cases e
    | fn g first captured =>
      rw [hv] at e
      have e : callK A g (apK A n) (appX first (appX args captured)) x K h m y = true := e
      rw [appX_eq, appX_eq] at e
      obtain ⟨o, rc, s, ⟨n0, hd⟩, e1⟩ := call_ok ih e
      refine ⟨o, rc, s, ⟨n0 + 1, fun n hn => ?_⟩, e1⟩
      obtain ⟨m', rfl⟩ : ∃ m', n = m' + 1 := ⟨n - 1, by omega⟩
      rw [viF_fn hv, den]; exact hd m' (by omega)
    | yield l first =>
      rw [hv] at e
      obtain ⟨cap, hf⟩ := viF_yield hv
      rw [hf]
      exact yield_ok ih e
end
end A3
