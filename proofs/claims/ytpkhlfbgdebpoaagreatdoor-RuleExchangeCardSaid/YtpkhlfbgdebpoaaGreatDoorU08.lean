/- The evaluator for the kernel, first part. -/
import Derived.Test.YtpkhlfbgdebpoaaGreatDoorU01
namespace A3
open Go
abbrev X0 := Option AV
abbrev X1 := N X0
abbrev X2 := N X1
abbrev X3 := N X2
abbrev X4 := N X3
abbrev X5 := N X4
abbrev X6 := N X5
abbrev X7 := N X6
abbrev X8 := N X7
abbrev Y0 := Option Obj
abbrev Y1 := N Y0
abbrev Y2 := N Y1
abbrev Y3 := N Y2
abbrev Y4 := N Y3
abbrev Y5 := N Y4
abbrev Y6 := N Y5
abbrev Y7 := N Y6
abbrev Y8 := N Y7
abbrev Z0 := Option Nat
abbrev Z1 := N Z0
abbrev Z2 := N Z1
abbrev Z3 := N Z2
abbrev Z4 := N Z3
abbrev Z5 := N Z4
abbrev Z6 := N Z5
abbrev Z7 := N Z6
abbrev Z8 := N Z7
noncomputable def getT (p : Pos) (t : T AV) : Option AV := Pos.rec (motive := fun _ => T AV → Option AV)
  (fun a b c d t => (D.rec (motive := fun _ => X1 → X0) (@N.a X0) (@N.b X0) (@N.c X0) (@N.d X0) d (D.rec (motive := fun _ => X2 → X1) (@N.a X1) (@N.b X1) (@N.c X1) (@N.d X1) c (D.rec (motive := fun _ => X3 → X2) (@N.a X2) (@N.b X2) (@N.c X2) (@N.d X2) b (D.rec (motive := fun _ => X4 → X3) (@N.a X3) (@N.b X3) (@N.c X3) (@N.d X3) a t.s)))))
  (fun a b c d e f g h t => (D.rec (motive := fun _ => X1 → X0) (@N.a X0) (@N.b X0) (@N.c X0) (@N.d X0) h (D.rec (motive := fun _ => X2 → X1) (@N.a X1) (@N.b X1) (@N.c X1) (@N.d X1) g (D.rec (motive := fun _ => X3 → X2) (@N.a X2) (@N.b X2) (@N.c X2) (@N.d X2) f (D.rec (motive := fun _ => X4 → X3) (@N.a X3) (@N.b X3) (@N.c X3) (@N.d X3) e (D.rec (motive := fun _ => X5 → X4) (@N.a X4) (@N.b X4) (@N.c X4) (@N.d X4) d (D.rec (motive := fun _ => X6 → X5) (@N.a X5) (@N.b X5) (@N.c X5) (@N.d X5) c (D.rec (motive := fun _ => X7 → X6) (@N.a X6) (@N.b X6) (@N.c X6) (@N.d X6) b (D.rec (motive := fun _ => X8 → X7) (@N.a X7) (@N.b X7) (@N.c X7) (@N.d X7) a t.l)))))))))
  (fun n t => assocN n t.x) p t
noncomputable def u0 (k : D) (v : X0) (n : X1) : X1 := D.rec (motive := fun _ => X0 → X1 → X1)
  (fun v n => N.rec (motive := fun _ => X0 → X1) (fun _ b c d v => ⟨v, b, c, d⟩) n v) (fun v n => N.rec (motive := fun _ => X0 → X1) (fun a _ c d v => ⟨a, v, c, d⟩) n v) (fun v n => N.rec (motive := fun _ => X0 → X1) (fun a b _ d v => ⟨a, b, v, d⟩) n v) (fun v n => N.rec (motive := fun _ => X0 → X1) (fun a b c _ v => ⟨a, b, c, v⟩) n v) k v n
noncomputable def u1 (k j0 : D) (v : X0) (n : X2) : X2 := D.rec (motive := fun _ => D → X0 → X2 → X2)
  (fun j0 v n => N.rec (motive := fun _ => D → X0 → X2) (fun a b c d j0 v => ⟨u0 j0 v a, b, c, d⟩) n j0 v) (fun j0 v n => N.rec (motive := fun _ => D → X0 → X2) (fun a b c d j0 v => ⟨a, u0 j0 v b, c, d⟩) n j0 v) (fun j0 v n => N.rec (motive := fun _ => D → X0 → X2) (fun a b c d j0 v => ⟨a, b, u0 j0 v c, d⟩) n j0 v) (fun j0 v n => N.rec (motive := fun _ => D → X0 → X2) (fun a b c d j0 v => ⟨a, b, c, u0 j0 v d⟩) n j0 v) k j0 v n
noncomputable def u2 (k j0 j1 : D) (v : X0) (n : X3) : X3 := D.rec (motive := fun _ => D → D → X0 → X3 → X3)
  (fun j0 j1 v n => N.rec (motive := fun _ => D → D → X0 → X3) (fun a b c d j0 j1 v => ⟨u1 j0 j1 v a, b, c, d⟩) n j0 j1 v) (fun j0 j1 v n => N.rec (motive := fun _ => D → D → X0 → X3) (fun a b c d j0 j1 v => ⟨a, u1 j0 j1 v b, c, d⟩) n j0 j1 v) (fun j0 j1 v n => N.rec (motive := fun _ => D → D → X0 → X3) (fun a b c d j0 j1 v => ⟨a, b, u1 j0 j1 v c, d⟩) n j0 j1 v) (fun j0 j1 v n => N.rec (motive := fun _ => D → D → X0 → X3) (fun a b c d j0 j1 v => ⟨a, b, c, u1 j0 j1 v d⟩) n j0 j1 v) k j0 j1 v n
noncomputable def u3 (k j0 j1 j2 : D) (v : X0) (n : X4) : X4 := D.rec (motive := fun _ => D → D → D → X0 → X4 → X4)
  (fun j0 j1 j2 v n => N.rec (motive := fun _ => D → D → D → X0 → X4) (fun a b c d j0 j1 j2 v => ⟨u2 j0 j1 j2 v a, b, c, d⟩) n j0 j1 j2 v) (fun j0 j1 j2 v n => N.rec (motive := fun _ => D → D → D → X0 → X4) (fun a b c d j0 j1 j2 v => ⟨a, u2 j0 j1 j2 v b, c, d⟩) n j0 j1 j2 v) (fun j0 j1 j2 v n => N.rec (motive := fun _ => D → D → D → X0 → X4) (fun a b c d j0 j1 j2 v => ⟨a, b, u2 j0 j1 j2 v c, d⟩) n j0 j1 j2 v) (fun j0 j1 j2 v n => N.rec (motive := fun _ => D → D → D → X0 → X4) (fun a b c d j0 j1 j2 v => ⟨a, b, c, u2 j0 j1 j2 v d⟩) n j0 j1 j2 v) k j0 j1 j2 v n
noncomputable def u4 (k j0 j1 j2 j3 : D) (v : X0) (n : X5) : X5 := D.rec (motive := fun _ => D → D → D → D → X0 → X5 → X5)
  (fun j0 j1 j2 j3 v n => N.rec (motive := fun _ => D → D → D → D → X0 → X5) (fun a b c d j0 j1 j2 j3 v => ⟨u3 j0 j1 j2 j3 v a, b, c, d⟩) n j0 j1 j2 j3 v) (fun j0 j1 j2 j3 v n => N.rec (motive := fun _ => D → D → D → D → X0 → X5) (fun a b c d j0 j1 j2 j3 v => ⟨a, u3 j0 j1 j2 j3 v b, c, d⟩) n j0 j1 j2 j3 v) (fun j0 j1 j2 j3 v n => N.rec (motive := fun _ => D → D → D → D → X0 → X5) (fun a b c d j0 j1 j2 j3 v => ⟨a, b, u3 j0 j1 j2 j3 v c, d⟩) n j0 j1 j2 j3 v) (fun j0 j1 j2 j3 v n => N.rec (motive := fun _ => D → D → D → D → X0 → X5) (fun a b c d j0 j1 j2 j3 v => ⟨a, b, c, u3 j0 j1 j2 j3 v d⟩) n j0 j1 j2 j3 v) k j0 j1 j2 j3 v n
noncomputable def u5 (k j0 j1 j2 j3 j4 : D) (v : X0) (n : X6) : X6 := D.rec (motive := fun _ => D → D → D → D → D → X0 → X6 → X6)
  (fun j0 j1 j2 j3 j4 v n => N.rec (motive := fun _ => D → D → D → D → D → X0 → X6) (fun a b c d j0 j1 j2 j3 j4 v => ⟨u4 j0 j1 j2 j3 j4 v a, b, c, d⟩) n j0 j1 j2 j3 j4 v) (fun j0 j1 j2 j3 j4 v n => N.rec (motive := fun _ => D → D → D → D → D → X0 → X6) (fun a b c d j0 j1 j2 j3 j4 v => ⟨a, u4 j0 j1 j2 j3 j4 v b, c, d⟩) n j0 j1 j2 j3 j4 v) (fun j0 j1 j2 j3 j4 v n => N.rec (motive := fun _ => D → D → D → D → D → X0 → X6) (fun a b c d j0 j1 j2 j3 j4 v => ⟨a, b, u4 j0 j1 j2 j3 j4 v c, d⟩) n j0 j1 j2 j3 j4 v) (fun j0 j1 j2 j3 j4 v n => N.rec (motive := fun _ => D → D → D → D → D → X0 → X6) (fun a b c d j0 j1 j2 j3 j4 v => ⟨a, b, c, u4 j0 j1 j2 j3 j4 v d⟩) n j0 j1 j2 j3 j4 v) k j0 j1 j2 j3 j4 v n
noncomputable def u6 (k j0 j1 j2 j3 j4 j5 : D) (v : X0) (n : X7) : X7 := D.rec (motive := fun _ => D → D → D → D → D → D → X0 → X7 → X7)
  (fun j0 j1 j2 j3 j4 j5 v n => N.rec (motive := fun _ => D → D → D → D → D → D → X0 → X7) (fun a b c d j0 j1 j2 j3 j4 j5 v => ⟨u5 j0 j1 j2 j3 j4 j5 v a, b, c, d⟩) n j0 j1 j2 j3 j4 j5 v) (fun j0 j1 j2 j3 j4 j5 v n => N.rec (motive := fun _ => D → D → D → D → D → D → X0 → X7) (fun a b c d j0 j1 j2 j3 j4 j5 v => ⟨a, u5 j0 j1 j2 j3 j4 j5 v b, c, d⟩) n j0 j1 j2 j3 j4 j5 v) (fun j0 j1 j2 j3 j4 j5 v n => N.rec (motive := fun _ => D → D → D → D → D → D → X0 → X7) (fun a b c d j0 j1 j2 j3 j4 j5 v => ⟨a, b, u5 j0 j1 j2 j3 j4 j5 v c, d⟩) n j0 j1 j2 j3 j4 j5 v) (fun j0 j1 j2 j3 j4 j5 v n => N.rec (motive := fun _ => D → D → D → D → D → D → X0 → X7) (fun a b c d j0 j1 j2 j3 j4 j5 v => ⟨a, b, c, u5 j0 j1 j2 j3 j4 j5 v d⟩) n j0 j1 j2 j3 j4 j5 v) k j0 j1 j2 j3 j4 j5 v n
noncomputable def u7 (k j0 j1 j2 j3 j4 j5 j6 : D) (v : X0) (n : X8) : X8 := D.rec (motive := fun _ => D → D → D → D → D → D → D → X0 → X8 → X8)
  (fun j0 j1 j2 j3 j4 j5 j6 v n => N.rec (motive := fun _ => D → D → D → D → D → D → D → X0 → X8) (fun a b c d j0 j1 j2 j3 j4 j5 j6 v => ⟨u6 j0 j1 j2 j3 j4 j5 j6 v a, b, c, d⟩) n j0 j1 j2 j3 j4 j5 j6 v) (fun j0 j1 j2 j3 j4 j5 j6 v n => N.rec (motive := fun _ => D → D → D → D → D → D → D → X0 → X8) (fun a b c d j0 j1 j2 j3 j4 j5 j6 v => ⟨a, u6 j0 j1 j2 j3 j4 j5 j6 v b, c, d⟩) n j0 j1 j2 j3 j4 j5 j6 v) (fun j0 j1 j2 j3 j4 j5 j6 v n => N.rec (motive := fun _ => D → D → D → D → D → D → D → X0 → X8) (fun a b c d j0 j1 j2 j3 j4 j5 j6 v => ⟨a, b, u6 j0 j1 j2 j3 j4 j5 j6 v c, d⟩) n j0 j1 j2 j3 j4 j5 j6 v) (fun j0 j1 j2 j3 j4 j5 j6 v n => N.rec (motive := fun _ => D → D → D → D → D → D → D → X0 → X8) (fun a b c d j0 j1 j2 j3 j4 j5 j6 v => ⟨a, b, c, u6 j0 j1 j2 j3 j4 j5 j6 v d⟩) n j0 j1 j2 j3 j4 j5 j6 v) k j0 j1 j2 j3 j4 j5 j6 v n
noncomputable def setT (p : Pos) (v : AV) (t : T AV) : T AV := Pos.rec (motive := fun _ => AV → T AV → T AV)
  (fun a b c d v t => T.rec (motive := fun _ => D → D → D → D → AV → T AV) (fun s l x a b c d v => ⟨u3 a b c d (some v) s, l, x⟩) t a b c d v)
  (fun a b c d e f g h v t => T.rec (motive := fun _ => D → D → D → D → D → D → D → D → AV → T AV) (fun s l x a b c d e f g h v => ⟨s, u7 a b c d e f g h (some v) l, x⟩) t a b c d e f g h v)
  (fun n v t => ⟨t.s, t.l, (n, v) :: t.x⟩) p v t
theorem sel0 (k : D) (n : X1) : (D.rec (motive := fun _ => X1 → X0) (@N.a X0) (@N.b X0) (@N.c X0) (@N.d X0) k n) = N.get n k := by cases k <;> rfl
theorem sel1 (k : D) (n : X2) : (D.rec (motive := fun _ => X2 → X1) (@N.a X1) (@N.b X1) (@N.c X1) (@N.d X1) k n) = N.get n k := by cases k <;> rfl
theorem sel2 (k : D) (n : X3) : (D.rec (motive := fun _ => X3 → X2) (@N.a X2) (@N.b X2) (@N.c X2) (@N.d X2) k n) = N.get n k := by cases k <;> rfl
theorem sel3 (k : D) (n : X4) : (D.rec (motive := fun _ => X4 → X3) (@N.a X3) (@N.b X3) (@N.c X3) (@N.d X3) k n) = N.get n k := by cases k <;> rfl
theorem sel4 (k : D) (n : X5) : (D.rec (motive := fun _ => X5 → X4) (@N.a X4) (@N.b X4) (@N.c X4) (@N.d X4) k n) = N.get n k := by cases k <;> rfl
theorem sel5 (k : D) (n : X6) : (D.rec (motive := fun _ => X6 → X5) (@N.a X5) (@N.b X5) (@N.c X5) (@N.d X5) k n) = N.get n k := by cases k <;> rfl
theorem sel6 (k : D) (n : X7) : (D.rec (motive := fun _ => X7 → X6) (@N.a X6) (@N.b X6) (@N.c X6) (@N.d X6) k n) = N.get n k := by cases k <;> rfl
theorem sel7 (k : D) (n : X8) : (D.rec (motive := fun _ => X8 → X7) (@N.a X7) (@N.b X7) (@N.c X7) (@N.d X7) k n) = N.get n k := by cases k <;> rfl
theorem u0_eq (k : D) (v : X0) (n : X1) : u0 k v n = N.set n k v := by cases n; cases k <;> rfl
theorem u1_eq (k j0 : D) (v : X0) (n : X2) : u1 k j0 v n = N.set n k (N.set (N.get n k) j0 v) := by
  obtain ⟨a, b, c, d⟩ := n
  cases k
  · show (⟨u0 j0 v a, b, c, d⟩ : X2) = _; rw [u0_eq]; rfl
  · show (⟨a, u0 j0 v b, c, d⟩ : X2) = _; rw [u0_eq]; rfl
  · show (⟨a, b, u0 j0 v c, d⟩ : X2) = _; rw [u0_eq]; rfl
  · show (⟨a, b, c, u0 j0 v d⟩ : X2) = _; rw [u0_eq]; rfl
theorem u2_eq (k j0 j1 : D) (v : X0) (n : X3) : u2 k j0 j1 v n = N.set n k (N.set (N.get n k) j0 (N.set (N.get (N.get n k) j0) j1 v)) := by
  obtain ⟨a, b, c, d⟩ := n
  cases k
  · show (⟨u1 j0 j1 v a, b, c, d⟩ : X3) = _; rw [u1_eq]; rfl
  · show (⟨a, u1 j0 j1 v b, c, d⟩ : X3) = _; rw [u1_eq]; rfl
  · show (⟨a, b, u1 j0 j1 v c, d⟩ : X3) = _; rw [u1_eq]; rfl
  · show (⟨a, b, c, u1 j0 j1 v d⟩ : X3) = _; rw [u1_eq]; rfl
theorem u3_eq (k j0 j1 j2 : D) (v : X0) (n : X4) : u3 k j0 j1 j2 v n = N.set n k (N.set (N.get n k) j0 (N.set (N.get (N.get n k) j0) j1 (N.set (N.get (N.get (N.get n k) j0) j1) j2 v))) := by
  obtain ⟨a, b, c, d⟩ := n
  cases k
  · show (⟨u2 j0 j1 j2 v a, b, c, d⟩ : X4) = _; rw [u2_eq]; rfl
  · show (⟨a, u2 j0 j1 j2 v b, c, d⟩ : X4) = _; rw [u2_eq]; rfl
  · show (⟨a, b, u2 j0 j1 j2 v c, d⟩ : X4) = _; rw [u2_eq]; rfl
  · show (⟨a, b, c, u2 j0 j1 j2 v d⟩ : X4) = _; rw [u2_eq]; rfl
theorem u4_eq (k j0 j1 j2 j3 : D) (v : X0) (n : X5) : u4 k j0 j1 j2 j3 v n = N.set n k (N.set (N.get n k) j0 (N.set (N.get (N.get n k) j0) j1 (N.set (N.get (N.get (N.get n k) j0) j1) j2 (N.set (N.get (N.get (N.get (N.get n k) j0) j1) j2) j3 v)))) := by
  obtain ⟨a, b, c, d⟩ := n
  cases k
  · show (⟨u3 j0 j1 j2 j3 v a, b, c, d⟩ : X5) = _; rw [u3_eq]; rfl
  · show (⟨a, u3 j0 j1 j2 j3 v b, c, d⟩ : X5) = _; rw [u3_eq]; rfl
  · show (⟨a, b, u3 j0 j1 j2 j3 v c, d⟩ : X5) = _; rw [u3_eq]; rfl
  · show (⟨a, b, c, u3 j0 j1 j2 j3 v d⟩ : X5) = _; rw [u3_eq]; rfl
theorem u5_eq (k j0 j1 j2 j3 j4 : D) (v : X0) (n : X6) : u5 k j0 j1 j2 j3 j4 v n = N.set n k (N.set (N.get n k) j0 (N.set (N.get (N.get n k) j0) j1 (N.set (N.get (N.get (N.get n k) j0) j1) j2 (N.set (N.get (N.get (N.get (N.get n k) j0) j1) j2) j3 (N.set (N.get (N.get (N.get (N.get (N.get n k) j0) j1) j2) j3) j4 v))))) := by
  obtain ⟨a, b, c, d⟩ := n
  cases k
  · show (⟨u4 j0 j1 j2 j3 j4 v a, b, c, d⟩ : X6) = _; rw [u4_eq]; rfl
  · show (⟨a, u4 j0 j1 j2 j3 j4 v b, c, d⟩ : X6) = _; rw [u4_eq]; rfl
  · show (⟨a, b, u4 j0 j1 j2 j3 j4 v c, d⟩ : X6) = _; rw [u4_eq]; rfl
  · show (⟨a, b, c, u4 j0 j1 j2 j3 j4 v d⟩ : X6) = _; rw [u4_eq]; rfl
theorem u6_eq (k j0 j1 j2 j3 j4 j5 : D) (v : X0) (n : X7) : u6 k j0 j1 j2 j3 j4 j5 v n = N.set n k (N.set (N.get n k) j0 (N.set (N.get (N.get n k) j0) j1 (N.set (N.get (N.get (N.get n k) j0) j1) j2 (N.set (N.get (N.get (N.get (N.get n k) j0) j1) j2) j3 (N.set (N.get (N.get (N.get (N.get (N.get n k) j0) j1) j2) j3) j4 (N.set (N.get (N.get (N.get (N.get (N.get (N.get n k) j0) j1) j2) j3) j4) j5 v)))))) := by
  obtain ⟨a, b, c, d⟩ := n
  cases k
  · show (⟨u5 j0 j1 j2 j3 j4 j5 v a, b, c, d⟩ : X7) = _; rw [u5_eq]; rfl
  · show (⟨a, u5 j0 j1 j2 j3 j4 j5 v b, c, d⟩ : X7) = _; rw [u5_eq]; rfl
  · show (⟨a, b, u5 j0 j1 j2 j3 j4 j5 v c, d⟩ : X7) = _; rw [u5_eq]; rfl
  · show (⟨a, b, c, u5 j0 j1 j2 j3 j4 j5 v d⟩ : X7) = _; rw [u5_eq]; rfl
theorem u7_eq (k j0 j1 j2 j3 j4 j5 j6 : D) (v : X0) (n : X8) : u7 k j0 j1 j2 j3 j4 j5 j6 v n = N.set n k (N.set (N.get n k) j0 (N.set (N.get (N.get n k) j0) j1 (N.set (N.get (N.get (N.get n k) j0) j1) j2 (N.set (N.get (N.get (N.get (N.get n k) j0) j1) j2) j3 (N.set (N.get (N.get (N.get (N.get (N.get n k) j0) j1) j2) j3) j4 (N.set (N.get (N.get (N.get (N.get (N.get (N.get n k) j0) j1) j2) j3) j4) j5 (N.set (N.get (N.get (N.get (N.get (N.get (N.get (N.get n k) j0) j1) j2) j3) j4) j5) j6 v))))))) := by
  obtain ⟨a, b, c, d⟩ := n
  cases k
  · show (⟨u6 j0 j1 j2 j3 j4 j5 j6 v a, b, c, d⟩ : X8) = _; rw [u6_eq]; rfl
  · show (⟨a, u6 j0 j1 j2 j3 j4 j5 j6 v b, c, d⟩ : X8) = _; rw [u6_eq]; rfl
  · show (⟨a, b, u6 j0 j1 j2 j3 j4 j5 j6 v c, d⟩ : X8) = _; rw [u6_eq]; rfl
  · show (⟨a, b, c, u6 j0 j1 j2 j3 j4 j5 j6 v d⟩ : X8) = _; rw [u6_eq]; rfl
theorem getT_eq (p : Pos) (t : T AV) : getT p t = t.get p := by
  cases p with
  | s a b c d => cases a <;> cases b <;> cases c <;> cases d <;> rfl
  | l a b c d e f g h => show (D.rec (motive := fun _ => X1 → X0) (@N.a X0) (@N.b X0) (@N.c X0) (@N.d X0) h (D.rec (motive := fun _ => X2 → X1) (@N.a X1) (@N.b X1) (@N.c X1) (@N.d X1) g (D.rec (motive := fun _ => X3 → X2) (@N.a X2) (@N.b X2) (@N.c X2) (@N.d X2) f (D.rec (motive := fun _ => X4 → X3) (@N.a X3) (@N.b X3) (@N.c X3) (@N.d X3) e (D.rec (motive := fun _ => X5 → X4) (@N.a X4) (@N.b X4) (@N.c X4) (@N.d X4) d (D.rec (motive := fun _ => X6 → X5) (@N.a X5) (@N.b X5) (@N.c X5) (@N.d X5) c (D.rec (motive := fun _ => X7 → X6) (@N.a X6) (@N.b X6) (@N.c X6) (@N.d X6) b (D.rec (motive := fun _ => X8 → X7) (@N.a X7) (@N.b X7) (@N.c X7) (@N.d X7) a t.l)))))))) = N4.get (N4.get t.l a b c d) e f g h; simp only [N4.get, sel0, sel1, sel2, sel3, sel4, sel5, sel6, sel7]
  | x n => rfl
theorem setT_eq (p : Pos) (v : AV) (t : T AV) : setT p v t = T.set p v t := by
  obtain ⟨s, l, x⟩ := t
  cases p with
  | s a b c d => show (⟨u3 a b c d (some v) s, l, x⟩ : T AV) = _; rw [u3_eq]; rfl
  | l a b c d e f g h => show (⟨s, u7 a b c d e f g h (some v) l, x⟩ : T AV) = _; rw [u7_eq]; rfl
  | x n => rfl
noncomputable def getTO (p : Pos) (t : T Obj) : Option Obj := Pos.rec (motive := fun _ => T Obj → Option Obj)
  (fun a b c d t => (D.rec (motive := fun _ => Y1 → Y0) (@N.a Y0) (@N.b Y0) (@N.c Y0) (@N.d Y0) d (D.rec (motive := fun _ => Y2 → Y1) (@N.a Y1) (@N.b Y1) (@N.c Y1) (@N.d Y1) c (D.rec (motive := fun _ => Y3 → Y2) (@N.a Y2) (@N.b Y2) (@N.c Y2) (@N.d Y2) b (D.rec (motive := fun _ => Y4 → Y3) (@N.a Y3) (@N.b Y3) (@N.c Y3) (@N.d Y3) a t.s)))))
  (fun a b c d e f g h t => (D.rec (motive := fun _ => Y1 → Y0) (@N.a Y0) (@N.b Y0) (@N.c Y0) (@N.d Y0) h (D.rec (motive := fun _ => Y2 → Y1) (@N.a Y1) (@N.b Y1) (@N.c Y1) (@N.d Y1) g (D.rec (motive := fun _ => Y3 → Y2) (@N.a Y2) (@N.b Y2) (@N.c Y2) (@N.d Y2) f (D.rec (motive := fun _ => Y4 → Y3) (@N.a Y3) (@N.b Y3) (@N.c Y3) (@N.d Y3) e (D.rec (motive := fun _ => Y5 → Y4) (@N.a Y4) (@N.b Y4) (@N.c Y4) (@N.d Y4) d (D.rec (motive := fun _ => Y6 → Y5) (@N.a Y5) (@N.b Y5) (@N.c Y5) (@N.d Y5) c (D.rec (motive := fun _ => Y7 → Y6) (@N.a Y6) (@N.b Y6) (@N.c Y6) (@N.d Y6) b (D.rec (motive := fun _ => Y8 → Y7) (@N.a Y7) (@N.b Y7) (@N.c Y7) (@N.d Y7) a t.l)))))))))
  (fun n t => assocN n t.x) p t
noncomputable def uO0 (k : D) (v : Y0) (n : Y1) : Y1 := D.rec (motive := fun _ => Y0 → Y1 → Y1)
  (fun v n => N.rec (motive := fun _ => Y0 → Y1) (fun _ b c d v => ⟨v, b, c, d⟩) n v) (fun v n => N.rec (motive := fun _ => Y0 → Y1) (fun a _ c d v => ⟨a, v, c, d⟩) n v) (fun v n => N.rec (motive := fun _ => Y0 → Y1) (fun a b _ d v => ⟨a, b, v, d⟩) n v) (fun v n => N.rec (motive := fun _ => Y0 → Y1) (fun a b c _ v => ⟨a, b, c, v⟩) n v) k v n
noncomputable def uO1 (k j0 : D) (v : Y0) (n : Y2) : Y2 := D.rec (motive := fun _ => D → Y0 → Y2 → Y2)
  (fun j0 v n => N.rec (motive := fun _ => D → Y0 → Y2) (fun a b c d j0 v => ⟨uO0 j0 v a, b, c, d⟩) n j0 v) (fun j0 v n => N.rec (motive := fun _ => D → Y0 → Y2) (fun a b c d j0 v => ⟨a, uO0 j0 v b, c, d⟩) n j0 v) (fun j0 v n => N.rec (motive := fun _ => D → Y0 → Y2) (fun a b c d j0 v => ⟨a, b, uO0 j0 v c, d⟩) n j0 v) (fun j0 v n => N.rec (motive := fun _ => D → Y0 → Y2) (fun a b c d j0 v => ⟨a, b, c, uO0 j0 v d⟩) n j0 v) k j0 v n
noncomputable def uO2 (k j0 j1 : D) (v : Y0) (n : Y3) : Y3 := D.rec (motive := fun _ => D → D → Y0 → Y3 → Y3)
  (fun j0 j1 v n => N.rec (motive := fun _ => D → D → Y0 → Y3) (fun a b c d j0 j1 v => ⟨uO1 j0 j1 v a, b, c, d⟩) n j0 j1 v) (fun j0 j1 v n => N.rec (motive := fun _ => D → D → Y0 → Y3) (fun a b c d j0 j1 v => ⟨a, uO1 j0 j1 v b, c, d⟩) n j0 j1 v) (fun j0 j1 v n => N.rec (motive := fun _ => D → D → Y0 → Y3) (fun a b c d j0 j1 v => ⟨a, b, uO1 j0 j1 v c, d⟩) n j0 j1 v) (fun j0 j1 v n => N.rec (motive := fun _ => D → D → Y0 → Y3) (fun a b c d j0 j1 v => ⟨a, b, c, uO1 j0 j1 v d⟩) n j0 j1 v) k j0 j1 v n
noncomputable def uO3 (k j0 j1 j2 : D) (v : Y0) (n : Y4) : Y4 := D.rec (motive := fun _ => D → D → D → Y0 → Y4 → Y4)
  (fun j0 j1 j2 v n => N.rec (motive := fun _ => D → D → D → Y0 → Y4) (fun a b c d j0 j1 j2 v => ⟨uO2 j0 j1 j2 v a, b, c, d⟩) n j0 j1 j2 v) (fun j0 j1 j2 v n => N.rec (motive := fun _ => D → D → D → Y0 → Y4) (fun a b c d j0 j1 j2 v => ⟨a, uO2 j0 j1 j2 v b, c, d⟩) n j0 j1 j2 v) (fun j0 j1 j2 v n => N.rec (motive := fun _ => D → D → D → Y0 → Y4) (fun a b c d j0 j1 j2 v => ⟨a, b, uO2 j0 j1 j2 v c, d⟩) n j0 j1 j2 v) (fun j0 j1 j2 v n => N.rec (motive := fun _ => D → D → D → Y0 → Y4) (fun a b c d j0 j1 j2 v => ⟨a, b, c, uO2 j0 j1 j2 v d⟩) n j0 j1 j2 v) k j0 j1 j2 v n
noncomputable def uO4 (k j0 j1 j2 j3 : D) (v : Y0) (n : Y5) : Y5 := D.rec (motive := fun _ => D → D → D → D → Y0 → Y5 → Y5)
  (fun j0 j1 j2 j3 v n => N.rec (motive := fun _ => D → D → D → D → Y0 → Y5) (fun a b c d j0 j1 j2 j3 v => ⟨uO3 j0 j1 j2 j3 v a, b, c, d⟩) n j0 j1 j2 j3 v) (fun j0 j1 j2 j3 v n => N.rec (motive := fun _ => D → D → D → D → Y0 → Y5) (fun a b c d j0 j1 j2 j3 v => ⟨a, uO3 j0 j1 j2 j3 v b, c, d⟩) n j0 j1 j2 j3 v) (fun j0 j1 j2 j3 v n => N.rec (motive := fun _ => D → D → D → D → Y0 → Y5) (fun a b c d j0 j1 j2 j3 v => ⟨a, b, uO3 j0 j1 j2 j3 v c, d⟩) n j0 j1 j2 j3 v) (fun j0 j1 j2 j3 v n => N.rec (motive := fun _ => D → D → D → D → Y0 → Y5) (fun a b c d j0 j1 j2 j3 v => ⟨a, b, c, uO3 j0 j1 j2 j3 v d⟩) n j0 j1 j2 j3 v) k j0 j1 j2 j3 v n
noncomputable def uO5 (k j0 j1 j2 j3 j4 : D) (v : Y0) (n : Y6) : Y6 := D.rec (motive := fun _ => D → D → D → D → D → Y0 → Y6 → Y6)
  (fun j0 j1 j2 j3 j4 v n => N.rec (motive := fun _ => D → D → D → D → D → Y0 → Y6) (fun a b c d j0 j1 j2 j3 j4 v => ⟨uO4 j0 j1 j2 j3 j4 v a, b, c, d⟩) n j0 j1 j2 j3 j4 v) (fun j0 j1 j2 j3 j4 v n => N.rec (motive := fun _ => D → D → D → D → D → Y0 → Y6) (fun a b c d j0 j1 j2 j3 j4 v => ⟨a, uO4 j0 j1 j2 j3 j4 v b, c, d⟩) n j0 j1 j2 j3 j4 v) (fun j0 j1 j2 j3 j4 v n => N.rec (motive := fun _ => D → D → D → D → D → Y0 → Y6) (fun a b c d j0 j1 j2 j3 j4 v => ⟨a, b, uO4 j0 j1 j2 j3 j4 v c, d⟩) n j0 j1 j2 j3 j4 v) (fun j0 j1 j2 j3 j4 v n => N.rec (motive := fun _ => D → D → D → D → D → Y0 → Y6) (fun a b c d j0 j1 j2 j3 j4 v => ⟨a, b, c, uO4 j0 j1 j2 j3 j4 v d⟩) n j0 j1 j2 j3 j4 v) k j0 j1 j2 j3 j4 v n
noncomputable def uO6 (k j0 j1 j2 j3 j4 j5 : D) (v : Y0) (n : Y7) : Y7 := D.rec (motive := fun _ => D → D → D → D → D → D → Y0 → Y7 → Y7)
  (fun j0 j1 j2 j3 j4 j5 v n => N.rec (motive := fun _ => D → D → D → D → D → D → Y0 → Y7) (fun a b c d j0 j1 j2 j3 j4 j5 v => ⟨uO5 j0 j1 j2 j3 j4 j5 v a, b, c, d⟩) n j0 j1 j2 j3 j4 j5 v) (fun j0 j1 j2 j3 j4 j5 v n => N.rec (motive := fun _ => D → D → D → D → D → D → Y0 → Y7) (fun a b c d j0 j1 j2 j3 j4 j5 v => ⟨a, uO5 j0 j1 j2 j3 j4 j5 v b, c, d⟩) n j0 j1 j2 j3 j4 j5 v) (fun j0 j1 j2 j3 j4 j5 v n => N.rec (motive := fun _ => D → D → D → D → D → D → Y0 → Y7) (fun a b c d j0 j1 j2 j3 j4 j5 v => ⟨a, b, uO5 j0 j1 j2 j3 j4 j5 v c, d⟩) n j0 j1 j2 j3 j4 j5 v) (fun j0 j1 j2 j3 j4 j5 v n => N.rec (motive := fun _ => D → D → D → D → D → D → Y0 → Y7) (fun a b c d j0 j1 j2 j3 j4 j5 v => ⟨a, b, c, uO5 j0 j1 j2 j3 j4 j5 v d⟩) n j0 j1 j2 j3 j4 j5 v) k j0 j1 j2 j3 j4 j5 v n
noncomputable def uO7 (k j0 j1 j2 j3 j4 j5 j6 : D) (v : Y0) (n : Y8) : Y8 := D.rec (motive := fun _ => D → D → D → D → D → D → D → Y0 → Y8 → Y8)
  (fun j0 j1 j2 j3 j4 j5 j6 v n => N.rec (motive := fun _ => D → D → D → D → D → D → D → Y0 → Y8) (fun a b c d j0 j1 j2 j3 j4 j5 j6 v => ⟨uO6 j0 j1 j2 j3 j4 j5 j6 v a, b, c, d⟩) n j0 j1 j2 j3 j4 j5 j6 v) (fun j0 j1 j2 j3 j4 j5 j6 v n => N.rec (motive := fun _ => D → D → D → D → D → D → D → Y0 → Y8) (fun a b c d j0 j1 j2 j3 j4 j5 j6 v => ⟨a, uO6 j0 j1 j2 j3 j4 j5 j6 v b, c, d⟩) n j0 j1 j2 j3 j4 j5 j6 v) (fun j0 j1 j2 j3 j4 j5 j6 v n => N.rec (motive := fun _ => D → D → D → D → D → D → D → Y0 → Y8) (fun a b c d j0 j1 j2 j3 j4 j5 j6 v => ⟨a, b, uO6 j0 j1 j2 j3 j4 j5 j6 v c, d⟩) n j0 j1 j2 j3 j4 j5 j6 v) (fun j0 j1 j2 j3 j4 j5 j6 v n => N.rec (motive := fun _ => D → D → D → D → D → D → D → Y0 → Y8) (fun a b c d j0 j1 j2 j3 j4 j5 j6 v => ⟨a, b, c, uO6 j0 j1 j2 j3 j4 j5 j6 v d⟩) n j0 j1 j2 j3 j4 j5 j6 v) k j0 j1 j2 j3 j4 j5 j6 v n
noncomputable def setTO (p : Pos) (v : Obj) (t : T Obj) : T Obj := Pos.rec (motive := fun _ => Obj → T Obj → T Obj)
  (fun a b c d v t => T.rec (motive := fun _ => D → D → D → D → Obj → T Obj) (fun s l x a b c d v => ⟨uO3 a b c d (some v) s, l, x⟩) t a b c d v)
  (fun a b c d e f g h v t => T.rec (motive := fun _ => D → D → D → D → D → D → D → D → Obj → T Obj) (fun s l x a b c d e f g h v => ⟨s, uO7 a b c d e f g h (some v) l, x⟩) t a b c d e f g h v)
  (fun n v t => ⟨t.s, t.l, (n, v) :: t.x⟩) p v t
theorem selO0 (k : D) (n : Y1) : (D.rec (motive := fun _ => Y1 → Y0) (@N.a Y0) (@N.b Y0) (@N.c Y0) (@N.d Y0) k n) = N.get n k := by cases k <;> rfl
theorem selO1 (k : D) (n : Y2) : (D.rec (motive := fun _ => Y2 → Y1) (@N.a Y1) (@N.b Y1) (@N.c Y1) (@N.d Y1) k n) = N.get n k := by cases k <;> rfl
theorem selO2 (k : D) (n : Y3) : (D.rec (motive := fun _ => Y3 → Y2) (@N.a Y2) (@N.b Y2) (@N.c Y2) (@N.d Y2) k n) = N.get n k := by cases k <;> rfl
theorem selO3 (k : D) (n : Y4) : (D.rec (motive := fun _ => Y4 → Y3) (@N.a Y3) (@N.b Y3) (@N.c Y3) (@N.d Y3) k n) = N.get n k := by cases k <;> rfl
theorem selO4 (k : D) (n : Y5) : (D.rec (motive := fun _ => Y5 → Y4) (@N.a Y4) (@N.b Y4) (@N.c Y4) (@N.d Y4) k n) = N.get n k := by cases k <;> rfl
theorem selO5 (k : D) (n : Y6) : (D.rec (motive := fun _ => Y6 → Y5) (@N.a Y5) (@N.b Y5) (@N.c Y5) (@N.d Y5) k n) = N.get n k := by cases k <;> rfl
theorem selO6 (k : D) (n : Y7) : (D.rec (motive := fun _ => Y7 → Y6) (@N.a Y6) (@N.b Y6) (@N.c Y6) (@N.d Y6) k n) = N.get n k := by cases k <;> rfl
theorem selO7 (k : D) (n : Y8) : (D.rec (motive := fun _ => Y8 → Y7) (@N.a Y7) (@N.b Y7) (@N.c Y7) (@N.d Y7) k n) = N.get n k := by cases k <;> rfl
theorem uO0_eq (k : D) (v : Y0) (n : Y1) : uO0 k v n = N.set n k v := by cases n; cases k <;> rfl
theorem uO1_eq (k j0 : D) (v : Y0) (n : Y2) : uO1 k j0 v n = N.set n k (N.set (N.get n k) j0 v) := by
  obtain ⟨a, b, c, d⟩ := n
  cases k
  · show (⟨uO0 j0 v a, b, c, d⟩ : Y2) = _; rw [uO0_eq]; rfl
  · show (⟨a, uO0 j0 v b, c, d⟩ : Y2) = _; rw [uO0_eq]; rfl
  · show (⟨a, b, uO0 j0 v c, d⟩ : Y2) = _; rw [uO0_eq]; rfl
  · show (⟨a, b, c, uO0 j0 v d⟩ : Y2) = _; rw [uO0_eq]; rfl
theorem uO2_eq (k j0 j1 : D) (v : Y0) (n : Y3) : uO2 k j0 j1 v n = N.set n k (N.set (N.get n k) j0 (N.set (N.get (N.get n k) j0) j1 v)) := by
  obtain ⟨a, b, c, d⟩ := n
  cases k
  · show (⟨uO1 j0 j1 v a, b, c, d⟩ : Y3) = _; rw [uO1_eq]; rfl
  · show (⟨a, uO1 j0 j1 v b, c, d⟩ : Y3) = _; rw [uO1_eq]; rfl
  · show (⟨a, b, uO1 j0 j1 v c, d⟩ : Y3) = _; rw [uO1_eq]; rfl
  · show (⟨a, b, c, uO1 j0 j1 v d⟩ : Y3) = _; rw [uO1_eq]; rfl
theorem uO3_eq (k j0 j1 j2 : D) (v : Y0) (n : Y4) : uO3 k j0 j1 j2 v n = N.set n k (N.set (N.get n k) j0 (N.set (N.get (N.get n k) j0) j1 (N.set (N.get (N.get (N.get n k) j0) j1) j2 v))) := by
  obtain ⟨a, b, c, d⟩ := n
  cases k
  · show (⟨uO2 j0 j1 j2 v a, b, c, d⟩ : Y4) = _; rw [uO2_eq]; rfl
  · show (⟨a, uO2 j0 j1 j2 v b, c, d⟩ : Y4) = _; rw [uO2_eq]; rfl
  · show (⟨a, b, uO2 j0 j1 j2 v c, d⟩ : Y4) = _; rw [uO2_eq]; rfl
  · show (⟨a, b, c, uO2 j0 j1 j2 v d⟩ : Y4) = _; rw [uO2_eq]; rfl
theorem uO4_eq (k j0 j1 j2 j3 : D) (v : Y0) (n : Y5) : uO4 k j0 j1 j2 j3 v n = N.set n k (N.set (N.get n k) j0 (N.set (N.get (N.get n k) j0) j1 (N.set (N.get (N.get (N.get n k) j0) j1) j2 (N.set (N.get (N.get (N.get (N.get n k) j0) j1) j2) j3 v)))) := by
  obtain ⟨a, b, c, d⟩ := n
  cases k
  · show (⟨uO3 j0 j1 j2 j3 v a, b, c, d⟩ : Y5) = _; rw [uO3_eq]; rfl
  · show (⟨a, uO3 j0 j1 j2 j3 v b, c, d⟩ : Y5) = _; rw [uO3_eq]; rfl
  · show (⟨a, b, uO3 j0 j1 j2 j3 v c, d⟩ : Y5) = _; rw [uO3_eq]; rfl
  · show (⟨a, b, c, uO3 j0 j1 j2 j3 v d⟩ : Y5) = _; rw [uO3_eq]; rfl
theorem uO5_eq (k j0 j1 j2 j3 j4 : D) (v : Y0) (n : Y6) : uO5 k j0 j1 j2 j3 j4 v n = N.set n k (N.set (N.get n k) j0 (N.set (N.get (N.get n k) j0) j1 (N.set (N.get (N.get (N.get n k) j0) j1) j2 (N.set (N.get (N.get (N.get (N.get n k) j0) j1) j2) j3 (N.set (N.get (N.get (N.get (N.get (N.get n k) j0) j1) j2) j3) j4 v))))) := by
  obtain ⟨a, b, c, d⟩ := n
  cases k
  · show (⟨uO4 j0 j1 j2 j3 j4 v a, b, c, d⟩ : Y6) = _; rw [uO4_eq]; rfl
  · show (⟨a, uO4 j0 j1 j2 j3 j4 v b, c, d⟩ : Y6) = _; rw [uO4_eq]; rfl
  · show (⟨a, b, uO4 j0 j1 j2 j3 j4 v c, d⟩ : Y6) = _; rw [uO4_eq]; rfl
  · show (⟨a, b, c, uO4 j0 j1 j2 j3 j4 v d⟩ : Y6) = _; rw [uO4_eq]; rfl
theorem uO6_eq (k j0 j1 j2 j3 j4 j5 : D) (v : Y0) (n : Y7) : uO6 k j0 j1 j2 j3 j4 j5 v n = N.set n k (N.set (N.get n k) j0 (N.set (N.get (N.get n k) j0) j1 (N.set (N.get (N.get (N.get n k) j0) j1) j2 (N.set (N.get (N.get (N.get (N.get n k) j0) j1) j2) j3 (N.set (N.get (N.get (N.get (N.get (N.get n k) j0) j1) j2) j3) j4 (N.set (N.get (N.get (N.get (N.get (N.get (N.get n k) j0) j1) j2) j3) j4) j5 v)))))) := by
  obtain ⟨a, b, c, d⟩ := n
  cases k
  · show (⟨uO5 j0 j1 j2 j3 j4 j5 v a, b, c, d⟩ : Y7) = _; rw [uO5_eq]; rfl
  · show (⟨a, uO5 j0 j1 j2 j3 j4 j5 v b, c, d⟩ : Y7) = _; rw [uO5_eq]; rfl
  · show (⟨a, b, uO5 j0 j1 j2 j3 j4 j5 v c, d⟩ : Y7) = _; rw [uO5_eq]; rfl
  · show (⟨a, b, c, uO5 j0 j1 j2 j3 j4 j5 v d⟩ : Y7) = _; rw [uO5_eq]; rfl
theorem uO7_eq (k j0 j1 j2 j3 j4 j5 j6 : D) (v : Y0) (n : Y8) : uO7 k j0 j1 j2 j3 j4 j5 j6 v n = N.set n k (N.set (N.get n k) j0 (N.set (N.get (N.get n k) j0) j1 (N.set (N.get (N.get (N.get n k) j0) j1) j2 (N.set (N.get (N.get (N.get (N.get n k) j0) j1) j2) j3 (N.set (N.get (N.get (N.get (N.get (N.get n k) j0) j1) j2) j3) j4 (N.set (N.get (N.get (N.get (N.get (N.get (N.get n k) j0) j1) j2) j3) j4) j5 (N.set (N.get (N.get (N.get (N.get (N.get (N.get (N.get n k) j0) j1) j2) j3) j4) j5) j6 v))))))) := by
  obtain ⟨a, b, c, d⟩ := n
  cases k
  · show (⟨uO6 j0 j1 j2 j3 j4 j5 j6 v a, b, c, d⟩ : Y8) = _; rw [uO6_eq]; rfl
  · show (⟨a, uO6 j0 j1 j2 j3 j4 j5 j6 v b, c, d⟩ : Y8) = _; rw [uO6_eq]; rfl
  · show (⟨a, b, uO6 j0 j1 j2 j3 j4 j5 j6 v c, d⟩ : Y8) = _; rw [uO6_eq]; rfl
  · show (⟨a, b, c, uO6 j0 j1 j2 j3 j4 j5 j6 v d⟩ : Y8) = _; rw [uO6_eq]; rfl
theorem getTO_eq (p : Pos) (t : T Obj) : getTO p t = t.get p := by
  cases p with
  | s a b c d => cases a <;> cases b <;> cases c <;> cases d <;> rfl
  | l a b c d e f g h => show (D.rec (motive := fun _ => Y1 → Y0) (@N.a Y0) (@N.b Y0) (@N.c Y0) (@N.d Y0) h (D.rec (motive := fun _ => Y2 → Y1) (@N.a Y1) (@N.b Y1) (@N.c Y1) (@N.d Y1) g (D.rec (motive := fun _ => Y3 → Y2) (@N.a Y2) (@N.b Y2) (@N.c Y2) (@N.d Y2) f (D.rec (motive := fun _ => Y4 → Y3) (@N.a Y3) (@N.b Y3) (@N.c Y3) (@N.d Y3) e (D.rec (motive := fun _ => Y5 → Y4) (@N.a Y4) (@N.b Y4) (@N.c Y4) (@N.d Y4) d (D.rec (motive := fun _ => Y6 → Y5) (@N.a Y5) (@N.b Y5) (@N.c Y5) (@N.d Y5) c (D.rec (motive := fun _ => Y7 → Y6) (@N.a Y6) (@N.b Y6) (@N.c Y6) (@N.d Y6) b (D.rec (motive := fun _ => Y8 → Y7) (@N.a Y7) (@N.b Y7) (@N.c Y7) (@N.d Y7) a t.l)))))))) = N4.get (N4.get t.l a b c d) e f g h; simp only [N4.get, selO0, selO1, selO2, selO3, selO4, selO5, selO6, selO7]
  | x n => rfl
theorem setTO_eq (p : Pos) (v : Obj) (t : T Obj) : setTO p v t = T.set p v t := by
  obtain ⟨s, l, x⟩ := t
  cases p with
  | s a b c d => show (⟨uO3 a b c d (some v) s, l, x⟩ : T Obj) = _; rw [uO3_eq]; rfl
  | l a b c d e f g h => show (⟨s, uO7 a b c d e f g h (some v) l, x⟩ : T Obj) = _; rw [uO7_eq]; rfl
  | x n => rfl
noncomputable def getTN (p : Pos) (t : T Nat) : Option Nat := Pos.rec (motive := fun _ => T Nat → Option Nat)
  (fun a b c d t => (D.rec (motive := fun _ => Z1 → Z0) (@N.a Z0) (@N.b Z0) (@N.c Z0) (@N.d Z0) d (D.rec (motive := fun _ => Z2 → Z1) (@N.a Z1) (@N.b Z1) (@N.c Z1) (@N.d Z1) c (D.rec (motive := fun _ => Z3 → Z2) (@N.a Z2) (@N.b Z2) (@N.c Z2) (@N.d Z2) b (D.rec (motive := fun _ => Z4 → Z3) (@N.a Z3) (@N.b Z3) (@N.c Z3) (@N.d Z3) a t.s)))))
  (fun a b c d e f g h t => (D.rec (motive := fun _ => Z1 → Z0) (@N.a Z0) (@N.b Z0) (@N.c Z0) (@N.d Z0) h (D.rec (motive := fun _ => Z2 → Z1) (@N.a Z1) (@N.b Z1) (@N.c Z1) (@N.d Z1) g (D.rec (motive := fun _ => Z3 → Z2) (@N.a Z2) (@N.b Z2) (@N.c Z2) (@N.d Z2) f (D.rec (motive := fun _ => Z4 → Z3) (@N.a Z3) (@N.b Z3) (@N.c Z3) (@N.d Z3) e (D.rec (motive := fun _ => Z5 → Z4) (@N.a Z4) (@N.b Z4) (@N.c Z4) (@N.d Z4) d (D.rec (motive := fun _ => Z6 → Z5) (@N.a Z5) (@N.b Z5) (@N.c Z5) (@N.d Z5) c (D.rec (motive := fun _ => Z7 → Z6) (@N.a Z6) (@N.b Z6) (@N.c Z6) (@N.d Z6) b (D.rec (motive := fun _ => Z8 → Z7) (@N.a Z7) (@N.b Z7) (@N.c Z7) (@N.d Z7) a t.l)))))))))
  (fun n t => assocN n t.x) p t
noncomputable def uN0 (k : D) (v : Z0) (n : Z1) : Z1 := D.rec (motive := fun _ => Z0 → Z1 → Z1)
  (fun v n => N.rec (motive := fun _ => Z0 → Z1) (fun _ b c d v => ⟨v, b, c, d⟩) n v) (fun v n => N.rec (motive := fun _ => Z0 → Z1) (fun a _ c d v => ⟨a, v, c, d⟩) n v) (fun v n => N.rec (motive := fun _ => Z0 → Z1) (fun a b _ d v => ⟨a, b, v, d⟩) n v) (fun v n => N.rec (motive := fun _ => Z0 → Z1) (fun a b c _ v => ⟨a, b, c, v⟩) n v) k v n
noncomputable def uN1 (k j0 : D) (v : Z0) (n : Z2) : Z2 := D.rec (motive := fun _ => D → Z0 → Z2 → Z2)
  (fun j0 v n => N.rec (motive := fun _ => D → Z0 → Z2) (fun a b c d j0 v => ⟨uN0 j0 v a, b, c, d⟩) n j0 v) (fun j0 v n => N.rec (motive := fun _ => D → Z0 → Z2) (fun a b c d j0 v => ⟨a, uN0 j0 v b, c, d⟩) n j0 v) (fun j0 v n => N.rec (motive := fun _ => D → Z0 → Z2) (fun a b c d j0 v => ⟨a, b, uN0 j0 v c, d⟩) n j0 v) (fun j0 v n => N.rec (motive := fun _ => D → Z0 → Z2) (fun a b c d j0 v => ⟨a, b, c, uN0 j0 v d⟩) n j0 v) k j0 v n
noncomputable def uN2 (k j0 j1 : D) (v : Z0) (n : Z3) : Z3 := D.rec (motive := fun _ => D → D → Z0 → Z3 → Z3)
  (fun j0 j1 v n => N.rec (motive := fun _ => D → D → Z0 → Z3) (fun a b c d j0 j1 v => ⟨uN1 j0 j1 v a, b, c, d⟩) n j0 j1 v) (fun j0 j1 v n => N.rec (motive := fun _ => D → D → Z0 → Z3) (fun a b c d j0 j1 v => ⟨a, uN1 j0 j1 v b, c, d⟩) n j0 j1 v) (fun j0 j1 v n => N.rec (motive := fun _ => D → D → Z0 → Z3) (fun a b c d j0 j1 v => ⟨a, b, uN1 j0 j1 v c, d⟩) n j0 j1 v) (fun j0 j1 v n => N.rec (motive := fun _ => D → D → Z0 → Z3) (fun a b c d j0 j1 v => ⟨a, b, c, uN1 j0 j1 v d⟩) n j0 j1 v) k j0 j1 v n
noncomputable def uN3 (k j0 j1 j2 : D) (v : Z0) (n : Z4) : Z4 := D.rec (motive := fun _ => D → D → D → Z0 → Z4 → Z4)
  (fun j0 j1 j2 v n => N.rec (motive := fun _ => D → D → D → Z0 → Z4) (fun a b c d j0 j1 j2 v => ⟨uN2 j0 j1 j2 v a, b, c, d⟩) n j0 j1 j2 v) (fun j0 j1 j2 v n => N.rec (motive := fun _ => D → D → D → Z0 → Z4) (fun a b c d j0 j1 j2 v => ⟨a, uN2 j0 j1 j2 v b, c, d⟩) n j0 j1 j2 v) (fun j0 j1 j2 v n => N.rec (motive := fun _ => D → D → D → Z0 → Z4) (fun a b c d j0 j1 j2 v => ⟨a, b, uN2 j0 j1 j2 v c, d⟩) n j0 j1 j2 v) (fun j0 j1 j2 v n => N.rec (motive := fun _ => D → D → D → Z0 → Z4) (fun a b c d j0 j1 j2 v => ⟨a, b, c, uN2 j0 j1 j2 v d⟩) n j0 j1 j2 v) k j0 j1 j2 v n
noncomputable def uN4 (k j0 j1 j2 j3 : D) (v : Z0) (n : Z5) : Z5 := D.rec (motive := fun _ => D → D → D → D → Z0 → Z5 → Z5)
  (fun j0 j1 j2 j3 v n => N.rec (motive := fun _ => D → D → D → D → Z0 → Z5) (fun a b c d j0 j1 j2 j3 v => ⟨uN3 j0 j1 j2 j3 v a, b, c, d⟩) n j0 j1 j2 j3 v) (fun j0 j1 j2 j3 v n => N.rec (motive := fun _ => D → D → D → D → Z0 → Z5) (fun a b c d j0 j1 j2 j3 v => ⟨a, uN3 j0 j1 j2 j3 v b, c, d⟩) n j0 j1 j2 j3 v) (fun j0 j1 j2 j3 v n => N.rec (motive := fun _ => D → D → D → D → Z0 → Z5) (fun a b c d j0 j1 j2 j3 v => ⟨a, b, uN3 j0 j1 j2 j3 v c, d⟩) n j0 j1 j2 j3 v) (fun j0 j1 j2 j3 v n => N.rec (motive := fun _ => D → D → D → D → Z0 → Z5) (fun a b c d j0 j1 j2 j3 v => ⟨a, b, c, uN3 j0 j1 j2 j3 v d⟩) n j0 j1 j2 j3 v) k j0 j1 j2 j3 v n
noncomputable def uN5 (k j0 j1 j2 j3 j4 : D) (v : Z0) (n : Z6) : Z6 := D.rec (motive := fun _ => D → D → D → D → D → Z0 → Z6 → Z6)
  (fun j0 j1 j2 j3 j4 v n => N.rec (motive := fun _ => D → D → D → D → D → Z0 → Z6) (fun a b c d j0 j1 j2 j3 j4 v => ⟨uN4 j0 j1 j2 j3 j4 v a, b, c, d⟩) n j0 j1 j2 j3 j4 v) (fun j0 j1 j2 j3 j4 v n => N.rec (motive := fun _ => D → D → D → D → D → Z0 → Z6) (fun a b c d j0 j1 j2 j3 j4 v => ⟨a, uN4 j0 j1 j2 j3 j4 v b, c, d⟩) n j0 j1 j2 j3 j4 v) (fun j0 j1 j2 j3 j4 v n => N.rec (motive := fun _ => D → D → D → D → D → Z0 → Z6) (fun a b c d j0 j1 j2 j3 j4 v => ⟨a, b, uN4 j0 j1 j2 j3 j4 v c, d⟩) n j0 j1 j2 j3 j4 v) (fun j0 j1 j2 j3 j4 v n => N.rec (motive := fun _ => D → D → D → D → D → Z0 → Z6) (fun a b c d j0 j1 j2 j3 j4 v => ⟨a, b, c, uN4 j0 j1 j2 j3 j4 v d⟩) n j0 j1 j2 j3 j4 v) k j0 j1 j2 j3 j4 v n
noncomputable def uN6 (k j0 j1 j2 j3 j4 j5 : D) (v : Z0) (n : Z7) : Z7 := D.rec (motive := fun _ => D → D → D → D → D → D → Z0 → Z7 → Z7)
  (fun j0 j1 j2 j3 j4 j5 v n => N.rec (motive := fun _ => D → D → D → D → D → D → Z0 → Z7) (fun a b c d j0 j1 j2 j3 j4 j5 v => ⟨uN5 j0 j1 j2 j3 j4 j5 v a, b, c, d⟩) n j0 j1 j2 j3 j4 j5 v) (fun j0 j1 j2 j3 j4 j5 v n => N.rec (motive := fun _ => D → D → D → D → D → D → Z0 → Z7) (fun a b c d j0 j1 j2 j3 j4 j5 v => ⟨a, uN5 j0 j1 j2 j3 j4 j5 v b, c, d⟩) n j0 j1 j2 j3 j4 j5 v) (fun j0 j1 j2 j3 j4 j5 v n => N.rec (motive := fun _ => D → D → D → D → D → D → Z0 → Z7) (fun a b c d j0 j1 j2 j3 j4 j5 v => ⟨a, b, uN5 j0 j1 j2 j3 j4 j5 v c, d⟩) n j0 j1 j2 j3 j4 j5 v) (fun j0 j1 j2 j3 j4 j5 v n => N.rec (motive := fun _ => D → D → D → D → D → D → Z0 → Z7) (fun a b c d j0 j1 j2 j3 j4 j5 v => ⟨a, b, c, uN5 j0 j1 j2 j3 j4 j5 v d⟩) n j0 j1 j2 j3 j4 j5 v) k j0 j1 j2 j3 j4 j5 v n
noncomputable def uN7 (k j0 j1 j2 j3 j4 j5 j6 : D) (v : Z0) (n : Z8) : Z8 := D.rec (motive := fun _ => D → D → D → D → D → D → D → Z0 → Z8 → Z8)
  (fun j0 j1 j2 j3 j4 j5 j6 v n => N.rec (motive := fun _ => D → D → D → D → D → D → D → Z0 → Z8) (fun a b c d j0 j1 j2 j3 j4 j5 j6 v => ⟨uN6 j0 j1 j2 j3 j4 j5 j6 v a, b, c, d⟩) n j0 j1 j2 j3 j4 j5 j6 v) (fun j0 j1 j2 j3 j4 j5 j6 v n => N.rec (motive := fun _ => D → D → D → D → D → D → D → Z0 → Z8) (fun a b c d j0 j1 j2 j3 j4 j5 j6 v => ⟨a, uN6 j0 j1 j2 j3 j4 j5 j6 v b, c, d⟩) n j0 j1 j2 j3 j4 j5 j6 v) (fun j0 j1 j2 j3 j4 j5 j6 v n => N.rec (motive := fun _ => D → D → D → D → D → D → D → Z0 → Z8) (fun a b c d j0 j1 j2 j3 j4 j5 j6 v => ⟨a, b, uN6 j0 j1 j2 j3 j4 j5 j6 v c, d⟩) n j0 j1 j2 j3 j4 j5 j6 v) (fun j0 j1 j2 j3 j4 j5 j6 v n => N.rec (motive := fun _ => D → D → D → D → D → D → D → Z0 → Z8) (fun a b c d j0 j1 j2 j3 j4 j5 j6 v => ⟨a, b, c, uN6 j0 j1 j2 j3 j4 j5 j6 v d⟩) n j0 j1 j2 j3 j4 j5 j6 v) k j0 j1 j2 j3 j4 j5 j6 v n
noncomputable def setTN (p : Pos) (v : Nat) (t : T Nat) : T Nat := Pos.rec (motive := fun _ => Nat → T Nat → T Nat)
  (fun a b c d v t => T.rec (motive := fun _ => D → D → D → D → Nat → T Nat) (fun s l x a b c d v => ⟨uN3 a b c d (some v) s, l, x⟩) t a b c d v)
  (fun a b c d e f g h v t => T.rec (motive := fun _ => D → D → D → D → D → D → D → D → Nat → T Nat) (fun s l x a b c d e f g h v => ⟨s, uN7 a b c d e f g h (some v) l, x⟩) t a b c d e f g h v)
  (fun n v t => ⟨t.s, t.l, (n, v) :: t.x⟩) p v t
theorem selN0 (k : D) (n : Z1) : (D.rec (motive := fun _ => Z1 → Z0) (@N.a Z0) (@N.b Z0) (@N.c Z0) (@N.d Z0) k n) = N.get n k := by cases k <;> rfl
theorem selN1 (k : D) (n : Z2) : (D.rec (motive := fun _ => Z2 → Z1) (@N.a Z1) (@N.b Z1) (@N.c Z1) (@N.d Z1) k n) = N.get n k := by cases k <;> rfl
theorem selN2 (k : D) (n : Z3) : (D.rec (motive := fun _ => Z3 → Z2) (@N.a Z2) (@N.b Z2) (@N.c Z2) (@N.d Z2) k n) = N.get n k := by cases k <;> rfl
theorem selN3 (k : D) (n : Z4) : (D.rec (motive := fun _ => Z4 → Z3) (@N.a Z3) (@N.b Z3) (@N.c Z3) (@N.d Z3) k n) = N.get n k := by cases k <;> rfl
theorem selN4 (k : D) (n : Z5) : (D.rec (motive := fun _ => Z5 → Z4) (@N.a Z4) (@N.b Z4) (@N.c Z4) (@N.d Z4) k n) = N.get n k := by cases k <;> rfl
theorem selN5 (k : D) (n : Z6) : (D.rec (motive := fun _ => Z6 → Z5) (@N.a Z5) (@N.b Z5) (@N.c Z5) (@N.d Z5) k n) = N.get n k := by cases k <;> rfl
theorem selN6 (k : D) (n : Z7) : (D.rec (motive := fun _ => Z7 → Z6) (@N.a Z6) (@N.b Z6) (@N.c Z6) (@N.d Z6) k n) = N.get n k := by cases k <;> rfl
theorem selN7 (k : D) (n : Z8) : (D.rec (motive := fun _ => Z8 → Z7) (@N.a Z7) (@N.b Z7) (@N.c Z7) (@N.d Z7) k n) = N.get n k := by cases k <;> rfl
theorem uN0_eq (k : D) (v : Z0) (n : Z1) : uN0 k v n = N.set n k v := by cases n; cases k <;> rfl
theorem uN1_eq (k j0 : D) (v : Z0) (n : Z2) : uN1 k j0 v n = N.set n k (N.set (N.get n k) j0 v) := by
  obtain ⟨a, b, c, d⟩ := n
  cases k
  · show (⟨uN0 j0 v a, b, c, d⟩ : Z2) = _; rw [uN0_eq]; rfl
  · show (⟨a, uN0 j0 v b, c, d⟩ : Z2) = _; rw [uN0_eq]; rfl
  · show (⟨a, b, uN0 j0 v c, d⟩ : Z2) = _; rw [uN0_eq]; rfl
  · show (⟨a, b, c, uN0 j0 v d⟩ : Z2) = _; rw [uN0_eq]; rfl
theorem uN2_eq (k j0 j1 : D) (v : Z0) (n : Z3) : uN2 k j0 j1 v n = N.set n k (N.set (N.get n k) j0 (N.set (N.get (N.get n k) j0) j1 v)) := by
  obtain ⟨a, b, c, d⟩ := n
  cases k
  · show (⟨uN1 j0 j1 v a, b, c, d⟩ : Z3) = _; rw [uN1_eq]; rfl
  · show (⟨a, uN1 j0 j1 v b, c, d⟩ : Z3) = _; rw [uN1_eq]; rfl
  · show (⟨a, b, uN1 j0 j1 v c, d⟩ : Z3) = _; rw [uN1_eq]; rfl
  · show (⟨a, b, c, uN1 j0 j1 v d⟩ : Z3) = _; rw [uN1_eq]; rfl
theorem uN3_eq (k j0 j1 j2 : D) (v : Z0) (n : Z4) : uN3 k j0 j1 j2 v n = N.set n k (N.set (N.get n k) j0 (N.set (N.get (N.get n k) j0) j1 (N.set (N.get (N.get (N.get n k) j0) j1) j2 v))) := by
  obtain ⟨a, b, c, d⟩ := n
  cases k
  · show (⟨uN2 j0 j1 j2 v a, b, c, d⟩ : Z4) = _; rw [uN2_eq]; rfl
  · show (⟨a, uN2 j0 j1 j2 v b, c, d⟩ : Z4) = _; rw [uN2_eq]; rfl
  · show (⟨a, b, uN2 j0 j1 j2 v c, d⟩ : Z4) = _; rw [uN2_eq]; rfl
  · show (⟨a, b, c, uN2 j0 j1 j2 v d⟩ : Z4) = _; rw [uN2_eq]; rfl
theorem uN4_eq (k j0 j1 j2 j3 : D) (v : Z0) (n : Z5) : uN4 k j0 j1 j2 j3 v n = N.set n k (N.set (N.get n k) j0 (N.set (N.get (N.get n k) j0) j1 (N.set (N.get (N.get (N.get n k) j0) j1) j2 (N.set (N.get (N.get (N.get (N.get n k) j0) j1) j2) j3 v)))) := by
  obtain ⟨a, b, c, d⟩ := n
  cases k
  · show (⟨uN3 j0 j1 j2 j3 v a, b, c, d⟩ : Z5) = _; rw [uN3_eq]; rfl
  · show (⟨a, uN3 j0 j1 j2 j3 v b, c, d⟩ : Z5) = _; rw [uN3_eq]; rfl
  · show (⟨a, b, uN3 j0 j1 j2 j3 v c, d⟩ : Z5) = _; rw [uN3_eq]; rfl
  · show (⟨a, b, c, uN3 j0 j1 j2 j3 v d⟩ : Z5) = _; rw [uN3_eq]; rfl
theorem uN5_eq (k j0 j1 j2 j3 j4 : D) (v : Z0) (n : Z6) : uN5 k j0 j1 j2 j3 j4 v n = N.set n k (N.set (N.get n k) j0 (N.set (N.get (N.get n k) j0) j1 (N.set (N.get (N.get (N.get n k) j0) j1) j2 (N.set (N.get (N.get (N.get (N.get n k) j0) j1) j2) j3 (N.set (N.get (N.get (N.get (N.get (N.get n k) j0) j1) j2) j3) j4 v))))) := by
  obtain ⟨a, b, c, d⟩ := n
  cases k
  · show (⟨uN4 j0 j1 j2 j3 j4 v a, b, c, d⟩ : Z6) = _; rw [uN4_eq]; rfl
  · show (⟨a, uN4 j0 j1 j2 j3 j4 v b, c, d⟩ : Z6) = _; rw [uN4_eq]; rfl
  · show (⟨a, b, uN4 j0 j1 j2 j3 j4 v c, d⟩ : Z6) = _; rw [uN4_eq]; rfl
  · show (⟨a, b, c, uN4 j0 j1 j2 j3 j4 v d⟩ : Z6) = _; rw [uN4_eq]; rfl
theorem uN6_eq (k j0 j1 j2 j3 j4 j5 : D) (v : Z0) (n : Z7) : uN6 k j0 j1 j2 j3 j4 j5 v n = N.set n k (N.set (N.get n k) j0 (N.set (N.get (N.get n k) j0) j1 (N.set (N.get (N.get (N.get n k) j0) j1) j2 (N.set (N.get (N.get (N.get (N.get n k) j0) j1) j2) j3 (N.set (N.get (N.get (N.get (N.get (N.get n k) j0) j1) j2) j3) j4 (N.set (N.get (N.get (N.get (N.get (N.get (N.get n k) j0) j1) j2) j3) j4) j5 v)))))) := by
  obtain ⟨a, b, c, d⟩ := n
  cases k
  · show (⟨uN5 j0 j1 j2 j3 j4 j5 v a, b, c, d⟩ : Z7) = _; rw [uN5_eq]; rfl
  · show (⟨a, uN5 j0 j1 j2 j3 j4 j5 v b, c, d⟩ : Z7) = _; rw [uN5_eq]; rfl
  · show (⟨a, b, uN5 j0 j1 j2 j3 j4 j5 v c, d⟩ : Z7) = _; rw [uN5_eq]; rfl
  · show (⟨a, b, c, uN5 j0 j1 j2 j3 j4 j5 v d⟩ : Z7) = _; rw [uN5_eq]; rfl
theorem uN7_eq (k j0 j1 j2 j3 j4 j5 j6 : D) (v : Z0) (n : Z8) : uN7 k j0 j1 j2 j3 j4 j5 j6 v n = N.set n k (N.set (N.get n k) j0 (N.set (N.get (N.get n k) j0) j1 (N.set (N.get (N.get (N.get n k) j0) j1) j2 (N.set (N.get (N.get (N.get (N.get n k) j0) j1) j2) j3 (N.set (N.get (N.get (N.get (N.get (N.get n k) j0) j1) j2) j3) j4 (N.set (N.get (N.get (N.get (N.get (N.get (N.get n k) j0) j1) j2) j3) j4) j5 (N.set (N.get (N.get (N.get (N.get (N.get (N.get (N.get n k) j0) j1) j2) j3) j4) j5) j6 v))))))) := by
  obtain ⟨a, b, c, d⟩ := n
  cases k
  · show (⟨uN6 j0 j1 j2 j3 j4 j5 j6 v a, b, c, d⟩ : Z8) = _; rw [uN6_eq]; rfl
  · show (⟨a, uN6 j0 j1 j2 j3 j4 j5 j6 v b, c, d⟩ : Z8) = _; rw [uN6_eq]; rfl
  · show (⟨a, b, uN6 j0 j1 j2 j3 j4 j5 j6 v c, d⟩ : Z8) = _; rw [uN6_eq]; rfl
  · show (⟨a, b, c, uN6 j0 j1 j2 j3 j4 j5 j6 v d⟩ : Z8) = _; rw [uN6_eq]; rfl
theorem getTN_eq (p : Pos) (t : T Nat) : getTN p t = t.get p := by
  cases p with
  | s a b c d => cases a <;> cases b <;> cases c <;> cases d <;> rfl
  | l a b c d e f g h => show (D.rec (motive := fun _ => Z1 → Z0) (@N.a Z0) (@N.b Z0) (@N.c Z0) (@N.d Z0) h (D.rec (motive := fun _ => Z2 → Z1) (@N.a Z1) (@N.b Z1) (@N.c Z1) (@N.d Z1) g (D.rec (motive := fun _ => Z3 → Z2) (@N.a Z2) (@N.b Z2) (@N.c Z2) (@N.d Z2) f (D.rec (motive := fun _ => Z4 → Z3) (@N.a Z3) (@N.b Z3) (@N.c Z3) (@N.d Z3) e (D.rec (motive := fun _ => Z5 → Z4) (@N.a Z4) (@N.b Z4) (@N.c Z4) (@N.d Z4) d (D.rec (motive := fun _ => Z6 → Z5) (@N.a Z5) (@N.b Z5) (@N.c Z5) (@N.d Z5) c (D.rec (motive := fun _ => Z7 → Z6) (@N.a Z6) (@N.b Z6) (@N.c Z6) (@N.d Z6) b (D.rec (motive := fun _ => Z8 → Z7) (@N.a Z7) (@N.b Z7) (@N.c Z7) (@N.d Z7) a t.l)))))))) = N4.get (N4.get t.l a b c d) e f g h; simp only [N4.get, selN0, selN1, selN2, selN3, selN4, selN5, selN6, selN7]
  | x n => rfl
theorem setTN_eq (p : Pos) (v : Nat) (t : T Nat) : setTN p v t = T.set p v t := by
  obtain ⟨s, l, x⟩ := t
  cases p with
  | s a b c d => show (⟨uN3 a b c d (some v) s, l, x⟩ : T Nat) = _; rw [uN3_eq]; rfl
  | l a b c d e f g h => show (⟨s, uN7 a b c d e f g h (some v) l, x⟩ : T Nat) = _; rw [uN7_eq]; rfl
  | x n => rfl
noncomputable def incX (k : D) : Option D := D.rec (motive := fun _ => Option D) (some .B) (some .C) (some .E) none k
theorem incX_eq (k : D) : incX k = k.inc := by cases k <;> rfl
noncomputable def succX (p : Pos) : Pos := Pos.rec (motive := fun _ => Pos)
  (fun a b c d => D.rec (motive := fun _ => D → D → D → Pos) (fun a b c => .s a b c .B) (fun a b c => .s a b c .C) (fun a b c => .s a b c .E) (fun a b c => Pos.succ (.s a b c .E)) d a b c)
  (fun a b c d e f g h => D.rec (motive := fun _ => D → D → D → D → D → D → D → Pos) (fun a b c d e f g => .l a b c d e f g .B) (fun a b c d e f g => .l a b c d e f g .C) (fun a b c d e f g => .l a b c d e f g .E)
    (fun a b c d e f g => D.rec (motive := fun _ => D → D → D → D → D → D → Pos) (fun a b c d e f => .l a b c d e f .B .A) (fun a b c d e f => .l a b c d e f .C .A) (fun a b c d e f => .l a b c d e f .E .A) (fun a b c d e f => Pos.succ (.l a b c d e f .E .E)) g a b c d e f) h a b c d e f g)
  (fun n => .x (n + 1)) p
theorem succX_eq (p : Pos) : succX p = p.succ := by
  cases p with
  | s a b c d => cases d <;> rfl
  | l a b c d e f g h => cases h <;> first | rfl | (cases g <;> rfl)
  | x n => rfl
noncomputable def nthX (l : List AV) (i : Nat) : Option AV := List.rec (motive := fun _ => Nat → Option AV) (fun _ => none)
  (fun a _ ih i => Nat.rec (motive := fun _ => AV → (Nat → Option AV) → Option AV) (fun a _ => some a) (fun j _ _ ih => ih j) i a ih) l i
noncomputable def dropX (l : List AV) (i : Nat) : List AV := List.rec (motive := fun _ => Nat → List AV) (fun _ => [])
  (fun a l ih i => Nat.rec (motive := fun _ => AV → List AV → (Nat → List AV) → List AV) (fun a l _ => a :: l) (fun j _ _ _ ih => ih j) i a l ih) l i
noncomputable def takeX (l : List AV) (i : Nat) : List AV := List.rec (motive := fun _ => Nat → List AV) (fun _ => [])
  (fun a _ ih i => Nat.rec (motive := fun _ => AV → (Nat → List AV) → List AV) (fun _ _ => []) (fun j _ a ih => a :: ih j) i a ih) l i
noncomputable def lenX (l : List AV) : Nat := List.rec (motive := fun _ => Nat) 0 (fun _ _ ih => Nat.add ih 1) l
noncomputable def appX (l m : List AV) : List AV := List.rec (motive := fun _ => List AV) m (fun a _ ih => a :: ih) l
noncomputable def atLeastX (l : List AV) (n : Nat) : Bool := List.rec (motive := fun _ => Nat → Bool) (Nat.rec (motive := fun _ => Bool) true (fun _ _ => false))
  (fun _ _ ih n => Nat.rec (motive := fun _ => (Nat → Bool) → Bool) (fun _ => true) (fun j _ ih => ih j) n ih) l n
noncomputable def consO (a : AV) (o : Option (List AV)) : Option (List AV) := Option.rec (motive := fun _ => AV → Option (List AV)) (fun _ => none) (fun l a => some (a :: l)) o a
noncomputable def over0X (vs l : List AV) : Option (List AV) := List.rec (motive := fun _ => List AV → Option (List AV)) (fun l => some l)
  (fun v _ ih l => List.rec (motive := fun _ => AV → (List AV → Option (List AV)) → Option (List AV)) (fun _ _ => none) (fun _ r _ v ih => consO v (ih r)) l v ih) vs l
noncomputable def overX (l : List AV) (i : Nat) (vs : List AV) : Option (List AV) := List.rec (motive := fun _ => Nat → List AV → Option (List AV))
  (fun i vs => Nat.rec (motive := fun _ => List AV → Option (List AV)) (fun vs => over0X vs []) (fun _ _ _ => none) i vs)
  (fun a l ih i vs => Nat.rec (motive := fun _ => AV → List AV → (Nat → List AV → Option (List AV)) → List AV → Option (List AV))
    (fun a l _ vs => over0X vs (a :: l)) (fun j _ a _ ih vs => consO a (ih j vs)) i a l ih vs) l i vs
noncomputable def repX (zero : List AV) (n : Nat) : List AV := Nat.rec (motive := fun _ => List AV → List AV) (fun _ => []) (fun _ ih z => appX z (ih z)) n zero
theorem nthX_eq (l : List AV) : ∀ i, nthX l i = nth l i := by
  induction l with
  | nil => intro i; cases i <;> rfl
  | cons a l ih => intro i; cases i with
    | zero => rfl
    | succ i => exact ih i
theorem dropX_eq (l : List AV) : ∀ i, dropX l i = dropN l i := by
  induction l with
  | nil => intro i; cases i <;> rfl
  | cons a l ih => intro i; cases i with
    | zero => rfl
    | succ i => exact ih i
theorem takeX_eq (l : List AV) : ∀ i, takeX l i = takeN l i := by
  induction l with
  | nil => intro i; cases i <;> rfl
  | cons a l ih => intro i; cases i with
    | zero => rfl
    | succ i => exact congrArg (List.cons a) (ih i)
theorem lenX_eq (l : List AV) : lenX l = lenN l := by
  induction l with
  | nil => rfl
  | cons a l ih => exact congrArg Nat.succ ih
theorem appX_eq (l m : List AV) : appX l m = app l m := by
  induction l with
  | nil => cases m <;> rfl
  | cons a l ih => exact congrArg (List.cons a) ih
theorem atLeastX_eq (l : List AV) : ∀ i, atLeastX l i = atLeast l i := by
  induction l with
  | nil => intro i; cases i <;> rfl
  | cons a l ih => intro i; cases i with
    | zero => rfl
    | succ i => exact ih i
theorem over0X_eq (vs : List AV) : ∀ l, over0X vs l = over0 vs l := by
  induction vs with
  | nil => intro l; cases l <;> rfl
  | cons v vs ih => intro l; cases l with
    | nil => rfl
    | cons a l =>
      show consO v (over0X vs l) = over0 (v :: vs) (a :: l)
      rw [ih l]; simp only [over0]; cases over0 vs l <;> rfl
theorem overX_eq (l : List AV) : ∀ i vs, overX l i vs = over l i vs := by
  induction l with
  | nil => intro i vs; cases i with
    | zero => exact (over0X_eq vs []).trans (by simp [over])
    | succ i => rfl
  | cons a l ih => intro i vs; cases i with
    | zero => exact (over0X_eq vs (a :: l)).trans (by simp [over])
    | succ i =>
      show consO a (overX l i vs) = over (a :: l) (i + 1) vs
      rw [ih i vs]; simp only [over]; cases over l i vs <;> rfl
theorem repX_eq (zero : List AV) (n : Nat) : repX zero n = rep zero n := by
  induction n with
  | zero => rfl
  | succ n ih => exact (appX_eq zero (repX zero n)).trans (by rw [ih]; rfl)
noncomputable def nthXN (l : List Nat) (i : Nat) : Option Nat := List.rec (motive := fun _ => Nat → Option Nat) (fun _ => none)
  (fun a _ ih i => Nat.rec (motive := fun _ => Nat → (Nat → Option Nat) → Option Nat) (fun a _ => some a) (fun j _ _ ih => ih j) i a ih) l i
noncomputable def dropXN (l : List Nat) (i : Nat) : List Nat := List.rec (motive := fun _ => Nat → List Nat) (fun _ => [])
  (fun a l ih i => Nat.rec (motive := fun _ => Nat → List Nat → (Nat → List Nat) → List Nat) (fun a l _ => a :: l) (fun j _ _ _ ih => ih j) i a l ih) l i
noncomputable def takeXN (l : List Nat) (i : Nat) : List Nat := List.rec (motive := fun _ => Nat → List Nat) (fun _ => [])
  (fun a _ ih i => Nat.rec (motive := fun _ => Nat → (Nat → List Nat) → List Nat) (fun _ _ => []) (fun j _ a ih => a :: ih j) i a ih) l i
noncomputable def lenXN (l : List Nat) : Nat := List.rec (motive := fun _ => Nat) 0 (fun _ _ ih => Nat.add ih 1) l
noncomputable def appXN (l m : List Nat) : List Nat := List.rec (motive := fun _ => List Nat) m (fun a _ ih => a :: ih) l
theorem nthXN_eq (l : List Nat) : ∀ i, nthXN l i = nth l i := by
  induction l with
  | nil => intro i; cases i <;> rfl
  | cons a l ih => intro i; cases i with
    | zero => rfl
    | succ i => exact ih i
theorem dropXN_eq (l : List Nat) : ∀ i, dropXN l i = dropN l i := by
  induction l with
  | nil => intro i; cases i <;> rfl
  | cons a l ih => intro i; cases i with
    | zero => rfl
    | succ i => exact ih i
theorem takeXN_eq (l : List Nat) : ∀ i, takeXN l i = takeN l i := by
  induction l with
  | nil => intro i; cases i <;> rfl
  | cons a l ih => intro i; cases i with
    | zero => rfl
    | succ i => exact congrArg (List.cons a) (ih i)
theorem lenXN_eq (l : List Nat) : lenXN l = lenN l := by
  induction l with
  | nil => rfl
  | cons a l ih => exact congrArg Nat.succ ih
theorem appXN_eq (l m : List Nat) : appXN l m = app l m := by
  induction l with
  | nil => cases m <;> rfl
  | cons a l ih => exact congrArg (List.cons a) ih
inductive VI where
  | no | is (k : IntKind) (n : Int)
inductive VP where
  | no | nil | at (p : Pos) (o : Nat)
inductive VS where
  | no | is (a : Option (Pos × Nat)) (len cap : Nat) (soft : Option Nat)
inductive VB where
  | no | t | f
noncomputable def viI (v : AV) : VI := AV.rec (motive_1 := fun _ => VI) (motive_2 := fun _ => Unit) (fun _ => .no) (fun k n => .is k n) (fun _ => .no) (fun _ _ => .no) (fun _ => .no) (fun _ _ => .no) .no (fun _ => .no) (fun _ => .no) (fun _ _ _ _ => .no) (fun _ => .no) (fun _ _ _ _ _ => .no) .no (fun _ _ _ => .no) .no (fun _ _ => .no) (fun _ _ => .no) .no () (fun _ _ _ _ => ()) v
noncomputable def viB (v : AV) : VB := AV.rec (motive_1 := fun _ => VB) (motive_2 := fun _ => Unit) (Bool.rec .f .t) (fun _ _ => .no) (fun _ => .no) (fun _ _ => .no) (fun _ => .no) (fun _ _ => .no) .no (fun _ => .no) (fun _ => .no) (fun _ _ _ _ => .no) (fun _ => .no) (fun _ _ _ _ _ => .no) .no (fun _ _ _ => .no) .no (fun _ _ => .no) (fun _ _ => .no) .no () (fun _ _ _ _ => ()) v
noncomputable def vpO (a : Option (Pos × Nat)) : VP := Option.rec (motive := fun _ => VP) .nil (fun a => Prod.rec (motive := fun _ => VP) (fun p o => .at p o) a) a
noncomputable def viP (v : AV) : VP := AV.rec (motive_1 := fun _ => VP) (motive_2 := fun _ => Unit) (fun _ => .no) (fun _ _ => .no) (fun _ => .no) (fun _ _ => .no) (fun _ => .no) (fun _ _ => .no) .no (fun _ => .no) vpO (fun _ _ _ _ => .no) (fun _ => .no) (fun _ _ _ _ _ => .no) .no (fun _ _ _ => .no) .no (fun _ _ => .no) (fun _ _ => .no) .no () (fun _ _ _ _ => ()) v
noncomputable def viS (v : AV) : VS := AV.rec (motive_1 := fun _ => VS) (motive_2 := fun _ => Unit) (fun _ => .no) (fun _ _ => .no) (fun _ => .no) (fun _ _ => .no) (fun _ => .no) (fun _ _ => .no) .no (fun _ => .no) (fun _ => .no) (fun a l c f => .is a l c f) (fun _ => .no) (fun _ _ _ _ _ => .no) .no (fun _ _ _ => .no) .no (fun _ _ => .no) (fun _ _ => .no) .no () (fun _ _ _ _ => ()) v
noncomputable def viT (v : AV) : Option (List Nat) := AV.rec (motive_1 := fun _ => Option (List Nat)) (motive_2 := fun _ => Unit) (fun _ => none) (fun _ _ => none) (fun _ => none) (fun _ _ => none) (fun _ => none) (fun _ _ => none) none (fun s => some s) (fun _ => none) (fun _ _ _ _ => none) (fun _ => none) (fun _ _ _ _ _ => none) none (fun _ _ _ => none) none (fun _ _ => none) (fun _ _ => none) none () (fun _ _ _ _ => ()) v
noncomputable def viA (v : AV) : Option (List AV) := AV.rec (motive_1 := fun _ => Option (List AV)) (motive_2 := fun _ => Unit) (fun _ => none) (fun _ _ => none) (fun _ => none) (fun _ _ => none) (fun _ => none) (fun _ _ => none) none (fun _ => none) (fun _ => none) (fun _ _ _ _ => none) (fun _ => none) (fun _ _ _ _ _ => none) none (fun _ _ _ => none) none (fun cs _ => some cs) (fun _ _ => none) none () (fun _ _ _ _ => ()) v
noncomputable def viU (v : AV) : Option (List AV) := AV.rec (motive_1 := fun _ => Option (List AV)) (motive_2 := fun _ => Unit) (fun _ => none) (fun _ _ => none) (fun _ => none) (fun _ _ => none) (fun _ => none) (fun _ _ => none) none (fun _ => none) (fun _ => none) (fun _ _ _ _ => none) (fun _ => none) (fun _ _ _ _ _ => none) none (fun _ _ _ => none) none (fun _ _ => none) (fun cs _ => some cs) none () (fun _ _ _ _ => ()) v
noncomputable def cellsX (v : AV) : Option (List AV) := AV.rec (motive_1 := fun _ => Option (List AV)) (motive_2 := fun _ => Unit) (fun b => some [.bool b]) (fun k n => some [.int k n]) (fun k => some [.any k]) (fun f i => some [.sym f i]) (fun c => some [.byt c]) (fun k n => some [.flt k n]) (some [.ustr]) (fun s => some [.str s]) (fun a => some [.ptr a]) (fun a l c f => some [.slice a l c f]) (fun r => some [.map r]) (fun f a b _ _ => some [.func f a b]) (some [.nilFunc]) (fun t v _ => some [.iface t v]) (some [.nilIface]) (fun cs _ => some cs) (fun _ _ => none) none () (fun _ _ _ _ => ()) v
theorem viI_is {v : AV} {k : IntKind} {n : Int} (h : viI v = .is k n) : v = .int k n := by cases v <;> first | (cases h; rfl) | cases h
theorem viB_t {v : AV} (h : viB v = .t) : v = .bool true := by
  cases v <;> first | cases h | skip
  rename_i b; cases b <;> first | rfl | cases h
theorem viB_f {v : AV} (h : viB v = .f) : v = .bool false := by
  cases v <;> first | cases h | skip
  rename_i b; cases b <;> first | rfl | cases h
theorem viP_at {v : AV} {p : Pos} {o : Nat} (h : viP v = .at p o) : v = .ptr (some (p, o)) := by
  cases v <;> first | cases h | skip
  rename_i a; rcases a with _ | ⟨p, o⟩ <;> cases h; rfl
theorem viP_nil {v : AV} (h : viP v = .nil) : v = .ptr none := by
  cases v <;> first | cases h | skip
  rename_i a; rcases a with _ | ⟨p, o⟩ <;> cases h; rfl
theorem viS_is {v : AV} {a : Option (Pos × Nat)} {l c : Nat} {f : Option Nat} (h : viS v = .is a l c f) : v = .slice a l c f := by cases v <;> first | (cases h; rfl) | cases h
theorem viT_is {v : AV} {s : List Nat} (h : viT v = some s) : v = .str s := by cases v <;> first | (cases h; rfl) | cases h
theorem viA_is {v : AV} {s : List AV} (h : viA v = some s) : v = .agg s := by cases v <;> first | (cases h; rfl) | cases h
theorem viU_is {v : AV} {s : List AV} (h : viU v = some s) : v = .tuple s := by cases v <;> first | (cases h; rfl) | cases h
theorem cellsX_eq (v : AV) : cellsX v = v.cells? := by cases v <;> rfl
noncomputable def orDead (o : Option AV) : AV := Option.rec (motive := fun _ => AV) .dead (fun v => v) o
noncomputable def eO (x : Opd) (t : Tmps) : AV := Opd.rec (motive := fun _ => Tmps → AV) (fun p t => orDead (getT p t)) (fun v _ => v) x t
noncomputable def eOs (l : List Opd) (t : Tmps) : List AV := List.rec (motive := fun _ => Tmps → List AV) (fun _ => []) (fun x _ ih t => eO x t :: ih t) l t
theorem eO_eq (x : Opd) (t : Tmps) : eO x t = x.eval t := by
  cases x with
  | tmp i =>
    show orDead (getT i t) = _
    rw [getT_eq]; simp only [Opd.eval]; cases t.get i <;> rfl
  | const v => rfl
theorem eOs_eq (l : List Opd) (t : Tmps) : eOs l t = evals t l := by
  induction l with
  | nil => rfl
  | cons x l ih =>
    show eO x t :: eOs l t = _
    rw [ih, eO_eq]; rfl
noncomputable def kIx (k : IntKind) : Nat := IntKind.rec (motive := fun _ => Nat) 0 1 2 3 4 5 6 7 k
noncomputable def kMax (k : IntKind) : Nat := IntKind.rec (motive := fun _ => Nat) 127 32767 2147483647 9223372036854775807 255 65535 4294967295 18446744073709551615 k
noncomputable def eqKX (j k : IntKind) : Bool := Nat.beq (kIx j) (kIx k)
theorem eqKX_eq (j k : IntKind) : eqKX j k = eqK j k := by cases j <;> cases k <;> rfl
noncomputable def wrapN (k : IntKind) (m : Nat) : Int := Bool.rec (motive := fun _ => IntKind → Nat → Int) (fun k m => k.wrap (Int.ofNat m)) (fun _ m => Int.ofNat m) (Nat.ble m (kMax k)) k m
theorem wrapN_eq (k : IntKind) (m : Nat) : wrapN k m = k.wrap (Int.ofNat m) := by
  unfold wrapN
  cases h : Nat.ble m (kMax k) with
  | false => rfl
  | true =>
    show Int.ofNat m = k.wrap (Int.ofNat m)
    have h := Nat.le_of_ble_eq_true h
    have e : Int.ofNat m = (m : Int) := rfl
    cases k <;> simp only [IntKind.wrap, kMax, IntKind.bits, IntKind.signed] at * <;> rw [e] <;> simp <;> omega
noncomputable def wrapZ (k : IntKind) (n : Int) : Int := Int.rec (motive := fun _ => IntKind → Int) (fun m k => wrapN k m) (fun m k => k.wrap (Int.negSucc m)) n k
theorem wrapZ_eq (k : IntKind) (n : Int) : wrapZ k n = k.wrap n := by
  cases n with
  | ofNat m => exact wrapN_eq k m
  | negSucc m => rfl
noncomputable def addZ (k : IntKind) (a b : Int) : Int := Int.rec (motive := fun _ => Int → IntKind → Int)
  (fun m b k => Int.rec (motive := fun _ => Nat → IntKind → Int) (fun n m k => wrapN k (Nat.add m n)) (fun n m k => k.wrap (Int.ofNat m + Int.negSucc n)) b m k)
  (fun m b k => k.wrap (Int.negSucc m + b)) a b k
theorem addZ_eq (k : IntKind) (a b : Int) : addZ k a b = k.wrap (a + b) := by
  cases a <;> cases b <;> first | rfl | exact wrapN_eq k _
noncomputable def subZ (k : IntKind) (a b : Int) : Int := Int.rec (motive := fun _ => Int → IntKind → Int)
  (fun m b k => Int.rec (motive := fun _ => Nat → IntKind → Int) (fun n m k => Bool.rec (motive := fun _ => Nat → Nat → IntKind → Int) (fun n m k => k.wrap (Int.ofNat m - Int.ofNat n)) (fun n m k => wrapN k (Nat.sub m n)) (Nat.ble n m) n m k)
    (fun n m k => k.wrap (Int.ofNat m - Int.negSucc n)) b m k)
  (fun m b k => k.wrap (Int.negSucc m - b)) a b k
theorem subZ_eq (k : IntKind) (a b : Int) : subZ k a b = k.wrap (a - b) := by
  cases a with
  | negSucc m => rfl
  | ofNat m =>
    cases b with
    | negSucc n => rfl
    | ofNat n =>
      show Bool.rec (motive := fun _ => Nat → Nat → IntKind → Int) _ _ (Nat.ble n m) n m k = _
      cases h : Nat.ble n m with
      | false => rfl
      | true =>
        have h := Nat.le_of_ble_eq_true h
        show wrapN k (Nat.sub m n) = _
        rw [wrapN_eq]
        congr 1
        show ((m - n : Nat) : Int) = (m : Int) - (n : Int)
        omega
noncomputable def mulZ (k : IntKind) (a b : Int) : Int := Int.rec (motive := fun _ => Int → IntKind → Int)
  (fun m b k => Int.rec (motive := fun _ => Nat → IntKind → Int) (fun n m k => wrapN k (Nat.mul m n)) (fun n m k => k.wrap (Int.ofNat m * Int.negSucc n)) b m k)
  (fun m b k => k.wrap (Int.negSucc m * b)) a b k
theorem mulZ_eq (k : IntKind) (a b : Int) : mulZ k a b = k.wrap (a * b) := by
  cases a <;> cases b <;> first | rfl | exact wrapN_eq k _
theorem ble_iff' {a b : Nat} : Nat.ble a b = true ↔ a ≤ b := ⟨Nat.le_of_ble_eq_true, Nat.ble_eq_true_of_le⟩
theorem beq_iff' {a b : Nat} : Nat.beq a b = true ↔ a = b := ⟨Nat.eq_of_beq_eq_true, fun h => by subst h; exact Nat.beq_refl a⟩
noncomputable def ltZ (a b : Int) : Bool := Int.rec (motive := fun _ => Int → Bool)
  (fun m b => Int.rec (motive := fun _ => Nat → Bool) (fun n m => Nat.ble (Nat.succ m) n) (fun _ _ => false) b m)
  (fun m b => Int.rec (motive := fun _ => Nat → Bool) (fun _ _ => true) (fun n m => Nat.ble (Nat.succ n) m) b m) a b
theorem ltZ_eq (a b : Int) : ltZ a b = decide (a < b) := by
  rw [Bool.eq_iff_iff, decide_eq_true_iff]
  cases a with
  | ofNat m =>
    cases b with
    | ofNat n => exact ble_iff'.trans (Iff.symm Int.ofNat_lt)
    | negSucc n => exact ⟨fun h => absurd h Bool.false_ne_true, fun h => absurd h (by simp only [Int.ofNat_eq_natCast] ; omega)⟩
  | negSucc m =>
    cases b with
    | ofNat n => exact ⟨fun _ => by simp only [Int.ofNat_eq_natCast]; omega, fun _ => rfl⟩
    | negSucc n => exact ble_iff'.trans ⟨fun h => by omega, fun h => by omega⟩
noncomputable def eqZ (a b : Int) : Bool := Int.rec (motive := fun _ => Int → Bool)
  (fun m b => Int.rec (motive := fun _ => Nat → Bool) (fun n m => Nat.beq m n) (fun _ _ => false) b m)
  (fun m b => Int.rec (motive := fun _ => Nat → Bool) (fun _ _ => false) (fun n m => Nat.beq m n) b m) a b
theorem eqZ_eq (a b : Int) : eqZ a b = decide (a = b) := by
  rw [Bool.eq_iff_iff, decide_eq_true_iff]
  cases a with
  | ofNat m =>
    cases b with
    | ofNat n => exact (beq_iff' : Nat.beq m n = true ↔ m = n).trans ⟨fun h => by rw [h], fun h => by injection h⟩
    | negSucc n => exact ⟨fun h => absurd h Bool.false_ne_true, fun h => by cases h⟩
  | negSucc m =>
    cases b with
    | ofNat n => exact ⟨fun h => absurd h Bool.false_ne_true, fun h => by cases h⟩
    | negSucc n => exact (beq_iff' : Nat.beq m n = true ↔ m = n).trans ⟨fun h => by rw [h], fun h => by injection h⟩
noncomputable def notX (b : Bool) : Bool := Bool.rec (motive := fun _ => Bool) true false b
theorem notX_eq (b : Bool) : notX b = !b := by cases b <;> rfl
end A3
namespace A3
open Go
noncomputable def validX (h : T Obj) (gk : Pos × Nat) : Bool := match getTO gk.1 h with
  | some (.grp _ floor _) => Nat.ble floor gk.2
  | _ => false
theorem validX_eq (s : St) (gk : Pos × Nat) : validX s.heap gk = s.valid (some gk) := by
  unfold validX St.valid; rw [getTO_eq]; rfl
noncomputable def okCells (h : T Obj) (o : Option Obj) : Option (List AV) := Option.rec (motive := fun _ => T Obj → Option (List AV)) (fun _ => none)
  (fun o h => Obj.rec (motive := fun _ => T Obj → Option (List AV)) (fun cs _ g h => Option.rec (motive := fun _ => List AV → T Obj → Option (List AV)) (fun cs _ => some cs)
    (fun gk cs h => Bool.rec (motive := fun _ => List AV → Option (List AV)) (fun _ => none) (fun cs => some cs) (validX h gk) cs) g cs h) (fun _ _ _ _ => none) (fun _ => none) (fun _ _ => none) (fun _ _ => none) o h) o h
theorem okCells_eq (s : St) (p : Pos) : okCells s.heap (getTO p s.heap) = s.cells p := by
  rw [getTO_eq]; unfold St.cells
  cases s.heap.get p with
  | none => rfl
  | some o =>
    cases o with
    | cells cs ro g =>
      cases g with
      | none => rfl
      | some gk =>
        show Bool.rec (motive := fun _ => List AV → Option (List AV)) _ _ (validX s.heap gk) cs = _
        rw [validX_eq]; cases h : s.valid (some gk) <;> simp [h]
    | _ => rfl
noncomputable def partX (cs : List AV) (off : Nat) (n : Option Nat) : Option AV := Option.rec (motive := fun _ => List AV → Nat → Option AV) (fun cs off => nthX cs off)
  (fun n cs off => Bool.rec (motive := fun _ => List AV → Nat → Nat → Option AV) (fun _ _ _ => none) (fun cs off n => some (.agg (takeX (dropX cs off) n))) (atLeastX (dropX cs off) n) cs off n) n cs off
theorem partX_eq (cs : List AV) (off : Nat) (n : Option Nat) : partX cs off n = part cs off n := by
  cases n with
  | none => exact nthX_eq cs off
  | some n =>
    show Bool.rec (motive := fun _ => List AV → Nat → Nat → Option AV) _ _ (atLeastX (dropX cs off) n) cs off n = _
    unfold part
    rw [atLeastX_eq, dropX_eq]
    cases h : atLeast (dropN cs off) n with
    | false => simp only [h]
    | true => show some (AV.agg (takeX (dropX cs off) n)) = _; simp only [takeX_eq, dropX_eq, h]
noncomputable def loadX (p : Pos) (o : Nat) (n : Option Nat) (h : T Obj) : Option AV := Option.rec (motive := fun _ => Nat → Option Nat → Option AV) (fun _ _ => none) (fun cs o n => partX cs o n) (okCells h (getTO p h)) o n
theorem loadX_eq (p : Pos) (o : Nat) (n : Option Nat) (s : St) : loadX p o n s.heap = s.load (p, o) n := by
  unfold loadX; rw [okCells_eq]; unfold St.load
  cases s.cells p with
  | none => rfl
  | some cs => exact partX_eq cs o n
noncomputable def storeH (p : Pos) (o : Nat) (vs : List AV) (h : T Obj) : Option (T Obj) := Option.rec (motive := fun _ => Pos → Nat → List AV → T Obj → Option (T Obj)) (fun _ _ _ _ => none)
  (fun ob p o vs h => Obj.rec (motive := fun _ => Pos → Nat → List AV → T Obj → Option (T Obj))
    (fun cs ro g p o vs h => Bool.rec (motive := fun _ => List AV → Option (Pos × Nat) → Pos → Nat → List AV → T Obj → Option (T Obj))
      (fun cs g p o vs h => Option.rec (motive := fun _ => Option (Pos × Nat) → Pos → T Obj → Option (T Obj)) (fun _ _ _ => none)
        (fun cs g p h => Option.rec (motive := fun _ => List AV → Pos → T Obj → Option (T Obj)) (fun cs p h => some (setTO p (.cells cs false none) h))
          (fun gk cs p h => match getTO gk.1 h with
            | some (.grp cur fl false) => match Nat.beq cur gk.2 && Nat.ble fl gk.2 with
              | true => some (setTO gk.1 (.grp cur cur false) (setTO p (.cells cs false (some gk)) h))
              | false => none
            | _ => none) g cs p h) (overX cs o vs) g p h)
      (fun _ _ _ _ _ _ => none) ro cs g p o vs h) (fun _ _ _ _ _ _ _ => none) (fun _ _ _ _ => none) (fun _ _ _ _ _ => none) (fun _ _ _ _ _ => none) ob p o vs h) (getTO p h) p o vs h
theorem storeH_eq (p : Pos) (o : Nat) (vs : List AV) (s : St) : s.store (p, o) vs = (storeH p o vs s.heap).map fun h => { s with heap := h } := by
  unfold storeH St.store; rw [getTO_eq]
  cases s.heap.get p with
  | none => rfl
  | some ob =>
    cases ob with
    | cells cs ro g =>
      cases ro with
      | true => rfl
      | false =>
        show _ = Option.map _ (Option.rec (motive := fun _ => Option (Pos × Nat) → Pos → T Obj → Option (T Obj)) _ _ (overX cs o vs) g p s.heap)
        rw [overX_eq]; simp only
        cases over cs o vs with
        | none => rfl
        | some cs =>
          cases g with
          | none => simp only [Option.map, setTO_eq, St.put]
          | some gk =>
            obtain ⟨g, k⟩ := gk
            simp only [getTO_eq]
            cases s.heap.get g with
            | none => rfl
            | some og =>
              cases og with
              | grp cur fl r =>
                cases r with
                | true => rfl
                | false =>
                  simp only
                  cases Nat.beq cur k && Nat.ble fl k <;> simp only [Option.map, setTO_eq, St.put]
              | _ => rfl
    | _ => rfl
noncomputable def eqD (j k : D) : Bool := D.rec (motive := fun _ => D → Bool) (D.rec (motive := fun _ => Bool) true false false false) (D.rec (motive := fun _ => Bool) false true false false) (D.rec (motive := fun _ => Bool) false false true false) (D.rec (motive := fun _ => Bool) false false false true) j k
theorem eqD_eq (j k : D) : eqD j k = j.beq k := by cases j <;> cases k <;> rfl
noncomputable def beqP (p q : Pos) : Bool := Pos.rec (motive := fun _ => Pos → Bool)
  (fun a b c d q => Pos.rec (motive := fun _ => D → D → D → D → Bool) (fun a' b' c' d' a b c d => eqD d d' && (eqD c c' && (eqD b b' && eqD a a'))) (fun _ _ _ _ _ _ _ _ _ _ _ _ => false) (fun _ _ _ _ _ => false) q a b c d)
  (fun a b c d e f g h q => Pos.rec (motive := fun _ => D → D → D → D → D → D → D → D → Bool) (fun _ _ _ _ _ _ _ _ _ _ _ _ => false)
    (fun a' b' c' d' e' f' g' h' a b c d e f g h => eqD h h' && (eqD g g' && (eqD f f' && (eqD e e' && (eqD d d' && (eqD c c' && (eqD b b' && eqD a a'))))))) (fun _ _ _ _ _ _ _ _ _ => false) q a b c d e f g h)
  (fun n q => Pos.beq (.x n) q) p q
theorem beqP_eq (p q : Pos) : beqP p q = p.beq q := by
  cases p <;> cases q <;> first | rfl | (simp only [Pos.beq, ← eqD_eq]; rfl)
noncomputable def eqCX (a b : List Nat) : Option Bool := List.rec (motive := fun _ => List Nat → Option Bool) (fun b => List.rec (motive := fun _ => Option Bool) (some true) (fun _ _ _ => some false) b)
  (fun c x ih b => List.rec (motive := fun _ => Nat → List Nat → (List Nat → Option Bool) → Option Bool) (fun _ _ _ => some false)
    (fun d y _ c x ih => Bool.rec (motive := fun _ => Nat → Nat → List Nat → List Nat → (List Nat → Option Bool) → Option Bool)
      (fun c d x y _ => Bool.rec (motive := fun _ => Nat → Nat → List Nat → List Nat → Option Bool) (fun c d x y => eqC (c :: x) (d :: y)) (fun _ _ _ _ => some false) (Nat.ble c 255 && Nat.ble d 255) c d x y)
      (fun c d x y ih => Bool.rec (motive := fun _ => Nat → Nat → List Nat → List Nat → (List Nat → Option Bool) → Option Bool) (fun c d x y _ => eqC (c :: x) (d :: y)) (fun _ _ _ y ih => ih y) (known c) c d x y ih) (Nat.beq c d) c d x y ih) b c x ih) a b
theorem blt255 (c : Nat) : Nat.blt c 256 = Nat.ble c 255 := by
  rw [Bool.eq_iff_iff]; simp only [Nat.blt, ble_iff']; omega
theorem eqCX_eq (a : List Nat) : ∀ b, eqCX a b = eqC a b := by
  induction a with
  | nil => intro b; cases b <;> rfl
  | cons c x ih =>
    intro b
    cases b with
    | nil => rfl
    | cons d y =>
      show Bool.rec (motive := fun _ => Nat → Nat → List Nat → List Nat → (List Nat → Option Bool) → Option Bool) _ _ (Nat.beq c d) c d x y (eqCX x) = _
      cases h : Nat.beq c d with
      | true =>
        show Bool.rec (motive := fun _ => Nat → Nat → List Nat → List Nat → (List Nat → Option Bool) → Option Bool) _ _ (known c) c d x y (eqCX x) = _
        cases hk : known c with
        | false => rfl
        | true => rw [eqC]; simp only [h, hk, Bool.and_self]; exact ih y
      | false =>
        show Bool.rec (motive := fun _ => Nat → Nat → List Nat → List Nat → Option Bool) _ _ (Nat.ble c 255 && Nat.ble d 255) c d x y = _
        cases hb : Nat.ble c 255 && Nat.ble d 255 with
        | false => rfl
        | true => rw [eqC]; simp only [h, Bool.false_and, blt255, hb]
noncomputable def ltCX (a b : List Nat) : Option Bool := List.rec (motive := fun _ => List Nat → Option Bool) (fun b => List.rec (motive := fun _ => Option Bool) (some false) (fun _ _ _ => some true) b)
  (fun c x ih b => List.rec (motive := fun _ => Nat → List Nat → (List Nat → Option Bool) → Option Bool) (fun _ _ _ => some false)
    (fun d y _ c x ih => Bool.rec (motive := fun _ => Nat → Nat → List Nat → List Nat → (List Nat → Option Bool) → Option Bool)
      (fun c d x y _ => Bool.rec (motive := fun _ => Nat → Nat → List Nat → List Nat → Option Bool) (fun c d x y => ltC (c :: x) (d :: y)) (fun c d _ _ => some (Nat.ble (Nat.succ c) d)) (Nat.ble c 255 && Nat.ble d 255) c d x y)
      (fun c d x y ih => Bool.rec (motive := fun _ => Nat → Nat → List Nat → List Nat → (List Nat → Option Bool) → Option Bool) (fun c d x y _ => ltC (c :: x) (d :: y)) (fun _ _ _ y ih => ih y) (known c) c d x y ih) (Nat.beq c d) c d x y ih) b c x ih) a b
theorem ltCX_eq (a : List Nat) : ∀ b, ltCX a b = ltC a b := by
  induction a with
  | nil => intro b; cases b <;> rfl
  | cons c x ih =>
    intro b
    cases b with
    | nil => rfl
    | cons d y =>
      show Bool.rec (motive := fun _ => Nat → Nat → List Nat → List Nat → (List Nat → Option Bool) → Option Bool) _ _ (Nat.beq c d) c d x y (ltCX x) = _
      cases h : Nat.beq c d with
      | true =>
        show Bool.rec (motive := fun _ => Nat → Nat → List Nat → List Nat → (List Nat → Option Bool) → Option Bool) _ _ (known c) c d x y (ltCX x) = _
        cases hk : known c with
        | false => rfl
        | true => rw [ltC]; simp only [h, hk, Bool.and_self]; exact ih y
      | false =>
        show Bool.rec (motive := fun _ => Nat → Nat → List Nat → List Nat → Option Bool) _ _ (Nat.ble c 255 && Nat.ble d 255) c d x y = _
        cases hb : Nat.ble c 255 && Nat.ble d 255 with
        | false => rfl
        | true => rw [ltC]; simp only [h, Bool.false_and, blt255, hb]; rfl
noncomputable def eqLeafX (l : Leaf) (x y : AV) : Option Bool := Leaf.rec (motive := fun _ => AV → AV → Option Bool)
  (fun x y => eqLeaf .bool x y)
  (fun x y => match viI x, viI y with
    | .is j a, .is k b => match eqKX j k with | true => some (eqZ a b) | false => none
    | _, _ => eqLeaf .int x y)
  (fun x y => match viT x, viT y with
    | some a, some b => eqCX a b
    | _, _ => none)
  (fun x y => match viP x, viP y with
    | .nil, .nil => some true
    | .nil, .at _ _ => some false
    | .at _ _, .nil => some false
    | .at p a, .at q b => match beqP p q with | true => some (Nat.beq a b) | false => none
    | _, _ => none)
  (fun x y => eqLeaf .slice x y) (fun x y => eqLeaf .map x y) (fun x y => eqLeaf .func x y) (fun x y => eqLeaf .iface x y) l x y
theorem eqLeafX_eq (l : Leaf) (x y : AV) : eqLeafX l x y = eqLeaf l x y := by
  cases l with
  | bool => rfl
  | slice => rfl
  | map => rfl
  | func => rfl
  | iface => rfl
  | int =>
    show (match viI x, viI y with
    | .is j a, .is k b => match eqKX j k with | true => some (eqZ a b) | false => none
    | _, _ => eqLeaf .int x y) = _
    cases hx : viI x with
    | no => rfl
    | is j a =>
      cases hy : viI y with
      | no => rfl
      | is k b =>
        rw [viI_is hx, viI_is hy]; simp only [eqLeaf, eqKX_eq, eqZ_eq]
        cases eqK j k <;> rfl
  | str =>
    show (match viT x, viT y with
    | some a, some b => eqCX a b
    | _, _ => none) = _
    cases x <;> first | rfl | skip
    cases y <;> first | rfl | exact eqCX_eq _ _
  | ptr =>
    show (match viP x, viP y with
    | .nil, .nil => some true
    | .nil, .at _ _ => some false
    | .at _ _, .nil => some false
    | .at p a, .at q b => match beqP p q with | true => some (Nat.beq a b) | false => none
    | _, _ => none) = _
    cases x with
    | ptr a =>
      cases y with
      | ptr b =>
        rcases a with _ | ⟨p, o⟩ <;> rcases b with _ | ⟨q, u⟩ <;> first | rfl | skip
        show (match beqP p q with | true => some (Nat.beq o u) | false => none) = _
        simp only [eqLeaf, beqP_eq]; cases p.beq q <;> rfl
      | _ => rcases a with _ | ⟨p, o⟩ <;> rfl
    | _ => rfl
noncomputable def eqAllX (x y : List AV) (ls : List (Nat × Leaf)) : Option Bool := List.rec (motive := fun _ => List AV → List AV → Option Bool) (fun _ _ => some true)
  (fun il _ ih x y => match nthX x il.1, nthX y il.1 with
    | some a, some b => match eqLeafX il.2 a b with
      | some true => ih x y
      | some false => some false
      | none => none
    | _, _ => none) ls x y
theorem eqAllX_eq (x y : List AV) (ls : List (Nat × Leaf)) : eqAllX x y ls = eqAll x y ls := by
  induction ls with
  | nil => rfl
  | cons il ls ih =>
    obtain ⟨i, l⟩ := il
    show (match nthX x i, nthX y i with
    | some a, some b => match eqLeafX l a b with
      | some true => eqAllX x y ls
      | some false => some false
      | none => none
    | _, _ => none) = _
    simp only [nthX_eq, eqLeafX_eq, ih, eqAll]
    cases nth x i <;> cases nth y i <;> rfl
noncomputable def eqByX (c : Cmp) (x y : AV) : Option Bool := Cmp.rec (motive := fun _ => AV → AV → Option Bool) (fun l x y => eqLeafX l x y)
  (fun ls x y => match viA x, viA y with
    | some a, some b => eqAllX a b ls
    | _, _ => none) c x y
theorem eqByX_eq (c : Cmp) (x y : AV) : eqByX c x y = eqBy c x y := by
  cases c with
  | one l => exact eqLeafX_eq l x y
  | agg ls =>
    show (match viA x, viA y with
    | some a, some b => eqAllX a b ls
    | _, _ => none) = _
    cases x <;> first | rfl | skip
    cases y <;> first | rfl | exact eqAllX_eq _ _ _
noncomputable def natX (v : AV) : Option Nat := VI.rec (motive := fun _ => Option Nat) none (fun _ n => Int.rec (motive := fun _ => Option Nat) (fun m => some m) (fun _ => none) n) (viI v)
theorem natX_eq (v : AV) : natX v = natOf v := by
  cases v <;> first | rfl | skip
  rename_i k n; cases n <;> rfl
noncomputable def sameK (j k : IntKind) (v : AV) : Option AV := Bool.rec (motive := fun _ => AV → Option AV) (fun _ => none) (fun v => some v) (eqKX j k) v
noncomputable def quoX (k : IntKind) (a : Int) (k' : IntKind) (b : Int) : Option AV := match a, b with
  | .ofNat m, .ofNat (n + 1) => sameK k k' (.int k (wrapN k (Nat.div m (Nat.succ n))))
  | a, b => binOp .quo (.int k a) (.int k' b)
noncomputable def remX (k : IntKind) (a : Int) (k' : IntKind) (b : Int) : Option AV := match a, b with
  | .ofNat m, .ofNat (n + 1) => sameK k k' (.int k (Int.ofNat (Nat.mod m (Nat.succ n))))
  | a, b => binOp .rem (.int k a) (.int k' b)
noncomputable def intX (op : BinOp) (k : IntKind) (a : Int) (k' : IntKind) (b : Int) : Option AV := BinOp.rec (motive := fun _ => IntKind → Int → IntKind → Int → Option AV)
  (fun k a k' b => sameK k k' (.int k (addZ k a b))) (fun k a k' b => sameK k k' (.int k (subZ k a b))) (fun k a k' b => sameK k k' (.int k (mulZ k a b)))
  (fun k a k' b => quoX k a k' b) (fun k a k' b => remX k a k' b) (fun k a k' b => binOp .and (.int k a) (.int k' b)) (fun k a k' b => binOp .or (.int k a) (.int k' b)) (fun k a k' b => binOp .xor (.int k a) (.int k' b))
  (fun k a k' b => binOp .shl (.int k a) (.int k' b))
  (fun k a k' b => Int.rec (motive := fun _ => IntKind → Int → IntKind → Option AV) (fun n k a k' => Int.rec (motive := fun _ => IntKind → IntKind → Nat → Option AV) (fun m k _ n => some (.int k (Int.ofNat (Nat.div m (Nat.pow 2 (Nat.min n k.bits)))))) (fun m k k' n => binOp .shr (.int k (Int.negSucc m)) (.int k' (Int.ofNat n))) a k k' n)
    (fun n k a k' => binOp .shr (.int k a) (.int k' (Int.negSucc n))) b k a k')
  (fun k a k' b => binOp .andNot (.int k a) (.int k' b))
  (fun k a k' b => sameK k k' (.bool (eqZ a b))) (fun k a k' b => sameK k k' (.bool (notX (eqZ a b)))) (fun k a k' b => sameK k k' (.bool (ltZ a b))) (fun k a k' b => sameK k k' (.bool (notX (ltZ b a)))) (fun k a k' b => sameK k k' (.bool (ltZ b a))) (fun k a k' b => sameK k k' (.bool (notX (ltZ a b)))) op k a k' b
theorem sameK_eq (j k : IntKind) (v : AV) : sameK j k v = if (eqK j k || false) then some v else none := by
  unfold sameK; rw [eqKX_eq]; cases eqK j k <;> rfl
theorem sameI_eq (op : BinOp) (k k' : IntKind) (a b : Int) (v : AV) (hs : isShift op = false) (h : binInt op k a b = some v) : sameK k k' v = binOp op (.int k a) (.int k' b) := by
  rw [sameK_eq]; simp only [binOp, hs, h]
theorem intX_eq (op : BinOp) (k : IntKind) (a : Int) (k' : IntKind) (b : Int) : intX op k a k' b = binOp op (.int k a) (.int k' b) := by
  have e1 : (!decide (b < a)) = decide (a ≤ b) := by rw [Bool.eq_iff_iff]; simp only [Bool.not_eq_true', decide_eq_false_iff_not, decide_eq_true_iff]; omega
  have e2 : (!decide (a < b)) = decide (b ≤ a) := by rw [Bool.eq_iff_iff]; simp only [Bool.not_eq_true', decide_eq_false_iff_not, decide_eq_true_iff]; omega
  cases op with
  | add => exact sameI_eq _ _ _ _ _ _ rfl (by simp only [binInt, addZ_eq])
  | sub => exact sameI_eq _ _ _ _ _ _ rfl (by simp only [binInt, subZ_eq])
  | mul => exact sameI_eq _ _ _ _ _ _ rfl (by simp only [binInt, mulZ_eq])
  | quo =>
    show quoX k a k' b = _
    unfold quoX
    split
    · rename_i m n
      refine sameI_eq _ _ _ _ _ _ rfl ?_
      have hn : Int.ofNat (n + 1) ≠ 0 := by intro h; cases h
      simp only [binInt, if_neg hn, wrapN_eq]; rfl
    · rfl
  | rem =>
    show remX k a k' b = _
    unfold remX
    split
    · rename_i m n
      refine sameI_eq _ _ _ _ _ _ rfl ?_
      have hn : Int.ofNat (n + 1) ≠ 0 := by intro h; cases h
      simp only [binInt, if_neg hn]; rfl
    · rfl
  | and => rfl
  | or => rfl
  | xor => rfl
  | shl => rfl
  | andNot => rfl
  | eql => exact sameI_eq _ _ _ _ _ _ rfl (by simp only [binInt, eqZ_eq])
  | neq => exact sameI_eq _ _ _ _ _ _ rfl (by simp only [binInt, eqZ_eq, notX_eq])
  | lss => exact sameI_eq _ _ _ _ _ _ rfl (by simp only [binInt, ltZ_eq])
  | leq => exact sameI_eq _ _ _ _ _ _ rfl (by simp only [binInt, ltZ_eq, notX_eq, e1])
  | gtr => exact sameI_eq _ _ _ _ _ _ rfl (by simp only [binInt, ltZ_eq])
  | geq => exact sameI_eq _ _ _ _ _ _ rfl (by simp only [binInt, ltZ_eq, notX_eq, e2])
  | shr =>
    cases b with
    | negSucc n => rfl
    | ofNat n =>
      cases a with
      | negSucc m => rfl
      | ofNat m =>
        have hn : ¬ (Int.ofNat n < 0) := by simp only [Int.ofNat_eq_natCast]; omega
        simp only [binOp, isShift, Bool.or_true, if_true, binInt, if_neg hn]
        show some (AV.int k (Int.ofNat (m / 2 ^ min n k.bits))) = _
        congr 2
        rw [Int.fdiv_eq_ediv_of_nonneg]
        · simp
        · exact Int.le_of_lt (Int.pow_pos (by decide))
end A3
namespace A3
open Go
structure Q where
  ds : List ADefer
  rc : Bool
abbrev M := Tmps → Q → T Obj → Pos → T Nat → Bool
abbrev KM := AV → M
abbrev KO := Out → Bool → T Obj → Pos → T Nat → Bool
abbrev APK := AV → List AV → Ctx → KO → T Obj → Pos → T Nat → Bool
noncomputable def optK (r : Option AV) (k : KM) : M := Option.rec (motive := fun _ => KM → M) (fun _ _ _ _ _ _ => false) (fun v k => k v) r k
noncomputable def resK (r : Option (AV × St)) (k : KM) (t : Tmps) (q : Q) : Bool := Option.rec (motive := fun _ => KM → Tmps → Q → Bool) (fun _ _ _ => false)
  (fun p k t q => Prod.rec (motive := fun _ => KM → Tmps → Q → Bool) (fun v s k t q => St.rec (motive := fun _ => AV → KM → Tmps → Q → Bool) (fun h n y v k t q => k v t q h n y) s v k t q) p k t q) r k t q
noncomputable def forceK (v : AV) (k : KM) : M := AV.rec (motive_1 := fun _ => KM → M) (motive_2 := fun _ => Unit) (fun b k => k (.bool b)) (fun i n k => k (.int i n)) (fun i k => k (.any i)) (fun f i k => k (.sym f i)) (fun c k => k (.byt c)) (fun i n k => k (.flt i n)) (fun k => k .ustr) (fun s k => k (.str s)) (fun a k => k (.ptr a)) (fun a l c f k => k (.slice a l c f)) (fun r k => k (.map r)) (fun f a b _ _ k => k (.func f a b)) (fun k => k .nilFunc) (fun t v _ k => k (.iface t v)) (fun k => k .nilIface) (fun cs _ k => k (.agg cs)) (fun cs _ k => k (.tuple cs)) (fun k => k .dead) () (fun _ _ _ _ => ()) v k
noncomputable def heapK (r : Option (T Obj)) (v : AV) (k : KM) (t : Tmps) (q : Q) (n : Pos) (y : T Nat) : Bool := Option.rec (motive := fun _ => AV → KM → Tmps → Q → Pos → T Nat → Bool) (fun _ _ _ _ _ _ => false)
  (fun h v k t q n y => k v t q h n y) r v k t q n y
noncomputable def tag1 (y : T Nat) (h : T Obj) (n : Pos) (o : Obj) (mk : Pos → AV) (k : KM) (t : Tmps) (q : Q) : Bool :=
  Option.rec (motive := fun _ => T Nat → T Obj → Pos → Obj → (Pos → AV) → KM → Tmps → Q → Bool) (fun _ _ _ _ _ _ _ _ => false)
    (fun _ y h n o mk k t q => k (mk n) t q (setTO n o h) (succX n) y) (getTN n y) y h n o mk k t q
noncomputable def newK (ty : Option Nat) (o : Obj) (mk : Pos → AV) (k : KM) : M := Option.rec (motive := fun _ => Obj → (Pos → AV) → KM → M)
  (fun o mk k t q h n y => k (mk n) t q (setTO n o h) (succX n) y) (fun u o mk k t q h n y => tag1 (setTN n u y) h n o mk k t q) ty o mk k
noncomputable def tag2 (y : T Nat) (h : T Obj) (n : Pos) (cs : List AV) (mk : Pos → AV) (k : KM) (t : Tmps) (q : Q) : Bool :=
  Option.rec (motive := fun _ => T Nat → T Obj → Pos → List AV → (Pos → AV) → KM → Tmps → Q → Bool) (fun _ _ _ _ _ _ _ _ => false)
    (fun _ y h n cs mk k t q => k (mk n) t q (setTO (succX n) (.grp 0 0 false) (setTO n (.cells cs false (some (succX n, 0))) h)) (succX (succX n)) y) (getTN n y) y h n cs mk k t q
noncomputable def softK (ty : Option Nat) (cs : List AV) (mk : Pos → AV) (k : KM) : M := Option.rec (motive := fun _ => List AV → (Pos → AV) → KM → M)
  (fun cs mk k t q h n y => k (mk n) t q (setTO (succX n) (.grp 0 0 false) (setTO n (.cells cs false (some (succX n, 0))) h)) (succX (succX n)) y)
  (fun u cs mk k t q h n y => tag2 (setTN n u y) h n cs mk k t q) ty cs mk k
noncomputable def mkPtr (n : Pos) : AV := .ptr (some (n, 0))
noncomputable def mkMapV (n : Pos) : AV := .map (some n)
noncomputable def mkSl (l c : Nat) (f : Option Nat) (n : Pos) : AV := .slice (some (n, 0)) l c f
noncomputable def iMov (x : Opd) (k : KM) : M := fun t => forceK (eO x t) k t
noncomputable def iPick (c a b : Opd) (k : KM) : M := fun t => VB.rec (motive := fun _ => Opd → Opd → KM → M) (fun _ _ _ _ _ _ _ _ => false) (fun a _ k t => forceK (eO a t) k t) (fun _ b k t => forceK (eO b t) k t) (viB (eO c t)) a b k t
noncomputable def iBox (ty : Option Nat) (v : Opd) (k : KM) : M := fun t => Option.rec (motive := fun _ => Option Nat → KM → M) (fun _ _ _ _ _ _ _ => false) (fun cs ty k => newK ty (.cells cs false none) mkPtr k) (cellsX (eO v t)) ty k t
noncomputable def fill1 (i r : Nat) (v : AV) (cs : List AV) (t : Tmps) (ih : List AV → Tmps → Option (List AV)) : Option (List AV) := Option.rec (motive := fun _ => Nat → Nat → List AV → Tmps → (List AV → Tmps → Option (List AV)) → Option (List AV)) (fun _ _ _ _ _ => none)
  (fun vs i r cs t ih => Bool.rec (motive := fun _ => List AV → Nat → List AV → Tmps → (List AV → Tmps → Option (List AV)) → Option (List AV)) (fun _ _ _ _ _ => none)
    (fun vs i cs t ih => Option.rec (motive := fun _ => Tmps → (List AV → Tmps → Option (List AV)) → Option (List AV)) (fun _ _ => none) (fun cs t ih => ih cs t) (overX cs i vs) t ih) (Nat.beq (lenX vs) r) vs i cs t ih) (cellsX v) i r cs t ih
noncomputable def fillX (cs : List AV) (l : List (Nat × Nat × Opd)) (t : Tmps) : Option (List AV) := List.rec (motive := fun _ => List AV → Tmps → Option (List AV)) (fun cs _ => some cs)
  (fun p _ ih cs t => fill1 p.1 p.2.1 (eO p.2.2 t) cs t ih) l cs t
noncomputable def iBuild (zero : List AV) (parts : List (Nat × Nat × Opd)) (k : KM) : M := fun t => Option.rec (motive := fun _ => KM → M) (fun _ _ _ _ _ _ => false) (fun cs k => k (.agg cs)) (fillX zero parts t) k t
noncomputable def iBuildSlice (zero : List AV) (len : Nat) (parts : List (Nat × Nat × Opd)) (k : KM) : M := fun t => Option.rec (motive := fun _ => Nat → KM → M) (fun _ _ _ _ _ _ _ => false) (fun cs len k => newK none (.cells cs false none) (mkSl len len none) k) (fillX zero parts t) len k t
noncomputable def iLoad (n : Option Nat) (a : Opd) (k : KM) : M := fun t => VP.rec (motive := fun _ => Option Nat → KM → M) (fun _ _ _ _ _ _ _ => false) (fun _ _ _ _ _ _ _ => false) (fun p o n k t q h m y => optK (loadX p o n h) k t q h m y) (viP (eO a t)) n k t
noncomputable def iStore (n : Nat) (a v : Opd) (k : KM) : M := fun t => VP.rec (motive := fun _ => Nat → Opd → KM → M) (fun _ _ _ _ _ _ _ _ => false) (fun _ _ _ _ _ _ _ _ => false)
  (fun p o n v k t => Option.rec (motive := fun _ => Pos → Nat → Nat → KM → M) (fun _ _ _ _ _ _ _ _ _ => false)
    (fun vs p o n k => Bool.rec (motive := fun _ => List AV → Pos → Nat → Nat → KM → M) (fun _ _ _ _ _ _ _ _ _ _ => false)
      (fun vs p o n k => Nat.rec (motive := fun _ => List AV → Pos → Nat → KM → M) (fun _ _ _ k => k .dead) (fun _ _ vs p o k t q h m y => heapK (storeH p o vs h) .dead k t q m y) n vs p o k) (Nat.beq (lenX vs) n) vs p o n k) (cellsX (eO v t)) p o n k t) (viP (eO a t)) n v k t
noncomputable def nilOkX (v : AV) : Bool := AV.rec (motive_1 := fun _ => Bool) (motive_2 := fun _ => Unit) (fun _ => false) (fun _ _ => false) (fun _ => false) (fun _ _ => false) (fun _ => false) (fun _ _ => false) false (fun _ => false) (fun a => Option.rec (motive := fun _ => Bool) false (fun _ => true) a) (fun _ _ _ _ => true) (fun _ => true) (fun f _ _ _ _ => AFn.rec (motive := fun _ => Bool) (fun _ => true) (fun _ => true) false f) false (fun _ _ _ => false) false (fun _ _ => false) (fun _ _ => false) false () (fun _ _ _ _ => ()) v
noncomputable def iNilCheck (x : Opd) (k : KM) : M := fun t => Bool.rec (motive := fun _ => Opd → KM → M) (fun _ _ _ _ _ _ _ => false) (fun x k t => forceK (eO x t) k t) (nilOkX (eO x t)) x k t
noncomputable def strX (op : BinOp) (a b : List Nat) : Option AV := match op with
  | .add => match Nat.ble (lenXN a + lenXN b) 200000000000000000 with
    | true => some (.str (appXN a b))
    | false => none
  | .eql => boolV (eqCX a b)
  | .neq => notV (eqCX a b)
  | .lss => boolV (ltCX a b)
  | .geq => notV (ltCX a b)
  | op => binStr op a b
noncomputable def binS (op : BinOp) (x y : AV) : Option AV := match viT x, viT y with
  | some a, some b => strX op a b
  | _, _ => binOp op x y
noncomputable def binX (op : BinOp) (x y : AV) : Option AV := VI.rec (motive := fun _ => BinOp → AV → AV → Option AV) (fun op x y => binS op x y)
  (fun k a op x y => VI.rec (motive := fun _ => IntKind → Int → BinOp → AV → AV → Option AV) (fun _ _ op x y => binOp op x y) (fun k' b k a op _ _ => intX op k a k' b) (viI y) k a op x y) (viI x) op x y
noncomputable def iBin (op : BinOp) (x y : Opd) (k : KM) : M := fun t => optK (binX op (eO x t) (eO y t)) k t
noncomputable def iEql (neg : Bool) (c : Cmp) (x y : Opd) (k : KM) : M := fun t => optK (eqlV neg (eqByX c (eO x t) (eO y t))) k t
noncomputable def unX (op : UnOp) (v : AV) : Option AV := UnOp.rec (motive := fun _ => AV → Option AV) (fun v => unOp .neg v) (fun v => unOp .xor v) (fun v => VB.rec (motive := fun _ => Option AV) none (some (.bool false)) (some (.bool true)) (viB v)) (fun v => unOp .plus v) op v
noncomputable def iUn (op : UnOp) (x : Opd) (k : KM) : M := fun t => optK (unX op (eO x t)) k t
noncomputable def convIntX (k : IntKind) (v : AV) : Option AV := VI.rec (motive := fun _ => IntKind → AV → Option AV) (fun k v => convIntV k v) (fun _ n k _ => some (.int k (wrapZ k n))) (viI v) k v
noncomputable def iConvInt (i : IntKind) (x : Opd) (k : KM) : M := fun t => optK (convIntX i (eO x t)) k t
noncomputable def fixedX (l : List Nat) : Bool := List.rec (motive := fun _ => Bool) true (fun c _ ih => Bool.rec (motive := fun _ => Nat → Bool → Bool) (fun c ih => fixedB c && ih) (fun _ ih => ih) (Nat.ble c 255) c ih) l
noncomputable def byteVX (c : Nat) : AV := Bool.rec (motive := fun _ => Nat → AV) (fun c => byteV c) (fun c => .int .u8 (Int.ofNat c)) (Nat.ble c 255) c
noncomputable def byteCellsX (l : List Nat) : List AV := List.rec (motive := fun _ => List AV) [] (fun c _ ih => byteVX c :: ih) l
noncomputable def iConvBytes (ty : Option Nat) (x : Opd) (k : KM) : M := fun t q h m y => match viT (eO x t) with
  | some b => match fixedX b with
    | true => softK ty (byteCellsX b) (mkSl (lenXN b) (lenXN b) (some 1)) k t q h m y
    | false => false
  | none => false
noncomputable def firstS (h : T Obj) (size : Nat) (a : Option (Pos × Nat)) (n : Nat) : Option (List AV) := match n with
  | 0 => some []
  | n + 1 => match a with
    | none => none
    | some a => match okCells h (getTO a.1 h) with
      | none => none
      | some cs => match atLeastX (dropX cs a.2) (Nat.mul (Nat.succ n) size) with
        | true => some (takeX (dropX cs a.2) (Nat.mul (Nat.succ n) size))
        | false => none
noncomputable def firstX (h : T Obj) (size : Nat) (v : AV) (n : Nat) : Option (List AV) := match viS v with
  | .is a _ _ _ => firstS h size a n
  | .no => match viT v with
    | some b => match Nat.beq size 1 && fixedX b with
      | true => some (byteCellsX (takeXN b n))
      | false => none
    | none => none
noncomputable def cellByte (v : AV) : Option Nat := VI.rec (motive := fun _ => AV → Option Nat) (fun v => match v with | .byt c => some c | .any .u8 => some 265 | _ => none)
  (fun k n _v => match k with | .u8 => (match n with | .ofNat b => (match Nat.ble b 255 with | true => some b | false => none) | .negSucc _ => none) | _ => none) (viI v) v
noncomputable def cellBytesX (l : List AV) : Option (List Nat) := List.rec (motive := fun _ => Option (List Nat)) (some []) (fun v _ ih => match cellByte v with | none => none | some c => match ih with | none => none | some m => some (c :: m)) l
noncomputable def bytesStrX (cs : Option (List AV)) : Option AV := match cs with
  | none => none
  | some cs => match cellBytesX cs with | none => none | some b => some (.str b)
noncomputable def iConvStr (x : Opd) (k : KM) : M := fun t q h m y => match viS (eO x t) with
  | .is a l _ _ => optK (bytesStrX (firstS h 1 a l)) k t q h m y
  | .no => false
noncomputable def iMakeSlice (zero : List AV) (l c : Opd) (k : KM) : M := fun t q h m y => match natX (eO l t), natX (eO c t) with
  | some l, some c => match Nat.ble l c && Nat.ble c 100000 with
    | true => newK none (.cells (repX zero c) false none) (mkSl l c none) k t q h m y
    | false => false
  | _, _ => false
noncomputable def boundX (v : Option AV) (d most : Nat) : Option Nat := match v with
  | none => some d
  | some v => match natX v with
    | none => none
    | some n => match Nat.ble n most with
      | true => some n
      | false => none
noncomputable def sliceX (k : Kd) (size : Nat) (x : AV) (lo hi mx : Option AV) : Option AV := match k with
  | .str => match viT x with
    | none => none
    | some b => match fixedX b with
      | false => none
      | true => match mx with
        | some _ => none
        | none => match boundX hi (lenXN b) (lenXN b) with
          | none => none
          | some h => match boundX lo 0 h with
            | none => none
            | some l => some (.str (takeXN (dropXN b l) (Nat.sub h l)))
  | .slice => match viS x with
    | .no => none
    | .is a len cap soft => match boundX mx cap cap with
      | none => none
      | some m => match boundX hi len m with
        | none => none
        | some h => match boundX lo 0 h with
          | none => none
          | some l => match softOk soft size with
            | true => some (sliceRes a size l h m (match mx with | none => soft | some _ => none))
            | false => none
  | k => sliceOf k size x lo hi mx
noncomputable def eOo (x : Option Opd) (t : Tmps) : Option AV := match x with | none => none | some x => some (eO x t)
noncomputable def iSlice (kd : Kd) (size : Nat) (x : Opd) (lo hi mx : Option Opd) (k : KM) : M := fun t => optK (sliceX kd size (eO x t) (eOo lo t) (eOo hi t) (eOo mx t)) k t
noncomputable def iFieldAddr (off : Nat) (x : Opd) (k : KM) : M := fun t => VP.rec (motive := fun _ => Nat → KM → M) (fun _ _ _ _ _ _ _ => false) (fun _ _ _ _ _ _ _ => false) (fun p o off k => k (.ptr (some (p, Nat.add o off)))) (viP (eO x t)) off k t
noncomputable def iField (off : Nat) (n : Option Nat) (x : Opd) (k : KM) : M := fun t => Option.rec (motive := fun _ => Nat → Option Nat → KM → M) (fun _ _ _ _ _ _ _ _ => false) (fun cs off n k => optK (partX cs off n) k) (viA (eO x t)) off n k t
noncomputable def elemK (a : Option (Pos × Nat)) (len size i : Nat) (k : KM) : M := Bool.rec (motive := fun _ => Option (Pos × Nat) → Nat → Nat → KM → M) (fun _ _ _ _ _ _ _ _ _ => false)
  (fun a size i k => Option.rec (motive := fun _ => Nat → Nat → KM → M) (fun _ _ _ _ _ _ _ _ => false) (fun a size i k => k (.ptr (some (a.1, Nat.add a.2 (Nat.mul i size))))) a size i k) (Nat.ble (Nat.succ i) len) a size i k
noncomputable def iIndexAddr (arr : Option Nat) (size : Nat) (x i : Opd) (k : KM) : M := fun t => Option.rec (motive := fun _ => Option Nat → Nat → Opd → KM → M) (fun _ _ _ _ _ _ _ _ _ => false)
  (fun i arr size x k t => Option.rec (motive := fun _ => Nat → Nat → AV → KM → M)
    (fun i size v k => VS.rec (motive := fun _ => Nat → Nat → KM → M) (fun _ _ _ _ _ _ _ _ => false) (fun a len _ _ i size k => elemK a len size i k) (viS v) i size k)
    (fun n i size v k => VP.rec (motive := fun _ => Nat → Nat → Nat → KM → M) (fun _ _ _ _ _ _ _ _ _ => false) (fun _ _ _ _ _ _ _ _ _ => false) (fun p o n i size k => elemK (some (p, o)) n size i k) (viP v) n i size k) arr i size (eO x t) k t) (natX (eO i t)) arr size x k t
noncomputable def iIndexStr (x i : Opd) (k : KM) : M := fun t q h m y => match natX (eO i t), viT (eO x t) with
  | some i, some b => match fixedX b, nthXN b i with
    | true, some c => k (byteVX c) t q h m y
    | _, _ => false
  | _, _ => false
noncomputable def iIndexArr (n : Nat) (p : Option Nat) (size : Nat) (x i : Opd) (k : KM) : M := fun t q h m y => match natX (eO i t), viA (eO x t) with
  | some i, some cs => match Nat.ble (Nat.succ i) n with
    | true => optK (partX cs (Nat.mul i size) p) k t q h m y
    | false => false
  | _, _ => false
noncomputable def keyOkX (c : Cmp) (k : AV) : Bool := Cmp.rec (motive := fun _ => AV → Bool) (fun _ _ => true) (fun ls k => match viA k with | some a => Nat.beq (lenX a) (lenN ls) | none => false) c k
noncomputable def eqKeyX (c : Cmp) (x y : AV) : Option Bool := match keyOkX c x && keyOkX c y with
  | true => eqByX c x y
  | false => none
noncomputable def mapFindX (l : Cmp) (k : AV) (es : List (AV × AV)) : Option (Option AV) := List.rec (motive := fun _ => Option (Option AV)) (some none) (fun p _ ih => match eqKeyX l k p.1 with
  | none => none
  | some true => some (some p.2)
  | some false => ih) es
noncomputable def mapPutX (l : Cmp) (k v : AV) (es : List (AV × AV)) : Option (List (AV × AV)) := List.rec (motive := fun _ => Option (List (AV × AV))) (some [(k, v)]) (fun p r ih => match eqKeyX l k p.1 with
  | none => none
  | some true => some ((k, v) :: r)
  | some false => match ih with | none => none | some m => some (p :: m)) es
noncomputable def viM (v : AV) : Option (Option Pos) := AV.rec (motive_1 := fun _ => Option (Option Pos)) (motive_2 := fun _ => Unit) (fun _ => none) (fun _ _ => none) (fun _ => none) (fun _ _ => none) (fun _ => none) (fun _ _ => none) none (fun _ => none) (fun _ => none) (fun _ _ _ _ => none) (fun r => some r) (fun _ _ _ _ _ => none) none (fun _ _ _ => none) none (fun _ _ => none) (fun _ _ => none) none () (fun _ _ _ _ => ()) v
noncomputable def mapOfX (h : T Obj) (r : Pos) : Option (List (AV × AV)) := match getTO r h with
  | some (.map es) => some es
  | _ => none
noncomputable def iLookup (zero : AV) (l : Cmp) (x k' : Opd) (ok : Bool) (k : KM) : M := fun t q h m y => match viM (eO x t) with
  | some none => match keyOkX l (eO k' t) with
    | true => k (okV ok zero false) t q h m y
    | false => false
  | some (some r) => match keyOkX l (eO k' t), mapOfX h r with
    | true, some es => optK (foundV zero ok (mapFindX l (eO k' t) es)) k t q h m y
    | _, _ => false
  | none => false
noncomputable def iMapUpdate (l : Cmp) (mp k' v : Opd) (k : KM) : M := fun t q h m y => match viM (eO mp t) with
  | some (some r) => match keyOkX l (eO k' t), mapOfX h r with
    | true, some es => match mapPutX l (eO k' t) (eO v t) es with
      | none => false
      | some es => heapK (some (setTO r (.map es) h)) .dead k t q m y
    | _, _ => false
  | _ => false
noncomputable def iExtract (x : Opd) (i : Nat) (k : KM) : M := fun t => Option.rec (motive := fun _ => Nat → KM → M) (fun _ _ _ _ _ _ _ => false) (fun vs i k => optK (nthX vs i) k) (viU (eO x t)) i k t
noncomputable def iLen (kd : Kd) (x : Opd) (k : KM) : M := fun t => Kd.rec (motive := fun _ => Opd → KM → M)
  (fun x k t q h m y => match viT (eO x t) with | some b => (match fixedX b with | true => k (.int .i64 (Int.ofNat (lenXN b))) t q h m y | false => false) | none => false)
  (fun x k t => VS.rec (motive := fun _ => KM → M) (fun _ _ _ _ _ _ => false) (fun _ n _ _ k => k (.int .i64 (Int.ofNat n))) (viS (eO x t)) k t)
  (fun x k t q h m y => match viM (eO x t) with | some none => k (.int .i64 (Int.ofNat 0)) t q h m y | some (some r) => (match mapOfX h r with | some es => k (.int .i64 (Int.ofNat (lenN es))) t q h m y | none => false) | none => false)
  (fun _ _ _ _ _ _ _ _ => false) kd x k t
noncomputable def lenOfX (v : AV) : Option Nat := match viS v with
  | .is _ n _ _ => some n
  | .no => match viT v with
    | some b => match fixedX b with | true => some (lenXN b) | false => none
    | none => none
noncomputable def hasX (y : T Nat) (n : Pos) (t : Option Nat) : Option Nat := match t with
  | none => none
  | some t => match getTN n y with
    | some u => match Nat.beq t u with | true => some t | false => none
    | none => none
noncomputable def growK (size : Nat) (ty : Option Nat) (base : Option (Pos × Nat)) (sLen n : Nat) (soft : Option Nat) (new : List AV) (k : KM) (t : Tmps) (q : Q) (h : T Obj) (m : Pos) (y : T Nat) : Bool := match firstS h size base sLen with
  | none => false
  | some old => match soft with
    | none => softK ty (appX old new) (mkSl (Nat.add sLen n) (Nat.add sLen n) (some size)) k t q h m y
    | some sz => match base with
      | none => false
      | some a => match getTO a.1 h with
        | some (.cells cs false (some gk)) => match getTO gk.1 h with
          | some (.grp cur floor false) => match Nat.beq cur gk.2 && (Nat.ble floor gk.2 && (Nat.beq (Nat.add a.2 (Nat.mul sLen size)) (lenX cs) && (!Nat.beq sLen 0 && Nat.beq sz size))) with
            | true => newK (hasX y a.1 ty) (.cells (appX old new) false (some (gk.1, Nat.add cur 1))) (mkSl (Nat.add sLen n) (Nat.add sLen n) (some size)) k t q (setTO gk.1 (.grp (Nat.add cur 1) floor false) h) m y
            | false => false
          | _ => false
        | _ => false
noncomputable def appendK (size : Nat) (ty : Option Nat) (base : Option (Pos × Nat)) (sLen sCap : Nat) (soft : Option Nat) (n : Nat) (new : List AV) (k : KM) (t : Tmps) (q : Q) (h : T Obj) (m : Pos) (y : T Nat) : Bool := match n with
  | 0 => match Nat.ble sLen sCap with
    | true => k (.slice base sLen sCap soft) t q h m y
    | false => false
  | Nat.succ n => match Nat.ble (Nat.add sLen (Nat.succ n)) sCap with
    | true => match base with
      | none => false
      | some a => heapK (storeH a.1 (Nat.add a.2 (Nat.mul sLen size)) new h) (.slice (some a) (Nat.add sLen (Nat.succ n)) sCap soft) k t q m y
    | false => match Nat.ble (Nat.add sLen (Nat.succ n)) 1000000000 with
      | false => false
      | true => growK size ty base sLen (Nat.succ n) soft new k t q h m y
noncomputable def iAppend (size : Nat) (zero : List AV) (zeros : Bool) (ty : Option Nat) (l x : Opd) (k : KM) : M := fun t q h m y => match viS (eO l t) with
  | .no => false
  | .is base sLen sCap soft => match zeros with
    | true => match natX (eO x t) with
      | some n => match Nat.ble n 100000 with
        | true => appendK size ty base sLen sCap soft n (repX zero n) k t q h m y
        | false => false
      | none => false
    | false => match lenOfX (eO x t) with
      | none => false
      | some n => match firstX h size (eO x t) n with
        | none => false
        | some new => appendK size ty base sLen sCap soft n new k t q h m y
noncomputable def iToUnsafe (x : Opd) (k : KM) : M := fun t => VP.rec (motive := fun _ => KM → M) (fun _ _ _ _ _ _ => false) (fun k => k (.ptr none))
  (fun p o k t q h m y => match okCells h (getTO p h) with
    | none => false
    | some cs => match Nat.ble (Nat.succ o) (lenX cs) with
      | true => k (.ptr (some (p, o))) t q h m y
      | false => false) (viP (eO x t)) k t
noncomputable def iFromUnsafe (tys : List (Nat × Nat × Nat)) (x : Opd) (k : KM) : M := fun t => VP.rec (motive := fun _ => List (Nat × Nat × Nat) → KM → M) (fun _ _ _ _ _ _ _ => false) (fun _ k => k (.ptr none))
  (fun p o tys k t q h m y => match getTO p h with
    | some (.cells cs _ none) => match getTN p y with
      | none => false
      | some u => match isAt u o (lenX cs) tys with
        | true => k (.ptr (some (p, o))) t q h m y
        | false => false
    | _ => false) (viP (eO x t)) tys k t
noncomputable def iSliceData (x : Opd) (k : KM) : M := fun t q h m y => match viS (eO x t) with
  | .is none _ _ _ => k (.ptr none) t q h m y
  | .is (some a) _ (_ + 1) _ => k (.ptr (some a)) t q h m y
  | _ => false
noncomputable def freezeX (h : T Obj) (n : Pos) : Option (T Obj) := match getTO n h with
  | some (.cells cs false none) => some (setTO n (.cells cs true none) h)
  | some (.cells _ false (some gk)) => match getTO gk.1 h with
    | some (.grp cur floor _) => some (setTO gk.1 (.grp cur floor true) h)
    | _ => none
  | _ => none
noncomputable def iUnsafeString (tys : List Nat) (p n : Opd) (k : KM) : M := fun t q h m y => match natX (eO n t), viP (eO p t) with
  | some 0, .nil => k (.str []) t q h m y
  | some 0, .at _ _ => k (.str []) t q h m y
  | some (n + 1), .at p o => match bytesStrX (firstS h 1 (some (p, o)) (Nat.succ n)) with
    | none => false
    | some v => match hasTy tys (getTN p y) && Nat.ble (Nat.succ n) 1000000000 with
      | false => false
      | true => heapK (freezeX h p) v k t q m y
  | _, _ => false
noncomputable def iCap (x : Opd) (k : KM) : M := fun t q h m y => match viS (eO x t) with
  | .is _ _ c none => k (.int .i64 (Int.ofNat c)) t q h m y
  | _ => false
noncomputable def viIf (v : AV) : Option (Nat × AV) := match v with | .iface t v => some (t, v) | _ => none
noncomputable def iTypeAssert (ty : Nat) (zero : AV) (x : Opd) (ok : Bool) (k : KM) : M := fun t q h m y => match viIf (eO x t) with
  | some uv => match Nat.beq uv.1 ty, ok with
    | true, _ => k (okV ok uv.2 true) t q h m y
    | false, true => k (.tuple [zero, .bool false]) t q h m y
    | false, false => false
  | none => optK (typeAssertV ty zero (eO x t) ok) k t q h m y
noncomputable def cold (o : AOp) (k : KM) : M := fun t q h m y => resK (step o t ⟨h, m, y⟩) k t q
noncomputable def biK (b : Bi) (args : List Opd) (k : KM) : M := Bi.rec (motive := fun _ => List Opd → KM → M)
  (fun kd args k => List.rec (motive := fun _ => Kd → KM → M) (fun _ _ _ _ _ _ _ => false) (fun x l _ kd k => List.rec (motive := fun _ => Kd → Opd → KM → M) (fun kd x k => iLen kd x k) (fun _ _ _ _ _ _ _ _ _ _ _ => false) l kd x k) args kd k)
  (fun args k => match args with | [x] => iCap x k | _ => fun _ _ _ _ _ => false)
  (fun size zero zeros ty args k => match args with | [l, x] => iAppend size zero zeros ty l x k | _ => fun _ _ _ _ _ => false)
  (fun size args k => cold (.bi (.copy size) args) k)
  (fun kd zero args k => cold (.bi (.clear kd zero) args) k)
  (fun args k => cold (.bi .min args) k) (fun args k => cold (.bi .max args) k) (fun tys args k => match args with | [p, n] => iUnsafeString tys p n k | _ => fun _ _ _ _ _ => false) (fun args k => match args with | [x] => iSliceData x k | _ => fun _ _ _ _ _ => false) b args k
structure En where
  ap : APK
  x : Ctx
  K : Ex → M
noncomputable def retK (k : KM) (K : Ex → M) (kill : List Pos) (t : Tmps) (q : Q) : KO := fun o _ h m y => Out.rec (motive := fun _ => KM → (Ex → M) → List Pos → M)
  (fun v k _ _ => k v) (fun v _ K kill t => K (.panic v) (killAll t kill)) o k K kill t q h m y
noncomputable def iCall (f : Opd) (args : List Opd) (e : En) (kill : List Pos) (k : KM) : M := fun t q h m y => En.rec (motive := fun _ => Opd → List Opd → List Pos → KM → M)
  (fun ap _ K f args kill k t q h m y => ap (eO f t) (eOs args t) ctxN (retK k K kill t q) h m y) e f args kill k t q h m y
noncomputable def iInvoke (r : Opd) (ms : List (Nat × Nat)) (args : List Opd) (e : En) (kill : List Pos) (k : KM) : M := fun t q h m y => match viIf (eO r t) with
  | some tv => match findM tv.1 ms with
    | some f => e.ap (.func (.fn f) [] []) (tv.2 :: eOs args t) ctxN (retK k e.K kill t q) h m y
    | none => false
  | none => false
noncomputable def iRecover (e : En) (k : KM) : M := fun t q h m y => match e.x.round with
  | some _ => false
  | none => match e.x.pend with
    | some (some v) => match q.rc with
      | false => k v t ⟨q.ds, true⟩ h m y
      | true => k .nilIface t q h m y
    | _ => k .nilIface t q h m y
noncomputable def isFunc (v : AV) : Bool := match v with | .func _ _ _ => true | _ => false
noncomputable def iDefer (f : Opd) (args : List Opd) (e : En) (k : KM) : M := fun t q h m y => match e.x.round with
  | some _ => false
  | none => match isFunc (eO f t) with
    | true => k .dead t ⟨⟨eO f t, eOs args t⟩ :: q.ds, q.rc⟩ h m y
    | false => false
noncomputable def iPanic (x : Opd) (e : En) (kill : List Pos) : M := fun t q h m y => match viIf (eO x t) with
  | some tv => e.K (.panic (.iface tv.1 tv.2)) (killAll t kill) q h m y
  | none => false
noncomputable def opK (o : AOp) (e : En) (kill : List Pos) (k : KM) : M := AOp.rec (motive := fun _ => En → List Pos → KM → M)
  (fun x _ _ k => iMov x k) (fun c a b _ _ k => iPick c a b k) (fun ty zero _ _ k => newK ty (.cells zero false none) mkPtr k) (fun ty v _ _ k => iBox ty v k) (fun zero parts _ _ k => iBuild zero parts k) (fun zero len parts _ _ k => iBuildSlice zero len parts k)
  (fun n a _ _ k => iLoad n a k) (fun n a v _ _ k => iStore n a v k) (fun x _ _ k => iNilCheck x k) (fun op x y _ _ k => iBin op x y k) (fun n c x y _ _ k => iEql n c x y k) (fun op x _ _ k => iUn op x k) (fun i x _ _ k => iConvInt i x k)
  (fun x _ _ k => cold (.toFlt x) k) (fun i x _ _ k => cold (.fltInt i x) k) (fun ty x _ _ k => iConvBytes ty x k) (fun x _ _ k => iToUnsafe x k) (fun ty x _ _ k => iFromUnsafe ty x k) (fun x _ _ k => iConvStr x k) (fun x _ _ k => cold (.asStr x) k)
  (fun ty x _ _ k t => k (.iface ty (eO x t)) t) (fun fn a b _ _ k t => k (.func fn (eOs a t) (eOs b t)) t) (fun _ _ k => newK none (.map []) mkMapV k) (fun zero l c _ _ k => iMakeSlice zero l c k) (fun kd size x lo hi mx _ _ k => iSlice kd size x lo hi mx k)
  (fun off x _ _ k => iFieldAddr off x k) (fun off n x _ _ k => iField off n x k) (fun arr size x i _ _ k => iIndexAddr arr size x i k) (fun x i _ _ k => iIndexStr x i k) (fun n p size x i _ _ k => iIndexArr n p size x i k)
  (fun zero l x k' ok _ _ k => iLookup zero l x k' ok k) (fun l m k' v _ _ k => iMapUpdate l m k' v k) (fun l zero m k' _ _ k => cold (.mapEntry l zero m k') k) (fun m i v _ _ k => cold (.entryStore m i v) k) (fun ty zero x ok _ _ k => iTypeAssert ty zero x ok k)
  (fun x i _ _ k => iExtract x i k) (fun b args _ _ k => biK b args k) (fun f args e kill k => iCall f args e kill k) (fun r ms args e kill k => iInvoke r ms args e kill k) (fun e _ k => iRecover e k) (fun f args e _ k => iDefer f args e k) (fun x e kill _ => iPanic x e kill)
  (fun _ _ _ _ _ _ _ _ => false) o e kill k
noncomputable def putK (d : Pos) (ih : M) : KM := fun v t q h m y => ih (setT d v t) q h m y
noncomputable def dropK (ih : M) : KM := fun _ t q h m y => ih t q h m y
noncomputable def eqStrX (a b : List Nat) : Bool := List.rec (motive := fun _ => List Nat → Bool) (fun b => List.rec (motive := fun _ => Bool) true (fun _ _ _ => false) b)
  (fun c _ ih b => List.rec (motive := fun _ => Nat → (List Nat → Bool) → Bool) (fun _ _ => false) (fun d y _ c ih => Bool.rec (motive := fun _ => List Nat → (List Nat → Bool) → Bool) (fun _ _ => false) (fun y ih => ih y) (Nat.beq c d) y ih) b c ih) a b
noncomputable def eqOAX (a b : Option (Pos × Nat)) : Bool := match a, b with
  | none, none => true
  | some a, some b => beqP a.1 b.1 && Nat.beq a.2 b.2
  | _, _ => false
noncomputable def same1 (v u : AV) : Bool := match viI v, viI u with
  | .is j a, .is k b => eqKX j k && eqZ a b
  | _, _ => match viP v, viP u with
    | .at p a, .at q b => beqP p q && Nat.beq a b
    | _, _ => match viS v, viS u with
      | .is x l c f, .is y m d g => eqOAX x y && (Nat.beq l m && (Nat.beq c d && f == g))
      | _, _ => match viT v, viT u with
        | some a, some b => eqStrX a b
        | _, _ => same v u
noncomputable def same1s (a b : List AV) : Bool := List.rec (motive := fun _ => List AV → Bool) (fun b => List.rec (motive := fun _ => Bool) true (fun _ _ _ => false) b)
  (fun v _ ih b => List.rec (motive := fun _ => AV → (List AV → Bool) → Bool) (fun _ _ => false) (fun u y _ v ih => Bool.rec (motive := fun _ => List AV → (List AV → Bool) → Bool) (fun _ _ => false) (fun y ih => ih y) (same1 v u) y ih) b v ih) a b
noncomputable def sameX (v u : AV) : Bool := match viA v, viA u with
  | some a, some b => same1s a b
  | _, _ => same1 v u
noncomputable def enNo : En := ⟨fun _ _ _ _ _ _ _ => false, ⟨none, some (.x 0)⟩, fun _ _ _ _ _ _ => false⟩
noncomputable def agnE (dst : Pos) (ih : M) (t : Tmps) (q : Q) (h : T Obj) (m : Pos) (y : T Nat) : KM := fun v _ _ _ _ _ => match getT dst t with
  | some u => match sameX v u with | true => ih t q h m y | false => false
  | none => false
noncomputable def wantedX (t : Tmps) (g : Pos × Bool) : VB := Option.rec (motive := fun _ => Bool → VB) (fun _ => .no)
  (fun v w => VB.rec (motive := fun _ => AV → Bool → VB) (fun v _ => match viU v with | some [] => .f | _ => .no) (fun _ w => Bool.rec (motive := fun _ => VB) .f .t w) (fun _ w => Bool.rec (motive := fun _ => VB) .t .f w) (viB v) v w) (getT g.1 t) g.2
noncomputable def agnK (l : List Again) (ih : M) : M := List.rec (motive := fun _ => M → M) (fun ih => ih)
  (fun r _ rest ih t q h m y => Option.rec (motive := fun _ => Again → M → M) (fun r ih t q h m y => opK r.op enNo [] (agnE r.dst ih t q h m y) t q h m y)
    (fun g r ih t => VB.rec (motive := fun _ => Again → M → M) (fun _ _ _ _ _ _ _ => false) (fun r ih t q h m y => opK r.op enNo [] (agnE r.dst ih t q h m y) t q h m y) (fun _ ih => ih) (wantedX t g) r ih t) r.guard r (rest ih) t q h m y) l ih
noncomputable def nextK (dst : Option Pos) (ag : List Again) (ih : M) : KM := Option.rec (motive := fun _ => List Again → M → KM) (fun ag ih => List.rec (motive := fun _ => M → KM) (fun ih => dropK ih) (fun a l _ ih => dropK (agnK (a :: l) ih)) ag ih)
  (fun d ag ih => List.rec (motive := fun _ => Pos → M → KM) (fun d ih => putK d ih) (fun a l _ d ih => putK d (agnK (a :: l) ih)) ag d ih) dst ag ih
noncomputable def guardK (g : Pos × Bool) (o : AOp) (e : En) (kill : List Pos) (dst : Option Pos) (k : KM) (ih : M) : M := fun t => VB.rec (motive := fun _ => AOp → En → List Pos → Option Pos → KM → M → M) (fun _ _ _ _ _ _ _ _ _ _ _ => false)
  (fun o e kill _ k _ => opK o e kill k) (fun _ _ _ dst _ ih t => Option.rec (motive := fun _ => M → M) (fun ih => ih) (fun d ih t => ih (setT d (.tuple []) t)) dst ih t) (wantedX t g) o e kill dst k ih t
noncomputable def operK (o : AOper) (e : En) (ih : M) : M := AOper.rec (motive := fun _ => En → M → M)
  (fun dst op g ag kill e ih => Option.rec (motive := fun _ => AOp → En → List Pos → Option Pos → KM → M → M) (fun op e kill _ k _ => opK op e kill k) (fun g op e kill dst k ih => guardK g op e kill dst k ih) g op e kill dst (nextK dst ag ih) ih) o e ih
noncomputable def opsK (l : List AOper) (e : En) : M := List.rec (motive := fun _ => En → M) (fun e => e.K .normal) (fun o _ ih e => operK o e (ih e)) l e
noncomputable def seqN (b : APK → Ctx → (Ex → M) → M) (ap : APK) (x : Ctx) (K : Ex → M) : Ex → M := fun e => Ex.rec (motive := fun _ => (APK → Ctx → (Ex → M) → M) → APK → Ctx → (Ex → M) → M)
  (fun b ap x K => b ap x K) (fun id _ _ _ K => K (.exit id)) (fun _ _ _ K => K .ret) (fun v _ _ _ K => K (.panic v)) e b ap x K
noncomputable def blockN (id : Nat) (K : Ex → M) : Ex → M := fun e => Ex.rec (motive := fun _ => Nat → (Ex → M) → M)
  (fun _ K => K .normal) (fun j id K => Bool.rec (motive := fun _ => Nat → (Ex → M) → M) (fun j K => K (.exit j)) (fun _ K => K .normal) (Nat.beq j id) j K) (fun _ K => K .ret) (fun v _ K => K (.panic v)) e id K
noncomputable def loopN (r : M) (K : Ex → M) : Ex → M := fun e => Ex.rec (motive := fun _ => M → (Ex → M) → M) (fun r _ => r) (fun j _ K => K (.exit j)) (fun _ K => K .ret) (fun v _ K => K (.panic v)) e r K
noncomputable def loopR (b : (Ex → M) → M) (K : Ex → M) (n : Nat) : M := Nat.rec (motive := fun _ => ((Ex → M) → M) → (Ex → M) → M) (fun _ _ _ _ _ _ _ => false) (fun _ ih b K => b (loopN (ih b K) K)) n b K
noncomputable def rangeE (n : Pos) (K : Ex → M) (t : Tmps) (q : Q) : KO := fun o _ h m y => match o with
  | .panic v => K (.panic v) t q h m y
  | .ret _ => match getTO n h with
    | some (.loop r) => match r.st with
      | .busy => false
      | _ => K (match r.pending with | none => .normal | some e => e) t q (setTO n (.loop { r with st := .exhausted }) h) m y
    | _ => false
noncomputable def rangeK (f : Opd) (params : List Pos) (asg body : ACode) (ap : APK) (x : Ctx) (K : Ex → M) : M := fun t q h m y => match roundOk x ⟨h, m, y⟩ with
  | false => false
  | true => ap (eO f t) [.func (.yield m) [] []] ctxN (rangeE m K t q) (setTO m (.loop { st := .ready, pending := none, tmps := t, params := params, assign := asg, body := body }) h) (succX m) y
noncomputable def condK (c : Opd) (a b : APK → Ctx → (Ex → M) → M) (ap : APK) (x : Ctx) (K : Ex → M) : M := fun t => VB.rec (motive := fun _ => (APK → Ctx → (Ex → M) → M) → (APK → Ctx → (Ex → M) → M) → APK → Ctx → (Ex → M) → M)
  (fun _ _ _ _ _ _ _ _ _ _ => false) (fun a _ => a) (fun _ b => b) (viB (eO c t)) a b ap x K t
noncomputable def codeK (c : ACode) (ap : APK) (x : Ctx) (K : Ex → M) : M := ACode.rec (motive := fun _ => APK → Ctx → (Ex → M) → M)
  (fun _ _ K => K .normal) (fun ops ap x K => opsK ops ⟨ap, x, K⟩) (fun _ _ ia ib ap x K => ia ap x (seqN ib ap x K)) (fun c _ _ ia ib ap x K => condK c ia ib ap x K) (fun id _ ib ap x K => ib ap x (blockN id K))
  (fun _ ib ap x K => loopR (ib ap x) K 1000000000) (fun f ps asg body _ _ ap x K => rangeK f ps asg body ap x K) (fun id _ _ K => K (.exit id)) (fun _ _ K => K .ret) (fun _ _ _ _ _ _ _ _ => false) c ap x K
noncomputable def setParamsX (ps : List Pos) (vs : List AV) (t : Tmps) : Option Tmps := List.rec (motive := fun _ => List AV → Tmps → Option Tmps) (fun vs t => List.rec (motive := fun _ => Tmps → Option Tmps) (fun t => some t) (fun _ _ _ _ => none) vs t)
  (fun p _ ih vs t => List.rec (motive := fun _ => Pos → (List AV → Tmps → Option Tmps) → Tmps → Option Tmps) (fun _ _ _ => none) (fun v vs _ p ih t => ih vs (setT p v t)) vs p ih t) ps vs t
noncomputable def resultX (h : T Obj) (t : Tmps) (r : ARes) : Option AV := ARes.rec (motive := fun _ => T Obj → Tmps → Option AV) (fun i _ t => some (orDead (getT i t)))
  (fun a n h t => VP.rec (motive := fun _ => Option Nat → T Obj → Option AV) (fun _ _ => none) (fun _ _ => none) (fun p o n h => loadX p o n h) (viP (orDead (getT a t))) n h) r h t
noncomputable def resultsX (h : T Obj) (t : Tmps) (l : List ARes) : Option (List AV) := List.rec (motive := fun _ => T Obj → Tmps → Option (List AV)) (fun _ _ => some [])
  (fun r _ ih h t => Option.rec (motive := fun _ => (T Obj → Tmps → Option (List AV)) → T Obj → Tmps → Option (List AV)) (fun _ _ _ => none) (fun v ih h t => consO v (ih h t)) (resultX h t r) ih h t) l h t
noncomputable def oneOfX (vs : List AV) : AV := List.rec (motive := fun _ => AV) (.tuple []) (fun v l _ => List.rec (motive := fun _ => AV → AV) (fun v => v) (fun w l _ v => .tuple (v :: w :: l)) l v) vs
noncomputable def leftK (o : Option (List AV)) (rc : Bool) (K : KO) (h : T Obj) (m : Pos) (y : T Nat) : Bool := Option.rec (motive := fun _ => Bool → KO → T Obj → Pos → T Nat → Bool) (fun _ _ _ _ _ => false) (fun vs rc K h m y => K (.ret (oneOfX vs)) rc h m y) o rc K h m y
noncomputable def leaveK (ap : APK) (f : AFunc) (ds : List ADefer) (p : Option AV) (t : Tmps) (rc : Bool) (K : KO) (h : T Obj) (m : Pos) (y : T Nat) : Bool := List.rec (motive := fun _ => APK → AFunc → Option AV → Tmps → Bool → KO → T Obj → Pos → T Nat → Bool)
  (fun _ f p t rc K h m y => Option.rec (motive := fun _ => AFunc → Tmps → Bool → KO → T Obj → Pos → T Nat → Bool) (fun f t rc K h m y => leftK (resultsX h t f.results) rc K h m y) (fun v _ _ rc K h m y => K (.panic v) rc h m y) p f t rc K h m y)
  (fun d _ ih ap f p t rc K h m y => ap d.f d.args { pend := some p, round := none } (fun o recd h m y => match o with | .ret _ => ih ap f (match recd with | true => none | false => p) t rc K h m y | .panic _ => false) h m y) ds ap f p t rc K h m y
noncomputable def endK (ap : APK) (f : AFunc) (K : KO) : Ex → M := fun e t q h m y => Ex.rec (motive := fun _ => APK → AFunc → KO → M)
  (fun ap f K t q h m y => leaveK ap f q.ds none t q.rc K h m y) (fun _ _ _ _ _ _ _ _ _ => false) (fun ap f K t q h m y => leaveK ap f q.ds none t q.rc K h m y) (fun v ap f K t q h m y => leaveK ap f q.ds (some v) t q.rc K h m y) e ap f K t q h m y
noncomputable def bodyK (f : AFunc) (ap : APK) (args : List AV) (x : Ctx) (K : KO) (h : T Obj) (m : Pos) (y : T Nat) : Bool := Option.rec (motive := fun _ => AFunc → APK → Ctx → KO → T Obj → Pos → T Nat → Bool) (fun _ _ _ _ _ _ _ => false)
  (fun t f ap x K h m y => codeK f.body ap x (endK ap f K) t ⟨[], false⟩ h m y) (setParamsX f.params args .nil) f ap x K h m y
noncomputable def funcK (A : Prog) (g : Nat) (ap : APK) (args : List AV) (x : Ctx) (K : KO) (h : T Obj) (m : Pos) (y : T Nat) : Bool := Option.rec (motive := fun _ => APK → List AV → Ctx → KO → T Obj → Pos → T Nat → Bool) (fun _ _ _ _ _ _ _ => false)
  (fun f ap args x K h m y => bodyK f ap args x K h m y) (A.func g) ap args x K h m y
noncomputable def callK (A : Prog) (g : Nat) (ap : APK) (args : List AV) (x : Ctx) (K : KO) (h : T Obj) (m : Pos) (y : T Nat) : Bool := Option.rec (motive := fun _ => Prog → Nat → APK → List AV → Ctx → KO → T Obj → Pos → T Nat → Bool)
  (fun A g ap args x K h m y => funcK A g ap args x K h m y)
  (fun _ A g ap args x K h m y => match primR A g args x ⟨h, m, y⟩ with | some vs => St.rec (motive := fun _ => AV → KO → Bool) (fun h m y v K => K (.ret v) false h m y) vs.2 vs.1 K | none => funcK A g ap args x K h m y) (A.prim g) A g ap args x K h m y
noncomputable def yieldE (l : Pos) (K : KO) : Ex → M := fun e _ _ h m y => match getTO l h with
  | some (.loop r) => match e with
    | .panic v => K (.panic v) false h m y
    | .normal => K (.ret (.bool true)) false (setTO l (.loop { r with st := .ready, pending := none }) h) m y
    | .exit i => K (.ret (.bool false)) false (setTO l (.loop { r with st := .done, pending := some (.exit i) }) h) m y
    | .ret => K (.ret (.bool false)) false (setTO l (.loop { r with st := .done, pending := some .ret }) h) m y
  | _ => false
noncomputable def yieldB (l : Pos) (body : ACode) (ap : APK) (K : KO) : Ex → M := fun e t q h m y => match e with
  | .normal => match getTO l h with
    | some (.loop r) => match r.st with
      | .ready => codeK body ap (ctxR l) (yieldE l K) t q (setTO l (.loop { r with st := .busy }) h) m y
      | _ => false
    | _ => false
  | _ => false
noncomputable def yieldK (l : Pos) (first : List AV) (ap : APK) (args : List AV) (x : Ctx) (K : KO) (h : T Obj) (m : Pos) (y : T Nat) : Bool := match x.pend with
  | some _ => false
  | none => match getTO l h with
    | some (.loop r0) => match r0.st with
      | .ready => match setParamsX r0.params (appX first args) r0.tmps with
        | none => false
        | some t => codeK r0.assign ap (ctxR l) (yieldB l r0.body ap K) t ⟨[], false⟩ h m y
      | _ => false
    | _ => false
inductive VF where
  | no | fn (g : Nat) (first captured : List AV) | yield (l : Pos) (first : List AV)
noncomputable def viF (v : AV) : VF := AV.rec (motive_1 := fun _ => VF) (motive_2 := fun _ => Unit) (fun _ => .no) (fun _ _ => .no) (fun _ => .no) (fun _ _ => .no) (fun _ => .no) (fun _ _ => .no) .no (fun _ => .no) (fun _ => .no) (fun _ _ _ _ => .no) (fun _ => .no) (fun f a b _ _ => AFn.rec (motive := fun _ => List AV → List AV → VF) (fun g a b => .fn g a b) (fun l a _ => .yield l a) (fun _ _ => .no) f a b) .no (fun _ _ _ => .no) .no (fun _ _ => .no) (fun _ _ => .no) .no () (fun _ _ _ _ => ()) v
noncomputable def apK (A : Prog) (n : Nat) : APK := Nat.rec (motive := fun _ => Prog → APK) (fun _ _ _ _ _ _ _ _ => false)
  (fun _ ih A f args x K h m y => VF.rec (motive := fun _ => Prog → APK → List AV → Ctx → KO → T Obj → Pos → T Nat → Bool) (fun _ _ _ _ _ _ _ _ => false)
    (fun g first captured A ap args x K h m y => callK A g ap (appX first (appX args captured)) x K h m y) (fun l first _ ap args x K h m y => yieldK l first ap args x K h m y) (viF f) A (ih A) args x K h m y) n A
end A3
