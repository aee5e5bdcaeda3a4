/- Lemmas of the proof (W), on an abstract machine. Conditions: none. -/
import Derived.Test.YtnnfdbdheoajgaaGreatV
set_option linter.unusedVariables false
namespace Go.Proofs.AM
structure Hold (p : Prop) : Prop where
 out : p
theorem ow7 (p : Prop) : Hold p = p := propext ⟨Hold.out, Hold.mk⟩
section
variable {G : Gam} {Q : Ex → St → Prop} {s : St} {a b : IC} {ops : List IOp} {K : St → Prop} {t : Tm} {o : aj7}
def mN7 (G : Gam) (b : IC) (Q : Ex → St → Prop) : Ex → St → Prop := fun e s' => match e with
 | .norm => vwp G b Q s'
 | .exit i => Q (.exit i) s'
 | .ret => Q .ret s'
def jQ7 (id : Nat) (Q : Ex → St → Prop) : Ex → St → Prop := fun e s' => match e with
 | .exit i => (match decEq i id with | isTrue _ => Q .norm s' | isFalse _ => Q (.exit i) s')
 | .norm => Q .norm s'
 | .ret => Q .ret s'
def fj7 (I : Nat → St → Prop) (n : Nat) (Q : Ex → St → Prop) : Ex → St → Prop := fun e s' => match e with
 | .norm => ∃ m, m < n ∧ I m s'
 | .exit i => Q (.exit i) s'
 | .ret => Q .ret s'
def mB7 (f : IFn) (ks : List (List (Option Nat))) (bs : Nat → Option Nat × Nat) (ins : List (Bool × Nat × Rows)) (a : Ans) : Ex → St → Prop := fun e s => match e with
 | .exit _ => False
 | .norm => ja7 f ks bs ins a s
 | .ret => ja7 f ks bs ins a s
theorem BF7 (h : Q .norm s) : vwp G .skip Q s := h
theorem FR7 (h : vwp G a (mN7 G b Q) s) : vwp G (.seq a b) Q s := ⟨vwp G b Q, h, fun _ h => h⟩
theorem FS7 (h : cX7 G ops (Q .norm) s) : vwp G (.reg ops) Q s := h
theorem FT7 {inc : List (Nat × Nat)} (h : bF7 G inc ops [] (Q .norm) s) : vwp G (.drw ops inc) Q s := h
theorem ox7 {id : Nat} (h : vwp G a (jQ7 id Q) s) : vwp G (.block id a) Q s := ⟨Q .norm, h, fun _ h => h⟩
theorem FU7 (I : Nat → St → Prop) (n : Nat) (h0 : I n s) (h : ∀ n s', I n s' → vwp G a (fj7 I n Q) s') : vwp G (.loop a) Q s := ⟨I, ⟨n, h0⟩, h⟩
theorem BG7 {id : Nat} (h : Q (.exit id) s) : vwp G (.exit id) Q s := h
theorem FV7 (h : Q .ret s) : vwp G .ret Q s := h
theorem aq7 {c : Od} {p : Bool} (hc : ev t c = .v (.bool p)) (h1 : p = true → vwp G a Q ⟨t, o⟩) (h2 : p = false → vwp G b Q ⟨t, o⟩) : vwp G (.cond c a b) Q ⟨t, o⟩ := by
 simp only [vwp, hc]
 exact ov7 h1 h2
theorem P97 {c : Od} (hc : ev t c = .v (.bool true)) (h : vwp G a Q ⟨t, o⟩) : vwp G (.cond c a b) Q ⟨t, o⟩ := aq7 hc (fun _ => h) (fun h => by cases h)
theorem Qa7 {c : Od} (hc : ev t c = .v (.bool false)) (h : vwp G b Q ⟨t, o⟩) : vwp G (.cond c a b) Q ⟨t, o⟩ := aq7 hc (fun h => by cases h) (fun _ => h)
theorem Qb7 (h : vwp G b Q s) : mN7 G b Q .norm s := h
theorem Qc7 {i : Nat} (h : Q (.exit i) s) : mN7 G b Q (.exit i) s := h
theorem Qd7 (h : Q .ret s) : mN7 G b Q .ret s := h
theorem Qe7 {id : Nat} (h : Q .norm s) : jQ7 id Q .norm s := h
theorem Qf7 {id : Nat} (h : Q .ret s) : jQ7 id Q .ret s := h
theorem Qg7 {i : Nat} (h : Q .norm s) : jQ7 i Q (.exit i) s := by
 unfold jQ7
 simp only
 split
 ·exact h
 ·rename_i hn _; exact absurd rfl hn
theorem Qh7 {i id : Nat} (hn : (i == id) = false) (h : Q (.exit i) s) : jQ7 id Q (.exit i) s := by
 unfold jQ7
 simp only
 split
 ·rename_i e _; rw [e] at hn; simp at hn
 ·exact h
section
variable {f : IFn} {ks : List (List (Option Nat))} {bs : Nat → Option Nat × Nat} {ins : List (Bool × Nat × Rows)} {an : Ans}
theorem Qi7 (h : ja7 f ks bs ins an s) : mB7 f ks bs ins an .norm s := h
theorem Qj7 (h : ja7 f ks bs ins an s) : mB7 f ks bs ins an .ret s := h
theorem CG7 {xs : List AV} (h : ∀ bs, vwp G f.body (mB7 f ks bs ins an) ⟨uZ7 bs xs, vX7 bs ins⟩) : Bw7 G f ks xs ins an := MW7 fun bs => h bs
end
theorem FW7 (h : K s) : cX7 G [] K s := h
theorem wQ7 {op : IOp} (h : f77 G op s fun s' _ => cX7 G ops K s') : cX7 G (op :: ops) K s := h
theorem FX7 {inc : List (Nat × Nat)} {L : List a67} (h1 : m77 inc L = true) (h : K s) : bF7 G inc [] L K s := ⟨h1, h⟩
theorem wR7 {inc : List (Nat × Nat)} {L : List a67} {op : IOp} (h : f77 G op s fun s' l => bF7 G inc ops (L ++ [l]) K s') : bF7 G inc (op :: ops) L K s := h
section
variable {KL : St → a67 → Prop} {d : Option Nat} {op : Opx}
theorem aT7 {g : Nat} {b p : Bool} (hg : t g = .v (.bool p)) (h1 : p = true → f77 G ⟨d, op, some (g, b)⟩ ⟨t, o⟩ KL) (h2 : p = false → f77 G ⟨d, op, some (g, b)⟩ ⟨t, o⟩ KL) : f77 G ⟨d, op, some (g, b)⟩ ⟨t, o⟩ KL := by
 cases p
 ·exact h2 rfl
 ·exact h1 rfl
theorem Qk7 {g : Nat} {b : Bool} (hg : t g = .v (.bool b)) (h : vdo G d op t o KL) : f77 G ⟨d, op, some (g, b)⟩ ⟨t, o⟩ KL := by
 simp only [f77, wP7, hg, beq_self_eq_true]
 exact CD7 h
theorem Ql7 {g : Nat} {b p : Bool} (hg : t g = .v (.bool p)) (hn : (p == b) = false) (h : KL ⟨aD7 t d unv, o⟩ ([], [])) : f77 G ⟨d, op, some (g, b)⟩ ⟨t, o⟩ KL := by
 simp only [f77, wP7, hg, hn]
 exact CE7 h
theorem Qm7 {g : Nat} {b : Bool} {x : Array Value} (hg : t g = .v (.tuple x)) (h : KL ⟨aD7 t d unv, o⟩ ([], [])) : f77 G ⟨d, op, some (g, b)⟩ ⟨t, o⟩ KL := by
 simp only [f77, wP7, hg]
 exact h
theorem tG7 (h : vdo G d op t o KL) : f77 G ⟨d, op, none⟩ ⟨t, o⟩ KL := h
def MX7 (t : Tm) : Opx → Bool
 | .load .. => false
 | .iaddr .. => false
 | .pick .. => false
 | .sidx .. => false
 | .sls .. => false
 | .sl3 .. => false
 | .ssl .. => false
 | .bin .add x _ => (match ev t x with | .v (.string _) => false | _ => true)
 | .bin .rem _ y => (match y with | .c _ => true | _ => false)
 | .bin .quo _ y => (match y with | .c _ => true | _ => false)
 | .bin .xor _ _ => false
 | op => !hOp op
def FY7 (o : aj7) : AV → Bool
 | .ptr n .. => (match o n with | some e => e.box | none => false)
 | _ => false
def MY7 (t : Tm) (o : aj7) : Opx → Bool
 | .box .. => true
 | .alloc .. => true
 | .lit .. => true
 | .store _ p _ => FY7 o (ev t p)
 | _ => false
def CH7 : Opx → Bool
 | .load .. => false
 | op => !hOp op
theorem wS7 (h1 : CH7 op = true) (h : vop t op fun x => Hold (KL ⟨aD7 t d x, o⟩ ([], []))) : vdo G d op t o KL := by
 simp only [ow7] at h
 unfold vdo
 split
 ·cases h1
 ·split
  ·rename_i hn _ hh
   cases op <;> first | (cases h1; done) | (cases hh; done) | exact absurd rfl (hn _ _ _)
  ·exact h
theorem FZ7 (h1 : hOp op = true) (h : ∀ ch, (az7 G (cB7 d) ch t op).vp o fun x o' l => Hold (KL ⟨aD7 t d x, o'⟩ l)) : vdo G d op t o KL := by
 simp only [ow7] at h
 unfold vdo
 split
 ·cases h1
 ·rw [h1]
  exact h
theorem wT7 (h1 : MX7 t op = true) (h : vop t op fun x => Hold (KL ⟨aD7 t d x, o⟩ ([], []))) : vdo G d op t o KL := by
 refine wS7 ?_ h
 cases op <;> first | rfl | (cases h1; done) | exact h1
theorem wU7 (h1 : MY7 t o op = true) (h : ∀ ch, (az7 G (cB7 d) ch t op).vp o fun x o' l => Hold (KL ⟨aD7 t d x, o'⟩ l)) : vdo G d op t o KL := by
 refine FZ7 ?_ h
 cases op <;> first | rfl | (cases h1; done)
def F07 : AV → Bool
 | .ptr .. => true
 | _ => false
theorem CI7 {sz : Nat} {agg : Bool} {p : Od} (hp : F07 (ev t p) = true) (h : ∀ ch, (az7 G (cB7 d) ch t (.load sz agg p)).vp o fun x o' l => Hold (KL ⟨aD7 t d x, o'⟩ l)) : vdo G d (.load sz agg p) t o KL := by
 simp only [ow7] at h
 unfold vdo
 simp only
 split
 ·exact h
 ·rename_i hn
  cases he : ev t p <;> rw [he] at hp <;> first | (cases hp; done) | exact absurd he (hn _ _ _ _ _)
theorem wV7 {sz : Nat} {agg : Bool} {p : Od} (hp : FY7 o (ev t p) = true) (h : ∀ ch, (az7 G (cB7 d) ch t (.load sz agg p)).vp o fun x o' l => Hold (KL ⟨aD7 t d x, o'⟩ l)) : vdo G d (.load sz agg p) t o KL := by
 refine CI7 ?_ h
 cases he : ev t p <;> rw [he] at hp <;> first | rfl | (cases hp; done)
theorem wW7 {sz : Nat} {agg : Bool} {p : Od} (hp : F07 (ev t p) = false) (h : vop t (.load sz agg p) fun x => Hold (KL ⟨aD7 t d x, o⟩ ([], []))) : vdo G d (.load sz agg p) t o KL := by
 simp only [ow7] at h
 unfold vdo
 simp only
 split
 ·rename_i he
  rw [he] at hp
  cases hp
 ·exact h
end
end
end Go.Proofs.AM
