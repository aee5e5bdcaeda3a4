/- Lemmas of the proof (W), on an abstract machine. Conditions: none. -/
import Derived.Test.YtnnfdbdheoajgaaGreatV
set_option linter.unusedVariables false
namespace Go.Proofs.AM
structure Hold (p : Prop) : Prop where
 out : p
theorem oF7 (p : Prop) : Hold p = p := propext ⟨Hold.out, Hold.mk⟩
section
variable {G : Gam} {Q : Ex → St → Prop} {s : St} {a b : IC} {ops : List IOp} {K : St → Prop} {t : Tm} {o : aj7}
def mS7 (G : Gam) (b : IC) (Q : Ex → St → Prop) : Ex → St → Prop := fun e s' => match e with
 | .norm => vwp G b Q s'
 | .exit i => Q (.exit i) s'
 | .ret => Q .ret s'
def j07 (id : Nat) (Q : Ex → St → Prop) : Ex → St → Prop := fun e s' => match e with
 | .exit i => (match decEq i id with | isTrue _ => Q .norm s' | isFalse _ => Q (.exit i) s')
 | .norm => Q .norm s'
 | .ret => Q .ret s'
def fi7 (I : Nat → St → Prop) (n : Nat) (Q : Ex → St → Prop) : Ex → St → Prop := fun e s' => match e with
 | .norm => ∃ m, m < n ∧ I m s'
 | .exit i => Q (.exit i) s'
 | .ret => Q .ret s'
def mG7 (f : IFn) (ks : List (List (Option Nat))) (bs : Nat → Option Nat × Nat) (ins : List (Bool × Nat × Rows)) (a : Ans) : Ex → St → Prop := fun e s => match e with
 | .exit _ => False
 | .norm => jn7 f ks bs ins a s
 | .ret => jn7 f ks bs ins a s
theorem BU7 (h : Q .norm s) : vwp G .skip Q s := h
theorem Ga7 (h : vwp G a (mS7 G b Q) s) : vwp G (.seq a b) Q s := ⟨vwp G b Q, h, fun _ h => h⟩
theorem Gb7 (h : cY7 G ops (Q .norm) s) : vwp G (.reg ops) Q s := h
theorem Gc7 {inc : List (Nat × Nat)} (h : bI7 G inc ops [] (Q .norm) s) : vwp G (.drw ops inc) Q s := h
theorem oG7 {id : Nat} (h : vwp G a (j07 id Q) s) : vwp G (.block id a) Q s := ⟨Q .norm, h, fun _ h => h⟩
theorem Gd7 (I : Nat → St → Prop) (n : Nat) (h0 : I n s) (h : ∀ n s', I n s' → vwp G a (fi7 I n Q) s') : vwp G (.loop a) Q s := ⟨I, ⟨n, h0⟩, h⟩
theorem BV7 {id : Nat} (h : Q (.exit id) s) : vwp G (.exit id) Q s := h
theorem Ge7 (h : Q .ret s) : vwp G .ret Q s := h
theorem as7 {c : Od} {p : Bool} (hc : ev t c = .v (.bool p)) (h1 : p = true → vwp G a Q ⟨t, o⟩) (h2 : p = false → vwp G b Q ⟨t, o⟩) : vwp G (.cond c a b) Q ⟨t, o⟩ := by
 simp only [vwp, hc]
 exact oE7 h1 h2
theorem Qw7 {c : Od} (hc : ev t c = .v (.bool true)) (h : vwp G a Q ⟨t, o⟩) : vwp G (.cond c a b) Q ⟨t, o⟩ := as7 hc (fun _ => h) (fun h => by cases h)
theorem Qx7 {c : Od} (hc : ev t c = .v (.bool false)) (h : vwp G b Q ⟨t, o⟩) : vwp G (.cond c a b) Q ⟨t, o⟩ := as7 hc (fun h => by cases h) (fun _ => h)
theorem Qy7 (h : vwp G b Q s) : mS7 G b Q .norm s := h
theorem Qz7 {i : Nat} (h : Q (.exit i) s) : mS7 G b Q (.exit i) s := h
theorem QA7 (h : Q .ret s) : mS7 G b Q .ret s := h
theorem QB7 {id : Nat} (h : Q .norm s) : j07 id Q .norm s := h
theorem QC7 {id : Nat} (h : Q .ret s) : j07 id Q .ret s := h
theorem QD7 {i : Nat} (h : Q .norm s) : j07 i Q (.exit i) s := by
 unfold j07
 simp only
 split
 ·exact h
 ·rename_i hn _; exact absurd rfl hn
theorem QE7 {i id : Nat} (hn : (i == id) = false) (h : Q (.exit i) s) : j07 id Q (.exit i) s := by
 unfold j07
 simp only
 split
 ·rename_i e _; rw [e] at hn; simp at hn
 ·exact h
section
variable {f : IFn} {ks : List (List (Option Nat))} {bs : Nat → Option Nat × Nat} {ins : List (Bool × Nat × Rows)} {an : Ans}
theorem QF7 (h : jn7 f ks bs ins an s) : mG7 f ks bs ins an .norm s := h
theorem QG7 (h : jn7 f ks bs ins an s) : mG7 f ks bs ins an .ret s := h
theorem C07 {xs : List AV} (h : ∀ bs, vwp G f.body (mG7 f ks bs ins an) ⟨u77 bs xs, v17 bs ins⟩) : BL7 G f ks xs ins an := Ng7 fun bs => h bs
end
theorem Gf7 (h : K s) : cY7 G [] K s := h
theorem wV7 {op : IOp} (h : f97 G op s fun s' _ => cY7 G ops K s') : cY7 G (op :: ops) K s := h
theorem Gg7 {inc : List (Nat × Nat)} {L : List a47} (h1 : nb7 inc L = true) (h : K s) : bI7 G inc [] L K s := ⟨h1, h⟩
theorem wW7 {inc : List (Nat × Nat)} {L : List a47} {op : IOp} (h : f97 G op s fun s' l => bI7 G inc ops (L ++ [l]) K s') : bI7 G inc (op :: ops) L K s := h
section
variable {KL : St → a47 → Prop} {d : Option Nat} {op : Opx}
theorem aw7 {g : Nat} {b p : Bool} (hg : t g = .v (.bool p)) (h1 : p = true → f97 G ⟨d, op, some (g, b)⟩ ⟨t, o⟩ KL) (h2 : p = false → f97 G ⟨d, op, some (g, b)⟩ ⟨t, o⟩ KL) : f97 G ⟨d, op, some (g, b)⟩ ⟨t, o⟩ KL := by
 cases p
 ·exact h2 rfl
 ·exact h1 rfl
theorem QH7 {g : Nat} {b : Bool} (hg : t g = .v (.bool b)) (h : vdo G d op t o KL) : f97 G ⟨d, op, some (g, b)⟩ ⟨t, o⟩ KL := by
 simp only [f97, wU7, hg, beq_self_eq_true]
 exact CX7 h
theorem QI7 {g : Nat} {b p : Bool} (hg : t g = .v (.bool p)) (hn : (p == b) = false) (h : KL ⟨aG7 t d unv, o⟩ ([], [])) : f97 G ⟨d, op, some (g, b)⟩ ⟨t, o⟩ KL := by
 simp only [f97, wU7, hg, hn]
 exact CY7 h
theorem QJ7 {g : Nat} {b : Bool} {x : Array Value} (hg : t g = .v (.tuple x)) (h : KL ⟨aG7 t d unv, o⟩ ([], [])) : f97 G ⟨d, op, some (g, b)⟩ ⟨t, o⟩ KL := by
 simp only [f97, wU7, hg]
 exact h
theorem tM7 (h : vdo G d op t o KL) : f97 G ⟨d, op, none⟩ ⟨t, o⟩ KL := h
def Nh7 (t : Tm) : Opx → Bool
 | .load .. => false
 | .iaddr .. => false
 | .pick .. => false
 | .sidx .. => false
 | .sls .. => false
 | .sl3 .. => false
 | .ssl .. => false
 | .bin .add x _ => (match ev t x with | .v (.string _) => false | _ => true)
 | .bin .rem _ y => (match y with | .c _ => true | _ => false)
 | .bin .quo _ y => (match y with | .c _ => true | _ => false)
 | .bin .xor _ _ => false
 | op => !hOp op
def Gh7 (o : aj7) : AV → Bool
 | .ptr n .. => (match o n with | some e => e.box | none => false)
 | _ => false
def Ni7 (t : Tm) (o : aj7) : Opx → Bool
 | .box .. => true
 | .alloc .. => true
 | .lit .. => true
 | .store _ p _ => Gh7 o (ev t p)
 | _ => false
def C17 : Opx → Bool
 | .load .. => false
 | op => !hOp op
theorem wX7 (h1 : C17 op = true) (h : vop t op fun x => Hold (KL ⟨aG7 t d x, o⟩ ([], []))) : vdo G d op t o KL := by
 simp only [oF7] at h
 unfold vdo
 split
 ·cases h1
 ·split
  ·rename_i hn _ hh
   cases op <;> first | (cases h1; done) | (cases hh; done) | exact absurd rfl (hn _ _ _)
  ·exact h
theorem Gi7 (h1 : hOp op = true) (h : ∀ ch, (aB7 G (cB7 d) ch t op).vp o fun x o' l => Hold (KL ⟨aG7 t d x, o'⟩ l)) : vdo G d op t o KL := by
 simp only [oF7] at h
 unfold vdo
 split
 ·cases h1
 ·rw [h1]
  exact h
theorem wY7 (h1 : Nh7 t op = true) (h : vop t op fun x => Hold (KL ⟨aG7 t d x, o⟩ ([], []))) : vdo G d op t o KL := by
 refine wX7 ?_ h
 cases op <;> first | rfl | (cases h1; done) | exact h1
theorem wZ7 (h1 : Ni7 t o op = true) (h : ∀ ch, (aB7 G (cB7 d) ch t op).vp o fun x o' l => Hold (KL ⟨aG7 t d x, o'⟩ l)) : vdo G d op t o KL := by
 refine Gi7 ?_ h
 cases op <;> first | rfl | (cases h1; done)
def Gj7 : AV → Bool
 | .ptr .. => true
 | _ => false
theorem C27 {sz : Nat} {agg : Bool} {p : Od} (hp : Gj7 (ev t p) = true) (h : ∀ ch, (aB7 G (cB7 d) ch t (.load sz agg p)).vp o fun x o' l => Hold (KL ⟨aG7 t d x, o'⟩ l)) : vdo G d (.load sz agg p) t o KL := by
 simp only [oF7] at h
 unfold vdo
 simp only
 split
 ·exact h
 ·rename_i hn
  cases he : ev t p <;> rw [he] at hp <;> first | (cases hp; done) | exact absurd he (hn _ _ _ _ _)
theorem w07 {sz : Nat} {agg : Bool} {p : Od} (hp : Gh7 o (ev t p) = true) (h : ∀ ch, (aB7 G (cB7 d) ch t (.load sz agg p)).vp o fun x o' l => Hold (KL ⟨aG7 t d x, o'⟩ l)) : vdo G d (.load sz agg p) t o KL := by
 refine C27 ?_ h
 cases he : ev t p <;> rw [he] at hp <;> first | rfl | (cases hp; done)
theorem w17 {sz : Nat} {agg : Bool} {p : Od} (hp : Gj7 (ev t p) = false) (h : vop t (.load sz agg p) fun x => Hold (KL ⟨aG7 t d x, o⟩ ([], []))) : vdo G d (.load sz agg p) t o KL := by
 simp only [oF7] at h
 unfold vdo
 simp only
 split
 ·rename_i he
  rw [he] at hp
  cases hp
 ·exact h
end
end
end Go.Proofs.AM
