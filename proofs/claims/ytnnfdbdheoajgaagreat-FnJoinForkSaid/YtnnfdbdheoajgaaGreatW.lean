/- Lemmas of the proof (W), on an abstract machine. Conditions: none. -/
import Derived.Test.YtnnfdbdheoajgaaGreatV
set_option linter.unusedVariables false
namespace Go.Proofs.AM
structure Hold (p : Prop) : Prop where
 out : p
theorem oc7 (p : Prop) : Hold p = p := propext ⟨Hold.out, Hold.mk⟩
section
variable {G : Gam} {Q : Ex → St → Prop} {s : St} {a b : IC} {ops : List IOp} {K : St → Prop} {t : Tm} {o : ak7}
def mB7 (G : Gam) (b : IC) (Q : Ex → St → Prop) : Ex → St → Prop := fun e s' => match e with
 | .norm => vwp G b Q s'
 | .exit i => Q (.exit i) s'
 | .ret => Q .ret s'
def jX7 (id : Nat) (Q : Ex → St → Prop) : Ex → St → Prop := fun e s' => match e with
 | .exit i => (match decEq i id with | isTrue _ => Q .norm s' | isFalse _ => Q (.exit i) s')
 | .norm => Q .norm s'
 | .ret => Q .ret s'
def fg7 (I : Nat → St → Prop) (n : Nat) (Q : Ex → St → Prop) : Ex → St → Prop := fun e s' => match e with
 | .norm => ∃ m, m < n ∧ I m s'
 | .exit i => Q (.exit i) s'
 | .ret => Q .ret s'
def mr7 (f : IFn) (ks : List (List (Option Nat))) (bs : Nat → Option Nat × Nat) (ins : List (Bool × Nat × Rows)) (a : Ans) : Ex → St → Prop := fun e s => match e with
 | .exit _ => False
 | .norm => jm7 f ks bs ins a s
 | .ret => jm7 f ks bs ins a s
theorem Bu7 (h : Q .norm s) : vwp G .skip Q s := h
theorem FD7 (h : vwp G a (mB7 G b Q) s) : vwp G (.seq a b) Q s := ⟨vwp G b Q, h, fun _ h => h⟩
theorem FE7 (h : cZ7 G ops (Q .norm) s) : vwp G (.reg ops) Q s := h
theorem FF7 {inc : List (Nat × Nat)} (h : bI7 G inc ops [] (Q .norm) s) : vwp G (.drw ops inc) Q s := h
theorem od7 {id : Nat} (h : vwp G a (jX7 id Q) s) : vwp G (.block id a) Q s := ⟨Q .norm, h, fun _ h => h⟩
theorem FG7 (I : Nat → St → Prop) (n : Nat) (h0 : I n s) (h : ∀ n s', I n s' → vwp G a (fg7 I n Q) s') : vwp G (.loop a) Q s := ⟨I, ⟨n, h0⟩, h⟩
theorem Bv7 {id : Nat} (h : Q (.exit id) s) : vwp G (.exit id) Q s := h
theorem FH7 (h : Q .ret s) : vwp G .ret Q s := h
theorem ar7 {c : Od} {p : Bool} (hc : ev t c = .v (.bool p)) (h1 : p = true → vwp G a Q ⟨t, o⟩) (h2 : p = false → vwp G b Q ⟨t, o⟩) : vwp G (.cond c a b) Q ⟨t, o⟩ := by
 simp only [vwp, hc]
 exact ob7 h1 h2
theorem Qb7 {c : Od} (hc : ev t c = .v (.bool true)) (h : vwp G a Q ⟨t, o⟩) : vwp G (.cond c a b) Q ⟨t, o⟩ := ar7 hc (fun _ => h) (fun h => by cases h)
theorem Qc7 {c : Od} (hc : ev t c = .v (.bool false)) (h : vwp G b Q ⟨t, o⟩) : vwp G (.cond c a b) Q ⟨t, o⟩ := ar7 hc (fun h => by cases h) (fun _ => h)
theorem Qd7 (h : vwp G b Q s) : mB7 G b Q .norm s := h
theorem Qe7 {i : Nat} (h : Q (.exit i) s) : mB7 G b Q (.exit i) s := h
theorem Qf7 (h : Q .ret s) : mB7 G b Q .ret s := h
theorem Qg7 {id : Nat} (h : Q .norm s) : jX7 id Q .norm s := h
theorem Qh7 {id : Nat} (h : Q .ret s) : jX7 id Q .ret s := h
theorem Qi7 {i : Nat} (h : Q .norm s) : jX7 i Q (.exit i) s := by
 unfold jX7
 simp only
 split
 ·exact h
 ·rename_i hn _; exact absurd rfl hn
theorem Qj7 {i id : Nat} (hn : (i == id) = false) (h : Q (.exit i) s) : jX7 id Q (.exit i) s := by
 unfold jX7
 simp only
 split
 ·rename_i e _; rw [e] at hn; simp at hn
 ·exact h
section
variable {f : IFn} {ks : List (List (Option Nat))} {bs : Nat → Option Nat × Nat} {ins : List (Bool × Nat × Rows)} {an : Ans}
theorem Qk7 (h : jm7 f ks bs ins an s) : mr7 f ks bs ins an .norm s := h
theorem Ql7 (h : jm7 f ks bs ins an s) : mr7 f ks bs ins an .ret s := h
theorem Cw7 {xs : List AV} (h : ∀ bs, vwp G f.body (mr7 f ks bs ins an) ⟨uw7 bs xs, vt7 bs ins⟩) : Bl7 G f ks xs ins an := MX7 fun bs => h bs
end
theorem FI7 (h : K s) : cZ7 G [] K s := h
theorem wk7 {op : IOp} (h : f17 G op s fun s' _ => cZ7 G ops K s') : cZ7 G (op :: ops) K s := h
theorem FJ7 {inc : List (Nat × Nat)} {L : List bd7} (h1 : mU7 inc L = true) (h : K s) : bI7 G inc [] L K s := ⟨h1, h⟩
theorem wl7 {inc : List (Nat × Nat)} {L : List bd7} {op : IOp} (h : f17 G op s fun s' l => bI7 G inc ops (L ++ [l]) K s') : bI7 G inc (op :: ops) L K s := h
section
variable {KL : St → bd7 → Prop} {d : Option Nat} {op : Opx}
theorem aF7 {g : Nat} {b p : Bool} (hg : t g = .v (.bool p)) (h1 : p = true → f17 G ⟨d, op, some (g, b)⟩ ⟨t, o⟩ KL) (h2 : p = false → f17 G ⟨d, op, some (g, b)⟩ ⟨t, o⟩ KL) : f17 G ⟨d, op, some (g, b)⟩ ⟨t, o⟩ KL := by
 cases p
 ·exact h2 rfl
 ·exact h1 rfl
theorem Qm7 {g : Nat} {b : Bool} (hg : t g = .v (.bool b)) (h : vdo G d op t o KL) : f17 G ⟨d, op, some (g, b)⟩ ⟨t, o⟩ KL := by
 simp only [f17, wj7, hg, beq_self_eq_true]
 exact Ct7 h
theorem Qn7 {g : Nat} {b p : Bool} (hg : t g = .v (.bool p)) (hn : (p == b) = false) (h : KL ⟨aE7 t d unv, o⟩ ([], [])) : f17 G ⟨d, op, some (g, b)⟩ ⟨t, o⟩ KL := by
 simp only [f17, wj7, hg, hn]
 exact Cu7 h
theorem Qo7 {g : Nat} {b : Bool} {x : Array Value} (hg : t g = .v (.tuple x)) (h : KL ⟨aE7 t d unv, o⟩ ([], [])) : f17 G ⟨d, op, some (g, b)⟩ ⟨t, o⟩ KL := by
 simp only [f17, wj7, hg]
 exact h
theorem ta7 (h : vdo G d op t o KL) : f17 G ⟨d, op, none⟩ ⟨t, o⟩ KL := h
def MY7 (t : Tm) : Opx → Bool
 | .load .. => false
 | .iaddr .. => false
 | .pick .. => false
 | .sidx .. => false
 | .sls .. => false
 | .sl3 .. => false
 | .ssl .. => false
 | .bin .add x _ => (match ev t x with | .v (.string _) => false | _ => true)
 | .bin .rem _ y => (match y with | .c _ => true | _ => false)
 | .bin .quo _ y => (match y with | .c _ => true | _ => false)
 | .bin .xor _ _ => false
 | op => !hOp op
def FK7 (o : ak7) : AV → Bool
 | .ptr n .. => (match o n with | some e => e.box | none => false)
 | _ => false
def MZ7 (t : Tm) (o : ak7) : Opx → Bool
 | .box .. => true
 | .alloc .. => true
 | .lit .. => true
 | .store _ p _ => FK7 o (ev t p)
 | _ => false
def Cx7 : Opx → Bool
 | .load .. => false
 | op => !hOp op
theorem wm7 (h1 : Cx7 op = true) (h : vop t op fun x => Hold (KL ⟨aE7 t d x, o⟩ ([], []))) : vdo G d op t o KL := by
 simp only [oc7] at h
 unfold vdo
 split
 ·cases h1
 ·split
  ·rename_i hn _ hh
   cases op <;> first | (cases h1; done) | (cases hh; done) | exact absurd rfl (hn _ _ _)
  ·exact h
theorem FL7 (h1 : hOp op = true) (h : ∀ ch, (aA7 G (cE7 d) ch t op).vp o fun x o' l => Hold (KL ⟨aE7 t d x, o'⟩ l)) : vdo G d op t o KL := by
 simp only [oc7] at h
 unfold vdo
 split
 ·cases h1
 ·rw [h1]
  exact h
theorem wn7 (h1 : MY7 t op = true) (h : vop t op fun x => Hold (KL ⟨aE7 t d x, o⟩ ([], []))) : vdo G d op t o KL := by
 refine wm7 ?_ h
 cases op <;> first | rfl | (cases h1; done) | exact h1
theorem wo7 (h1 : MZ7 t o op = true) (h : ∀ ch, (aA7 G (cE7 d) ch t op).vp o fun x o' l => Hold (KL ⟨aE7 t d x, o'⟩ l)) : vdo G d op t o KL := by
 refine FL7 ?_ h
 cases op <;> first | rfl | (cases h1; done)
def FM7 : AV → Bool
 | .ptr .. => true
 | _ => false
theorem Cy7 {sz : Nat} {agg : Bool} {p : Od} (hp : FM7 (ev t p) = true) (h : ∀ ch, (aA7 G (cE7 d) ch t (.load sz agg p)).vp o fun x o' l => Hold (KL ⟨aE7 t d x, o'⟩ l)) : vdo G d (.load sz agg p) t o KL := by
 simp only [oc7] at h
 unfold vdo
 simp only
 split
 ·exact h
 ·rename_i hn
  cases he : ev t p <;> rw [he] at hp <;> first | (cases hp; done) | exact absurd he (hn _ _ _ _ _)
theorem wp7 {sz : Nat} {agg : Bool} {p : Od} (hp : FK7 o (ev t p) = true) (h : ∀ ch, (aA7 G (cE7 d) ch t (.load sz agg p)).vp o fun x o' l => Hold (KL ⟨aE7 t d x, o'⟩ l)) : vdo G d (.load sz agg p) t o KL := by
 refine Cy7 ?_ h
 cases he : ev t p <;> rw [he] at hp <;> first | rfl | (cases hp; done)
theorem wq7 {sz : Nat} {agg : Bool} {p : Od} (hp : FM7 (ev t p) = false) (h : vop t (.load sz agg p) fun x => Hold (KL ⟨aE7 t d x, o⟩ ([], []))) : vdo G d (.load sz agg p) t o KL := by
 simp only [oc7] at h
 unfold vdo
 simp only
 split
 ·rename_i he
  rw [he] at hp
  cases hp
 ·exact h
end
end
end Go.Proofs.AM
