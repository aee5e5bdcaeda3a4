/- Lemmas of the proof (W), on an abstract machine. Conditions: none. -/
import Derived.Test.YtnnfdbdheoajgaaGreatV
set_option linter.unusedVariables false
namespace Go.Proofs.AM
structure Hold (p : Prop) : Prop where
 out : p
theorem oq7 (p : Prop) : Hold p = p := propext ⟨Hold.out, Hold.mk⟩
section
variable {G : Gam} {Q : Ex → St → Prop} {s : St} {a b : IC} {ops : List IOp} {K : St → Prop} {t : Tm} {o : aj7}
def mH7 (G : Gam) (b : IC) (Q : Ex → St → Prop) : Ex → St → Prop := fun e s' => match e with
 | .norm => vwp G b Q s'
 | .exit i => Q (.exit i) s'
 | .ret => Q .ret s'
def jO7 (id : Nat) (Q : Ex → St → Prop) : Ex → St → Prop := fun e s' => match e with
 | .exit i => (match decEq i id with | isTrue _ => Q .norm s' | isFalse _ => Q (.exit i) s')
 | .norm => Q .norm s'
 | .ret => Q .ret s'
def fe7 (I : Nat → St → Prop) (n : Nat) (Q : Ex → St → Prop) : Ex → St → Prop := fun e s' => match e with
 | .norm => ∃ m, m < n ∧ I m s'
 | .exit i => Q (.exit i) s'
 | .ret => Q .ret s'
def mv7 (f : IFn) (ks : List (List (Option Nat))) (bs : Nat → Option Nat × Nat) (ins : List (Bool × Nat × Rows)) (a : Ans) : Ex → St → Prop := fun e s => match e with
 | .exit _ => False
 | .norm => i87 f ks bs ins a s
 | .ret => i87 f ks bs ins a s
theorem Bv7 (h : Q .norm s) : vwp G .skip Q s := h
theorem FJ7 (h : vwp G a (mH7 G b Q) s) : vwp G (.seq a b) Q s := ⟨vwp G b Q, h, fun _ h => h⟩
theorem FK7 (h : cU7 G ops (Q .norm) s) : vwp G (.reg ops) Q s := h
theorem FL7 {inc : List (Nat × Nat)} (h : bF7 G inc ops [] (Q .norm) s) : vwp G (.drw ops inc) Q s := h
theorem or7 {id : Nat} (h : vwp G a (jO7 id Q) s) : vwp G (.block id a) Q s := ⟨Q .norm, h, fun _ h => h⟩
theorem FM7 (I : Nat → St → Prop) (n : Nat) (h0 : I n s) (h : ∀ n s', I n s' → vwp G a (fe7 I n Q) s') : vwp G (.loop a) Q s := ⟨I, ⟨n, h0⟩, h⟩
theorem Bw7 {id : Nat} (h : Q (.exit id) s) : vwp G (.exit id) Q s := h
theorem FN7 (h : Q .ret s) : vwp G .ret Q s := h
theorem aq7 {c : Od} {p : Bool} (hc : ev t c = .v (.bool p)) (h1 : p = true → vwp G a Q ⟨t, o⟩) (h2 : p = false → vwp G b Q ⟨t, o⟩) : vwp G (.cond c a b) Q ⟨t, o⟩ := by
 simp only [vwp, hc]
 exact op7 h1 h2
theorem PX7 {c : Od} (hc : ev t c = .v (.bool true)) (h : vwp G a Q ⟨t, o⟩) : vwp G (.cond c a b) Q ⟨t, o⟩ := aq7 hc (fun _ => h) (fun h => by cases h)
theorem PY7 {c : Od} (hc : ev t c = .v (.bool false)) (h : vwp G b Q ⟨t, o⟩) : vwp G (.cond c a b) Q ⟨t, o⟩ := aq7 hc (fun h => by cases h) (fun _ => h)
theorem PZ7 (h : vwp G b Q s) : mH7 G b Q .norm s := h
theorem P07 {i : Nat} (h : Q (.exit i) s) : mH7 G b Q (.exit i) s := h
theorem P17 (h : Q .ret s) : mH7 G b Q .ret s := h
theorem P27 {id : Nat} (h : Q .norm s) : jO7 id Q .norm s := h
theorem P37 {id : Nat} (h : Q .ret s) : jO7 id Q .ret s := h
theorem P47 {i : Nat} (h : Q .norm s) : jO7 i Q (.exit i) s := by
 unfold jO7
 simp only
 split
 ·exact h
 ·rename_i hn _; exact absurd rfl hn
theorem P57 {i id : Nat} (hn : (i == id) = false) (h : Q (.exit i) s) : jO7 id Q (.exit i) s := by
 unfold jO7
 simp only
 split
 ·rename_i e _; rw [e] at hn; simp at hn
 ·exact h
section
variable {f : IFn} {ks : List (List (Option Nat))} {bs : Nat → Option Nat × Nat} {ins : List (Bool × Nat × Rows)} {an : Ans}
theorem P67 (h : i87 f ks bs ins an s) : mv7 f ks bs ins an .norm s := h
theorem P77 (h : i87 f ks bs ins an s) : mv7 f ks bs ins an .ret s := h
theorem Cw7 {xs : List AV} (h : ∀ bs, vwp G f.body (mv7 f ks bs ins an) ⟨uW7 bs xs, vO7 bs ins⟩) : Bm7 G f ks xs ins an := MM7 fun bs => h bs
end
theorem FO7 (h : K s) : cU7 G [] K s := h
theorem wG7 {op : IOp} (h : f67 G op s fun s' _ => cU7 G ops K s') : cU7 G (op :: ops) K s := h
theorem FP7 {inc : List (Nat × Nat)} {L : List a67} (h1 : m07 inc L = true) (h : K s) : bF7 G inc [] L K s := ⟨h1, h⟩
theorem wH7 {inc : List (Nat × Nat)} {L : List a67} {op : IOp} (h : f67 G op s fun s' l => bF7 G inc ops (L ++ [l]) K s') : bF7 G inc (op :: ops) L K s := h
section
variable {KL : St → a67 → Prop} {d : Option Nat} {op : Opx}
theorem aL7 {g : Nat} {b p : Bool} (hg : t g = .v (.bool p)) (h1 : p = true → f67 G ⟨d, op, some (g, b)⟩ ⟨t, o⟩ KL) (h2 : p = false → f67 G ⟨d, op, some (g, b)⟩ ⟨t, o⟩ KL) : f67 G ⟨d, op, some (g, b)⟩ ⟨t, o⟩ KL := by
 cases p
 ·exact h2 rfl
 ·exact h1 rfl
theorem P87 {g : Nat} {b : Bool} (hg : t g = .v (.bool b)) (h : vdo G d op t o KL) : f67 G ⟨d, op, some (g, b)⟩ ⟨t, o⟩ KL := by
 simp only [f67, wF7, hg, beq_self_eq_true]
 exact Ct7 h
theorem P97 {g : Nat} {b p : Bool} (hg : t g = .v (.bool p)) (hn : (p == b) = false) (h : KL ⟨aD7 t d unv, o⟩ ([], [])) : f67 G ⟨d, op, some (g, b)⟩ ⟨t, o⟩ KL := by
 simp only [f67, wF7, hg, hn]
 exact Cu7 h
theorem Qa7 {g : Nat} {b : Bool} {x : Array Value} (hg : t g = .v (.tuple x)) (h : KL ⟨aD7 t d unv, o⟩ ([], [])) : f67 G ⟨d, op, some (g, b)⟩ ⟨t, o⟩ KL := by
 simp only [f67, wF7, hg]
 exact h
theorem tC7 (h : vdo G d op t o KL) : f67 G ⟨d, op, none⟩ ⟨t, o⟩ KL := h
def MN7 (t : Tm) : Opx → Bool
 | .load .. => false
 | .iaddr .. => false
 | .pick .. => false
 | .sidx .. => false
 | .sls .. => false
 | .sl3 .. => false
 | .ssl .. => false
 | .bin .add x _ => (match ev t x with | .v (.string _) => false | _ => true)
 | .bin .rem _ y => (match y with | .c _ => true | _ => false)
 | .bin .quo _ y => (match y with | .c _ => true | _ => false)
 | .bin .xor _ _ => false
 | op => !hOp op
def FQ7 (o : aj7) : AV → Bool
 | .ptr n .. => (match o n with | some e => e.box | none => false)
 | _ => false
def MO7 (t : Tm) (o : aj7) : Opx → Bool
 | .box .. => true
 | .alloc .. => true
 | .lit .. => true
 | .store _ p _ => FQ7 o (ev t p)
 | _ => false
def Cx7 : Opx → Bool
 | .load .. => false
 | op => !hOp op
theorem wI7 (h1 : Cx7 op = true) (h : vop t op fun x => Hold (KL ⟨aD7 t d x, o⟩ ([], []))) : vdo G d op t o KL := by
 simp only [oq7] at h
 unfold vdo
 split
 ·cases h1
 ·split
  ·rename_i hn _ hh
   cases op <;> first | (cases h1; done) | (cases hh; done) | exact absurd rfl (hn _ _ _)
  ·exact h
theorem FR7 (h1 : hOp op = true) (h : ∀ ch, (az7 G (cA7 d) ch t op).vp o fun x o' l => Hold (KL ⟨aD7 t d x, o'⟩ l)) : vdo G d op t o KL := by
 simp only [oq7] at h
 unfold vdo
 split
 ·cases h1
 ·rw [h1]
  exact h
theorem wJ7 (h1 : MN7 t op = true) (h : vop t op fun x => Hold (KL ⟨aD7 t d x, o⟩ ([], []))) : vdo G d op t o KL := by
 refine wI7 ?_ h
 cases op <;> first | rfl | (cases h1; done) | exact h1
theorem wK7 (h1 : MO7 t o op = true) (h : ∀ ch, (az7 G (cA7 d) ch t op).vp o fun x o' l => Hold (KL ⟨aD7 t d x, o'⟩ l)) : vdo G d op t o KL := by
 refine FR7 ?_ h
 cases op <;> first | rfl | (cases h1; done)
def FS7 : AV → Bool
 | .ptr .. => true
 | _ => false
theorem Cy7 {sz : Nat} {agg : Bool} {p : Od} (hp : FS7 (ev t p) = true) (h : ∀ ch, (az7 G (cA7 d) ch t (.load sz agg p)).vp o fun x o' l => Hold (KL ⟨aD7 t d x, o'⟩ l)) : vdo G d (.load sz agg p) t o KL := by
 simp only [oq7] at h
 unfold vdo
 simp only
 split
 ·exact h
 ·rename_i hn
  cases he : ev t p <;> rw [he] at hp <;> first | (cases hp; done) | exact absurd he (hn _ _ _ _ _)
theorem wL7 {sz : Nat} {agg : Bool} {p : Od} (hp : FQ7 o (ev t p) = true) (h : ∀ ch, (az7 G (cA7 d) ch t (.load sz agg p)).vp o fun x o' l => Hold (KL ⟨aD7 t d x, o'⟩ l)) : vdo G d (.load sz agg p) t o KL := by
 refine Cy7 ?_ h
 cases he : ev t p <;> rw [he] at hp <;> first | rfl | (cases hp; done)
theorem wM7 {sz : Nat} {agg : Bool} {p : Od} (hp : FS7 (ev t p) = false) (h : vop t (.load sz agg p) fun x => Hold (KL ⟨aD7 t d x, o⟩ ([], []))) : vdo G d (.load sz agg p) t o KL := by
 simp only [oq7] at h
 unfold vdo
 simp only
 split
 ·rename_i he
  rw [he] at hp
  cases hp
 ·exact h
end
end
end Go.Proofs.AM
