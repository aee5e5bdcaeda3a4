/- Lemmas of the proof (W), on an abstract machine. Conditions: none. -/
import Derived.Test.YtnnfdbdheoajgaaGreatV
set_option linter.unusedVariables false
namespace Go.Proofs.AM
structure Hold (p : Prop) : Prop where
 out : p
theorem ob7 (p : Prop) : Hold p = p := propext ⟨Hold.out, Hold.mk⟩
section
variable {G : Gam} {Q : Ex → St → Prop} {s : St} {a b : IC} {ops : List IOp} {K : St → Prop} {t : Tm} {o : ah7}
def na7 (G : Gam) (b : IC) (Q : Ex → St → Prop) : Ex → St → Prop := fun e s' => match e with
 | .norm => vwp G b Q s'
 | .exit i => Q (.exit i) s'
 | .ret => Q .ret s'
def j57 (id : Nat) (Q : Ex → St → Prop) : Ex → St → Prop := fun e s' => match e with
 | .exit i => (match decEq i id with | isTrue _ => Q .norm s' | isFalse _ => Q (.exit i) s')
 | .norm => Q .norm s'
 | .ret => Q .ret s'
def f47 (I : Nat → St → Prop) (n : Nat) (Q : Ex → St → Prop) : Ex → St → Prop := fun e s' => match e with
 | .norm => ∃ m, m < n ∧ I m s'
 | .exit i => Q (.exit i) s'
 | .ret => Q .ret s'
def mn7 (f : IFn) (ks : List (List (Option Nat))) (bs : Nat → Option Nat × Nat) (ins : List (Bool × Nat × Rows)) (a : Ans) : Ex → St → Prop := fun e s => match e with
 | .exit _ => False
 | .norm => jL7 f ks bs ins a s
 | .ret => jL7 f ks bs ins a s
theorem By7 (h : Q .norm s) : vwp G .skip Q s := h
theorem FU7 (h : vwp G a (na7 G b Q) s) : vwp G (.seq a b) Q s := ⟨vwp G b Q, h, fun _ h => h⟩
theorem FV7 (h : c27 G ops (Q .norm) s) : vwp G (.reg ops) Q s := h
theorem FW7 {inc : List (Nat × Nat)} (h : bH7 G inc ops [] (Q .norm) s) : vwp G (.drw ops inc) Q s := h
theorem oc7 {id : Nat} (h : vwp G a (j57 id Q) s) : vwp G (.block id a) Q s := ⟨Q .norm, h, fun _ h => h⟩
theorem FX7 (I : Nat → St → Prop) (n : Nat) (h0 : I n s) (h : ∀ n s', I n s' → vwp G a (f47 I n Q) s') : vwp G (.loop a) Q s := ⟨I, ⟨n, h0⟩, h⟩
theorem Bz7 {id : Nat} (h : Q (.exit id) s) : vwp G (.exit id) Q s := h
theorem FY7 (h : Q .ret s) : vwp G .ret Q s := h
theorem au7 {c : Od} {p : Bool} (hc : ev t c = .v (.bool p)) (h1 : p = true → vwp G a Q ⟨t, o⟩) (h2 : p = false → vwp G b Q ⟨t, o⟩) : vwp G (.cond c a b) Q ⟨t, o⟩ := by
 simp only [vwp, hc]
 exact oa7 h1 h2
theorem PR7 {c : Od} (hc : ev t c = .v (.bool true)) (h : vwp G a Q ⟨t, o⟩) : vwp G (.cond c a b) Q ⟨t, o⟩ := au7 hc (fun _ => h) (fun h => by cases h)
theorem PS7 {c : Od} (hc : ev t c = .v (.bool false)) (h : vwp G b Q ⟨t, o⟩) : vwp G (.cond c a b) Q ⟨t, o⟩ := au7 hc (fun h => by cases h) (fun _ => h)
theorem PT7 (h : vwp G b Q s) : na7 G b Q .norm s := h
theorem PU7 {i : Nat} (h : Q (.exit i) s) : na7 G b Q (.exit i) s := h
theorem PV7 (h : Q .ret s) : na7 G b Q .ret s := h
theorem PW7 {id : Nat} (h : Q .norm s) : j57 id Q .norm s := h
theorem PX7 {id : Nat} (h : Q .ret s) : j57 id Q .ret s := h
theorem PY7 {i : Nat} (h : Q .norm s) : j57 i Q (.exit i) s := by
 unfold j57
 simp only
 split
 ·exact h
 ·rename_i hn _; exact absurd rfl hn
theorem PZ7 {i id : Nat} (hn : (i == id) = false) (h : Q (.exit i) s) : j57 id Q (.exit i) s := by
 unfold j57
 simp only
 split
 ·rename_i e _; rw [e] at hn; simp at hn
 ·exact h
section
variable {f : IFn} {ks : List (List (Option Nat))} {bs : Nat → Option Nat × Nat} {ins : List (Bool × Nat × Rows)} {an : Ans}
theorem P07 (h : jL7 f ks bs ins an s) : mn7 f ks bs ins an .norm s := h
theorem P17 (h : jL7 f ks bs ins an s) : mn7 f ks bs ins an .ret s := h
theorem CB7 {xs : List AV} (h : ∀ bs, vwp G f.body (mn7 f ks bs ins an) ⟨uS7 bs xs, vN7 bs ins⟩) : Bn7 G f ks xs ins an := MO7 fun bs => h bs
end
theorem FZ7 (h : K s) : c27 G [] K s := h
theorem wK7 {op : IOp} (h : f37 G op s fun s' _ => c27 G ops K s') : c27 G (op :: ops) K s := h
theorem F07 {inc : List (Nat × Nat)} {L : List a57} (h1 : mI7 inc L = true) (h : K s) : bH7 G inc [] L K s := ⟨h1, h⟩
theorem wL7 {inc : List (Nat × Nat)} {L : List a57} {op : IOp} (h : f37 G op s fun s' l => bH7 G inc ops (L ++ [l]) K s') : bH7 G inc (op :: ops) L K s := h
section
variable {KL : St → a57 → Prop} {d : Option Nat} {op : Opx}
theorem aG7 {g : Nat} {b p : Bool} (hg : t g = .v (.bool p)) (h1 : p = true → f37 G ⟨d, op, some (g, b)⟩ ⟨t, o⟩ KL) (h2 : p = false → f37 G ⟨d, op, some (g, b)⟩ ⟨t, o⟩ KL) : f37 G ⟨d, op, some (g, b)⟩ ⟨t, o⟩ KL := by
 cases p
 ·exact h2 rfl
 ·exact h1 rfl
theorem P27 {g : Nat} {b : Bool} (hg : t g = .v (.bool b)) (h : vdo G d op t o KL) : f37 G ⟨d, op, some (g, b)⟩ ⟨t, o⟩ KL := by
 simp only [f37, wJ7, hg, beq_self_eq_true]
 exact Cy7 h
theorem P37 {g : Nat} {b p : Bool} (hg : t g = .v (.bool p)) (hn : (p == b) = false) (h : KL ⟨aA7 t d unv, o⟩ ([], [])) : f37 G ⟨d, op, some (g, b)⟩ ⟨t, o⟩ KL := by
 simp only [f37, wJ7, hg, hn]
 exact Cz7 h
theorem P47 {g : Nat} {b : Bool} {x : Array Value} (hg : t g = .v (.tuple x)) (h : KL ⟨aA7 t d unv, o⟩ ([], [])) : f37 G ⟨d, op, some (g, b)⟩ ⟨t, o⟩ KL := by
 simp only [f37, wJ7, hg]
 exact h
theorem ts7 (h : vdo G d op t o KL) : f37 G ⟨d, op, none⟩ ⟨t, o⟩ KL := h
def MP7 (t : Tm) : Opx → Bool
 | .load .. => false
 | .iaddr .. => false
 | .pick .. => false
 | .sidx .. => false
 | .sls .. => false
 | .sl3 .. => false
 | .ssl .. => false
 | .bin .add x _ => (match ev t x with | .v (.string _) => false | _ => true)
 | .bin .rem _ y => (match y with | .c _ => true | _ => false)
 | .bin .quo _ y => (match y with | .c _ => true | _ => false)
 | .bin .xor _ _ => false
 | op => !hOp op
def F17 (o : ah7) : AV → Bool
 | .ptr n .. => (match o n with | some e => e.box | none => false)
 | _ => false
def MQ7 (t : Tm) (o : ah7) : Opx → Bool
 | .box .. => true
 | .alloc .. => true
 | .lit .. => true
 | .store _ p _ => F17 o (ev t p)
 | _ => false
def CC7 : Opx → Bool
 | .load .. => false
 | op => !hOp op
theorem wM7 (h1 : CC7 op = true) (h : vop t op fun x => Hold (KL ⟨aA7 t d x, o⟩ ([], []))) : vdo G d op t o KL := by
 simp only [ob7] at h
 unfold vdo
 split
 ·cases h1
 ·split
  ·rename_i hn _ hh
   cases op <;> first | (cases h1; done) | (cases hh; done) | exact absurd rfl (hn _ _ _)
  ·exact h
theorem F27 (h1 : hOp op = true) (h : ∀ ch, (aq7 G (cB7 d) ch t op).vp o fun x o' l => Hold (KL ⟨aA7 t d x, o'⟩ l)) : vdo G d op t o KL := by
 simp only [ob7] at h
 unfold vdo
 split
 ·cases h1
 ·rw [h1]
  exact h
theorem wN7 (h1 : MP7 t op = true) (h : vop t op fun x => Hold (KL ⟨aA7 t d x, o⟩ ([], []))) : vdo G d op t o KL := by
 refine wM7 ?_ h
 cases op <;> first | rfl | (cases h1; done) | exact h1
theorem wO7 (h1 : MQ7 t o op = true) (h : ∀ ch, (aq7 G (cB7 d) ch t op).vp o fun x o' l => Hold (KL ⟨aA7 t d x, o'⟩ l)) : vdo G d op t o KL := by
 refine F27 ?_ h
 cases op <;> first | rfl | (cases h1; done)
def F37 : AV → Bool
 | .ptr .. => true
 | _ => false
theorem CD7 {sz : Nat} {agg : Bool} {p : Od} (hp : F37 (ev t p) = true) (h : ∀ ch, (aq7 G (cB7 d) ch t (.load sz agg p)).vp o fun x o' l => Hold (KL ⟨aA7 t d x, o'⟩ l)) : vdo G d (.load sz agg p) t o KL := by
 simp only [ob7] at h
 unfold vdo
 simp only
 split
 ·exact h
 ·rename_i hn
  cases he : ev t p <;> rw [he] at hp <;> first | (cases hp; done) | exact absurd he (hn _ _ _ _ _)
theorem wP7 {sz : Nat} {agg : Bool} {p : Od} (hp : F17 o (ev t p) = true) (h : ∀ ch, (aq7 G (cB7 d) ch t (.load sz agg p)).vp o fun x o' l => Hold (KL ⟨aA7 t d x, o'⟩ l)) : vdo G d (.load sz agg p) t o KL := by
 refine CD7 ?_ h
 cases he : ev t p <;> rw [he] at hp <;> first | rfl | (cases hp; done)
theorem wQ7 {sz : Nat} {agg : Bool} {p : Od} (hp : F37 (ev t p) = false) (h : vop t (.load sz agg p) fun x => Hold (KL ⟨aA7 t d x, o⟩ ([], []))) : vdo G d (.load sz agg p) t o KL := by
 simp only [ob7] at h
 unfold vdo
 simp only
 split
 ·rename_i he
  rw [he] at hp
  cases hp
 ·exact h
end
end
end Go.Proofs.AM
