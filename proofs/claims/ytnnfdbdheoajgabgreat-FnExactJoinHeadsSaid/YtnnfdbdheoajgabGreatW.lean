/- Lemmas of the proof (W), on an abstract machine. Conditions: none. -/
import Derived.Test.YtnnfdbdheoajgabGreatV
set_option linter.unusedVariables false
namespace Go.Proofs.AM
structure Hold (p : Prop) : Prop where
 out : p
theorem ov7 (p : Prop) : Hold p = p := propext ⟨Hold.out, Hold.mk⟩
section
variable {G : Gam} {Q : Ex → St → Prop} {s : St} {a b : IC} {ops : List IOp} {K : St → Prop} {t : Tm} {o : al7}
def mF7 (G : Gam) (b : IC) (Q : Ex → St → Prop) : Ex → St → Prop := fun e s' => match e with
 | .norm => vwp G b Q s'
 | .exit i => Q (.exit i) s'
 | .ret => Q .ret s'
def jF7 (id : Nat) (Q : Ex → St → Prop) : Ex → St → Prop := fun e s' => match e with
 | .exit i => (match decEq i id with | isTrue _ => Q .norm s' | isFalse _ => Q (.exit i) s')
 | .norm => Q .norm s'
 | .ret => Q .ret s'
def eX7 (I : Nat → St → Prop) (n : Nat) (Q : Ex → St → Prop) : Ex → St → Prop := fun e s' => match e with
 | .norm => ∃ m, m < n ∧ I m s'
 | .exit i => Q (.exit i) s'
 | .ret => Q .ret s'
def mr7 (f : IFn) (ks : List (List (Option Nat))) (bs : Nat → Option Nat × Nat) (ins : List (Bool × Nat × Rows)) (a : Ans) : Ex → St → Prop := fun e s => match e with
 | .exit _ => False
 | .norm => i07 f ks bs ins a s
 | .ret => i07 f ks bs ins a s
theorem C07 (h : Q .norm s) : vwp G .skip Q s := h
theorem HY7 (h : vwp G a (mF7 G b Q) s) : vwp G (.seq a b) Q s := ⟨vwp G b Q, h, fun _ h => h⟩
theorem HZ7 (h : cM7 G ops (Q .norm) s) : vwp G (.reg ops) Q s := h
theorem H07 {inc : List (Nat × Nat)} (h : bF7 G inc ops [] (Q .norm) s) : vwp G (.drw ops inc) Q s := h
theorem lf7 {id : Nat} (h : vwp G a (jF7 id Q) s) : vwp G (.block id a) Q s := ⟨Q .norm, h, fun _ h => h⟩
theorem H17 (I : Nat → St → Prop) (n : Nat) (h0 : I n s) (h : ∀ n s', I n s' → vwp G a (eX7 I n Q) s') : vwp G (.loop a) Q s := ⟨I, ⟨n, h0⟩, h⟩
theorem C17 {id : Nat} (h : Q (.exit id) s) : vwp G (.exit id) Q s := h
theorem H27 (h : Q .ret s) : vwp G .ret Q s := h
theorem aO7 {c : Od} {p : Bool} (hc : ev t c = .v (.bool p)) (h1 : p = true → vwp G a Q ⟨t, o⟩) (h2 : p = false → vwp G b Q ⟨t, o⟩) : vwp G (.cond c a b) Q ⟨t, o⟩ := by
 simp only [vwp, hc]
 exact ou7 h1 h2
theorem TW7 {c : Od} (hc : ev t c = .v (.bool true)) (h : vwp G a Q ⟨t, o⟩) : vwp G (.cond c a b) Q ⟨t, o⟩ := aO7 hc (fun _ => h) (fun h => by cases h)
theorem TX7 {c : Od} (hc : ev t c = .v (.bool false)) (h : vwp G b Q ⟨t, o⟩) : vwp G (.cond c a b) Q ⟨t, o⟩ := aO7 hc (fun h => by cases h) (fun _ => h)
theorem TY7 (h : vwp G b Q s) : mF7 G b Q .norm s := h
theorem TZ7 {i : Nat} (h : Q (.exit i) s) : mF7 G b Q (.exit i) s := h
theorem T07 (h : Q .ret s) : mF7 G b Q .ret s := h
theorem T17 {id : Nat} (h : Q .norm s) : jF7 id Q .norm s := h
theorem T27 {id : Nat} (h : Q .ret s) : jF7 id Q .ret s := h
theorem T37 {i : Nat} (h : Q .norm s) : jF7 i Q (.exit i) s := by
 unfold jF7
 simp only
 split
 ·exact h
 ·rename_i hn _; exact absurd rfl hn
theorem T47 {i id : Nat} (hn : (i == id) = false) (h : Q (.exit i) s) : jF7 id Q (.exit i) s := by
 unfold jF7
 simp only
 split
 ·rename_i e _; rw [e] at hn; simp at hn
 ·exact h
section
variable {f : IFn} {ks : List (List (Option Nat))} {bs : Nat → Option Nat × Nat} {ins : List (Bool × Nat × Rows)} {an : Ans}
theorem T57 (h : i07 f ks bs ins an s) : mr7 f ks bs ins an .norm s := h
theorem T67 (h : i07 f ks bs ins an s) : mr7 f ks bs ins an .ret s := h
theorem DY7 {xs : List AV} (h : ∀ bs, vwp G f.body (mr7 f ks bs ins an) ⟨vF7 bs xs, wL7 bs ins⟩) : CP7 G f ks xs ins an := P57 fun bs => h bs
end
theorem H37 (h : K s) : cM7 G [] K s := h
theorem xE7 {op : IOp} (h : fN7 G op s fun s' _ => cM7 G ops K s') : cM7 G (op :: ops) K s := h
theorem H47 {inc : List (Nat × Nat)} {L : List a57} (h1 : m67 inc L = true) (h : K s) : bF7 G inc [] L K s := ⟨h1, h⟩
theorem xF7 {inc : List (Nat × Nat)} {L : List a57} {op : IOp} (h : fN7 G op s fun s' l => bF7 G inc ops (L ++ [l]) K s') : bF7 G inc (op :: ops) L K s := h
section
variable {KL : St → a57 → Prop} {d : Option Nat} {op : Opx}
theorem aY7 {g : Nat} {b p : Bool} (hg : t g = .v (.bool p)) (h1 : p = true → fN7 G ⟨d, op, some (g, b)⟩ ⟨t, o⟩ KL) (h2 : p = false → fN7 G ⟨d, op, some (g, b)⟩ ⟨t, o⟩ KL) : fN7 G ⟨d, op, some (g, b)⟩ ⟨t, o⟩ KL := by
 cases p
 ·exact h2 rfl
 ·exact h1 rfl
theorem T77 {g : Nat} {b : Bool} (hg : t g = .v (.bool b)) (h : vdo G d op t o KL) : fN7 G ⟨d, op, some (g, b)⟩ ⟨t, o⟩ KL := by
 simp only [fN7, xD7, hg, beq_self_eq_true]
 exact DV7 h
theorem T87 {g : Nat} {b p : Bool} (hg : t g = .v (.bool p)) (hn : (p == b) = false) (h : KL ⟨aF7 t d unv, o⟩ ([], [])) : fN7 G ⟨d, op, some (g, b)⟩ ⟨t, o⟩ KL := by
 simp only [fN7, xD7, hg, hn]
 exact DW7 h
theorem T97 {g : Nat} {b : Bool} {x : Array Value} (hg : t g = .v (.tuple x)) (h : KL ⟨aF7 t d unv, o⟩ ([], [])) : fN7 G ⟨d, op, some (g, b)⟩ ⟨t, o⟩ KL := by
 simp only [fN7, xD7, hg]
 exact h
theorem t27 (h : vdo G d op t o KL) : fN7 G ⟨d, op, none⟩ ⟨t, o⟩ KL := h
def P67 (t : Tm) : Opx → Bool
 | .load .. => false
 | .iaddr .. => false
 | .pick .. => false
 | .sidx .. => false
 | .sls .. => false
 | .sl3 .. => false
 | .ssl .. => false
 | .bin .add x _ => (match ev t x with | .v (.string _) => false | _ => true)
 | .bin .rem _ y => (match y with | .c _ => true | _ => false)
 | .bin .quo _ y => (match y with | .c _ => true | _ => false)
 | .bin .xor _ _ => false
 | op => !hOp op
def H57 (o : al7) : AV → Bool
 | .ptr n .. => (match o n with | some e => e.box | none => false)
 | _ => false
def P77 (t : Tm) (o : al7) : Opx → Bool
 | .box .. => true
 | .alloc .. => true
 | .lit .. => true
 | .store _ p _ => H57 o (ev t p)
 | _ => false
def DZ7 : Opx → Bool
 | .load .. => false
 | op => !hOp op
theorem xG7 (h1 : DZ7 op = true) (h : vop t op fun x => Hold (KL ⟨aF7 t d x, o⟩ ([], []))) : vdo G d op t o KL := by
 simp only [ov7] at h
 unfold vdo
 split
 ·cases h1
 ·split
  ·rename_i hn _ hh
   cases op <;> first | (cases h1; done) | (cases hh; done) | exact absurd rfl (hn _ _ _)
  ·exact h
theorem H67 (h1 : hOp op = true) (h : ∀ ch, (at7 G (cn7 d) ch t op).vp o fun x o' l => Hold (KL ⟨aF7 t d x, o'⟩ l)) : vdo G d op t o KL := by
 simp only [ov7] at h
 unfold vdo
 split
 ·cases h1
 ·rw [h1]
  exact h
theorem xH7 (h1 : P67 t op = true) (h : vop t op fun x => Hold (KL ⟨aF7 t d x, o⟩ ([], []))) : vdo G d op t o KL := by
 refine xG7 ?_ h
 cases op <;> first | rfl | (cases h1; done) | exact h1
theorem xI7 (h1 : P77 t o op = true) (h : ∀ ch, (at7 G (cn7 d) ch t op).vp o fun x o' l => Hold (KL ⟨aF7 t d x, o'⟩ l)) : vdo G d op t o KL := by
 refine H67 ?_ h
 cases op <;> first | rfl | (cases h1; done)
def H77 : AV → Bool
 | .ptr .. => true
 | _ => false
theorem D07 {sz : Nat} {agg : Bool} {p : Od} (hp : H77 (ev t p) = true) (h : ∀ ch, (at7 G (cn7 d) ch t (.load sz agg p)).vp o fun x o' l => Hold (KL ⟨aF7 t d x, o'⟩ l)) : vdo G d (.load sz agg p) t o KL := by
 simp only [ov7] at h
 unfold vdo
 simp only
 split
 ·exact h
 ·rename_i hn
  cases he : ev t p <;> rw [he] at hp <;> first | (cases hp; done) | exact absurd he (hn _ _ _ _ _)
theorem xJ7 {sz : Nat} {agg : Bool} {p : Od} (hp : H57 o (ev t p) = true) (h : ∀ ch, (at7 G (cn7 d) ch t (.load sz agg p)).vp o fun x o' l => Hold (KL ⟨aF7 t d x, o'⟩ l)) : vdo G d (.load sz agg p) t o KL := by
 refine D07 ?_ h
 cases he : ev t p <;> rw [he] at hp <;> first | rfl | (cases hp; done)
theorem xK7 {sz : Nat} {agg : Bool} {p : Od} (hp : H77 (ev t p) = false) (h : vop t (.load sz agg p) fun x => Hold (KL ⟨aF7 t d x, o⟩ ([], []))) : vdo G d (.load sz agg p) t o KL := by
 simp only [ov7] at h
 unfold vdo
 simp only
 split
 ·rename_i he
  rw [he] at hp
  cases hp
 ·exact h
end
end
end Go.Proofs.AM
