/- Lemmas of the proof (G2), on an abstract machine. Conditions: none. -/
import Derived.Test.YtnnfdbdheoajgaaGreatG
set_option linter.unusedVariables false
namespace Go.Proofs.AM
def aP7 : Nat := 4194304
theorem gd {R : Type} {p : Bool} {A : Option R} {r : R} (h : (if p = true then A else none) = some r) : p = true ∧ A = some r := by
 split at h
 ·exact ⟨by assumption, h⟩
 ·cases h
theorem Dg7 {a b : Bool} (h : (a && b) = true) : a = true := by simp at h; exact h.1
theorem Dh7 {a b : Bool} (h : (a && b) = true) : b = true := by simp at h; exact h.2
section
variable {α : Type} {xs l : List α} {x : α} {k : Nat} {s : Str} {bs : List UInt8} {b : UInt8}
theorem sm7 (h : xs.drop k = []) : decide ((k : Int) < (xs.length : Int)) = false := by
 have := List.drop_eq_nil_iff.1 h
 exact decide_eq_false (by omega)
theorem cf7 (h : xs.drop k = x :: l) : k < xs.length := by
 rcases Nat.lt_or_ge k xs.length with h1 | h1
 ·exact h1
 ·rw [List.drop_eq_nil_of_le h1] at h
  cases h
theorem sn7 (h : xs.drop k = x :: l) : decide ((k : Int) < (xs.length : Int)) = true := decide_eq_true (by have := cf7 h; omega)
theorem cq7 (h : xs.drop k = x :: l) : xs[k]? = some x := by
 have h1 : (xs.drop k)[0]? = some x := by rw [h]; rfl
 simpa using h1
theorem Di7 (h : xs.drop k = x :: l) : idx xs (k : Int) = some x := by
 unfold idx
 rw [if_pos (by omega)]
 simpa using cq7 h
theorem ia7 (h : xs.drop k = x :: l) : xs.drop (k + 1) = l := by
 rw [← List.drop_drop, h]
 rfl
theorem Dj7 (h : xs.drop k = x :: l) (hf : aH7 xs.length = true) : IntKind.i64.wrap ((k : Int) + 1) = ((k + 1 : Nat) : Int) := by
 have h1 := cf7 h
 have h2 := hz7 hf
 unfold uP7 at h2
 rw [aM7 (by omega) (by omega)]
 omega
theorem zC7 (h : s.data.toList.drop k = []) : decide ((k : Int) < (s.size : Int)) = false := by
 have := List.drop_eq_nil_iff.1 h
 have e : s.data.toList.length = s.size := by simp
 exact decide_eq_false (by omega)
theorem pZ7 (h : s.data.toList.drop k = b :: bs) : k < s.size := by
 have := cf7 h
 have e : s.data.toList.length = s.size := by simp
 omega
theorem zD7 (h : s.data.toList.drop k = b :: bs) : decide ((k : Int) < (s.size : Int)) = true := decide_eq_true (by have := pZ7 h; omega)
theorem zE7 (h : s.data.toList.drop k = b :: bs) : CH7 s (k : Int) = some b := by
 unfold CH7
 rw [if_pos (by omega)]
 simpa using cq7 h
theorem zF7 (h : s.data.toList.drop k = b :: bs) (hf : aH7 s.size = true) : IntKind.i64.wrap ((k : Int) + 1) = ((k + 1 : Nat) : Int) := by
 have h1 := pZ7 h
 have h2 := hz7 hf
 unfold uP7 at h2
 rw [aM7 (by omega) (by omega)]
 omega
end
section
variable {G : Gam} {Q : Ex → St → Prop} {s : St} {a b : IC} {t t' : Tm} {o o' : ah7}
theorem bA7 {c : IC} (h1 : Pin t t') (h2 : eY7 o o') (h : vwp G c Q ⟨t', o'⟩) : vwp G c Q ⟨t, o⟩ := by
 cases h1
 cases h2
 exact h
theorem hA7 {Q : St → Prop} (h1 : Pin t t') (h2 : eY7 o o') (h : Q ⟨t', o'⟩) : Q ⟨t, o⟩ := by
 cases h1
 cases h2
 exact h
end
section
variable {G : Gam} {t : Tm} {o : ah7} {KL : St → a57 → Prop} {d : Option Nat} {α : Type} {f : α → List T}
end
section
variable {G : Gam} {t : Tm} {o : ah7} {KL : St → a57 → Prop} {d : Option Nat} {α : Type} {f : α → List T}
section
variable {a : List α} {i j : Int} {z : α} (s0 : 0 ≤ i) (s1 : i ≤ j) (s2 : j ≤ a.length)
include s0 s1 s2
end
end
section
variable {G : Gam} {t : Tm} {o : ah7} {KL : St → a57 → Prop} {d : Option Nat} {α : Type} {f : α → List T}
end
section
variable {G : Gam} {t : Tm} {o : ah7} {KL : St → a57 → Prop} {d : Option Nat}
end
section
def Io (x : Opx) (d : Nat) : IOp := ⟨some d, x, none⟩
def Iz (x : Opx) : IOp := ⟨none, x, none⟩
def Gt (g : Nat) (x : IOp) : IOp := ⟨x.dst, x.op, some (g, true)⟩
def Gf (g : Nat) (x : IOp) : IOp := ⟨x.dst, x.op, some (g, false)⟩
def Mv (n d : Nat) : IOp := ⟨some d, .mv (.t n), none⟩
def Fa (k n d : Nat) : IOp := ⟨some d, .faddr k (.t n), none⟩
def Ld (k n d : Nat) : IOp := ⟨some d, .load k false (.t n), none⟩
def La (k n d : Nat) : IOp := ⟨some d, .load k true (.t n), none⟩
def Ln (n d : Nat) : IOp := ⟨some d, .len false (.t n), none⟩
def Ls (n d : Nat) : IOp := ⟨some d, .len true (.t n), none⟩
def Bb (op : BinOp) (a b d : Nat) : IOp := ⟨some d, .bin op (.t a) (.t b), none⟩
def Bk (op : BinOp) (a : Nat) (b : Int) (d : Nat) : IOp := ⟨some d, .bin op (.t a) (.c (.int .i64 b)), none⟩
def Nt (n d : Nat) : IOp := ⟨some d, .un .not (.t n), none⟩
def Pk (a b d : Nat) : IOp := ⟨some d, .pick (.t a) (.c (.bool true)) (.t b), none⟩
def Pf (a b d : Nat) : IOp := ⟨some d, .pick (.t a) (.t b) (.c (.bool false)), none⟩
def Ia (k a b d : Nat) : IOp := ⟨some d, .iaddr k (.t a) (.t b), none⟩
def Ik (k a : Nat) (b : Int) (d : Nat) : IOp := ⟨some d, .iaddr k (.t a) (.c (.int .i64 b)), none⟩
def Si (a b d : Nat) : IOp := ⟨some d, .sidx (.t a) (.t b), none⟩
def Ki (k : Int) (d : Nat) : IOp := ⟨some d, .mv (.c (.int .i64 k)), none⟩
def Kb (b : Bool) (d : Nat) : IOp := ⟨some d, .mv (.c (.bool b)), none⟩
def Sv (ks : List (Option Nat)) (a b : Nat) : IOp := ⟨none, .store ks (.t a) (.t b), none⟩
def Xt (n k d : Nat) : IOp := ⟨some d, .ext (.t n) k, none⟩
def cm : List Nat → List (Bool × Od)
 | [] => []
 | n :: l => (false, .t n) :: cm l
def cw : List Nat → List (Bool × Od)
 | [] => []
 | n :: l => (false, .w n) :: cw l
def Ca (f : Nat) (l : List Nat) (d : Nat) : IOp := ⟨some d, .call f (cm l), none⟩
def Cw (f : Nat) (l : List Nat) (d : Nat) : IOp := ⟨some d, .call f (cw l), none⟩
def sq : Nat → List (Nat → IOp) → List IOp → List IOp
 | _, [], r => r
 | d, f :: l, r => f d :: sq (d + 1) l r
def Sg (g : Nat) : Nat → List (Nat → IOp) → List IOp → List IOp
 | _, [], r => r
 | d, f :: l, r => Gt g (f d) :: Sg g (d + 1) l r
def Sf (g : Nat) : Nat → List (Nat → IOp) → List IOp → List IOp
 | _, [], r => r
 | d, f :: l, r => Gf g (f d) :: Sf g (d + 1) l r
def Rs (l : List IOp) (x : IC) : IC := .seq (.reg l) x
def Ct (n : Nat) (a b : IC) : IC := .cond (.t n) a b
end
end Go.Proofs.AM
