/- Lemmas of the proof (G3), on an abstract machine. Conditions: none. -/
import Derived.Test.YtnnfdbdheoajgaaGreatG2
import Derived.Test.YtnnfdbdheoajgaaGreatHFn
set_option linter.unusedVariables false
namespace Go.Proofs.AM
attribute [local irreducible] vwp cZ7 bI7 f17 vdo jm7 mB7 jX7 fg7 mr7 kD7 bL7 e77 kn7 eX7 jL7 kT7 kS7
def enA (bs : Nat → Option Nat × Nat) : Nat → List AV → List (Nat × AV)
 | _, [] => []
 | i, x :: xs => (i, n37 bs x) :: enA bs (i + 1) xs
def enH (bs : Nat → Option Nat × Nat) : Nat → List (Bool × Nat × Rows) → List (Nat × Ent)
 | _, [] => []
 | i, (box, k, rows) :: ins => (8 * i, ⟨(bs i).1, (bs i).2, k, box, rows⟩) :: enH bs (i + 1) ins
theorem BM7 {bs : Nat → Option Nat × Nat} {t : Tm} : ∀ {xs : List AV} {i : Nat}, (∀ j x, xs[j]? = some x → t (i + j) = n37 bs x) → t = ovr (enA bs i xs) t
 | [], i, h => rfl
 | x :: xs, i, h => ovc (h 0 x rfl) (BM7 fun j y hy => by
   have := h (j + 1) y (by simpa using hy)
   rwa [show i + (j + 1) = i + 1 + j by omega] at this)
theorem Db7 {bs : Nat → Option Nat × Nat} {xs : List AV} : uw7 bs xs = ovr (enA bs 0 xs) (uw7 bs xs) := BM7 fun j x h => by
 simp [uw7, List.getD_eq_getElem?_getD, h]
theorem BN7 {bs : Nat → Option Nat × Nat} {o : ak7} : ∀ {ins : List (Bool × Nat × Rows)} {i : Nat}, (∀ j x, ins[j]? = some x → o (8 * (i + j)) = some ⟨(bs (i + j)).1, (bs (i + j)).2, x.2.1, x.1, x.2.2⟩) → o = ovh (enH bs i ins) o
 | [], i, h => rfl
 | (b, k, r) :: ins, i, h => ohc (h 0 _ rfl) (BN7 fun j y hy => by
   have := h (j + 1) y (by simpa using hy)
   rwa [show i + (j + 1) = i + 1 + j by omega] at this)
theorem Dc7 {bs : Nat → Option Nat × Nat} {ins : List (Bool × Nat × Rows)} : vt7 bs ins = ovh (enH bs 0 ins) (vt7 bs ins) := BN7 fun j x h => by
 obtain ⟨a, b, c⟩ := x
 simp only [vt7, Nat.zero_add, Nat.mul_mod_right, if_true]
 rw [Nat.mul_div_cancel_left j (by decide), h]
def OkC (cs : List Con) (c : Con) (ir : IFn) (ks : List (List (Option Nat))) : Prop := ∀ G, (∀ c, c ∈ cs → Has G c) → ∀ a b, c.val a = some b → Bl7 G ir ks (c.args a) (c.ins a) (c.ans a b)
theorem ok {cs : List Con} {A B : Type} {f : Nat} {args : A → List AV} {val : A → Option B} {ans : A → B → Ans} {ins : A → List (Bool × Nat × Rows)} {ir : IFn} {ks : List (List (Option Nat))} (h : ∀ G, (∀ c, c ∈ cs → Has G c) → ∀ a b, val a = some b → Bl7 G ir ks (args a) (ins a) (ans a b)) : OkC cs ⟨A, B, f, args, val, ans, ins⟩ ir ks := h
theorem GB7 {G : Gam} {f : IFn} {ks : List (List (Option Nat))} {xs : List AV} {ins : List (Bool × Nat × Rows)} {an : Ans} (h : ∀ bs t o, vwp G f.body (mr7 f ks bs ins an) ⟨ovr (enA bs 0 xs) t, ovh (enH bs 0 ins) o⟩) : Bl7 G f ks xs ins an := Cw7 fun bs => by
 have := h bs (uw7 bs xs) (vt7 bs ins)
 rw [← Db7, ← Dc7] at this
 exact this
theorem st1 {G : Gam} {n : Nat} {rs : List (Nat ⊕ Nat × Nat)} {lc : Nat → Nat} {a b : IC} {ks : List (List (Option Nat))} {xs : List AV} {ins : List (Bool × Nat × Rows)} {an : Ans} (h : ∀ bs t o, vwp G b (mr7 ⟨n, rs, a, lc⟩ ks bs ins an) ⟨ovr (enA bs 0 xs) t, ovh (enH bs 0 ins) o⟩) (eb : a = b := by first | (dsimp only [Io, Iz, Gt, Gf, Mv, Fa, Ld, La, Ln, Ls, Bb, Bk, Nt, Pk, Pf, Ia, Ik, Si, Ki, Kb, Sv, Xt, cm, cw, Ca, Cw, sq, Sg, Sf, Rs, Ct, Nat.reduceAdd]; done) | exact rfl) : Bl7 G ⟨n, rs, a, lc⟩ ks xs ins an := GB7 (by subst eb; exact h)
end Go.Proofs.AM
