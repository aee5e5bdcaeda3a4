/- Lemmas of the proof (G3), on an abstract machine. Conditions: none. -/
import Derived.Test.YtnnfdbdheoajgaaGreatG2
import Derived.Test.YtnnfdbdheoajgaaGreatHFn
set_option linter.unusedVariables false
namespace Go.Proofs.AM
attribute [local irreducible] vwp cY7 bI7 f97 vdo jn7 mS7 j07 fi7 mG7 kM7 bL7 e87 kt7 dY7 jO7 k37 k27
def enA (bs : Nat → Option Nat × Nat) : Nat → List AV → List (Nat × AV)
 | _, [] => []
 | i, x :: xs => (i, ow7 bs x) :: enA bs (i + 1) xs
def enH (bs : Nat → Option Nat × Nat) : Nat → List (Bool × Nat × Rows) → List (Nat × Ent)
 | _, [] => []
 | i, (box, k, rows) :: ins => (8 * i, ⟨(bs i).1, (bs i).2, k, box, rows⟩) :: enH bs (i + 1) ins
theorem Cg7 {bs : Nat → Option Nat × Nat} {t : Tm} : ∀ {xs : List AV} {i : Nat}, (∀ j x, xs[j]? = some x → t (i + j) = ow7 bs x) → t = ovr (enA bs i xs) t
 | [], i, h => rfl
 | x :: xs, i, h => ovc (h 0 x rfl) (Cg7 fun j y hy => by
   have := h (j + 1) y (by simpa using hy)
   rwa [show i + (j + 1) = i + 1 + j by omega] at this)
theorem DI7 {bs : Nat → Option Nat × Nat} {xs : List AV} : u77 bs xs = ovr (enA bs 0 xs) (u77 bs xs) := Cg7 fun j x h => by
 simp [u77, List.getD_eq_getElem?_getD, h]
theorem Ch7 {bs : Nat → Option Nat × Nat} {o : aj7} : ∀ {ins : List (Bool × Nat × Rows)} {i : Nat}, (∀ j x, ins[j]? = some x → o (8 * (i + j)) = some ⟨(bs (i + j)).1, (bs (i + j)).2, x.2.1, x.1, x.2.2⟩) → o = ovh (enH bs i ins) o
 | [], i, h => rfl
 | (b, k, r) :: ins, i, h => ohc (h 0 _ rfl) (Ch7 fun j y hy => by
   have := h (j + 1) y (by simpa using hy)
   rwa [show i + (j + 1) = i + 1 + j by omega] at this)
theorem DJ7 {bs : Nat → Option Nat × Nat} {ins : List (Bool × Nat × Rows)} : v17 bs ins = ovh (enH bs 0 ins) (v17 bs ins) := Ch7 fun j x h => by
 obtain ⟨a, b, c⟩ := x
 simp only [v17, Nat.zero_add, Nat.mul_mod_right, if_true]
 rw [Nat.mul_div_cancel_left j (by decide), h]
def OkC (cs : List Con) (c : Con) (ir : IFn) (ks : List (List (Option Nat))) : Prop := ∀ G, (∀ c, c ∈ cs → Has G c) → ∀ a b, c.val a = some b → BL7 G ir ks (c.args a) (c.ins a) (c.ans a b)
theorem ok {cs : List Con} {A B : Type} {f : Nat} {args : A → List AV} {val : A → Option B} {ans : A → B → Ans} {ins : A → List (Bool × Nat × Rows)} {ir : IFn} {ks : List (List (Option Nat))} (h : ∀ G, (∀ c, c ∈ cs → Has G c) → ∀ a b, val a = some b → BL7 G ir ks (args a) (ins a) (ans a b)) : OkC cs ⟨A, B, f, args, val, ans, ins⟩ ir ks := h
theorem G57 {G : Gam} {f : IFn} {ks : List (List (Option Nat))} {xs : List AV} {ins : List (Bool × Nat × Rows)} {an : Ans} (h : ∀ bs t o, vwp G f.body (mG7 f ks bs ins an) ⟨ovr (enA bs 0 xs) t, ovh (enH bs 0 ins) o⟩) : BL7 G f ks xs ins an := C07 fun bs => by
 have := h bs (u77 bs xs) (v17 bs ins)
 rw [← DI7, ← DJ7] at this
 exact this
theorem st1 {G : Gam} {n : Nat} {rs : List (Nat ⊕ Nat × Nat)} {lc : Nat → Nat} {a b : IC} {ks : List (List (Option Nat))} {xs : List AV} {ins : List (Bool × Nat × Rows)} {an : Ans} (h : ∀ bs t o, vwp G b (mG7 ⟨n, rs, a, lc⟩ ks bs ins an) ⟨ovr (enA bs 0 xs) t, ovh (enH bs 0 ins) o⟩) (eb : a = b := by first | (dsimp only [Io, Iz, Gt, Gf, Mv, Fa, Ld, La, Ln, Ls, Bb, Bk, Nt, Pk, Pf, Ia, Ik, Si, Ki, Kb, Sv, Xt, cm, cw, Ca, Cw, sq, Sg, Sf, Rs, Ct, Nat.reduceAdd]; done) | exact rfl) : BL7 G ⟨n, rs, a, lc⟩ ks xs ins an := G57 (by subst eb; exact h)
end Go.Proofs.AM
