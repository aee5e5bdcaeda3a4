/- Lemmas of the proof (HN), on an abstract machine. Conditions: none. -/
import Derived.Test.YtnnfdbdheoajgaaGreatSF
import Derived.Test.YtnnfdbdheoajgaaGreatLk
set_option linter.unusedVariables false
set_option linter.unusedSimpArgs false
set_option maxRecDepth 100000
namespace Go.Proofs.AM
def Md7 : IC := .seq (.reg [Mv 15 17, Mv 17 6])
 (.reg (sq 18 [Mv 5, Mv 6, Mv 1, Ln 20, Bk .add 21 1, Io (.mks 17 [.v (.int .i64 0)] (.t 22) (.t 22)), Ia 1 18 19] [Sv [some 17] 24 23]))
def Me7 : IC := .seq (.reg [Bb .lss 15 14 16])
 (.seq (.cond (.t 16) .skip (.exit 0)) (.seq (.block 1 Md7) (.reg [Bk .add 15 1 25, Mv 25 15])))
def lnE : IC := .drw (sq 40 [Mv 0, Mv 7, Ia 2 40 41, La 2 42, Mv 1, Mv 8, Ia 2 44 45, La 2 46, Io (.eqs false true [0, 0] (.t 43) (.t 47))] []) [(3, 7)]
def lnT : IC := .drw (sq 49 [Mv 5, Mv 7, Ia 1 49 50, Ld 1 51, Mv 8, Mv 5, Mv 7, Bk .add 55 1, Ia 1 54 56, Ld 1 57, Mv 8, Bk .add 59 1, Ia 1 58 60, Ld 1 61, Bk .add 62 1, Ia 1 52 53] [Sv [none] 64 63]) [(3, 9), (3, 13)]
def lnF : IC := .drw (sq 65 [Mv 5, Mv 7, Ia 1 65 66, Ld 1 67, Mv 8, Mv 5, Mv 7, Bk .add 71 1, Ia 1 70 72, Ld 1 73, Mv 8, Ia 1 74 75, Ld 1 76, Mv 5, Mv 7, Ia 1 78 79, Ld 1 80, Mv 8, Bk .add 82 1, Ia 1 81 83, Ld 1 84, Io (.mxi (.t 77) (.t 85)), Ia 1 68 69] [Sv [none] 87 86]) [(3, 9), (3, 12), (3, 16), (9, 16), (12, 16), (3, 20), (9, 20), (12, 20)]
def Hc7 : IC := .seq (.seq (.reg (sq 36 [Mv 8, Bk .geq 36 0] [])) (.cond (.t 37) .skip (.exit 4)))
 (.seq (.block 5 (.seq lnE (.cond (.t 48) lnT lnF))) (.reg (sq 38 [Mv 8, Bk .sub 38 1] [Mv 39 8])))
def Mf7 : IC := .seq (.seq (.reg (sq 29 [Mv 7, Bk .geq 29 0] [])) (.cond (.t 30) .skip (.exit 2)))
 (.seq (.block 3 (.seq (.reg (sq 33 [Mv 1, Ln 33, Bk .sub 34 1] [Mv 35 8])) (.block 4 (.loop Hc7)))) (.reg (sq 31 [Mv 7, Bk .sub 31 1] [Mv 32 7])))
def Qi7 : IC := .reg [Io (.mv (.c (.slice none 0 0))) 4]
def Qj7 : IC := .reg (sq 9 [Mv 0, Ln 9, Bk .add 10 1, Io (.mks 273 [.sl true 17 []] (.t 11) (.t 11))] [Mv 12 5])
def Qk7 : IC := .reg (sq 13 [Mv 5, Ln 13, Ki 0] [])
def Ql7 : IC := .reg (⟨some 26, .opa 96 100000 (.mv (.t 0)), none⟩ :: sq 27 [Ln 26, Bk .sub 27 1] [Mv 28 7])
def Qm7 : IC := .reg [⟨some 88, .cla 96 (.mv (.t 5)), none⟩, Mv 88 4]
def if_lens : IFn := ⟨89, [.inl 4], .seq Qi7 (.seq Qj7 (.seq (.seq Qk7 (.block 0 (.loop Me7))) (.seq (.seq Ql7 (.block 2 (.loop Mf7))) (.seq Qm7 .ret)))), lcF []⟩
def xE7 : List (List (Option Nat)) := [[some 273]]
section
variable {G : Gam} {t : Tm} {o : ah7} {ops : List IOp} {K : St → Prop} {d : Option Nat} {op : Opx} {x : AV} {L : List a57} {inc : List (Nat × Nat)}
theorem a_n {s : St} (h : K s) : pa7 G [] K s := h
theorem a_p (h : evp t op = some x) (hk : pa7 G ops K ⟨aA7 t d x, o⟩) : pa7 G (⟨d, op, none⟩ :: ops) K ⟨t, o⟩ := by
 show stp G ⟨d, op, none⟩ ⟨t, o⟩ _
 simp only [stp, gb7, h]
 exact hk
theorem a_v (h : vdo G d op t o fun s _ => pa7 G ops K s) : pa7 G (⟨d, op, none⟩ :: ops) K ⟨t, o⟩ :=
 hu7 (gN7 (op := ⟨d, op, none⟩) (s := ⟨t, o⟩) h)
theorem Qn7 (h : dP7 G d op t o fun s _ => pa7 G ops K s) (he : evp t op = none) : pa7 G (⟨d, op, none⟩ :: ops) K ⟨t, o⟩ := by
 show stp G ⟨d, op, none⟩ ⟨t, o⟩ _
 simp only [stp, gb7, he]
 exact ht7 (op := op) (g := none) (K := fun s _ => pa7 G ops K s) h
theorem d_n {s : St} (hc : mI7 inc L = true) (h : K s) : f27 G inc [] L K s := ⟨hc, h⟩
theorem d_p (h : evp t op = some x) (hk : f27 G inc ops (L ++ [([], [])]) K ⟨aA7 t d x, o⟩) : f27 G inc (⟨d, op, none⟩ :: ops) L K ⟨t, o⟩ := by
 show y07 G ⟨d, op, none⟩ ⟨t, o⟩ _
 simp only [y07, gb7, h]
 exact hk
theorem d_v (h : vdo G d op t o fun s l => f27 G inc ops (L ++ [l]) K s) : f27 G inc (⟨d, op, none⟩ :: ops) L K ⟨t, o⟩ :=
 gN7 (op := ⟨d, op, none⟩) (s := ⟨t, o⟩) h
theorem xF7 {e : Nat} {x i : Od} {n cap len k : Nat} {b : Option Nat} {kk : IntKind} {j : Nat} (hx : ev t x = .ref n b cap 0 len k) (hi : ev t i = .v (.int kk (j : Int))) (h : j < len) (he : e = esz k) : evp t (.iaddr e x i) = some (.ptr n b k j 0) := by
 simp only [evp, hx, hi, asI]
 rw [if_pos ⟨by omega, by simpa using h, he⟩]
 simp
theorem Qo7 {e : Nat} {x i : Od} {α : Type} {xs : List α} {f : α → List T} {kk : IntKind} {j : Nat} {y : α} (hx : ev t x = .ro (xs.map f)) (hi : ev t i = .v (.int kk (j : Int))) (h : xs[j]? = some y) (he : (f y).length = e) : evp t (.iaddr e x i) = some (.rptr (f y)) := by
 have hj := (List.getElem?_eq_some_iff.1 h).1
 simp only [evp, hx, hi, asI]
 have e1 : (xs.map f).getD (j : Int).toNat [] = f y := by simp [List.getD_eq_getElem?_getD, h]
 rw [e1, if_pos ⟨by omega, by simpa using hj, he⟩]
theorem BV7 {x y : Od} {a b c : Int} (hx : ev t x = .v (.int .i64 a)) (hy : ev t y = .v (.int .i64 b)) (h : IntKind.i64.wrap (a + b) = c) : evp t (.bin .add x y) = some (.v (.int .i64 c)) := by
 subst h
 simp [evp, hx, hy, rX7]
theorem Mg7 {x y : Od} {a b c : Int} (hx : ev t x = .v (.int .i64 a)) (hy : ev t y = .v (.int .i64 b)) (h : IntKind.i64.wrap (a - b) = c) : evp t (.bin .sub x y) = some (.v (.int .i64 c)) := by
 subst h
 simp [evp, hx, hy, rX7]
theorem Qp7 {x y : Od} {a b : Int} (hx : ev t x = .v (.int .i64 a)) (hy : ev t y = .v (.int .i64 b)) : evp t (.bin .geq x y) = some (.v (.bool (decide (a ≥ b)))) := by
 simp [evp, hx, hy, rX7]
theorem QN7 {x y : Od} {a b : Int} (hx : ev t x = .v (.int .i64 a)) (hy : ev t y = .v (.int .i64 b)) : evp t (.bin .lss x y) = some (.v (.bool (decide (a < b)))) := by
 simp [evp, hx, hy, rX7]
theorem QO7 {x y : Od} {a b : Int} (hx : ev t x = .v (.int .i64 a)) (hy : ev t y = .v (.int .i64 b)) : evp t (.mxi x y) = some (.v (.int .i64 (max a b))) := by
 simp [evp, hx, hy]
theorem Mh7 {x : Od} {rows : Rows} (hx : ev t x = .ro rows) {n : Nat} (h : rows.length = n) : evp t (.len false x) = some (.v (.int .i64 n)) := by
 subst h
 simp [evp, hx]
theorem QP7 {x : Od} {n cap off len k : Nat} {b : Option Nat} (hx : ev t x = .ref n b cap off len k) : evp t (.len false x) = some (.v (.int .i64 len)) := by
 simp [evp, hx]
end
theorem tS7 (x : Pt) : ∀ (b : List Pt) (ls : List Int), (mq7 x b ls).length = b.length + 1
 | [], ls => rfl
 | y :: b, ls => by
  simp only [mq7, List.length_cons]
  rw [tS7 x b ls.tail]
theorem kt7 (ls : List Int) (j : Nat) : ls.tail[j]? = ls[j + 1]? := by
 cases ls <;> simp
theorem qf7 (ls : List Int) (d : Int) : ls.headD d = (ls[0]?).getD d := by
 cases ls <;> simp
theorem ox7 (x : Pt) : ∀ (b : List Pt) (ls : List Int) (j : Nat) (y : Pt), b[j]? = some y →
  (mq7 x b ls)[j]? = some (if ((x.x == y.x) && ((x.y == y.y) && true)) = true then (ls[j + 1]?).getD 0 + 1 else max ((ls[j]?).getD 0) (((mq7 x b ls)[j + 1]?).getD 0))
 | [], ls, j, y, h => by simp at h
 | y :: b, ls, 0, z, h => by
  simp only [List.getElem?_cons_zero, Option.some.injEq] at h
  subst h
  simp only [mq7, List.getElem?_cons_zero, Nat.zero_add, List.getElem?_cons_succ, qf7, kt7]
 | y :: b, ls, j + 1, z, h => by
  simp only [List.getElem?_cons_succ] at h
  have := ox7 x b ls.tail j z h
  simp only [mq7, List.getElem?_cons_succ, this, kt7]
theorem qg7 (x : Pt) : ∀ (b : List Pt) (ls : List Int), (mq7 x b ls)[b.length]? = some 0
 | [], ls => rfl
 | y :: b, ls => by
  simp only [mq7, List.length_cons, List.getElem?_cons_succ]
  exact qg7 x b ls.tail
def RowB (n : Nat) (ls : List Int) : Prop := ∀ (c : Nat) (v : Int), ls[c]? = some v → 0 ≤ v ∧ v ≤ (n : Int) - (c : Int)
theorem RowB.tail {n : Nat} {ls : List Int} (h : RowB (n + 1) ls) : RowB n ls.tail := fun c v hv => by
 rw [kt7] at hv
 have := h _ _ hv
 omega
theorem RowB.at {n : Nat} {ls : List Int} (h : RowB n ls) (c : Nat) (hc : c ≤ n) : 0 ≤ (ls[c]?).getD 0 ∧ (ls[c]?).getD 0 ≤ (n : Int) - c := by
 cases hv : ls[c]? with
 | none => simp; omega
 | some v => simpa using h c v hv
theorem BW7 (x : Pt) : ∀ (b : List Pt) (ls : List Int), RowB b.length ls → RowB b.length (mq7 x b ls)
 | [], ls, h => fun c v hv => by
  cases c with
  | zero => simp [mq7] at hv; subst hv; simp
  | succ c => simp [mq7] at hv
 | y :: b, ls, h => by
  have ih := BW7 x b ls.tail (RowB.tail h)
  intro c v hv
  cases c with
  | succ c =>
   simp only [mq7, List.getElem?_cons_succ] at hv
   have := ih c v hv
   simp only [List.length_cons]
   omega
  | zero =>
   simp only [mq7, List.getElem?_cons_zero, Option.some.injEq] at hv
   subst hv
   have h0 := RowB.at h 0 (by omega)
   have h1 := RowB.at h 1 (by simp)
   have h2 := RowB.at ih 0 (by omega)
   simp only [qf7, kt7, Nat.zero_add, List.length_cons] at *
   split <;> omega
def bc7 (a b : List Pt) (r : Nat) : List Int := (vO7 (a.drop r) b).headD []
theorem Nq7 (a b : List Pt) : ∃ h l, vO7 a b = h :: l := by
 cases a <;> exact ⟨_, _, rfl⟩
theorem eR7 {a b : List Pt} {r : Nat} {x : Pt} (h : a[r]? = some x) : bc7 a b r = mq7 x b (bc7 a b (r + 1)) := by
 have hr := (List.getElem?_eq_some_iff.1 h).1
 have e : a.drop r = x :: a.drop (r + 1) := by
  rw [List.drop_eq_getElem_cons hr]
  congr 1
  exact (List.getElem?_eq_some_iff.1 h).2
 unfold bc7
 rw [e]
 rfl
theorem go7 (a b : List Pt) : bc7 a b a.length = List.replicate (b.length + 1) 0 := by
 unfold bc7
 rw [List.drop_length]
 rfl
theorem eS7 (a b : List Pt) {r : Nat} (hr : r ≤ a.length) : (bc7 a b r).length = b.length + 1 := by
 rcases Nat.lt_or_ge r a.length with h | h
 ·rw [eR7 (List.getElem?_eq_getElem h), tS7]
 ·rw [show r = a.length by omega, go7, List.length_replicate]
theorem nl7 (a b : List Pt) {r : Nat} (hr : r ≤ a.length) : (bc7 a b r)[b.length]? = some 0 := by
 rcases Nat.lt_or_ge r a.length with h | h
 ·rw [eR7 (List.getElem?_eq_getElem h), qg7]
 ·rw [show r = a.length by omega, go7]
  simp
theorem sv7 (a b : List Pt) : ∀ n r, r ≤ a.length → a.length - r = n → RowB b.length (bc7 a b r)
 | 0, r, hr, h => by
  rw [show r = a.length by omega, go7]
  intro c v hv
  rw [List.getElem?_replicate] at hv
  split at hv
  ·cases hv; omega
  ·cases hv
 | n + 1, r, hr, h => by
  rw [eR7 (List.getElem?_eq_getElem (show r < a.length by omega))]
  exact BW7 _ _ _ (sv7 a b n (r + 1) (by omega) (by omega))
theorem lr7 (b : List Pt) : ∀ (a : List Pt), (vO7 a b) = (List.range (a.length + 1)).map (bc7 a b)
 | [] => rfl
 | x :: a => by
  have ih := lr7 b a
  rw [show (x :: a).length + 1 = (a.length + 1) + 1 from rfl, List.range_succ_eq_map, List.map_cons, List.map_map]
  have e : bc7 (x :: a) b 0 :: vO7 a b = vO7 (x :: a) b := rfl
  rw [← e]
  congr 1
end Go.Proofs.AM
