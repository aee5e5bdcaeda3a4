/- Lemmas of the proof (V), on an abstract machine. Conditions: none. -/
import Derived.Test.YtnnfdbdheoajgaaGreatHOps
set_option linter.unusedVariables false
set_option linter.unusedSimpArgs false
namespace Go.Proofs.AM
abbrev a47 := List Nat × List Nat
def My7 : List T → (List T → Prop) → Prop
 | [], K => K []
 | c :: cs, K => My7 cs fun cs' => K (c :: cs')
theorem ny7 : ∀ {cs : List T} {K : List T → Prop}, My7 cs K → K cs
 | [], K, h => h
 | c :: cs, K, h => ny7 (cs := cs) h
def Nc7 : Option Ent → (Option Ent → Prop) → Prop
 | none, K => K none
 | some ⟨b, cap, k, box, rows⟩, K => match box with
  | true => (match rows with
   | [row] => My7 row fun row' => K (some ⟨b, cap, k, true, [row']⟩)
   | rows => K (some ⟨b, cap, k, true, rows⟩))
  | false => K (some ⟨b, cap, k, false, rows⟩)
theorem jm7 : ∀ {e : Option Ent} {K : Option Ent → Prop}, Nc7 e K → K e
 | none, K, h => h
 | some ⟨b, cap, k, true, []⟩, K, h => h
 | some ⟨b, cap, k, true, [row]⟩, K, h => ny7 (cs := row) h
 | some ⟨b, cap, k, true, _ :: _ :: _⟩, K, h => h
 | some ⟨b, cap, k, false, rows⟩, K, h => h
def HM.vp {α : Type} : HM α → aj7 → (α → aj7 → a47 → Prop) → Prop
 | .ret a, o, K => K a o ([], [])
 | .get n k, o, K => match o n with
  | some e => (k e).vp o fun a o' l => K a o' (n :: l.1, l.2)
  | none => False
 | .put n e k, o, K => Nc7 e fun e' => k.vp (upd o n e') fun a o' l => K a o' (l.1, n :: l.2)
 | .need b k, o, K => b = true ∧ k.vp o K
 | .opt x k, o, K => ∃ a, x = some a ∧ (k a).vp o K
 | .fail, _, _ => False
theorem HM.vp_sound {α : Type} : ∀ (m : HM α) {o : aj7} {K : α → aj7 → a47 → Prop}, m.vp o K → ∃ a o', m.run o = some (a, o') ∧ K a o' (m.log o)
 | .ret a, o, K, h => ⟨a, o, rfl, h⟩
 | .get n k, o, K, h => by
  simp only [HM.vp] at h
  simp only [HM.run, HM.log]
  split at h
  ·rename_i e he
   obtain ⟨a, o', h1, h2⟩ := HM.vp_sound (k e) h
   rw [he]
   exact ⟨a, o', h1, h2⟩
  ·exact h.elim
 | .put n e k, o, K, h => by
  obtain ⟨a, o', h1, h2⟩ := HM.vp_sound k (jm7 h)
  exact ⟨a, o', h1, h2⟩
 | .need b k, o, K, h => by
  simp only [HM.vp] at h
  obtain ⟨rfl, h⟩ := h
  obtain ⟨a, o', h1, h2⟩ := HM.vp_sound k h
  exact ⟨a, o', by simpa [HM.run] using h1, by simpa [HM.log] using h2⟩
 | .opt x k, o, K, ⟨a, hx, h⟩ => by
  subst hx
  obtain ⟨a, o', h1, h2⟩ := HM.vp_sound (k a) h
  exact ⟨a, o', h1, h2⟩
def frc (K : AV → Prop) : AV → Prop
 | .v x => K (.v x)
 | .ro r => K (.ro r)
 | .raw A cap r => K (.raw A cap r)
 | .lref n b cap len k => K (.lref n b cap len k)
 | .nil => K .nil
 | .ref n b cap off len k => K (.ref n b cap off len k)
 | .ptr n b k r c => K (.ptr n b k r c)
 | .rptr cs => K (.rptr cs)
 | .agg cs => K (.agg cs)
 | .tup cs => K (.tup cs)
 | .fn f cs => K (.fn f cs)
 | .io i len k => K (.io i len k)
 | .pio i k => K (.pio i k)
 | .junk => K .junk
theorem eU7 {K : AV → Prop} {x : AV} (h : frc K x) : K x := by cases x <;> exact h
def F97 (k k' : IntKind) (r : Int) (K : Value → Prop) : Prop := match decEq k k' with
 | isTrue _ => ∃ n, k.wrap r = n ∧ K (.int k n)
 | isFalse _ => False
def BT7 (k k' : IntKind) (r : Bool) (K : Value → Prop) : Prop := match decEq k k' with
 | isTrue _ => ∃ p, r = p ∧ K (.bool p)
 | isFalse _ => False
def Nd7 (op : BinOp) (a b : Value) (K : Value → Prop) : Prop := match op, a, b with
 | .add, .int k a, .int k' b => F97 k k' (a + b) K
 | .sub, .int k a, .int k' b => F97 k k' (a - b) K
 | .mul, .int k a, .int k' b => F97 k k' (a * b) K
 | .eql, .int k a, .int k' b => BT7 k k' (a == b) K
 | .neq, .int k a, .int k' b => BT7 k k' (a != b) K
 | .lss, .int k a, .int k' b => BT7 k k' (decide (a < b)) K
 | .leq, .int k a, .int k' b => BT7 k k' (decide (a ≤ b)) K
 | .gtr, .int k a, .int k' b => BT7 k k' (decide (a > b)) K
 | .geq, .int k a, .int k' b => BT7 k k' (decide (a ≥ b)) K
 | op, a, b => ∃ v, sm7 op a b = some v ∧ K v
theorem vs7 {k k' : IntKind} {r : Int} {K : Value → Prop} (h : F97 k k' r K) : k = k' ∧ K (.int k (k.wrap r)) := by
 unfold F97 at h
 split at h
 ·rename_i e _
  obtain ⟨n, rfl, h⟩ := h
  exact ⟨e, h⟩
 ·exact h.elim
theorem vt7 {k k' : IntKind} {r : Bool} {K : Value → Prop} (h : BT7 k k' r K) : k = k' ∧ K (.bool r) := by
 unfold BT7 at h
 split at h
 ·rename_i e _
  obtain ⟨n, rfl, h⟩ := h
  exact ⟨e, h⟩
 ·exact h.elim
theorem vu7 {op : BinOp} {a b : Value} {K : Value → Prop} (h : Nd7 op a b K) : ∃ v, sm7 op a b = some v ∧ K v := by
 unfold Nd7 at h
 split at h <;> first
  | (have h' := vs7 h; obtain ⟨e, h2⟩ := h'; subst e; refine ⟨_, ?_, h2⟩; simp [sm7]; done)
  | (have h' := vt7 h; obtain ⟨e, h2⟩ := h'; subst e; refine ⟨_, ?_, h2⟩; simp [sm7, bne]; done)
  | exact h
def Ne7 (t : Tm) : List (Nat × Nat × Od) → List AV → (List AV → Prop) → Prop
 | [], cs, K => K cs
 | (off, sz, x) :: ps, cs, K => ((hf7 (ev t x)).length = sz ∧ off + sz ≤ cs.length ∧ (hf7 (ev t x)).all gs7 = true) ∧ Ne7 t ps (bP7 cs off (hf7 (ev t x))) K
theorem nz7 {t : Tm} : ∀ {ps : List (Nat × Nat × Od)} {cs : List AV} {K : List AV → Prop}, Ne7 t ps cs K → ∃ xs, bld t ps cs = some xs ∧ K xs
 | [], cs, K, h => ⟨cs, rfl, h⟩
 | (off, sz, x) :: ps, cs, K, h => by
  obtain ⟨h1, h2⟩ := h
  simp only [bld]
  rw [if_pos h1]
  exact nz7 h2
def vop (t : Tm) (op : Opx) (K : AV → Prop) : Prop := match op with
 | .mv x => frc K (ev t x)
 | .nilck x => match ev t x with
  | .ptr n b k r c => K (.ptr n b k r c)
  | .rptr cs => K (.rptr cs)
  | _ => False
 | .bin op x y => match ev t x, ev t y with
  | .v a, .v b => Nd7 op a b fun r => K (.v r)
  | _, _ => False
 | .eqs neg agg ks x y => ∃ p q, FK7 agg ks (ev t x) (ev t y) = some p ∧ (if neg then !p else p) = q ∧ K (.v (.bool q))
 | .un op x => match op, ev t x with
  | .not, .v (.bool b) => ∃ p, (!b) = p ∧ K (.v (.bool p))
  | .neg, .v (.int k n) => ∃ m, k.wrap (0 - n) = m ∧ K (.v (.int k m))
  | _, _ => False
 | .conv k x => match ev t x with
  | .v (.int _ n) => ∃ m, k.wrap n = m ∧ K (.v (.int k m))
  | _ => False
 | .len s x => match s, ev t x with
  | true, .v (.string s) => ∃ n : Nat, s.size = n ∧ K (.v (.int .i64 n))
  | false, .ro rows => ∃ n : Nat, rows.length = n ∧ K (.v (.int .i64 n))
  | false, .raw _ _ rows => ∃ n : Nat, rows.length = n ∧ K (.v (.int .i64 n))
  | false, .nil => K (.v (.int .i64 0))
  | false, .ref _ _ _ _ len _ => K (.v (.int .i64 len))
  | _, _ => False
 | .iaddr e x i => match ev t x, ev t i with
  | .ro rows, .v (.int _ i) => ∃ (j : Nat) (row : List T), i = (j : Int) ∧ rows[j]? = some row ∧ row.length = e ∧ K (.rptr row)
  | .ref n b cap off len k, .v (.int _ i) => ∃ j : Nat, i = (j : Int) ∧ j < len ∧ e = esz k ∧ K (.ptr n b k (off + j) 0)
  | _, _ => False
 | .faddr off x => match ev t x with
  | .rptr cs => K (.rptr (cs.drop off))
  | .ptr n b k r c => K (.ptr n b k r (c + off))
  | _ => False
 | .fld off sz agg x => match ev t x with
  | .agg cs => off + sz ≤ cs.length ∧ ∃ y, one agg ((cs.drop off).take sz) = some y ∧ frc K y
  | _ => False
 | .sidx x i => match ev t x, ev t i with
  | .v (.string s), .v (.int _ i) => ∃ (j : Nat) (c : UInt8), i = (j : Int) ∧ s.data.toList[j]? = some c ∧ K (.v (.int .u8 c.toNat))
  | _, _ => False
 | .mxi x y => match ev t x, ev t y with
  | .v (.int k a), .v (.int k' b) => decide (k = k') = true ∧ ∃ m, max a b = m ∧ K (.v (.int k m))
  | _, _ => False
 | .load sz agg p => match ev t p with
  | .rptr cs => sz ≤ cs.length ∧ ∃ y, (mJ7 (cs.take sz)).bind (one agg) = some y ∧ frc K y
  | _ => False
 | .build z ps => Ne7 t ps z fun cs => K (.agg cs)
 | .mkf f xs => K (.fn f (xs.map (ev t)))
 | .ext x i => match ev t x with
  | .tup cs => ∃ y, cs[i]? = some y ∧ frc K y
  | _ => False
 | op => ∃ x, evp t op = some x ∧ K x
theorem lv7 {t : Tm} {op : Opx} {K : AV → Prop} (h : vop t op K) : ∃ x, evp t op = some x ∧ K x := by
 cases op with
 | mv x => exact ⟨_, rfl, eU7 h⟩
 | nilck x =>
  simp only [vop] at h
  simp only [evp]
  split at h
  ·rename_i hx; rw [hx]; exact ⟨_, rfl, h⟩
  ·rename_i hx; rw [hx]; exact ⟨_, rfl, h⟩
  ·exact h.elim
 | bin op x y =>
  simp only [vop] at h
  simp only [evp]
  split at h
  ·rename_i hx hy
   obtain ⟨v, h1, h2⟩ := vu7 h
   rw [hx, hy]
   exact ⟨.v v, by simp only [h1, Option.map_some], h2⟩
  ·exact h.elim
 | eqs neg agg ks x y =>
  obtain ⟨p, q, h1, rfl, h2⟩ := h
  simp only [evp]
  exact ⟨_, by rw [h1]; rfl, h2⟩
 | un op x =>
  simp only [vop] at h
  simp only [evp]
  split at h
  ·rename_i b hx
   obtain ⟨p, rfl, h⟩ := h
   rw [hx]
   exact ⟨_, rfl, h⟩
  ·rename_i k n hx
   obtain ⟨p, rfl, h⟩ := h
   rw [hx]
   exact ⟨_, rfl, h⟩
  ·exact h.elim
 | mxi x y =>
  simp only [vop] at h
  simp only [evp]
  split at h
  ·rename_i k a k' b hx hy
   obtain ⟨h1, m, rfl, h⟩ := h
   have e := of_decide_eq_true h1
   subst e
   rw [hx, hy]
   exact ⟨.v (.int k (max a b)), by simp only [if_true], h⟩
  ·exact h.elim
 | conv k x =>
  simp only [vop] at h
  simp only [evp]
  split at h
  ·rename_i k' n hx
   obtain ⟨m, rfl, h⟩ := h
   rw [hx]
   exact ⟨_, rfl, h⟩
  ·exact h.elim
 | len s x =>
  simp only [vop] at h
  simp only [evp]
  split at h
  ·rename_i hx
   obtain ⟨n, rfl, h⟩ := h
   rw [hx]
   exact ⟨_, rfl, h⟩
  ·rename_i hx
   obtain ⟨n, rfl, h⟩ := h
   rw [hx]
   exact ⟨_, rfl, h⟩
  ·rename_i hx
   obtain ⟨n, rfl, h⟩ := h
   rw [hx]
   exact ⟨_, rfl, h⟩
  ·rename_i hx
   rw [hx]
   exact ⟨_, rfl, h⟩
  ·rename_i hx
   rw [hx]
   exact ⟨_, rfl, h⟩
  ·exact h.elim
 | iaddr e x i =>
  simp only [vop] at h
  simp only [evp]
  split at h
  ·rename_i rows k i hx hi
   obtain ⟨j, row, rfl, h1, h2, h3⟩ := h
   rw [hx, hi]
   simp only [asI]
   have hj := (List.getElem?_eq_some_iff.1 h1).1
   have hg : rows.getD j [] = row := by simp [List.getD_eq_getElem?_getD, h1]
   simp only [Int.toNat_natCast, hg]
   rw [if_pos ⟨by omega, hj, h2⟩]
   exact ⟨_, rfl, h3⟩
  ·rename_i n b cap off len k k' i hx hi
   obtain ⟨j, rfl, h1, h2, h3⟩ := h
   rw [hx, hi]
   simp only [asI]
   rw [if_pos ⟨by omega, by simpa using h1, h2⟩]
   exact ⟨_, rfl, by simpa using h3⟩
  ·exact h.elim
 | faddr off x =>
  simp only [vop] at h
  simp only [evp]
  split at h
  ·rename_i hx; rw [hx]; exact ⟨_, rfl, h⟩
  ·rename_i hx; rw [hx]; exact ⟨_, rfl, h⟩
  ·exact h.elim
 | fld off sz agg x =>
  simp only [vop] at h
  simp only [evp]
  split at h
  ·rename_i hx
   obtain ⟨h1, y, h2, h3⟩ := h
   rw [hx]
   simp only
   rw [if_pos h1]
   exact ⟨y, h2, eU7 h3⟩
  ·exact h.elim
 | sidx x i =>
  simp only [vop] at h
  simp only [evp]
  split at h
  ·rename_i s k i hx hi
   obtain ⟨j, c, rfl, h1, h2⟩ := h
   rw [hx, hi]
   simp only [asI]
   obtain ⟨hj, hc⟩ := List.getElem?_eq_some_iff.1 h1
   have hj' : j < s.size := by simpa using hj
   simp only [Int.toNat_natCast, hj', dif_pos]
   rw [if_pos (by omega)]
   have : s[j] = c := by
    rw [← hc]
    rfl
   exact ⟨_, rfl, by rw [this]; exact h2⟩
  ·exact h.elim
 | load sz agg p =>
  simp only [vop] at h
  simp only [evp]
  split at h
  ·rename_i hx
   obtain ⟨h1, y, h2, h3⟩ := h
   rw [hx]
   simp only
   rw [if_pos h1]
   exact ⟨y, h2, eU7 h3⟩
  ·exact h.elim
 | build z ps =>
  obtain ⟨xs, h1, h2⟩ := nz7 h
  simp only [evp]
  exact ⟨_, by rw [h1]; rfl, h2⟩
 | mkf f xs => exact ⟨_, rfl, h⟩
 | ext x i =>
  simp only [vop] at h
  simp only [evp]
  split at h
  ·rename_i hx
   obtain ⟨y, h1, h2⟩ := h
   rw [hx]
   exact ⟨y, h1, eU7 h2⟩
  ·exact h.elim
 | _ => exact h
@[irreducible] def p97 (p : Bool) (A B : Prop) : Prop := (p = true → A) ∧ (p = false → B)
theorem oE7 {p : Bool} {A B : Prop} (h1 : p = true → A) (h2 : p = false → B) : p97 p A B := by
 unfold p97
 exact ⟨h1, h2⟩
theorem CX7 {A B : Prop} (h : A) : p97 true A B := oE7 (fun _ => h) (fun h => by cases h)
theorem CY7 {A B : Prop} (h : B) : p97 false A B := oE7 (fun h => by cases h) (fun _ => h)
theorem tL7 {p : Bool} {A B : Prop} (h : p97 p A B) : (p = true → A) ∧ (p = false → B) := by
 unfold p97 at h
 exact h
theorem Qv7 {a b : Bool} (h1 : a = true) (h2 : b = true) : (a && b) = true := by rw [h1, h2]; rfl
def wU7 (t : Tm) (g : Option (Nat × Bool)) (A B : Prop) : Prop := match g with
 | none => A
 | some (g, b) => match t g with
  | .v (.bool p) => p97 (p == b) A B
  | .v (.tuple _) => B
  | _ => False
def hOp : Opx → Bool
 | .store .. | .box .. | .alloc .. | .mks .. | .lit .. | .app .. | .call .. | .calld .. | .bytes .. | .frz .. | .ren .. | .shut .. | .ldr .. | .rawl .. | .unr .. | .pfz .. | .trn .. | .opa .. | .cla .. => true
 | _ => false
def cB7 : Option Nat → Nat
 | some d => d
 | none => 0
def dU7 (G : Gam) (d : Option Nat) (op : Opx) (t : Tm) (o : aj7) (K : St → a47 → Prop) : Prop := ∀ ch, (aB7 G (cB7 d) ch t op).vp o fun x o' l => K ⟨aG7 t d x, o'⟩ l
def vdo (G : Gam) (d : Option Nat) (op : Opx) (t : Tm) (o : aj7) (K : St → a47 → Prop) : Prop := match op with
 | .load sz agg p => match ev t p with
  | .ptr .. => dU7 G d (.load sz agg p) t o K
  | _ => vop t (.load sz agg p) fun x => K ⟨aG7 t d x, o⟩ ([], [])
 | op => match hOp op with
  | true => dU7 G d op t o K
  | false => vop t op fun x => K ⟨aG7 t d x, o⟩ ([], [])
def f97 (G : Gam) : IOp → St → (St → a47 → Prop) → Prop
 | ⟨d, op, g⟩, ⟨t, o⟩, K => wU7 t g (vdo G d op t o K) (K ⟨aG7 t d unv, o⟩ ([], []))
theorem CZ7 (d : Option Nat) : cB7 d = d.getD 0 := by cases d <;> rfl
theorem hJ7 {G : Gam} {d : Option Nat} {op : Opx} {g : Option (Nat × Bool)} {t : Tm} {o : aj7} {K : St → a47 → Prop} (h : dU7 G d op t o K) : CG7 G ⟨d, op, g⟩ ⟨t, o⟩ K := fun ch => by
 obtain ⟨a, o', h1, h2⟩ := HM.vp_sound _ (h ch)
 rw [CZ7] at h1 h2
 rw [h1]
 exact h2
theorem qa7 {G : Gam} {d : Option Nat} {op : Opx} {g : Option (Nat × Bool)} {t : Tm} {o : aj7} {K : St → a47 → Prop} (h : vdo G d op t o K) : match evp t op with
  | some x => K ⟨aG7 t d x, o⟩ ([], [])
  | none => CG7 G ⟨d, op, g⟩ ⟨t, o⟩ K := by
 have pur : (vop t op fun x => K ⟨aG7 t d x, o⟩ ([], [])) → match evp t op with
  | some x => K ⟨aG7 t d x, o⟩ ([], [])
  | none => CG7 G ⟨d, op, g⟩ ⟨t, o⟩ K := fun h => by
  obtain ⟨x, h1, h2⟩ := lv7 h
  rw [h1]
  exact h2
 unfold vdo at h
 split at h
 ·rename_i sz agg p
  split at h
  ·rename_i n b k r c hp
   have : evp t (.load sz agg p) = none := by simp only [evp, hp]
   rw [this]
   exact hJ7 h
  ·exact pur h
 ·split at h
  ·rename_i hh
   have : evp t op = none := by
    cases op <;> first | rfl | (cases hh)
   rw [this]
   exact hJ7 h
  ·exact pur h
theorem gU7 {G : Gam} {op : IOp} {s : St} {K : St → a47 → Prop} (h : f97 G op s K) : zm7 G op s K := by
 obtain ⟨d, op, g⟩ := op
 obtain ⟨t, o⟩ := s
 unfold zm7 gt7
 cases g with
 | none => exact qa7 (g := none) h
 | some p =>
  obtain ⟨g, b⟩ := p
  simp only [f97, wU7] at h
  simp only
  split at h
  ·rename_i p hp
   simp only [hp]
   have h' := tL7 h
   cases hb : (p == b) with
   | true => exact qa7 (h'.1 hb)
   | false => exact h'.2 hb
  ·rename_i x hp
   simp only [hp]
   exact h
  ·exact h.elim
def cY7 (G : Gam) : List IOp → (St → Prop) → St → Prop
 | [], K, s => K s
 | op :: ops, K, s => f97 G op s fun s' _ => cY7 G ops K s'
def bI7 (G : Gam) (inc : List (Nat × Nat)) : List IOp → List a47 → (St → Prop) → St → Prop
 | [], L, K, s => nb7 inc L = true ∧ K s
 | op :: ops, L, K, s => f97 G op s fun s' l => bI7 G inc ops (L ++ [l]) K s'
theorem hK7 {G : Gam} {op : IOp} {s : St} {K : St → Prop} (h : zm7 G op s fun s' _ => K s') : stp G op s K := h
theorem ik7 {G : Gam} {op : IOp} {s : St} {K K' : St → a47 → Prop} (hk : ∀ s l, K s l → K' s l) (h : zm7 G op s K) : zm7 G op s K' := by
 unfold zm7 at *
 split
 ·rename_i hw
  rw [hw] at h
  simp only at h
  split
  ·rename_i x hx
   rw [hx] at h
   exact hk _ _ h
  ·rename_i hx
   rw [hx] at h
   intro ch
   have := h ch
   split
   ·rename_i hr
    rw [hr] at this
    exact hk _ _ this
   ·rename_i hr
    rw [hr] at this
    exact this
 ·rename_i hw
  rw [hw] at h
  exact hk _ _ h
 ·rename_i hw
  rw [hw] at h
  exact h
theorem lw7 {G : Gam} : ∀ {ops : List IOp} {K : St → Prop} {s : St}, cY7 G ops K s → pF7 G ops K s
 | [], K, s, h => h
 | op :: ops, K, s, h => hK7 (ik7 (fun s l hs => lw7 hs) (gU7 h))
theorem jZ7 {G : Gam} {inc : List (Nat × Nat)} : ∀ {ops : List IOp} {L : List a47} {K : St → Prop} {s : St}, bI7 G inc ops L K s → gm7 G inc ops L K s
 | [], L, K, s, h => h
 | op :: ops, L, K, s, h => ik7 (fun s l hs => jZ7 hs) (gU7 h)
theorem qb7 {G : Gam} : ∀ {ops : List IOp} {K K' : St → Prop} {s : St}, (∀ s, K s → K' s) → pF7 G ops K s → pF7 G ops K' s
 | [], K, K', s, hk, h => hk _ h
 | op :: ops, K, K', s, hk, h => hK7 (ik7 (K := fun s' _ => pF7 G ops K s') (fun s l hs => qb7 hk hs) h)
theorem nA7 {G : Gam} {inc : List (Nat × Nat)} : ∀ {ops : List IOp} {L : List a47} {K K' : St → Prop} {s : St}, (∀ s, K s → K' s) → gm7 G inc ops L K s → gm7 G inc ops L K' s
 | [], L, K, K', s, hk, h => ⟨h.1, hk _ h.2⟩
 | op :: ops, L, K, K', s, hk, h => ik7 (fun s l hs => nA7 hk hs) h
theorem dh7 {G : Gam} : ∀ {c : IC} {Q Q' : Ex → St → Prop} {s : St}, (∀ e s, Q e s → Q' e s) → awp G c Q s → awp G c Q' s
 | .skip, Q, Q', s, hq, h => hq _ _ h
 | .reg ops, Q, Q', s, hq, h => qb7 (fun s hs => hq _ _ hs) h
 | .drw ops inc, Q, Q', s, hq, h => nA7 (fun s hs => hq _ _ hs) h
 | .seq a b, Q, Q', s, hq, h => dh7 (c := a) (fun e s hs => by
   cases e with
   | norm => exact dh7 (c := b) hq hs
   | exit i => exact hq _ _ hs
   | ret => exact hq _ _ hs) h
 | .cond c a b, Q, Q', s, hq, h => by
  simp only [awp] at h ⊢
  split at h
  ·rename_i p hp
   cases p
   ·exact dh7 (c := b) hq h
   ·exact dh7 (c := a) hq h
  ·exact h.elim
 | .block id a, Q, Q', s, hq, h => dh7 (c := a) (fun e s hs => by
   cases e with
   | norm => exact hq _ _ hs
   | exit i =>
    simp only at hs ⊢
    split
    ·rename_i hi; rw [if_pos hi] at hs; exact hq _ _ hs
    ·rename_i hi; rw [if_neg hi] at hs; exact hq _ _ hs
   | ret => exact hq _ _ hs) h
 | .loop a, Q, Q', s, hq, h => by
  obtain ⟨I, h0, h1⟩ := h
  exact ⟨I, h0, fun n s' hi => dh7 (c := a) (fun e s hs => by
   cases e with
   | norm => exact hs
   | exit i => exact hq _ _ hs
   | ret => exact hq _ _ hs) (h1 n s' hi)⟩
 | .exit id, Q, Q', s, hq, h => hq _ _ h
 | .ret, Q, Q', s, hq, h => hq _ _ h
 | .ghost cl dr, Q, Q', s, hq, h => by
  simp only [awp] at h ⊢
  split at h
  ·exact hq _ _ h
  ·exact h
def vwp (G : Gam) : IC → (Ex → St → Prop) → St → Prop
 | .skip, Q, s => Q .norm s
 | .reg ops, Q, s => cY7 G ops (Q .norm) s
 | .drw ops inc, Q, s => bI7 G inc ops [] (Q .norm) s
 | .seq a b, Q, s => ∃ P : St → Prop, vwp G a (fun e s' => match e with | .norm => P s' | .exit i => Q (.exit i) s' | .ret => Q .ret s') s ∧ ∀ s', P s' → vwp G b Q s'
 | .cond c a b, Q, ⟨t, o⟩ => match ev t c with
  | .v (.bool p) => p97 p (vwp G a Q ⟨t, o⟩) (vwp G b Q ⟨t, o⟩)
  | _ => False
 | .block id a, Q, s => ∃ P : St → Prop, vwp G a (fun e s' => match e with | .exit i => (match decEq i id with | isTrue _ => P s' | isFalse _ => Q (.exit i) s') | .norm => P s' | .ret => Q .ret s') s ∧ ∀ s', P s' → Q .norm s'
 | .loop a, Q, s => ∃ I : Nat → St → Prop, (∃ n, I n s) ∧ ∀ n s', I n s' → vwp G a (fun e s'' => match e with | .norm => ∃ m, m < n ∧ I m s'' | .exit i => Q (.exit i) s'' | .ret => Q .ret s'') s'
 | .exit id, Q, s => Q (.exit id) s
 | .ret, Q, s => Q .ret s
 | .ghost cl dr, Q, s => False
theorem dV7 {G : Gam} : ∀ {c : IC} {Q : Ex → St → Prop} {s : St}, vwp G c Q s → awp G c Q s
 | .skip, Q, s, h => h
 | .reg ops, Q, s, h => lw7 h
 | .drw ops inc, Q, s, h => jZ7 h
 | .seq a b, Q, s, ⟨P, h, hP⟩ => dh7 (c := a) (fun e s hs => by
   cases e with
   | norm => exact dV7 (c := b) (hP _ hs)
   | exit i => exact hs
   | ret => exact hs) (dV7 (c := a) h)
 | .cond c a b, Q, s, h => by
  simp only [vwp] at h
  simp only [awp]
  split at h
  ·rename_i p hp
   rw [hp]
   have h' := tL7 h
   cases p
   ·exact dV7 (c := b) (h'.2 rfl)
   ·exact dV7 (c := a) (h'.1 rfl)
  ·exact h.elim
 | .block id a, Q, s, ⟨P, h, hP⟩ => dh7 (c := a) (fun e s hs => by
   cases e with
   | norm => exact hP _ hs
   | exit i =>
    simp only at hs ⊢
    split at hs
    ·rename_i hi _; rw [if_pos hi]; exact hP _ hs
    ·rename_i hi _; rw [if_neg hi]; exact hs
   | ret => exact hs) (dV7 (c := a) h)
 | .loop a, Q, s, h => by
  obtain ⟨I, h0, h1⟩ := h
  exact ⟨I, h0, fun n s' hi => dh7 (c := a) (fun e s hs => by
   cases e with
   | norm => exact hs
   | exit i => exact hs
   | ret => exact hs) (dV7 (c := a) (h1 n s' hi))⟩
 | .exit id, Q, s, h => h
 | .ret, Q, s, h => h
 | .ghost cl dr, Q, s, h => h.elim
def jn7 (f : IFn) (ks : List (List (Option Nat))) (bs : Nat → Option Nat × Nat) (ins : List (Bool × Nat × Rows)) (a : Ans) : St → Prop
 | ⟨t, o⟩ => (do let os ← k57 bs f.lc 0 ins a.outs; let r ← dx7 t f.res ks; HM.ret (r, os) : HM (List (Bool × List T) × List (Option Rows))).vp o fun x _ _ => x.1 = a.res ∧ x.2 = a.outs
theorem jo7 {f : IFn} {ks : List (List (Option Nat))} {bs : Nat → Option Nat × Nat} {ins : List (Bool × Nat × Rows)} {a : Ans} {s : St} (h : jn7 f ks bs ins a s) : u87 f ks bs ins a s := by
 obtain ⟨x, o', h1, h2⟩ := HM.vp_sound _ h
 unfold u87
 rw [h1]
 exact h2
def Nf7 (G : Gam) (f : IFn) (ks : List (List (Option Nat))) (xs : List AV) (ins : List (Bool × Nat × Rows)) (a : Ans) : Prop :=
 ∀ bs : Nat → Option Nat × Nat, vwp G f.body (fun e s => match e with | .exit _ => False | .norm => jn7 f ks bs ins a s | .ret => jn7 f ks bs ins a s) ⟨u77 bs xs, v17 bs ins⟩
theorem Ng7 {G : Gam} {f : IFn} {ks : List (List (Option Nat))} {xs : List AV} {ins : List (Bool × Nat × Rows)} {a : Ans} (h : Nf7 G f ks xs ins a) : BL7 G f ks xs ins a := fun bs =>
 dh7 (c := f.body) (fun e s hs => by
  cases e with
  | norm => exact jo7 hs
  | ret => exact jo7 hs
  | exit i => exact hs) (dV7 (h bs))
end Go.Proofs.AM
