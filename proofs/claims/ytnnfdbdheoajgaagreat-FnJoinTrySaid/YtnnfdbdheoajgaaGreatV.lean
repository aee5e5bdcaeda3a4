/- Lemmas of the proof (V), on an abstract machine. Conditions: none. -/
import Derived.Test.YtnnfdbdheoajgaaGreatHOps
set_option linter.unusedVariables false
set_option linter.unusedSimpArgs false
namespace Go.Proofs.AM
abbrev a57 := List Nat × List Nat
def L27 : List T → (List T → Prop) → Prop
 | [], K => K []
 | c :: cs, K => L27 cs fun cs' => K (c :: cs')
theorem m77 : ∀ {cs : List T} {K : List T → Prop}, L27 cs K → K cs
 | [], K, h => h
 | c :: cs, K, h => m77 (cs := cs) h
def MK7 : Option Ent → (Option Ent → Prop) → Prop
 | none, K => K none
 | some ⟨b, cap, k, box, rows⟩, K => match box with
  | true => (match rows with
   | [row] => L27 row fun row' => K (some ⟨b, cap, k, true, [row']⟩)
   | rows => K (some ⟨b, cap, k, true, rows⟩))
  | false => K (some ⟨b, cap, k, false, rows⟩)
theorem i77 : ∀ {e : Option Ent} {K : Option Ent → Prop}, MK7 e K → K e
 | none, K, h => h
 | some ⟨b, cap, k, true, []⟩, K, h => h
 | some ⟨b, cap, k, true, [row]⟩, K, h => m77 (cs := row) h
 | some ⟨b, cap, k, true, _ :: _ :: _⟩, K, h => h
 | some ⟨b, cap, k, false, rows⟩, K, h => h
def HM.vp {α : Type} : HM α → ah7 → (α → ah7 → a57 → Prop) → Prop
 | .ret a, o, K => K a o ([], [])
 | .get n k, o, K => match o n with
  | some e => (k e).vp o fun a o' l => K a o' (n :: l.1, l.2)
  | none => False
 | .put n e k, o, K => MK7 e fun e' => k.vp (upd o n e') fun a o' l => K a o' (l.1, n :: l.2)
 | .need b k, o, K => b = true ∧ k.vp o K
 | .opt x k, o, K => ∃ a, x = some a ∧ (k a).vp o K
 | .fail, _, _ => False
theorem HM.vp_sound {α : Type} : ∀ (m : HM α) {o : ah7} {K : α → ah7 → a57 → Prop}, m.vp o K → ∃ a o', m.run o = some (a, o') ∧ K a o' (m.log o)
 | .ret a, o, K, h => ⟨a, o, rfl, h⟩
 | .get n k, o, K, h => by
  simp only [HM.vp] at h
  simp only [HM.run, HM.log]
  split at h
  ·rename_i e he
   obtain ⟨a, o', h1, h2⟩ := HM.vp_sound (k e) h
   rw [he]
   exact ⟨a, o', h1, h2⟩
  ·exact h.elim
 | .put n e k, o, K, h => by
  obtain ⟨a, o', h1, h2⟩ := HM.vp_sound k (i77 h)
  exact ⟨a, o', h1, h2⟩
 | .need b k, o, K, h => by
  simp only [HM.vp] at h
  obtain ⟨rfl, h⟩ := h
  obtain ⟨a, o', h1, h2⟩ := HM.vp_sound k h
  exact ⟨a, o', by simpa [HM.run] using h1, by simpa [HM.log] using h2⟩
 | .opt x k, o, K, ⟨a, hx, h⟩ => by
  subst hx
  obtain ⟨a, o', h1, h2⟩ := HM.vp_sound (k a) h
  exact ⟨a, o', h1, h2⟩
def frc (K : AV → Prop) : AV → Prop
 | .v x => K (.v x)
 | .ro r => K (.ro r)
 | .raw A cap r => K (.raw A cap r)
 | .lref n b cap len k => K (.lref n b cap len k)
 | .nil => K .nil
 | .ref n b cap off len k => K (.ref n b cap off len k)
 | .ptr n b k r c => K (.ptr n b k r c)
 | .rptr cs => K (.rptr cs)
 | .agg cs => K (.agg cs)
 | .tup cs => K (.tup cs)
 | .fn f cs => K (.fn f cs)
 | .io i len k => K (.io i len k)
 | .pio i k => K (.pio i k)
 | .junk => K .junk
theorem eL7 {K : AV → Prop} {x : AV} (h : frc K x) : K x := by cases x <;> exact h
def FT7 (k k' : IntKind) (r : Int) (K : Value → Prop) : Prop := match decEq k k' with
 | isTrue _ => ∃ n, k.wrap r = n ∧ K (.int k n)
 | isFalse _ => False
def Bx7 (k k' : IntKind) (r : Bool) (K : Value → Prop) : Prop := match decEq k k' with
 | isTrue _ => ∃ p, r = p ∧ K (.bool p)
 | isFalse _ => False
def ML7 (op : BinOp) (a b : Value) (K : Value → Prop) : Prop := match op, a, b with
 | .add, .int k a, .int k' b => FT7 k k' (a + b) K
 | .sub, .int k a, .int k' b => FT7 k k' (a - b) K
 | .mul, .int k a, .int k' b => FT7 k k' (a * b) K
 | .eql, .int k a, .int k' b => Bx7 k k' (a == b) K
 | .neq, .int k a, .int k' b => Bx7 k k' (a != b) K
 | .lss, .int k a, .int k' b => Bx7 k k' (decide (a < b)) K
 | .leq, .int k a, .int k' b => Bx7 k k' (decide (a ≤ b)) K
 | .gtr, .int k a, .int k' b => Bx7 k k' (decide (a > b)) K
 | .geq, .int k a, .int k' b => Bx7 k k' (decide (a ≥ b)) K
 | op, a, b => ∃ v, rX7 op a b = some v ∧ K v
theorem vf7 {k k' : IntKind} {r : Int} {K : Value → Prop} (h : FT7 k k' r K) : k = k' ∧ K (.int k (k.wrap r)) := by
 unfold FT7 at h
 split at h
 ·rename_i e _
  obtain ⟨n, rfl, h⟩ := h
  exact ⟨e, h⟩
 ·exact h.elim
theorem vg7 {k k' : IntKind} {r : Bool} {K : Value → Prop} (h : Bx7 k k' r K) : k = k' ∧ K (.bool r) := by
 unfold Bx7 at h
 split at h
 ·rename_i e _
  obtain ⟨n, rfl, h⟩ := h
  exact ⟨e, h⟩
 ·exact h.elim
theorem vh7 {op : BinOp} {a b : Value} {K : Value → Prop} (h : ML7 op a b K) : ∃ v, rX7 op a b = some v ∧ K v := by
 unfold ML7 at h
 split at h <;> first
  | (have h' := vf7 h; obtain ⟨e, h2⟩ := h'; subst e; refine ⟨_, ?_, h2⟩; simp [rX7]; done)
  | (have h' := vg7 h; obtain ⟨e, h2⟩ := h'; subst e; refine ⟨_, ?_, h2⟩; simp [rX7, bne]; done)
  | exact h
def MM7 (t : Tm) : List (Nat × Nat × Od) → List AV → (List AV → Prop) → Prop
 | [], cs, K => K cs
 | (off, sz, x) :: ps, cs, K => ((g37 (ev t x)).length = sz ∧ off + sz ≤ cs.length ∧ (g37 (ev t x)).all ga7 = true) ∧ MM7 t ps (bL7 cs off (g37 (ev t x))) K
theorem m87 {t : Tm} : ∀ {ps : List (Nat × Nat × Od)} {cs : List AV} {K : List AV → Prop}, MM7 t ps cs K → ∃ xs, bld t ps cs = some xs ∧ K xs
 | [], cs, K, h => ⟨cs, rfl, h⟩
 | (off, sz, x) :: ps, cs, K, h => by
  obtain ⟨h1, h2⟩ := h
  simp only [bld]
  rw [if_pos h1]
  exact m87 h2
def vop (t : Tm) (op : Opx) (K : AV → Prop) : Prop := match op with
 | .mv x => frc K (ev t x)
 | .nilck x => match ev t x with
  | .ptr n b k r c => K (.ptr n b k r c)
  | .rptr cs => K (.rptr cs)
  | _ => False
 | .bin op x y => match ev t x, ev t y with
  | .v a, .v b => ML7 op a b fun r => K (.v r)
  | _, _ => False
 | .eqs neg agg ks x y => ∃ p q, Fq7 agg ks (ev t x) (ev t y) = some p ∧ (if neg then !p else p) = q ∧ K (.v (.bool q))
 | .un op x => match op, ev t x with
  | .not, .v (.bool b) => ∃ p, (!b) = p ∧ K (.v (.bool p))
  | .neg, .v (.int k n) => ∃ m, k.wrap (0 - n) = m ∧ K (.v (.int k m))
  | _, _ => False
 | .conv k x => match ev t x with
  | .v (.int _ n) => ∃ m, k.wrap n = m ∧ K (.v (.int k m))
  | _ => False
 | .len s x => match s, ev t x with
  | true, .v (.string s) => ∃ n : Nat, s.size = n ∧ K (.v (.int .i64 n))
  | false, .ro rows => ∃ n : Nat, rows.length = n ∧ K (.v (.int .i64 n))
  | false, .raw _ _ rows => ∃ n : Nat, rows.length = n ∧ K (.v (.int .i64 n))
  | false, .nil => K (.v (.int .i64 0))
  | false, .ref _ _ _ _ len _ => K (.v (.int .i64 len))
  | _, _ => False
 | .iaddr e x i => match ev t x, ev t i with
  | .ro rows, .v (.int _ i) => ∃ (j : Nat) (row : List T), i = (j : Int) ∧ rows[j]? = some row ∧ row.length = e ∧ K (.rptr row)
  | .ref n b cap off len k, .v (.int _ i) => ∃ j : Nat, i = (j : Int) ∧ j < len ∧ e = esz k ∧ K (.ptr n b k (off + j) 0)
  | _, _ => False
 | .faddr off x => match ev t x with
  | .rptr cs => K (.rptr (cs.drop off))
  | .ptr n b k r c => K (.ptr n b k r (c + off))
  | _ => False
 | .fld off sz agg x => match ev t x with
  | .agg cs => off + sz ≤ cs.length ∧ ∃ y, one agg ((cs.drop off).take sz) = some y ∧ frc K y
  | _ => False
 | .sidx x i => match ev t x, ev t i with
  | .v (.string s), .v (.int _ i) => ∃ (j : Nat) (c : UInt8), i = (j : Int) ∧ s.data.toList[j]? = some c ∧ K (.v (.int .u8 c.toNat))
  | _, _ => False
 | .mxi x y => match ev t x, ev t y with
  | .v (.int k a), .v (.int k' b) => decide (k = k') = true ∧ ∃ m, max a b = m ∧ K (.v (.int k m))
  | _, _ => False
 | .load sz agg p => match ev t p with
  | .rptr cs => sz ≤ cs.length ∧ ∃ y, (me7 (cs.take sz)).bind (one agg) = some y ∧ frc K y
  | _ => False
 | .build z ps => MM7 t ps z fun cs => K (.agg cs)
 | .mkf f xs => K (.fn f (xs.map (ev t)))
 | .ext x i => match ev t x with
  | .tup cs => ∃ y, cs[i]? = some y ∧ frc K y
  | _ => False
 | op => ∃ x, evp t op = some x ∧ K x
theorem lb7 {t : Tm} {op : Opx} {K : AV → Prop} (h : vop t op K) : ∃ x, evp t op = some x ∧ K x := by
 cases op with
 | mv x => exact ⟨_, rfl, eL7 h⟩
 | nilck x =>
  simp only [vop] at h
  simp only [evp]
  split at h
  ·rename_i hx; rw [hx]; exact ⟨_, rfl, h⟩
  ·rename_i hx; rw [hx]; exact ⟨_, rfl, h⟩
  ·exact h.elim
 | bin op x y =>
  simp only [vop] at h
  simp only [evp]
  split at h
  ·rename_i hx hy
   obtain ⟨v, h1, h2⟩ := vh7 h
   rw [hx, hy]
   exact ⟨.v v, by simp only [h1, Option.map_some], h2⟩
  ·exact h.elim
 | eqs neg agg ks x y =>
  obtain ⟨p, q, h1, rfl, h2⟩ := h
  simp only [evp]
  exact ⟨_, by rw [h1]; rfl, h2⟩
 | un op x =>
  simp only [vop] at h
  simp only [evp]
  split at h
  ·rename_i b hx
   obtain ⟨p, rfl, h⟩ := h
   rw [hx]
   exact ⟨_, rfl, h⟩
  ·rename_i k n hx
   obtain ⟨p, rfl, h⟩ := h
   rw [hx]
   exact ⟨_, rfl, h⟩
  ·exact h.elim
 | mxi x y =>
  simp only [vop] at h
  simp only [evp]
  split at h
  ·rename_i k a k' b hx hy
   obtain ⟨h1, m, rfl, h⟩ := h
   have e := of_decide_eq_true h1
   subst e
   rw [hx, hy]
   exact ⟨.v (.int k (max a b)), by simp only [if_true], h⟩
  ·exact h.elim
 | conv k x =>
  simp only [vop] at h
  simp only [evp]
  split at h
  ·rename_i k' n hx
   obtain ⟨m, rfl, h⟩ := h
   rw [hx]
   exact ⟨_, rfl, h⟩
  ·exact h.elim
 | len s x =>
  simp only [vop] at h
  simp only [evp]
  split at h
  ·rename_i hx
   obtain ⟨n, rfl, h⟩ := h
   rw [hx]
   exact ⟨_, rfl, h⟩
  ·rename_i hx
   obtain ⟨n, rfl, h⟩ := h
   rw [hx]
   exact ⟨_, rfl, h⟩
  ·rename_i hx
   obtain ⟨n, rfl, h⟩ := h
   rw [hx]
   exact ⟨_, rfl, h⟩
  ·rename_i hx
   rw [hx]
   exact ⟨_, rfl, h⟩
  ·rename_i hx
   rw [hx]
   exact ⟨_, rfl, h⟩
  ·exact h.elim
 | iaddr e x i =>
  simp only [vop] at h
  simp only [evp]
  split at h
  ·rename_i rows k i hx hi
   obtain ⟨j, row, rfl, h1, h2, h3⟩ := h
   rw [hx, hi]
   simp only [asI]
   have hj := (List.getElem?_eq_some_iff.1 h1).1
   have hg : rows.getD j [] = row := by simp [List.getD_eq_getElem?_getD, h1]
   simp only [Int.toNat_natCast, hg]
   rw [if_pos ⟨by omega, hj, h2⟩]
   exact ⟨_, rfl, h3⟩
  ·rename_i n b cap off len k k' i hx hi
   obtain ⟨j, rfl, h1, h2, h3⟩ := h
   rw [hx, hi]
   simp only [asI]
   rw [if_pos ⟨by omega, by simpa using h1, h2⟩]
   exact ⟨_, rfl, by simpa using h3⟩
  ·exact h.elim
 | faddr off x =>
  simp only [vop] at h
  simp only [evp]
  split at h
  ·rename_i hx; rw [hx]; exact ⟨_, rfl, h⟩
  ·rename_i hx; rw [hx]; exact ⟨_, rfl, h⟩
  ·exact h.elim
 | fld off sz agg x =>
  simp only [vop] at h
  simp only [evp]
  split at h
  ·rename_i hx
   obtain ⟨h1, y, h2, h3⟩ := h
   rw [hx]
   simp only
   rw [if_pos h1]
   exact ⟨y, h2, eL7 h3⟩
  ·exact h.elim
 | sidx x i =>
  simp only [vop] at h
  simp only [evp]
  split at h
  ·rename_i s k i hx hi
   obtain ⟨j, c, rfl, h1, h2⟩ := h
   rw [hx, hi]
   simp only [asI]
   obtain ⟨hj, hc⟩ := List.getElem?_eq_some_iff.1 h1
   have hj' : j < s.size := by simpa using hj
   simp only [Int.toNat_natCast, hj', dif_pos]
   rw [if_pos (by omega)]
   have : s[j] = c := by
    rw [← hc]
    rfl
   exact ⟨_, rfl, by rw [this]; exact h2⟩
  ·exact h.elim
 | load sz agg p =>
  simp only [vop] at h
  simp only [evp]
  split at h
  ·rename_i hx
   obtain ⟨h1, y, h2, h3⟩ := h
   rw [hx]
   simp only
   rw [if_pos h1]
   exact ⟨y, h2, eL7 h3⟩
  ·exact h.elim
 | build z ps =>
  obtain ⟨xs, h1, h2⟩ := m87 h
  simp only [evp]
  exact ⟨_, by rw [h1]; rfl, h2⟩
 | mkf f xs => exact ⟨_, rfl, h⟩
 | ext x i =>
  simp only [vop] at h
  simp only [evp]
  split at h
  ·rename_i hx
   obtain ⟨y, h1, h2⟩ := h
   rw [hx]
   exact ⟨y, h1, eL7 h2⟩
  ·exact h.elim
 | _ => exact h
@[irreducible] def pG7 (p : Bool) (A B : Prop) : Prop := (p = true → A) ∧ (p = false → B)
theorem oa7 {p : Bool} {A B : Prop} (h1 : p = true → A) (h2 : p = false → B) : pG7 p A B := by
 unfold pG7
 exact ⟨h1, h2⟩
theorem Cy7 {A B : Prop} (h : A) : pG7 true A B := oa7 (fun _ => h) (fun h => by cases h)
theorem Cz7 {A B : Prop} (h : B) : pG7 false A B := oa7 (fun h => by cases h) (fun _ => h)
theorem tr7 {p : Bool} {A B : Prop} (h : pG7 p A B) : (p = true → A) ∧ (p = false → B) := by
 unfold pG7 at h
 exact h
theorem PQ7 {a b : Bool} (h1 : a = true) (h2 : b = true) : (a && b) = true := by rw [h1, h2]; rfl
def wJ7 (t : Tm) (g : Option (Nat × Bool)) (A B : Prop) : Prop := match g with
 | none => A
 | some (g, b) => match t g with
  | .v (.bool p) => pG7 (p == b) A B
  | .v (.tuple _) => B
  | _ => False
def hOp : Opx → Bool
 | .store .. | .box .. | .alloc .. | .mks .. | .lit .. | .app .. | .call .. | .calld .. | .bytes .. | .frz .. | .ren .. | .shut .. | .ldr .. | .rawl .. | .unr .. | .pfz .. | .trn .. | .slx .. | .ain .. | .clr .. | .mnew .. | .mset .. | .mget .. | .opa .. | .cla .. => true
 | _ => false
def cB7 : Option Nat → Nat
 | some d => d
 | none => 0
def dP7 (G : Gam) (d : Option Nat) (op : Opx) (t : Tm) (o : ah7) (K : St → a57 → Prop) : Prop := ∀ ch, (aq7 G (cB7 d) ch t op).vp o fun x o' l => K ⟨aA7 t d x, o'⟩ l
def vdo (G : Gam) (d : Option Nat) (op : Opx) (t : Tm) (o : ah7) (K : St → a57 → Prop) : Prop := match op with
 | .load sz agg p => match ev t p with
  | .ptr .. => dP7 G d (.load sz agg p) t o K
  | _ => vop t (.load sz agg p) fun x => K ⟨aA7 t d x, o⟩ ([], [])
 | op => match hOp op with
  | true => dP7 G d op t o K
  | false => vop t op fun x => K ⟨aA7 t d x, o⟩ ([], [])
def f37 (G : Gam) : IOp → St → (St → a57 → Prop) → Prop
 | ⟨d, op, g⟩, ⟨t, o⟩, K => wJ7 t g (vdo G d op t o K) (K ⟨aA7 t d unv, o⟩ ([], []))
theorem CA7 (d : Option Nat) : cB7 d = d.getD 0 := by cases d <;> rfl
theorem ht7 {G : Gam} {d : Option Nat} {op : Opx} {g : Option (Nat × Bool)} {t : Tm} {o : ah7} {K : St → a57 → Prop} (h : dP7 G d op t o K) : Cg7 G ⟨d, op, g⟩ ⟨t, o⟩ K := fun ch => by
 obtain ⟨a, o', h1, h2⟩ := HM.vp_sound _ (h ch)
 rw [CA7] at h1 h2
 rw [h1]
 exact h2
theorem pH7 {G : Gam} {d : Option Nat} {op : Opx} {g : Option (Nat × Bool)} {t : Tm} {o : ah7} {K : St → a57 → Prop} (h : vdo G d op t o K) : match evp t op with
  | some x => K ⟨aA7 t d x, o⟩ ([], [])
  | none => Cg7 G ⟨d, op, g⟩ ⟨t, o⟩ K := by
 have pur : (vop t op fun x => K ⟨aA7 t d x, o⟩ ([], [])) → match evp t op with
  | some x => K ⟨aA7 t d x, o⟩ ([], [])
  | none => Cg7 G ⟨d, op, g⟩ ⟨t, o⟩ K := fun h => by
  obtain ⟨x, h1, h2⟩ := lb7 h
  rw [h1]
  exact h2
 unfold vdo at h
 split at h
 ·rename_i sz agg p
  split at h
  ·rename_i n b k r c hp
   have : evp t (.load sz agg p) = none := by simp only [evp, hp]
   rw [this]
   exact ht7 h
  ·exact pur h
 ·split at h
  ·rename_i hh
   have : evp t op = none := by
    cases op <;> first | rfl | (cases hh)
   rw [this]
   exact ht7 h
  ·exact pur h
theorem gN7 {G : Gam} {op : IOp} {s : St} {K : St → a57 → Prop} (h : f37 G op s K) : y07 G op s K := by
 obtain ⟨d, op, g⟩ := op
 obtain ⟨t, o⟩ := s
 unfold y07 gb7
 cases g with
 | none => exact pH7 (g := none) h
 | some p =>
  obtain ⟨g, b⟩ := p
  simp only [f37, wJ7] at h
  simp only
  split at h
  ·rename_i p hp
   simp only [hp]
   have h' := tr7 h
   cases hb : (p == b) with
   | true => exact pH7 (h'.1 hb)
   | false => exact h'.2 hb
  ·rename_i x hp
   simp only [hp]
   exact h
  ·exact h.elim
def c27 (G : Gam) : List IOp → (St → Prop) → St → Prop
 | [], K, s => K s
 | op :: ops, K, s => f37 G op s fun s' _ => c27 G ops K s'
def bH7 (G : Gam) (inc : List (Nat × Nat)) : List IOp → List a57 → (St → Prop) → St → Prop
 | [], L, K, s => mI7 inc L = true ∧ K s
 | op :: ops, L, K, s => f37 G op s fun s' l => bH7 G inc ops (L ++ [l]) K s'
theorem hu7 {G : Gam} {op : IOp} {s : St} {K : St → Prop} (h : y07 G op s fun s' _ => K s') : stp G op s K := h
theorem hY7 {G : Gam} {op : IOp} {s : St} {K K' : St → a57 → Prop} (hk : ∀ s l, K s l → K' s l) (h : y07 G op s K) : y07 G op s K' := by
 unfold y07 at *
 split
 ·rename_i hw
  rw [hw] at h
  simp only at h
  split
  ·rename_i x hx
   rw [hx] at h
   exact hk _ _ h
  ·rename_i hx
   rw [hx] at h
   intro ch
   have := h ch
   split
   ·rename_i hr
    rw [hr] at this
    exact hk _ _ this
   ·rename_i hr
    rw [hr] at this
    exact this
 ·rename_i hw
  rw [hw] at h
  exact hk _ _ h
 ·rename_i hw
  rw [hw] at h
  exact h
theorem lc7 {G : Gam} : ∀ {ops : List IOp} {K : St → Prop} {s : St}, c27 G ops K s → pa7 G ops K s
 | [], K, s, h => h
 | op :: ops, K, s, h => hu7 (hY7 (fun s l hs => lc7 hs) (gN7 h))
theorem jK7 {G : Gam} {inc : List (Nat × Nat)} : ∀ {ops : List IOp} {L : List a57} {K : St → Prop} {s : St}, bH7 G inc ops L K s → f27 G inc ops L K s
 | [], L, K, s, h => h
 | op :: ops, L, K, s, h => hY7 (fun s l hs => jK7 hs) (gN7 h)
theorem pI7 {G : Gam} : ∀ {ops : List IOp} {K K' : St → Prop} {s : St}, (∀ s, K s → K' s) → pa7 G ops K s → pa7 G ops K' s
 | [], K, K', s, hk, h => hk _ h
 | op :: ops, K, K', s, hk, h => hu7 (hY7 (K := fun s' _ => pa7 G ops K s') (fun s l hs => pI7 hk hs) h)
theorem m97 {G : Gam} {inc : List (Nat × Nat)} : ∀ {ops : List IOp} {L : List a57} {K K' : St → Prop} {s : St}, (∀ s, K s → K' s) → f27 G inc ops L K s → f27 G inc ops L K' s
 | [], L, K, K', s, hk, h => ⟨h.1, hk _ h.2⟩
 | op :: ops, L, K, K', s, hk, h => hY7 (fun s l hs => m97 hk hs) h
theorem da7 {G : Gam} : ∀ {c : IC} {Q Q' : Ex → St → Prop} {s : St}, (∀ e s, Q e s → Q' e s) → awp G c Q s → awp G c Q' s
 | .skip, Q, Q', s, hq, h => hq _ _ h
 | .reg ops, Q, Q', s, hq, h => pI7 (fun s hs => hq _ _ hs) h
 | .drw ops inc, Q, Q', s, hq, h => m97 (fun s hs => hq _ _ hs) h
 | .seq a b, Q, Q', s, hq, h => da7 (c := a) (fun e s hs => by
   cases e with
   | norm => exact da7 (c := b) hq hs
   | exit i => exact hq _ _ hs
   | ret => exact hq _ _ hs) h
 | .cond c a b, Q, Q', s, hq, h => by
  simp only [awp] at h ⊢
  split at h
  ·rename_i p hp
   cases p
   ·exact da7 (c := b) hq h
   ·exact da7 (c := a) hq h
  ·exact h.elim
 | .block id a, Q, Q', s, hq, h => da7 (c := a) (fun e s hs => by
   cases e with
   | norm => exact hq _ _ hs
   | exit i =>
    simp only at hs ⊢
    split
    ·rename_i hi; rw [if_pos hi] at hs; exact hq _ _ hs
    ·rename_i hi; rw [if_neg hi] at hs; exact hq _ _ hs
   | ret => exact hq _ _ hs) h
 | .loop a, Q, Q', s, hq, h => by
  obtain ⟨I, h0, h1⟩ := h
  exact ⟨I, h0, fun n s' hi => da7 (c := a) (fun e s hs => by
   cases e with
   | norm => exact hs
   | exit i => exact hq _ _ hs
   | ret => exact hq _ _ hs) (h1 n s' hi)⟩
 | .exit id, Q, Q', s, hq, h => hq _ _ h
 | .ret, Q, Q', s, hq, h => hq _ _ h
 | .ghost cl dr, Q, Q', s, hq, h => by
  simp only [awp] at h ⊢
  split at h
  ·exact hq _ _ h
  ·exact h
def vwp (G : Gam) : IC → (Ex → St → Prop) → St → Prop
 | .skip, Q, s => Q .norm s
 | .reg ops, Q, s => c27 G ops (Q .norm) s
 | .drw ops inc, Q, s => bH7 G inc ops [] (Q .norm) s
 | .seq a b, Q, s => ∃ P : St → Prop, vwp G a (fun e s' => match e with | .norm => P s' | .exit i => Q (.exit i) s' | .ret => Q .ret s') s ∧ ∀ s', P s' → vwp G b Q s'
 | .cond c a b, Q, ⟨t, o⟩ => match ev t c with
  | .v (.bool p) => pG7 p (vwp G a Q ⟨t, o⟩) (vwp G b Q ⟨t, o⟩)
  | _ => False
 | .block id a, Q, s => ∃ P : St → Prop, vwp G a (fun e s' => match e with | .exit i => (match decEq i id with | isTrue _ => P s' | isFalse _ => Q (.exit i) s') | .norm => P s' | .ret => Q .ret s') s ∧ ∀ s', P s' → Q .norm s'
 | .loop a, Q, s => ∃ I : Nat → St → Prop, (∃ n, I n s) ∧ ∀ n s', I n s' → vwp G a (fun e s'' => match e with | .norm => ∃ m, m < n ∧ I m s'' | .exit i => Q (.exit i) s'' | .ret => Q .ret s'') s'
 | .exit id, Q, s => Q (.exit id) s
 | .ret, Q, s => Q .ret s
 | .ghost cl dr, Q, s => False
theorem dQ7 {G : Gam} : ∀ {c : IC} {Q : Ex → St → Prop} {s : St}, vwp G c Q s → awp G c Q s
 | .skip, Q, s, h => h
 | .reg ops, Q, s, h => lc7 h
 | .drw ops inc, Q, s, h => jK7 h
 | .seq a b, Q, s, ⟨P, h, hP⟩ => da7 (c := a) (fun e s hs => by
   cases e with
   | norm => exact dQ7 (c := b) (hP _ hs)
   | exit i => exact hs
   | ret => exact hs) (dQ7 (c := a) h)
 | .cond c a b, Q, s, h => by
  simp only [vwp] at h
  simp only [awp]
  split at h
  ·rename_i p hp
   rw [hp]
   have h' := tr7 h
   cases p
   ·exact dQ7 (c := b) (h'.2 rfl)
   ·exact dQ7 (c := a) (h'.1 rfl)
  ·exact h.elim
 | .block id a, Q, s, ⟨P, h, hP⟩ => da7 (c := a) (fun e s hs => by
   cases e with
   | norm => exact hP _ hs
   | exit i =>
    simp only at hs ⊢
    split at hs
    ·rename_i hi _; rw [if_pos hi]; exact hP _ hs
    ·rename_i hi _; rw [if_neg hi]; exact hs
   | ret => exact hs) (dQ7 (c := a) h)
 | .loop a, Q, s, h => by
  obtain ⟨I, h0, h1⟩ := h
  exact ⟨I, h0, fun n s' hi => da7 (c := a) (fun e s hs => by
   cases e with
   | norm => exact hs
   | exit i => exact hs
   | ret => exact hs) (dQ7 (c := a) (h1 n s' hi))⟩
 | .exit id, Q, s, h => h
 | .ret, Q, s, h => h
 | .ghost cl dr, Q, s, h => h.elim
def jL7 (f : IFn) (ks : List (List (Option Nat))) (bs : Nat → Option Nat × Nat) (ins : List (Bool × Nat × Rows)) (a : Ans) : St → Prop
 | ⟨t, o⟩ => (do let os ← kH7 bs f.lc 0 ins a.outs; let r ← ds7 t f.res ks; HM.ret (r, os) : HM (List (Bool × List T) × List (Option Rows))).vp o fun x _ _ => x.1 = a.res ∧ x.2 = a.outs
theorem i87 {f : IFn} {ks : List (List (Option Nat))} {bs : Nat → Option Nat × Nat} {ins : List (Bool × Nat × Rows)} {a : Ans} {s : St} (h : jL7 f ks bs ins a s) : uT7 f ks bs ins a s := by
 obtain ⟨x, o', h1, h2⟩ := HM.vp_sound _ h
 unfold uT7
 rw [h1]
 exact h2
def MN7 (G : Gam) (f : IFn) (ks : List (List (Option Nat))) (xs : List AV) (ins : List (Bool × Nat × Rows)) (a : Ans) : Prop :=
 ∀ bs : Nat → Option Nat × Nat, vwp G f.body (fun e s => match e with | .exit _ => False | .norm => jL7 f ks bs ins a s | .ret => jL7 f ks bs ins a s) ⟨uS7 bs xs, vN7 bs ins⟩
theorem MO7 {G : Gam} {f : IFn} {ks : List (List (Option Nat))} {xs : List AV} {ins : List (Bool × Nat × Rows)} {a : Ans} (h : MN7 G f ks xs ins a) : Bn7 G f ks xs ins a := fun bs =>
 da7 (c := f.body) (fun e s hs => by
  cases e with
  | norm => exact i87 hs
  | ret => exact i87 hs
  | exit i => exact hs) (dQ7 (h bs))
end Go.Proofs.AM
