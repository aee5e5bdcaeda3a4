/- A part of the proof of 'FnExactPackSizeSaid' (V): lemmas on an abstract machine for the program's functions. Conditions: none. -/
import Derived.Test.YthimhbjbpeheoaaHOps
set_option linter.unusedVariables false
set_option linter.unusedSimpArgs false
namespace Go.Proofs.AM
abbrev LogV := List Nat × List Nat
def frcL : List T → (List T → Prop) → Prop
  | [], K => K []
  | c :: cs, K => frcL cs fun cs' => K (c :: cs')
theorem frcL_sound : ∀ {cs : List T} {K : List T → Prop}, frcL cs K → K cs
  | [], K, h => h
  | c :: cs, K, h => frcL_sound (cs := cs) h
def frcE : Option Ent → (Option Ent → Prop) → Prop
  | none, K => K none
  | some ⟨b, cap, k, box, rows⟩, K => match box with
    | true => (match rows with
      | [row] => frcL row fun row' => K (some ⟨b, cap, k, true, [row']⟩)
      | rows => K (some ⟨b, cap, k, true, rows⟩))
    | false => K (some ⟨b, cap, k, false, rows⟩)
theorem frcE_sound : ∀ {e : Option Ent} {K : Option Ent → Prop}, frcE e K → K e
  | none, K, h => h
  | some ⟨b, cap, k, true, []⟩, K, h => h
  | some ⟨b, cap, k, true, [row]⟩, K, h => frcL_sound (cs := row) h
  | some ⟨b, cap, k, true, _ :: _ :: _⟩, K, h => h
  | some ⟨b, cap, k, false, rows⟩, K, h => h
def HM.vp {α : Type} : HM α → Heap → (α → Heap → LogV → Prop) → Prop
  | .ret a, o, K => K a o ([], [])
  | .get n k, o, K => match o n with
    | some e => (k e).vp o fun a o' l => K a o' (n :: l.1, l.2)
    | none => False
  | .put n e k, o, K => frcE e fun e' => k.vp (upd o n e') fun a o' l => K a o' (l.1, n :: l.2)
  | .need b k, o, K => b = true ∧ k.vp o K
  | .opt x k, o, K => ∃ a, x = some a ∧ (k a).vp o K
  | .fail, _, _ => False
theorem HM.vp_sound {α : Type} : ∀ (m : HM α) {o : Heap} {K : α → Heap → LogV → Prop}, m.vp o K → ∃ a o', m.run o = some (a, o') ∧ K a o' (m.log o)
  | .ret a, o, K, h => ⟨a, o, rfl, h⟩
  | .get n k, o, K, h => by
    simp only [HM.vp] at h
    simp only [HM.run, HM.log]
    split at h
    · rename_i e he
      obtain ⟨a, o', h1, h2⟩ := HM.vp_sound (k e) h
      rw [he]
      exact ⟨a, o', h1, h2⟩
    · exact h.elim
  | .put n e k, o, K, h => by
    obtain ⟨a, o', h1, h2⟩ := HM.vp_sound k (frcE_sound h)
    exact ⟨a, o', h1, h2⟩
  | .need b k, o, K, h => by
    simp only [HM.vp] at h
    obtain ⟨rfl, h⟩ := h
    obtain ⟨a, o', h1, h2⟩ := HM.vp_sound k h
    exact ⟨a, o', by simpa [HM.run] using h1, by simpa [HM.log] using h2⟩
  | .opt x k, o, K, ⟨a, hx, h⟩ => by
    subst hx
    obtain ⟨a, o', h1, h2⟩ := HM.vp_sound (k a) h
    exact ⟨a, o', h1, h2⟩
def frc (K : AV → Prop) : AV → Prop
  | .v x => K (.v x)
  | .ro r => K (.ro r)
  | .nil => K .nil
  | .ref n b cap off len k => K (.ref n b cap off len k)
  | .ptr n b k r c => K (.ptr n b k r c)
  | .rptr cs => K (.rptr cs)
  | .agg cs => K (.agg cs)
  | .tup cs => K (.tup cs)
  | .fn f cs => K (.fn f cs)
  | .io i len k => K (.io i len k)
  | .pio i k => K (.pio i k)
  | .junk => K .junk
theorem frc_sound {K : AV → Prop} {x : AV} (h : frc K x) : K x := by cases x <;> exact h
def vint (k k' : IntKind) (r : Int) (K : Value → Prop) : Prop := match decEq k k' with
  | isTrue _ => ∃ n, k.wrap r = n ∧ K (.int k n)
  | isFalse _ => False
def vcmp (k k' : IntKind) (r : Bool) (K : Value → Prop) : Prop := match decEq k k' with
  | isTrue _ => ∃ p, r = p ∧ K (.bool p)
  | isFalse _ => False
def vbin (op : BinOp) (a b : Value) (K : Value → Prop) : Prop := match op, a, b with
  | .add, .int k a, .int k' b => vint k k' (a + b) K
  | .sub, .int k a, .int k' b => vint k k' (a - b) K
  | .mul, .int k a, .int k' b => vint k k' (a * b) K
  | .eql, .int k a, .int k' b => vcmp k k' (a == b) K
  | .neq, .int k a, .int k' b => vcmp k k' (a != b) K
  | .lss, .int k a, .int k' b => vcmp k k' (decide (a < b)) K
  | .leq, .int k a, .int k' b => vcmp k k' (decide (a ≤ b)) K
  | .gtr, .int k a, .int k' b => vcmp k k' (decide (a > b)) K
  | .geq, .int k a, .int k' b => vcmp k k' (decide (a ≥ b)) K
  | op, a, b => ∃ v, pbin op a b = some v ∧ K v
theorem vint_sound {k k' : IntKind} {r : Int} {K : Value → Prop} (h : vint k k' r K) : k = k' ∧ K (.int k (k.wrap r)) := by
  unfold vint at h
  split at h
  · rename_i e _
    obtain ⟨n, rfl, h⟩ := h
    exact ⟨e, h⟩
  · exact h.elim
theorem vcmp_sound {k k' : IntKind} {r : Bool} {K : Value → Prop} (h : vcmp k k' r K) : k = k' ∧ K (.bool r) := by
  unfold vcmp at h
  split at h
  · rename_i e _
    obtain ⟨n, rfl, h⟩ := h
    exact ⟨e, h⟩
  · exact h.elim
theorem vbin_sound {op : BinOp} {a b : Value} {K : Value → Prop} (h : vbin op a b K) : ∃ v, pbin op a b = some v ∧ K v := by
  unfold vbin at h
  split at h <;> first
    | (have h' := vint_sound h; obtain ⟨e, h2⟩ := h'; subst e; refine ⟨_, ?_, h2⟩; simp [pbin]; done)
    | (have h' := vcmp_sound h; obtain ⟨e, h2⟩ := h'; subst e; refine ⟨_, ?_, h2⟩; simp [pbin, bne]; done)
    | exact h
def vbld (t : Tm) : List (Nat × Nat × Od) → List AV → (List AV → Prop) → Prop
  | [], cs, K => K cs
  | (off, sz, x) :: ps, cs, K => ((flat (ev t x)).length = sz ∧ off + sz ≤ cs.length ∧ (flat (ev t x)).all isCell = true) ∧ vbld t ps (setAt cs off (flat (ev t x))) K
theorem vbld_sound {t : Tm} : ∀ {ps : List (Nat × Nat × Od)} {cs : List AV} {K : List AV → Prop}, vbld t ps cs K → ∃ xs, bld t ps cs = some xs ∧ K xs
  | [], cs, K, h => ⟨cs, rfl, h⟩
  | (off, sz, x) :: ps, cs, K, h => by
    obtain ⟨h1, h2⟩ := h
    simp only [bld]
    rw [if_pos h1]
    exact vbld_sound h2
def vop (t : Tm) (op : Opx) (K : AV → Prop) : Prop := match op with
  | .mv x => frc K (ev t x)
  | .nilck x => match ev t x with
    | .ptr n b k r c => K (.ptr n b k r c)
    | .rptr cs => K (.rptr cs)
    | _ => False
  | .bin op x y => match ev t x, ev t y with
    | .v a, .v b => vbin op a b fun r => K (.v r)
    | _, _ => False
  | .eqs neg agg ks x y => ∃ p q, eqAV agg ks (ev t x) (ev t y) = some p ∧ (if neg then !p else p) = q ∧ K (.v (.bool q))
  | .un op x => match op, ev t x with
    | .not, .v (.bool b) => ∃ p, (!b) = p ∧ K (.v (.bool p))
    | .neg, .v (.int k n) => ∃ m, k.wrap (0 - n) = m ∧ K (.v (.int k m))
    | _, _ => False
  | .conv k x => match ev t x with
    | .v (.int _ n) => ∃ m, k.wrap n = m ∧ K (.v (.int k m))
    | _ => False
  | .len s x => match s, ev t x with
    | true, .v (.string s) => ∃ n : Nat, s.size = n ∧ K (.v (.int .i64 n))
    | false, .ro rows => ∃ n : Nat, rows.length = n ∧ K (.v (.int .i64 n))
    | false, .nil => K (.v (.int .i64 0))
    | false, .ref _ _ _ _ len _ => K (.v (.int .i64 len))
    | _, _ => False
  | .iaddr e x i => match ev t x, ev t i with
    | .ro rows, .v (.int _ i) => ∃ (j : Nat) (row : List T), i = (j : Int) ∧ rows[j]? = some row ∧ row.length = e ∧ K (.rptr row)
    | .ref n b cap off len k, .v (.int _ i) => ∃ j : Nat, i = (j : Int) ∧ j < len ∧ e = esz k ∧ K (.ptr n b k (off + j) 0)
    | _, _ => False
  | .faddr off x => match ev t x with
    | .rptr cs => K (.rptr (cs.drop off))
    | .ptr n b k r c => K (.ptr n b k r (c + off))
    | _ => False
  | .fld off sz agg x => match ev t x with
    | .agg cs => off + sz ≤ cs.length ∧ ∃ y, one agg ((cs.drop off).take sz) = some y ∧ frc K y
    | _ => False
  | .sidx x i => match ev t x, ev t i with
    | .v (.string s), .v (.int _ i) => ∃ (j : Nat) (c : UInt8), i = (j : Int) ∧ s.data.toList[j]? = some c ∧ K (.v (.int .u8 c.toNat))
    | _, _ => False
  | .load sz agg p => match ev t p with
    | .rptr cs => sz ≤ cs.length ∧ ∃ y, (roAVs (cs.take sz)).bind (one agg) = some y ∧ frc K y
    | _ => False
  | .build z ps => vbld t ps z fun cs => K (.agg cs)
  | .mkf f xs => K (.fn f (xs.map (ev t)))
  | .ext x i => match ev t x with
    | .tup cs => ∃ y, cs[i]? = some y ∧ frc K y
    | _ => False
  | op => ∃ x, evp t op = some x ∧ K x
theorem vop_sound {t : Tm} {op : Opx} {K : AV → Prop} (h : vop t op K) : ∃ x, evp t op = some x ∧ K x := by
  cases op with
  | mv x => exact ⟨_, rfl, frc_sound h⟩
  | nilck x =>
    simp only [vop] at h
    simp only [evp]
    split at h
    · rename_i hx; rw [hx]; exact ⟨_, rfl, h⟩
    · rename_i hx; rw [hx]; exact ⟨_, rfl, h⟩
    · exact h.elim
  | bin op x y =>
    simp only [vop] at h
    simp only [evp]
    split at h
    · rename_i hx hy
      obtain ⟨v, h1, h2⟩ := vbin_sound h
      rw [hx, hy]
      exact ⟨.v v, by simp only [h1, Option.map_some], h2⟩
    · exact h.elim
  | eqs neg agg ks x y =>
    obtain ⟨p, q, h1, rfl, h2⟩ := h
    simp only [evp]
    exact ⟨_, by rw [h1]; rfl, h2⟩
  | un op x =>
    simp only [vop] at h
    simp only [evp]
    split at h
    · rename_i b hx
      obtain ⟨p, rfl, h⟩ := h
      rw [hx]
      exact ⟨_, rfl, h⟩
    · rename_i k n hx
      obtain ⟨p, rfl, h⟩ := h
      rw [hx]
      exact ⟨_, rfl, h⟩
    · exact h.elim
  | conv k x =>
    simp only [vop] at h
    simp only [evp]
    split at h
    · rename_i k' n hx
      obtain ⟨m, rfl, h⟩ := h
      rw [hx]
      exact ⟨_, rfl, h⟩
    · exact h.elim
  | len s x =>
    simp only [vop] at h
    simp only [evp]
    split at h
    · rename_i hx
      obtain ⟨n, rfl, h⟩ := h
      rw [hx]
      exact ⟨_, rfl, h⟩
    · rename_i hx
      obtain ⟨n, rfl, h⟩ := h
      rw [hx]
      exact ⟨_, rfl, h⟩
    · rename_i hx
      rw [hx]
      exact ⟨_, rfl, h⟩
    · rename_i hx
      rw [hx]
      exact ⟨_, rfl, h⟩
    · exact h.elim
  | iaddr e x i =>
    simp only [vop] at h
    simp only [evp]
    split at h
    · rename_i rows k i hx hi
      obtain ⟨j, row, rfl, h1, h2, h3⟩ := h
      rw [hx, hi]
      simp only [asI]
      have hj := (List.getElem?_eq_some_iff.1 h1).1
      have hg : rows.getD j [] = row := by simp [List.getD_eq_getElem?_getD, h1]
      simp only [Int.toNat_natCast, hg]
      rw [if_pos ⟨by omega, hj, h2⟩]
      exact ⟨_, rfl, h3⟩
    · rename_i n b cap off len k k' i hx hi
      obtain ⟨j, rfl, h1, h2, h3⟩ := h
      rw [hx, hi]
      simp only [asI]
      rw [if_pos ⟨by omega, by simpa using h1, h2⟩]
      exact ⟨_, rfl, by simpa using h3⟩
    · exact h.elim
  | faddr off x =>
    simp only [vop] at h
    simp only [evp]
    split at h
    · rename_i hx; rw [hx]; exact ⟨_, rfl, h⟩
    · rename_i hx; rw [hx]; exact ⟨_, rfl, h⟩
    · exact h.elim
  | fld off sz agg x =>
    simp only [vop] at h
    simp only [evp]
    split at h
    · rename_i hx
      obtain ⟨h1, y, h2, h3⟩ := h
      rw [hx]
      simp only
      rw [if_pos h1]
      exact ⟨y, h2, frc_sound h3⟩
    · exact h.elim
  | sidx x i =>
    simp only [vop] at h
    simp only [evp]
    split at h
    · rename_i s k i hx hi
      obtain ⟨j, c, rfl, h1, h2⟩ := h
      rw [hx, hi]
      simp only [asI]
      obtain ⟨hj, hc⟩ := List.getElem?_eq_some_iff.1 h1
      have hj' : j < s.size := by simpa using hj
      simp only [Int.toNat_natCast, hj', dif_pos]
      rw [if_pos (by omega)]
      have : s[j] = c := by
        rw [← hc]
        rfl
      exact ⟨_, rfl, by rw [this]; exact h2⟩
    · exact h.elim
  | load sz agg p =>
    simp only [vop] at h
    simp only [evp]
    split at h
    · rename_i hx
      obtain ⟨h1, y, h2, h3⟩ := h
      rw [hx]
      simp only
      rw [if_pos h1]
      exact ⟨y, h2, frc_sound h3⟩
    · exact h.elim
  | build z ps =>
    obtain ⟨xs, h1, h2⟩ := vbld_sound h
    simp only [evp]
    exact ⟨_, by rw [h1]; rfl, h2⟩
  | mkf f xs => exact ⟨_, rfl, h⟩
  | ext x i =>
    simp only [vop] at h
    simp only [evp]
    split at h
    · rename_i hx
      obtain ⟨y, h1, h2⟩ := h
      rw [hx]
      exact ⟨y, h1, frc_sound h2⟩
    · exact h.elim
  | _ => exact h
@[irreducible] def vcond (p : Bool) (A B : Prop) : Prop := (p = true → A) ∧ (p = false → B)
theorem vcond_mk {p : Bool} {A B : Prop} (h1 : p = true → A) (h2 : p = false → B) : vcond p A B := by
  unfold vcond
  exact ⟨h1, h2⟩
theorem vcond_t {A B : Prop} (h : A) : vcond true A B := vcond_mk (fun _ => h) (fun h => by cases h)
theorem vcond_f {A B : Prop} (h : B) : vcond false A B := vcond_mk (fun h => by cases h) (fun _ => h)
theorem vcond_at {p : Bool} {A B : Prop} (h : vcond p A B) : (p = true → A) ∧ (p = false → B) := by
  unfold vcond at h
  exact h
theorem band {a b : Bool} (h1 : a = true) (h2 : b = true) : (a && b) = true := by rw [h1, h2]; rfl
def vwant (t : Tm) (g : Option (Nat × Bool)) (A B : Prop) : Prop := match g with
  | none => A
  | some (g, b) => match t g with
    | .v (.bool p) => vcond (p == b) A B
    | .v (.tuple _) => B
    | _ => False
def hOp : Opx → Bool
  | .store .. | .box .. | .alloc .. | .mks .. | .lit .. | .app .. | .call .. | .calld .. | .frz .. | .ren .. => true
  | _ => false
def dstN : Option Nat → Nat
  | some d => d
  | none => 0
def vheap (G : Gam) (d : Option Nat) (op : Opx) (t : Tm) (o : Heap) (K : St → LogV → Prop) : Prop := ∀ ch, (opSem G (dstN d) ch t op).vp o fun x o' l => K ⟨updT t d x, o'⟩ l
def vdo (G : Gam) (d : Option Nat) (op : Opx) (t : Tm) (o : Heap) (K : St → LogV → Prop) : Prop := match op with
  | .load sz agg p => match ev t p with
    | .ptr .. => vheap G d (.load sz agg p) t o K
    | _ => vop t (.load sz agg p) fun x => K ⟨updT t d x, o⟩ ([], [])
  | op => match hOp op with
    | true => vheap G d op t o K
    | false => vop t op fun x => K ⟨updT t d x, o⟩ ([], [])
def vstp (G : Gam) : IOp → St → (St → LogV → Prop) → Prop
  | ⟨d, op, g⟩, ⟨t, o⟩, K => vwant t g (vdo G d op t o K) (K ⟨updT t d unv, o⟩ ([], []))
theorem dstN_eq (d : Option Nat) : dstN d = d.getD 0 := by cases d <;> rfl
theorem vheap_sound {G : Gam} {d : Option Nat} {op : Opx} {g : Option (Nat × Bool)} {t : Tm} {o : Heap} {K : St → LogV → Prop} (h : vheap G d op t o K) : stpH G ⟨d, op, g⟩ ⟨t, o⟩ K := fun ch => by
  obtain ⟨a, o', h1, h2⟩ := HM.vp_sound _ (h ch)
  rw [dstN_eq] at h1 h2
  rw [h1]
  exact h2
theorem vdo_sound {G : Gam} {d : Option Nat} {op : Opx} {g : Option (Nat × Bool)} {t : Tm} {o : Heap} {K : St → LogV → Prop} (h : vdo G d op t o K) : match evp t op with
    | some x => K ⟨updT t d x, o⟩ ([], [])
    | none => stpH G ⟨d, op, g⟩ ⟨t, o⟩ K := by
  have pur : (vop t op fun x => K ⟨updT t d x, o⟩ ([], [])) → match evp t op with
    | some x => K ⟨updT t d x, o⟩ ([], [])
    | none => stpH G ⟨d, op, g⟩ ⟨t, o⟩ K := fun h => by
    obtain ⟨x, h1, h2⟩ := vop_sound h
    rw [h1]
    exact h2
  unfold vdo at h
  split at h
  · rename_i sz agg p
    split at h
    · rename_i n b k r c hp
      have : evp t (.load sz agg p) = none := by simp only [evp, hp]
      rw [this]
      exact vheap_sound h
    · exact pur h
  · split at h
    · rename_i hh
      have : evp t op = none := by
        cases op <;> first | rfl | (cases hh)
      rw [this]
      exact vheap_sound h
    · exact pur h
theorem vstp_sound {G : Gam} {op : IOp} {s : St} {K : St → LogV → Prop} (h : vstp G op s K) : stpL G op s K := by
  obtain ⟨d, op, g⟩ := op
  obtain ⟨t, o⟩ := s
  unfold stpL wantd
  cases g with
  | none => exact vdo_sound (g := none) h
  | some p =>
    obtain ⟨g, b⟩ := p
    simp only [vstp, vwant] at h
    simp only
    split at h
    · rename_i p hp
      simp only [hp]
      have h' := vcond_at h
      cases hb : (p == b) with
      | true => exact vdo_sound (h'.1 hb)
      | false => exact h'.2 hb
    · rename_i x hp
      simp only [hp]
      exact h
    · exact h.elim
def vstps (G : Gam) : List IOp → (St → Prop) → St → Prop
  | [], K, s => K s
  | op :: ops, K, s => vstp G op s fun s' _ => vstps G ops K s'
def vstpLs (G : Gam) (inc : List (Nat × Nat)) : List IOp → List LogV → (St → Prop) → St → Prop
  | [], L, K, s => compat inc L = true ∧ K s
  | op :: ops, L, K, s => vstp G op s fun s' l => vstpLs G inc ops (L ++ [l]) K s'
theorem stp_of_stpL {G : Gam} {op : IOp} {s : St} {K : St → Prop} (h : stpL G op s fun s' _ => K s') : stp G op s K := h
theorem stpL_mono {G : Gam} {op : IOp} {s : St} {K K' : St → LogV → Prop} (hk : ∀ s l, K s l → K' s l) (h : stpL G op s K) : stpL G op s K' := by
  unfold stpL at *
  split
  · rename_i hw
    rw [hw] at h
    simp only at h
    split
    · rename_i x hx
      rw [hx] at h
      exact hk _ _ h
    · rename_i hx
      rw [hx] at h
      intro ch
      have := h ch
      split
      · rename_i hr
        rw [hr] at this
        exact hk _ _ this
      · rename_i hr
        rw [hr] at this
        exact this
  · rename_i hw
    rw [hw] at h
    exact hk _ _ h
  · rename_i hw
    rw [hw] at h
    exact h
theorem vstps_sound {G : Gam} : ∀ {ops : List IOp} {K : St → Prop} {s : St}, vstps G ops K s → stps G ops K s
  | [], K, s, h => h
  | op :: ops, K, s, h => stp_of_stpL (stpL_mono (fun s l hs => vstps_sound hs) (vstp_sound h))
theorem vstpLs_sound {G : Gam} {inc : List (Nat × Nat)} : ∀ {ops : List IOp} {L : List LogV} {K : St → Prop} {s : St}, vstpLs G inc ops L K s → stpLs G inc ops L K s
  | [], L, K, s, h => h
  | op :: ops, L, K, s, h => stpL_mono (fun s l hs => vstpLs_sound hs) (vstp_sound h)
theorem stps_mono {G : Gam} : ∀ {ops : List IOp} {K K' : St → Prop} {s : St}, (∀ s, K s → K' s) → stps G ops K s → stps G ops K' s
  | [], K, K', s, hk, h => hk _ h
  | op :: ops, K, K', s, hk, h => stp_of_stpL (stpL_mono (K := fun s' _ => stps G ops K s') (fun s l hs => stps_mono hk hs) h)
theorem stpLs_mono {G : Gam} {inc : List (Nat × Nat)} : ∀ {ops : List IOp} {L : List LogV} {K K' : St → Prop} {s : St}, (∀ s, K s → K' s) → stpLs G inc ops L K s → stpLs G inc ops L K' s
  | [], L, K, K', s, hk, h => ⟨h.1, hk _ h.2⟩
  | op :: ops, L, K, K', s, hk, h => stpL_mono (fun s l hs => stpLs_mono hk hs) h
theorem awp_mono {G : Gam} : ∀ {c : IC} {Q Q' : Ex → St → Prop} {s : St}, (∀ e s, Q e s → Q' e s) → awp G c Q s → awp G c Q' s
  | .skip, Q, Q', s, hq, h => hq _ _ h
  | .reg ops, Q, Q', s, hq, h => stps_mono (fun s hs => hq _ _ hs) h
  | .drw ops inc, Q, Q', s, hq, h => stpLs_mono (fun s hs => hq _ _ hs) h
  | .seq a b, Q, Q', s, hq, h => awp_mono (c := a) (fun e s hs => by
      cases e with
      | norm => exact awp_mono (c := b) hq hs
      | exit i => exact hq _ _ hs
      | ret => exact hq _ _ hs) h
  | .cond c a b, Q, Q', s, hq, h => by
    simp only [awp] at h ⊢
    split at h
    · rename_i p hp
      cases p
      · exact awp_mono (c := b) hq h
      · exact awp_mono (c := a) hq h
    · exact h.elim
  | .block id a, Q, Q', s, hq, h => awp_mono (c := a) (fun e s hs => by
      cases e with
      | norm => exact hq _ _ hs
      | exit i =>
        simp only at hs ⊢
        split
        · rename_i hi; rw [if_pos hi] at hs; exact hq _ _ hs
        · rename_i hi; rw [if_neg hi] at hs; exact hq _ _ hs
      | ret => exact hq _ _ hs) h
  | .loop a, Q, Q', s, hq, h => by
    obtain ⟨I, h0, h1⟩ := h
    exact ⟨I, h0, fun n s' hi => awp_mono (c := a) (fun e s hs => by
      cases e with
      | norm => exact hs
      | exit i => exact hq _ _ hs
      | ret => exact hq _ _ hs) (h1 n s' hi)⟩
  | .exit id, Q, Q', s, hq, h => hq _ _ h
  | .ret, Q, Q', s, hq, h => hq _ _ h
  | .ghost cl dr, Q, Q', s, hq, h => by
    simp only [awp] at h ⊢
    split at h
    · exact hq _ _ h
    · exact h
def vwp (G : Gam) : IC → (Ex → St → Prop) → St → Prop
  | .skip, Q, s => Q .norm s
  | .reg ops, Q, s => vstps G ops (Q .norm) s
  | .drw ops inc, Q, s => vstpLs G inc ops [] (Q .norm) s
  | .seq a b, Q, s => ∃ P : St → Prop, vwp G a (fun e s' => match e with | .norm => P s' | .exit i => Q (.exit i) s' | .ret => Q .ret s') s ∧ ∀ s', P s' → vwp G b Q s'
  | .cond c a b, Q, ⟨t, o⟩ => match ev t c with
    | .v (.bool p) => vcond p (vwp G a Q ⟨t, o⟩) (vwp G b Q ⟨t, o⟩)
    | _ => False
  | .block id a, Q, s => ∃ P : St → Prop, vwp G a (fun e s' => match e with | .exit i => (match decEq i id with | isTrue _ => P s' | isFalse _ => Q (.exit i) s') | .norm => P s' | .ret => Q .ret s') s ∧ ∀ s', P s' → Q .norm s'
  | .loop a, Q, s => ∃ I : Nat → St → Prop, (∃ n, I n s) ∧ ∀ n s', I n s' → vwp G a (fun e s'' => match e with | .norm => ∃ m, m < n ∧ I m s'' | .exit i => Q (.exit i) s'' | .ret => Q .ret s'') s'
  | .exit id, Q, s => Q (.exit id) s
  | .ret, Q, s => Q .ret s
  | .ghost cl dr, Q, s => False
theorem vwp_sound {G : Gam} : ∀ {c : IC} {Q : Ex → St → Prop} {s : St}, vwp G c Q s → awp G c Q s
  | .skip, Q, s, h => h
  | .reg ops, Q, s, h => vstps_sound h
  | .drw ops inc, Q, s, h => vstpLs_sound h
  | .seq a b, Q, s, ⟨P, h, hP⟩ => awp_mono (c := a) (fun e s hs => by
      cases e with
      | norm => exact vwp_sound (c := b) (hP _ hs)
      | exit i => exact hs
      | ret => exact hs) (vwp_sound (c := a) h)
  | .cond c a b, Q, s, h => by
    simp only [vwp] at h
    simp only [awp]
    split at h
    · rename_i p hp
      rw [hp]
      have h' := vcond_at h
      cases p
      · exact vwp_sound (c := b) (h'.2 rfl)
      · exact vwp_sound (c := a) (h'.1 rfl)
    · exact h.elim
  | .block id a, Q, s, ⟨P, h, hP⟩ => awp_mono (c := a) (fun e s hs => by
      cases e with
      | norm => exact hP _ hs
      | exit i =>
        simp only at hs ⊢
        split at hs
        · rename_i hi _; rw [if_pos hi]; exact hP _ hs
        · rename_i hi _; rw [if_neg hi]; exact hs
      | ret => exact hs) (vwp_sound (c := a) h)
  | .loop a, Q, s, h => by
    obtain ⟨I, h0, h1⟩ := h
    exact ⟨I, h0, fun n s' hi => awp_mono (c := a) (fun e s hs => by
      cases e with
      | norm => exact hs
      | exit i => exact hs
      | ret => exact hs) (vwp_sound (c := a) (h1 n s' hi))⟩
  | .exit id, Q, s, h => h
  | .ret, Q, s, h => h
  | .ghost cl dr, Q, s, h => h.elim
def vret (f : IFn) (ks : List (List (Option Nat))) (bs : Nat → Option Nat × Nat) (ins : List (Bool × Nat × Rows)) (a : Ans) : St → Prop
  | ⟨t, o⟩ => (do let os ← outsA bs 0 ins; let r ← resultsA t f.res ks; HM.ret (r, os) : HM (List (Bool × List T) × List Rows)).vp o fun x _ _ => x.1 = a.res ∧ x.2 = a.outs
theorem vret_sound {f : IFn} {ks : List (List (Option Nat))} {bs : Nat → Option Nat × Nat} {ins : List (Bool × Nat × Rows)} {a : Ans} {s : St} (h : vret f ks bs ins a s) : retOk f ks bs ins a s := by
  obtain ⟨x, o', h1, h2⟩ := HM.vp_sound _ h
  unfold retOk
  rw [h1]
  exact h2
def VDoes (G : Gam) (f : IFn) (ks : List (List (Option Nat))) (xs : List AV) (ins : List (Bool × Nat × Rows)) (a : Ans) : Prop :=
  ∀ bs : Nat → Option Nat × Nat, vwp G f.body (fun e s => match e with | .exit _ => False | .norm => vret f ks bs ins a s | .ret => vret f ks bs ins a s) ⟨parT bs xs, parH bs ins⟩
theorem vdoes {G : Gam} {f : IFn} {ks : List (List (Option Nat))} {xs : List AV} {ins : List (Bool × Nat × Rows)} {a : Ans} (h : VDoes G f ks xs ins a) : Does G f ks xs ins a := fun bs =>
  awp_mono (c := f.body) (fun e s hs => by
    cases e with
    | norm => exact vret_sound hs
    | ret => exact vret_sound hs
    | exit i => exact hs) (vwp_sound (h bs))
end Go.Proofs.AM
