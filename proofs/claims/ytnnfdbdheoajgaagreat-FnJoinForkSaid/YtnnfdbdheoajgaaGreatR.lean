/- Lemmas of the proof (R), on an abstract machine. Conditions: none. -/
import Derived.Test.YtnnfdbdheoajgaaGreatW
import Derived.Test.YtnnfdbdheoajgaaGreatE
set_option linter.unusedVariables false
namespace Go.Proofs.AM
theorem wA7 : ∀ {cs : List T} {K : List T → Prop}, K cs → Mj7 cs K
 | [], K, h => h
 | c :: cs, K, h => wA7 (cs := cs) h
theorem r57 : ∀ {e : Option Ent} {K : Option Ent → Prop}, K e → MT7 e K
 | none, K, h => h
 | some ⟨b, cap, k, true, []⟩, K, h => h
 | some ⟨b, cap, k, true, [row]⟩, K, h => wA7 (cs := row) h
 | some ⟨b, cap, k, true, _ :: _ :: _⟩, K, h => h
 | some ⟨b, cap, k, false, rows⟩, K, h => h
theorem ac7 {α β : Type} {f : α → HM β} : ∀ {m : HM α} {o : ak7} {K : β → ak7 → bd7 → Prop}, (m.vp o fun a o' l1 => (f a).vp o' fun b o'' l2 => K b o'' (l1.1 ++ l2.1, l1.2 ++ l2.2)) → (m.bind f).vp o K
 | .ret a, o, K, h => h
 | .get n k, o, K, h => by
  simp only [HM.vp, HM.bind] at h ⊢
  split at h
  ·exact ac7 (m := k _) h
  ·exact h.elim
 | .put n e k, o, K, h => r57 (ac7 (m := k) (jl7 h))
 | .need b k, o, K, h => ⟨h.1, ac7 (m := k) h.2⟩
 | .opt x k, o, K, ⟨a, h1, h2⟩ => ⟨a, h1, ac7 (m := k a) h2⟩
theorem cc7 {α : Type} : ∀ {m : HM α} {o : ak7} {K K' : α → ak7 → bd7 → Prop}, m.vp o K → (∀ a o l, K a o l → K' a o l) → m.vp o K'
 | .ret a, o, K, K', h, hk => hk _ _ _ h
 | .get n k, o, K, K', h, hk => by
  simp only [HM.vp] at h ⊢
  split at h
  ·exact cc7 (m := k _) h fun a o l => hk _ _ _
  ·exact h.elim
 | .put n e k, o, K, K', h, hk => r57 (cc7 (m := k) (jl7 h) fun a o l => hk _ _ _)
 | .need b k, o, K, K', h, hk => ⟨h.1, cc7 (m := k) h.2 hk⟩
 | .opt x k, o, K, K', ⟨a, h1, h2⟩, hk => ⟨a, h1, cc7 (m := k a) h2 hk⟩
theorem bn7 {β : Type} {n : Nat} {e : Ent} {o : ak7} {k : Ent → HM β} {K : β → ak7 → bd7 → Prop} (ho : o n = some e) (h : (k e).vp o fun b o' l => K b o' (n :: l.1, l.2)) : (HM.get n k).vp o K := by
 simp only [HM.vp, ho]
 exact h
theorem ai7 {β : Type} {a : β} {o : ak7} {K : β → ak7 → bd7 → Prop} (h : K a o ([], [])) : (HM.ret a).vp o K := h
theorem bf7 {α β : Type} {a : α} {f : α → HM β} {o : ak7} {K : β → ak7 → bd7 → Prop} (h : (f a).vp o K) : ((HM.ret a).bind f).vp o K := h
theorem aX7 {β : Type} {b : Bool} {o : ak7} {k : HM β} {K : β → ak7 → bd7 → Prop} (hb : b = true) (h : k.vp o K) : (HM.need b k).vp o K := ⟨hb, h⟩
theorem c87 {α β : Type} {x : Option α} {a : α} {o : ak7} {k : α → HM β} {K : β → ak7 → bd7 → Prop} (hx : x = some a) (h : (k a).vp o K) : (HM.opt x k).vp o K := ⟨a, hx, h⟩
theorem a97 {β : Type} {n : Nat} {e : Option Ent} {o : ak7} {k : HM β} {K : β → ak7 → bd7 → Prop} (h : k.vp (upd o n e) fun b o' l => K b o' (l.1, n :: l.2)) : (HM.put n e k).vp o K := r57 h
section
variable {R : Type} {r : R}
theorem itt {p : Bool} {A B : Option R} (h : (if p = true then A else B) = some r) (c : p = true) : A = some r := by rwa [if_pos c] at h
theorem itf {p : Bool} {A B : Option R} (h : (if p = true then A else B) = some r) (c : p = false) : B = some r := by rwa [if_neg (by rw [c]; decide)] at h
theorem bnd {α : Type} {x : Option α} {f : α → Option R} (h : x.bind f = some r) : ∃ a, x = some a ∧ f a = some r := Option.bind_eq_some_iff.1 h
end
def cat (a b : Str) : Option Str := if a.size + b.size ≤ 9223372036854775807 then some (a ++ b) else none
def idx {α : Type} (xs : List α) (i : Int) : Option α := if 0 ≤ i then xs[i.toNat]? else none
def CB7 (s : Str) (i : Int) : Option UInt8 := if 0 ≤ i then s.data.toList[i.toNat]? else none
def seq (a b : Str) : Bool := a.toList == b.toList
def slt (a b : Str) : Bool := Op.bytesLess a.toList b.toList
def slc {α : Type} (xs : List α) (lo hi : Int) : Option (List α) := if 0 ≤ lo ∧ lo ≤ hi ∧ hi ≤ xs.length then some ((xs.take hi.toNat).drop lo.toNat) else none
def CC7 (s : Str) (lo hi : Int) : Option Str := if 0 ≤ lo ∧ lo ≤ hi ∧ hi ≤ s.size then some (s.extract lo.toNat hi.toNat) else none
def aI7 (n : Nat) : Bool := decide (n ≤ 4294967296)
def yS7 (a b : Int) : Option Int := if b ≠ 0 then some (a.tmod b) else none
def CD7 (a b : Int) : Option Int := if b ≠ 0 then some (IntKind.i64.wrap (a.tdiv b)) else none
def Fi7 (a b : Int) : Int := IntKind.i64.wrap ((BitVec.ofInt 64 a ^^^ BitVec.ofInt 64 b).toNat : Int)
theorem aL7 {α : Type} {xs : List α} {i : Int} {x : α} (h : idx xs i = some x) : 0 ≤ i ∧ xs[i.toNat]? = some x := by
 unfold idx at h
 split at h
 ·exact ⟨by assumption, h⟩
 ·cases h
section
variable {G : Gam} {t : Tm} {o : ak7} {KL : St → bd7 → Prop} {d : Option Nat} {α : Type} {f : α → List T}
theorem wB7 {x : Od} {xs : List α} (hx : ev t x = .ro (xs.map f)) (hk : KL ⟨aE7 t d (.v (.int .i64 xs.length)), o⟩ ([], [])) : vdo G d (.len false x) t o KL := by
 show vop t (.len false x) (fun y => KL ⟨aE7 t d y, o⟩ ([], []))
 simp only [vop, hx]
 exact ⟨xs.length, by simp, hk⟩
theorem td7 {x : Od} {A : Option Addr} {cap : Nat} {xs : List α} (hx : ev t x = .raw A cap (xs.map f)) (hk : KL ⟨aE7 t d (.v (.int .i64 xs.length)), o⟩ ([], [])) : vdo G d (.len false x) t o KL := by
 show vop t (.len false x) (fun y => KL ⟨aE7 t d y, o⟩ ([], []))
 simp only [vop, hx]
 exact ⟨xs.length, by simp, hk⟩
theorem te7 {e : Nat} {x : Od} {lo hi : Option Od} {A : Option Addr} {cap : Nat} {xs ys : List α} {h : Option Int} (hx : ev t x = .raw A cap (xs.map f)) (hl : mq7 (lo.map (ev t)) = some none) (hh : mq7 (hi.map (ev t)) = some h) (hs : slc xs 0 (h.getD xs.length) = some ys) (hk : KL ⟨aE7 t d (.raw A cap (ys.map f)), o⟩ ([], [])) : vdo G d (.sls e x lo hi) t o KL := by
 show ∃ y, evp t (.sls e x lo hi) = some y ∧ KL ⟨aE7 t d y, o⟩ ([], [])
 unfold slc at hs
 split at hs
 ·rename_i hc
  cases hs
  refine ⟨_, ?_, hk⟩
  simp only [evp, hx, hl, hh, List.length_map]
  rw [if_pos hc.2]
  simp [List.map_take]
 ·cases hs
theorem FR7 {agg : Bool} {ks : List Nat} {x y : Od} {p : Bool} (hp : Fe7 agg ks (ev t x) (ev t y) = some p) (h : KL ⟨aE7 t d (.v (.bool p)), o⟩ ([], [])) : vdo G d (.eqs false agg ks x y) t o KL := ⟨p, p, hp, rfl, h⟩
theorem FS7 {agg : Bool} {ks : List Nat} {x y : Od} {p : Bool} (hp : Fe7 agg ks (ev t x) (ev t y) = some p) (h : KL ⟨aE7 t d (.v (.bool !p)), o⟩ ([], [])) : vdo G d (.eqs true agg ks x y) t o KL := ⟨p, !p, hp, rfl, h⟩
theorem Qq7 {c x y : Od} (hc : ev t c = .v (.bool true)) (h : vdo G d (.mv x) t o KL) : vdo G d (.pick c x y) t o KL := by
 have h' : frc (fun z => KL ⟨aE7 t d z, o⟩ ([], [])) (ev t x) := h
 exact ⟨_, by simp only [evp, hc]; rfl, eV7 h'⟩
theorem Qr7 {c x y : Od} (hc : ev t c = .v (.bool false)) (h : vdo G d (.mv y) t o KL) : vdo G d (.pick c x y) t o KL := by
 have h' : frc (fun z => KL ⟨aE7 t d z, o⟩ ([], [])) (ev t y) := h
 exact ⟨_, by simp only [evp, hc]; rfl, eV7 h'⟩
theorem cK7 {e : Nat} {x i : Od} {xs : List α} {k : IntKind} {j : Int} {y : α} (hx : ev t x = .ro (xs.map f)) (hi : ev t i = .v (.int k j)) (h : idx xs j = some y) (he : (f y).length = e) (hk : KL ⟨aE7 t d (.rptr (f y)), o⟩ ([], [])) : vdo G d (.iaddr e x i) t o KL := by
 obtain ⟨h1, h2⟩ := aL7 h
 show vop t (.iaddr e x i) (fun y => KL ⟨aE7 t d y, o⟩ ([], []))
 simp only [vop, hx, hi]
 exact ⟨j.toNat, f y, by omega, Qp7 h2, he, hk⟩
theorem eK7 {e : Nat} {x i : Od} {xs : List α} {k : IntKind} {j : Int} {y : α} {n : Nat} {b : Option Nat} {cap kk : Nat} {len : Nat} (hx : ev t x = .ref n b cap 0 len kk) (hi : ev t i = .v (.int k j)) (h : idx xs j = some y) (he : e = esz kk) (hk : KL ⟨aE7 t d (.ptr n b kk j.toNat 0), o⟩ ([], [])) (hl : len = xs.length := by first | rfl | simp) : vdo G d (.iaddr e x i) t o KL := by
 subst hl
 obtain ⟨h1, h2⟩ := aL7 h
 show vop t (.iaddr e x i) (fun y => KL ⟨aE7 t d y, o⟩ ([], []))
 simp only [vop, hx, hi]
 refine ⟨j.toNat, by omega, (List.getElem?_eq_some_iff.1 h2).1, he, ?_⟩
 rw [Nat.zero_add]
 exact hk
theorem By7 {x i : Od} {s : Str} {k : IntKind} {j : Int} {c : UInt8} (hx : ev t x = .v (.string s)) (hi : ev t i = .v (.int k j)) (h : CB7 s j = some c) (hk : KL ⟨aE7 t d (.v (.int .u8 c.toNat)), o⟩ ([], [])) : vdo G d (.sidx x i) t o KL := by
 have hh : 0 ≤ j ∧ s.data.toList[j.toNat]? = some c := by
  unfold CB7 at h
  split at h
  ·exact ⟨by assumption, h⟩
  ·cases h
 show vop t (.sidx x i) (fun y => KL ⟨aE7 t d y, o⟩ ([], []))
 simp only [vop, hx, hi]
 exact ⟨j.toNat, c, by omega, hh.2, hk⟩
theorem M27 {x y : Od} {a b s : Str} (hx : ev t x = .v (.string a)) (hy : ev t y = .v (.string b)) (h : cat a b = some s) (hk : KL ⟨aE7 t d (.v (.string s)), o⟩ ([], [])) : vdo G d (.bin .add x y) t o KL := by
 show vop t (.bin .add x y) (fun y => KL ⟨aE7 t d y, o⟩ ([], []))
 simp only [vop, hx, hy]
 refine ⟨.string s, ?_, hk⟩
 unfold cat at h
 simp only [rL7]
 split at h
 ·rename_i hh
  cases h
  rw [if_pos hh]
 ·cases h
theorem og7 {e : Nat} {x : Od} {lo hi : Option Od} {xs ys : List α} {l h : Option Int} (hx : ev t x = .ro (xs.map f)) (hl : mq7 (lo.map (ev t)) = some l) (hh : mq7 (hi.map (ev t)) = some h) (hs : slc xs (l.getD 0) (h.getD xs.length) = some ys) (he : ∀ x, (f x).length = e) (hk : KL ⟨aE7 t d (.ro (ys.map f)), o⟩ ([], [])) : vdo G d (.sls e x lo hi) t o KL := by
 show ∃ y, evp t (.sls e x lo hi) = some y ∧ KL ⟨aE7 t d y, o⟩ ([], [])
 unfold slc at hs
 split at hs
 ·rename_i hc
  cases hs
  have h2 : ((xs.map f).head?.map List.length).getD e = e := by
   cases xs with
   | nil => rfl
   | cons a as => simp [he]
  refine ⟨_, ?_, hk⟩
  simp only [evp, hx, hl, hh, List.length_map]
  rw [if_pos ⟨hc, h2⟩, List.map_drop, List.map_take]
 ·cases hs
theorem FT7 {x : Od} {lo hi : Option Od} {s s' : Str} {l h : Option Int} (hx : ev t x = .v (.string s)) (hl : mq7 (lo.map (ev t)) = some l) (hh : mq7 (hi.map (ev t)) = some h) (hs : CC7 s (l.getD 0) (h.getD s.size) = some s') (hk : KL ⟨aE7 t d (.v (.string s')), o⟩ ([], [])) : vdo G d (.ssl x lo hi) t o KL := by
 show ∃ y, evp t (.ssl x lo hi) = some y ∧ KL ⟨aE7 t d y, o⟩ ([], [])
 unfold CC7 at hs
 split at hs
 ·rename_i hc
  cases hs
  refine ⟨_, ?_, hk⟩
  simp only [evp, hx, hl, hh]
  rw [if_pos hc]
 ·cases hs
theorem if7 {x y : Od} {k : IntKind} {a b v : Int} (hx : ev t x = .v (.int k a)) (hy : ev t y = .v (.int k b)) (h : yS7 a b = some v) (hk : KL ⟨aE7 t d (.v (.int k v)), o⟩ ([], [])) : vdo G d (.bin .rem x y) t o KL := by
 show vop t (.bin .rem x y) (fun y => KL ⟨aE7 t d y, o⟩ ([], []))
 simp only [vop, hx, hy]
 refine ⟨.int k v, ?_, hk⟩
 unfold yS7 at h
 split at h
 ·rename_i hb
  cases h
  simp [rL7, hb]
 ·cases h
theorem wC7 {x y : Od} {a b v : Int} (hx : ev t x = .v (.int .i64 a)) (hy : ev t y = .v (.int .i64 b)) (h : CD7 a b = some v) (hk : KL ⟨aE7 t d (.v (.int .i64 v)), o⟩ ([], [])) : vdo G d (.bin .quo x y) t o KL := by
 show vop t (.bin .quo x y) (fun y => KL ⟨aE7 t d y, o⟩ ([], []))
 simp only [vop, hx, hy]
 refine ⟨.int .i64 v, ?_, hk⟩
 unfold CD7 at h
 split at h
 ·rename_i hb
  cases h
  simp [rL7, hb]
 ·cases h
theorem wD7 {x y : Od} {a b : Int} (hx : ev t x = .v (.int .i64 a)) (hy : ev t y = .v (.int .i64 b)) (hk : KL ⟨aE7 t d (.v (.int .i64 (Fi7 a b))), o⟩ ([], [])) : vdo G d (.bin .xor x y) t o KL := by
 show vop t (.bin .xor x y) (fun y => KL ⟨aE7 t d y, o⟩ ([], []))
 simp only [vop, hx, hy]
 exact ⟨.int .i64 (Fi7 a b), by simp only [rL7, if_true]; rfl, hk⟩
def ent (b : Option Nat) (cap k : Nat) (rows : Rows) : Ent := ⟨b, cap, k, false, rows⟩
theorem oh7 {xs : List α} {i : Nat} {x : α} (h : xs[i]? = some x) : (xs.map f).getD i [] = f x := by
 rw [List.getD_eq_getElem?_getD, Qp7 h]
 rfl
theorem oi7 {sz : Nat} {agg : Bool} {p : Od} {n : Nat} {b : Option Nat} {cap k r c : Nat} {xs : List α} {x : α} {y : AV} (hp : ev t p = .ptr n b k r c) (ho : o n = some (ent b cap k (xs.map f))) (h : xs[r]? = some x) (hc : decide (c + sz ≤ (f x).length) = true) (hw : vH7 (((f x).drop c).take sz) = false) (hy : one agg ((((f x).drop c).take sz).map ut7) = some y) (hk : KL ⟨aE7 t d y, o⟩ ([n], [])) : vdo G d (.load sz agg p) t o KL := by
 have hg : (xs.map f).getD r [] = f x := oh7 h
 have hr : r < (xs.map f).length := by rw [List.length_map]; exact (List.getElem?_eq_some_iff.1 h).1
 show (match ev t p with | .ptr .. => dV7 G d (.load sz agg p) t o KL | _ => vop t (.load sz agg p) fun x => KL ⟨aE7 t d x, o⟩ ([], []))
 rw [hp]
 intro ch
 simp only [aA7, hp]
 refine bn7 ho (bf7 (aX7 ?_ (bf7 ?_)))
 ·simp only [ent, hg, Bool.and_eq_true, decide_eq_true_eq]
  exact ⟨⟨⟨trivial, trivial⟩, decide_eq_true hr⟩, of_decide_eq_true hc⟩
 ·simp only [ent, hg, hw]
  exact c87 hy (ai7 hk)
def uV7 (x : AV) (o : ak7) (y : AV) (L : List Nat) : Prop := ∀ K : AV → ak7 → bd7 → Prop, K y o (L, []) → (bor x).vp o K
def eL7 (xs : List AV) (o : ak7) (ys : List AV) (L : List Nat) : Prop := ∀ K : List AV → ak7 → bd7 → Prop, K ys o (L, []) → (vG7 xs).vp o K
def zl7 (x : T) (o : ak7) (y : T) (L : List Nat) : Prop := ∀ K : T → ak7 → bd7 → Prop, K y o (L, []) → (Fn7 x).vp o K
def tf7 (xs : List T) (o : ak7) (ys : List T) (L : List Nat) : Prop := ∀ K : List T → ak7 → bd7 → Prop, K ys o (L, []) → (rM7 xs).vp o K
theorem Bz7 {v : Value} : uV7 (.v v) o (.v v) [] := fun K h => h
theorem wE7 {rows : Rows} : uV7 (.ro rows) o (.ro rows) [] := fun K h => h
theorem tg7 {A : Option Addr} {cap : Nat} {rows : Rows} : uV7 (.raw A cap rows) o (.raw A cap rows) [] := fun K h => h
theorem pS7 {n : Nat} {b : Option Nat} {cap k len : Nat} {xs : List α} {g : α → List T} (ho : o n = some (ent b cap k (xs.map f))) (he : ∀ x, erL (f x) = some (g x)) (hl : len = xs.length) : uV7 (.lref n b cap len k) o (.raw (ur7 b) cap (xs.map g)) [n] := fun K h => by
 subst hl
 refine bn7 ho (bf7 (aX7 ?_ (bf7 ?_)))
 ·simp [ent]
 ·refine c87 (a := .raw (ur7 b) cap (xs.map g)) ?_ (ai7 h)
  simp only [ent]
  rw [dX7 he]
  rfl
theorem th7 : uV7 .nil o (.ro []) [] := fun K h => h
theorem wF7 {cs : List T} : uV7 (.rptr cs) o (.rptr cs) [] := fun K h => h
theorem oj7 {n : Nat} {b : Option Nat} {cap k len : Nat} {xs : List α} {g : α → List T} (ho : o n = some (ent b cap k (xs.map f))) (he : ∀ x, erL (f x) = some (g x)) (hl : len = xs.length) : uV7 (.ref n b cap 0 len k) o (.ro (xs.map g)) [n] := fun K h => by
 subst hl
 refine bn7 ho (aX7 ?_ ?_)
 ·simp [ent]
 ·refine c87 (a := .ro (xs.map g)) ?_ (ai7 h)
  simp only [ent, List.drop_zero]
  rw [show (xs.map f).take xs.length = xs.map f by rw [← List.length_map (f := f), List.take_length], dX7 he]
  rfl
theorem pT7 {n : Nat} {b : Option Nat} {cap k len : Nat} {rows : Rows} {xs : List α} {g : α → List T} (ho : o n = some ⟨b, cap, k, false, rows⟩) (hr : rows = xs.map g) (he : ∀ x, erL (g x) = some (g x)) (hl : len = xs.length) : uV7 (.ref n b cap 0 len k) o (.ro (xs.map g)) [n] := by
 subst hr
 exact oj7 ho he hl
theorem ti7 {cs ys : List AV} {L : List Nat} (h : eL7 cs o ys L) : uV7 (.agg cs) o (.agg ys) L := fun K hK => ac7 (h _ (ai7 (by simpa using hK)))
theorem wG7 {g : Nat} {cs ys : List AV} {L : List Nat} (h : eL7 cs o ys L) : uV7 (.fn g cs) o (.fn g ys) L := fun K hK => ac7 (h _ (ai7 (by simpa using hK)))
theorem pU7 : eL7 [] o [] [] := fun K h => h
theorem nn7 {x y : AV} {xs ys : List AV} {L1 L2 : List Nat} (h : uV7 x o y L1) (hs : eL7 xs o ys L2) : eL7 (x :: xs) o (y :: ys) (L1 ++ L2) := fun K hK => ac7 (h _ (ac7 (hs _ (ai7 (by simpa using hK)))))
theorem wH7 {v : Value} : zl7 (.v v) o (.v v) [] := fun K h => ⟨_, rfl, h⟩
theorem tj7 {w : Bool} {k : Nat} {xs : List α} {g : α → List T} (he : ∀ x, erL (f x) = some (g x)) : zl7 (.sl w k (xs.map f)) o (.sl false (k % 16) (xs.map g)) [] := fun K h => c87 (a := .sl false (k % 16) (xs.map g)) (by simp only [erT, dX7 he]; rfl) (ai7 h)
theorem tk7 {n : Nat} {b : Option Nat} {cap k len : Nat} {xs : List α} {g : α → List T} (ho : o n = some (ent b cap k (xs.map f))) (he : ∀ x, erL (f x) = some (g x)) (hl : len = xs.length) : zl7 (.al n b cap 0 len k) o (.sl false (k % 16) (xs.map g)) [n] := fun K h => by
 subst hl
 refine bn7 ho (aX7 ?_ ?_)
 ·simp [ent]
 ·refine c87 (a := .sl false (k % 16) (xs.map g)) ?_ (ai7 h)
  simp only [ent, List.drop_zero]
  rw [show (xs.map f).take xs.length = xs.map f by rw [← List.length_map (f := f), List.take_length], dX7 he]
  rfl
theorem no7 : tf7 [] o [] [] := fun K h => h
theorem lq7 {x y : T} {xs ys : List T} {L1 L2 : List Nat} (h : zl7 x o y L1) (hs : tf7 xs o ys L2) : tf7 (x :: xs) o (y :: ys) (L1 ++ L2) := fun K hK => ac7 (h _ (ac7 (hs _ (ai7 (by simpa using hK)))))
theorem tl7 {n : Nat} {b : Option Nat} {k c : Nat} {row : List T} {e : Ent} {ys : List T} {L : List Nat} (ho : o n = some e) (hb : e.b = b) (hk : e.k = k) (hr : e.rows = [row]) (h : tf7 (row.drop c) o ys L) : uV7 (.ptr n b k 0 c) o (.rptr ys) (n :: L) := fun K hK => by
 refine bn7 ho (aX7 ?_ ?_)
 ·simp [hb, hk, hr]
 ·rw [hr]
  refine bf7 (ac7 (h _ (ai7 ?_)))
  simpa using hK
def dY7 (xs : List (Bool × Od)) : Bool := xs.all fun x => !x.1
theorem np7 : ∀ {xs : List (Bool × Od)} {i : Nat} {K : List (Option AV) × List In → ak7 → bd7 → Prop}, dY7 xs = true → K (xs.map fun _ => none, []) o ([], []) → (i77 t i xs).vp o K
 | [], i, K, h, hK => hK
 | (m, x) :: xs, i, K, h, hK => by
  simp only [dY7, List.all_cons, Bool.and_eq_true, Bool.not_eq_true'] at h
  obtain ⟨rfl, h⟩ := h
  exact ac7 (np7 h (ai7 hK))
theorem uW7 : ∀ {xs : List (Bool × Od)} {ys : List AV} {L : List Nat} {K : List AV → ak7 → bd7 → Prop}, eL7 (xs.map fun x => ev t x.2) o ys L → K ys o (L, []) → (g97 t xs (xs.map fun _ => none)).vp o K := by
 intro xs
 have key : ∀ xs : List (Bool × Od), g97 t xs (xs.map fun _ => none) = vG7 (xs.map fun x => ev t x.2) := by
  intro xs
  induction xs with
  | nil => rfl
  | cons x xs ih =>
   obtain ⟨m, x⟩ := x
   show (do let z ← bor (ev t x); let zs ← g97 t xs (xs.map fun _ => none); HM.ret (z :: zs) : HM (List AV)) = _
   rw [ih]
   rfl
 intro ys L K h hK
 rw [key]
 exact h _ hK
theorem pV7 {xs : List (Bool × Od)} {ys : List AV} {L : List Nat} {K : List AV × List In → ak7 → bd7 → Prop} (hn : dY7 xs = true) (h : eL7 (xs.map fun x => ev t x.2) o ys L) (hK : K (ys, []) o (L, [])) : (args t xs).vp o K :=
 ac7 (np7 hn (ac7 (uW7 h (ai7 (by simpa using hK)))))
theorem FU7 {g : Nat} {xs : List (Bool × Od)} {as : List AV} {L : List Nat} {r : Ans} (hg : G g as [] = some r) (hn : dY7 xs = true) (ha : eL7 (xs.map fun x => ev t x.2) o as L) (hw : (gp7 t xs || (d57 (r.res.map (·.2)) && r.outs.all gi7)) = true) (ho : r.outs = []) (hk : ∀ ch : Ch, (bv7 (cE7 d) ch 0 r.res).vp o fun ys o' l => KL ⟨aE7 t d (jK7 ys), o'⟩ (L ++ l.1, l.2)) : vdo G d (.call g xs) t o KL := by
 show dV7 G d (.call g xs) t o KL
 intro ch
 refine ac7 (pV7 hn ha ?_)
 refine c87 (a := r) hg (aX7 hw (bf7 ?_))
 unfold tail
 rw [ho]
 refine ac7 (ai7 (ac7 (cc7 (hk ch) fun ys o' l h => ai7 ?_)))
 simpa using h
theorem CE7 {fv : Od} {g : Nat} {caps cs : List AV} {xs : List (Bool × Od)} {as : List AV} {L L2 : List Nat} {r : Ans} (hf : ev t fv = .fn g caps) (hg : G g (as ++ cs) [] = some r) (hn : dY7 xs = true) (ha : eL7 (xs.map fun x => ev t x.2) o as L) (hc : eL7 caps o cs L2) (hw : ((gp7 t xs && uu7 caps) || (d57 (r.res.map (·.2)) && r.outs.all gi7)) = true) (ho : r.outs = []) (hk : ∀ ch : Ch, (bv7 (cE7 d) ch 0 r.res).vp o fun ys o' l => KL ⟨aE7 t d (jK7 ys), o'⟩ (L ++ (L2 ++ l.1), l.2)) : vdo G d (.calld fv xs) t o KL := by
 show dV7 G d (.calld fv xs) t o KL
 intro ch
 simp only [aA7, hf]
 refine ac7 (pV7 hn ha ?_)
 refine ac7 (hc _ ?_)
 refine c87 (a := r) hg (aX7 hw (bf7 ?_))
 unfold tail
 rw [ho]
 refine ac7 (ai7 (ac7 (cc7 (hk ch) fun ys o' l h => ai7 ?_)))
 simpa using h
structure yT7 (cs : List T) (o : ak7) (cs' : List T) (o' : ak7) (l : bd7) : Prop where
 out : ∀ K : List T → ak7 → bd7 → Prop, K cs' o' l → (b07 cs).vp o K
theorem CF7 : yT7 [] o [] o ([], []) := ⟨fun K h => h⟩
theorem M37 {x : Value} {cs cs' : List T} {o' : ak7} {l : bd7} (h : yT7 cs o cs' o' l) : yT7 (.v x :: cs) o (.v x :: cs') o' l := ⟨fun K hK => ac7 (ai7 (ac7 (h.out _ (ai7 (by simpa using hK)))))⟩
theorem FV7 {A : Option Addr} {cap : Nat} {rows : Rows} {cs cs' : List T} {o' : ak7} {l : bd7} (h : yT7 cs o cs' o' l) : yT7 (.rw A cap rows :: cs) o (.rw A cap rows :: cs') o' l := ⟨fun K hK => ac7 (ai7 (ac7 (h.out _ (ai7 (by simpa using hK)))))⟩
theorem FW7 {w : Bool} {k : Nat} {rows : Rows} {cs cs' : List T} {o' : ak7} {l : bd7} (h : yT7 cs o cs' o' l) : yT7 (.sl w k rows :: cs) o (.sl w k rows :: cs') o' l := ⟨fun K hK => ac7 (ai7 (ac7 (h.out _ (ai7 (by simpa using hK)))))⟩
theorem FX7 {n : Nat} {b : Option Nat} {cap k len : Nat} {rows : Rows} {cs cs' : List T} {o' : ak7} {l : bd7} (ho : o n = some (ent b cap k rows)) (hl : len = rows.length) (h : yT7 cs (upd o n none) cs' o' l) : yT7 (.al n b cap 0 len k :: cs) o (.sl true k rows :: cs') o' (n :: l.1, n :: l.2) := by
 refine ⟨fun K hK => ?_⟩
 subst hl
 refine ac7 (bn7 ho (bf7 (aX7 (by simp [ent]) (bf7 (a97 (ai7 ?_))))))
 refine ac7 (h.out _ (ai7 ?_))
 simpa [ent] using hK
def BA7 (i : Nat) (cs : List AV) (o : ak7) (ys : List AV) (ins : List In) (o' : ak7) (l : bd7) : Prop := ∀ K : List AV × List In → ak7 → bd7 → Prop, K (ys, ins) o' l → (ci7 i cs).vp o K
section
variable {i : Nat} {cs ys : List AV} {ins : List In} {o' o1 : ak7} {l : bd7}
theorem FY7 : BA7 i [] o [] [] o ([], []) := fun K h => h
theorem QY7 {x : Value} (h : BA7 i cs o ys ins o' l) : BA7 i (.v x :: cs) o (.v x :: ys) ins o' l := fun K hK => ac7 (h _ (ai7 (by simpa using hK)))
theorem FZ7 {n : Nat} {b : Option Nat} {cap k len : Nat} {rows : Rows} (ho : o n = some (ent b cap k rows)) (hl : len = rows.length) (h : BA7 (i + 1) cs (upd o n none) ys ins o' l) : BA7 i (.ref n b cap 0 len k :: cs) o (.io i len k :: ys) (⟨n, ent b cap k rows⟩ :: ins) o' (n :: l.1, n :: l.2) := fun K hK => by
 subst hl
 refine bn7 ho (bf7 (aX7 (by simp [ent]) (bf7 (a97 (bf7 ?_)))))
 exact ac7 (h _ (ai7 (by simpa using hK)))
theorem F07 {n : Nat} {b : Option Nat} {cap k : Nat} {row row' : List T} {l0 : bd7} (ho : o n = some ⟨b, cap, k, true, [row]⟩) (hc : yT7 row (upd o n none) row' o1 l0) (h : BA7 (i + 1) cs o1 ys ins o' l) : BA7 i (.ptr n b k 0 0 :: cs) o (.pio i k :: ys) (⟨n, ⟨b, cap, k, true, [row']⟩⟩ :: ins) o' (n :: (l0.1 ++ l.1), n :: (l0.2 ++ l.2)) := fun K hK => by
 refine bn7 ho (bf7 (aX7 (by simp) (bf7 (a97 (bf7 ?_)))))
 exact ac7 (hc.out _ (ac7 (h _ (ai7 (by simpa using hK)))))
end
def r67 (t : Tm) (i : Nat) (xs : List (Bool × Od)) (o : ak7) (zs : List (Option AV)) (ins : List In) (o' : ak7) (l : bd7) : Prop := ∀ K : List (Option AV) × List In → ak7 → bd7 → Prop, K (zs, ins) o' l → (i77 t i xs).vp o K
section
variable {i : Nat} {x : Od} {xs : List (Bool × Od)} {zs : List (Option AV)} {ins more : List In} {o' o1 : ak7} {l l1 : bd7} {as : List AV} {L L1 : List Nat}
theorem F17 : r67 t i [] o [] [] o ([], []) := fun K h => h
theorem CG7 (h : r67 t i xs o zs ins o' l) : r67 t i ((false, x) :: xs) o (none :: zs) ins o' l := fun K hK => ac7 (h _ (ai7 (by simpa using hK)))
theorem CH7 {ys : List AV} {y : AV} {j : Nat} (h : BA7 i (he7 (ev t x)) o ys ins o1 l1) (hy : one (hX7 (ev t x)) ys = some y) (hj : i + ins.length = j) (h2 : r67 t j xs o1 zs more o' l) : r67 t i ((true, x) :: xs) o (some y :: zs) (ins ++ more) o' (l1.1 ++ l.1, l1.2 ++ l.2) := fun K hK => by
 subst hj
 exact ac7 (h _ (ac7 (c87 hy (ai7 (ac7 (h2 _ (ai7 (by simpa using hK))))))))
structure hL7 (t : Tm) (xs : List (Bool × Od)) (zs : List (Option AV)) (o : ak7) (as : List AV) (L : List Nat) : Prop where
 out : ∀ K : List AV → ak7 → bd7 → Prop, K as o (L, []) → (g97 t xs zs).vp o K
theorem F27 : hL7 t [] [] o [] [] := ⟨fun K h => h⟩
theorem CI7 {m : Bool} {y : AV} (h : hL7 t xs zs o as L) : hL7 t ((m, x) :: xs) (some y :: zs) o (y :: as) L := ⟨fun K hK => ac7 (ai7 (ac7 (h.out _ (ai7 (by simpa using hK)))))⟩
theorem CJ7 {m : Bool} {y : AV} (h1 : uV7 (ev t x) o y L1) (h : hL7 t xs zs o as L) : hL7 t ((m, x) :: xs) (none :: zs) o (y :: as) (L1 ++ L) := ⟨fun K hK => ac7 (h1 _ (ac7 (h.out _ (ai7 (by simpa using hK)))))⟩
end
structure BkS (ins : List In) (rs : List (Option Rows)) (o o2 : ak7) (N : List Nat) : Prop where
 out : ∀ K : Unit → ak7 → bd7 → Prop, K () o2 ([], N) → (mv7 ins rs).vp o K
def ok7 (as bs cs : List T) : Prop := i87 as bs = cs
theorem F37 : ok7 [] [] [] := rfl
theorem M47 {A : Option Addr} {cap : Nat} {rows : Rows} {as bs cs : List T} (h : ok7 as bs cs) : ok7 (.rw A cap rows :: as) (.v (.slice A rows.length cap) :: bs) (.rw A cap rows :: cs) := by
 unfold ok7 at h ⊢
 simp [i87, vI7, h]
theorem F47 {a c : T} {as bs cs : List T} (h0 : vI7 a c = c) (h : ok7 as bs cs) : ok7 (a :: as) (c :: bs) (c :: cs) := by
 unfold ok7 at h ⊢
 simp [i87, h0, h]
section
variable {is : List In} {rs : List (Option Rows)} {o2 : ak7} {N : List Nat} {n k cap : Nat} {b : Option Nat}
theorem F57 : BkS [] [] o o [] := ⟨fun K h => h⟩
theorem CK7 {i : In} (h : BkS is rs o o2 N) : BkS (i :: is) (none :: rs) o o2 N := ⟨fun K hK => h.out K hK⟩
theorem CL7 {rows r : Rows} (h : BkS is rs (upd o n (some (ent b cap k r))) o2 N) : BkS (⟨n, ent b cap k rows⟩ :: is) (some r :: rs) o o2 (n :: N) := ⟨fun K hK => a97 (bf7 (h.out _ hK))⟩
theorem F67 {row r r' : List T} (hr : ok7 row r r') (h : BkS is rs (upd o n (some ⟨b, cap, k, true, [r']⟩)) o2 N) : BkS (⟨n, ⟨b, cap, k, true, [row]⟩⟩ :: is) (some [r] :: rs) o o2 (n :: N) := ⟨fun K hK => by
 unfold ok7 at hr
 refine a97 (bf7 ?_)
 have e : vJ7 ⟨b, cap, k, true, [row]⟩ [r] = [r'] := by simp [vJ7, hr]
 simp only [e]
 exact h.out _ hK⟩
end
theorem CM7 {g : Nat} {xs : List (Bool × Od)} {zs : List (Option AV)} {as : List AV} {ins : List In} {o1 : ak7} {l1 : bd7} {L : List Nat} {r : Ans} (hg : G g as (ins.map fun i => (i.e.box, i.e.k, i.e.rows)) = some r) (ha : r67 t 0 xs o zs ins o1 l1) (hl : hL7 t xs zs o1 as L) (hw : (gp7 t xs || (d57 (r.res.map (·.2)) && r.outs.all gi7)) = true) {o2 : ak7} {N : List Nat} (hb : BkS ins r.outs o1 o2 N) (hk : ∀ ch : Ch, (bv7 (cE7 d) ch 0 r.res).vp o2 fun ys o' l => KL ⟨aE7 t d (jK7 ys), o'⟩ (l1.1 ++ (L ++ l.1), l1.2 ++ (N ++ l.2))) : vdo G d (.call g xs) t o KL := by
 show dV7 G d (.call g xs) t o KL
 intro ch
 refine ac7 (ac7 (ha _ (ac7 (hl.out _ (ai7 ?_)))))
 refine c87 (a := r) hg (aX7 hw (bf7 ?_))
 unfold tail
 refine ac7 (hb.out _ (ac7 (cc7 (hk ch) fun ys o' l h => ai7 ?_)))
 simpa using h
section
variable {dd : Nat} {ch : Ch} {j : Nat} {cs : List T} {K : List AV → ak7 → bd7 → Prop}
theorem BB7 (h : K [] o ([], [])) : (eR7 dd ch j []).vp o K := h
theorem Mk7 {x : Value} (h : (eR7 dd ch (j + 1) cs).vp o fun ys o' l => K (.v x :: ys) o' l) : (eR7 dd ch j (.v x :: cs)).vp o K :=
 ac7 (ai7 (ac7 (cc7 h fun ys o' l hh => ai7 (by simpa using hh))))
theorem F77 {k : Nat} {row : List T} (h : (eR7 dd ch (j + 1) cs).vp (upd o (dd * 8 + j) (some ⟨(ch j).1, 1, k, true, [row]⟩)) fun ys o' l => K (.ptr (dd * 8 + j) (ch j).1 k 0 0 :: ys) o' (l.1, (dd * 8 + j) :: l.2)) : (eR7 dd ch j (.bx k row :: cs)).vp o K :=
 ac7 (a97 (ai7 (ac7 (cc7 h fun ys o' l hh => ai7 (by simpa using hh)))))
theorem F87 {k : Nat} {rows : Rows} (h : (eR7 dd ch (j + 1) cs).vp o fun ys o' l => K (.ro rows :: ys) o' l) : (eR7 dd ch j (.sl false k rows :: cs)).vp o K :=
 ac7 (ai7 (ac7 (cc7 h fun ys o' l hh => ai7 (by simpa using hh))))
theorem uX7 {k : Nat} {xs : List α} (h : (eR7 dd ch (j + 1) cs).vp (upd o (dd * 8 + j) (some (ent (ch j).1 (ch j).2 k (xs.map f)))) fun ys o' l => K (.ref (dd * 8 + j) (ch j).1 (ch j).2 0 xs.length k :: ys) o' (l.1, (dd * 8 + j) :: l.2)) : (eR7 dd ch j (.sl true k (xs.map f) :: cs)).vp o K := by
 refine ac7 (ac7 (a97 (ai7 (ai7 ?_))))
 refine ac7 (cc7 h fun ys o' l hh => ai7 ?_)
 simpa using hh
variable {rs : List (Bool × List T)}
theorem wI7 (h : K [] o ([], [])) : (bv7 dd ch j []).vp o K := h
theorem tm7 {r : an7} (h : (eR7 dd ch (j + 1 + 1) []).vp (upd (upd o (dd * 8 + j) (some (ent (ch j).1 (ch j).2 115 (r.commits.map (af7 true))))) (dd * 8 + (j + 1)) (some (ent (ch (j + 1)).1 (ch (j + 1)).2 130 (r.heads.map av7)))) fun ys o' l => K (.ref (dd * 8 + j) (ch j).1 (ch j).2 0 r.commits.length 115 :: .ref (dd * 8 + (j + 1)) (ch (j + 1)).1 (ch (j + 1)).2 0 r.heads.length 130 :: ys) o' (l.1, (dd * 8 + j) :: (dd * 8 + (j + 1)) :: l.2)) : (eR7 dd ch j (hI7 true r)).vp o K :=
 uX7 (f := af7 true) (xs := r.commits) (k := 115) (cs := [T.sl true 130 (List.map av7 r.heads)]) (uX7 (f := av7) (xs := r.heads) (k := 130) (cs := []) h)
theorem tn7 {r : Feat} (h : (eR7 dd ch (j + 1 + 1 + 1 + 1) []).vp (upd (upd o (dd * 8 + (j + 1 + 1)) (some (ent (ch (j + 1 + 1)).1 (ch (j + 1 + 1)).2 66 (r.shape.pts.map ePt)))) (dd * 8 + (j + 1 + 1 + 1)) (some (ent (ch (j + 1 + 1 + 1)).1 (ch (j + 1 + 1 + 1)).2 82 (r.tags.map bc7)))) fun ys o' l => K (.v (.string r.id) :: .v (.int .i64 r.shape.kind) :: .ref (dd * 8 + (j + 1 + 1)) (ch (j + 1 + 1)).1 (ch (j + 1 + 1)).2 0 r.shape.pts.length 66 :: .ref (dd * 8 + (j + 1 + 1 + 1)) (ch (j + 1 + 1 + 1)).1 (ch (j + 1 + 1 + 1)).2 0 r.tags.length 82 :: ys) o' (l.1, (dd * 8 + (j + 1 + 1)) :: (dd * 8 + (j + 1 + 1 + 1)) :: l.2)) : (eR7 dd ch j (ag7 true r)).vp o K :=
 Mk7 (x := .string r.id) (cs := [.v (.int .i64 r.shape.kind), T.sl true 66 (r.shape.pts.map ePt), T.sl true 82 (r.tags.map bc7)]) (Mk7 (x := .int .i64 r.shape.kind) (cs := [T.sl true 66 (r.shape.pts.map ePt), T.sl true 82 (r.tags.map bc7)]) (uX7 (f := ePt) (xs := r.shape.pts) (k := 66) (cs := [T.sl true 82 (r.tags.map bc7)]) (uX7 (f := bc7) (xs := r.tags) (k := 82) (cs := []) h)))
theorem wJ7 {c : T} (h : (eR7 dd ch j [c]).vp o fun xs o' l1 => ∃ x, xs = [x] ∧ (bv7 dd ch (j + 1) rs).vp o' fun ys o'' l2 => K (x :: ys) o'' (l1.1 ++ l2.1, l1.2 ++ l2.2)) : (bv7 dd ch j ((false, [c]) :: rs)).vp o K := by
 refine ac7 (cc7 h fun xs o' l1 hh => ?_)
 obtain ⟨x, rfl, hh⟩ := hh
 refine ac7 (c87 (a := x) rfl (ai7 (ac7 (cc7 hh fun ys o'' l2 h3 => ai7 ?_))))
 simpa using h3
theorem wK7 {cs : List T} (h : (eR7 dd ch j cs).vp o fun xs o' l1 => (bv7 dd ch (j + cs.length) rs).vp o' fun ys o'' l2 => K (.agg xs :: ys) o'' (l1.1 ++ l2.1, l1.2 ++ l2.2)) : (bv7 dd ch j ((true, cs) :: rs)).vp o K := by
 refine ac7 (cc7 h fun xs o' l1 hh => ?_)
 refine ac7 (c87 (a := .agg xs) rfl (ai7 (ac7 (cc7 hh fun ys o'' l2 h3 => ai7 ?_))))
 simpa using h3
end
theorem lr7 (hp : ∀ x, mu7 [f x] = true) : ∀ xs : List α, mu7 (xs.map f) = true
 | [] => rfl
 | x :: xs => by
  have h1 := hp x
  have h2 := lr7 hp xs
  simp only [mu7, List.map_cons, List.all_cons, List.all_nil, Bool.and_true, Bool.and_eq_true] at h1 h2 ⊢
  exact ⟨h1, h2⟩
theorem dr7 {xs : List α} : (xs.map f).take xs.length = xs.map f := by rw [← List.length_map (f := f), List.take_length]
theorem zm7 {xs : List α} {b : Option Nat} {c k : Nat} : List.take xs.length (ent b c k (xs.map f)).rows = xs.map f := dr7
theorem gw7 {n : Nat} (h : aI7 n = true) : n ≤ sR7 := of_decide_eq_true h
def Src (k : Nat) (mv : Bool) (host : Option Nat) (y : AV) (o : ak7) (rows : Rows) (o' : ak7) (l : bd7) : Prop := ∀ K : Rows → ak7 → bd7 → Prop, K rows o' l → (kR7 k mv host y).vp o K
theorem CN7 {k : Nat} {mv : Bool} {host : Option Nat} : Src k mv host .nil o [] o ([], []) := fun K h => h
theorem ig7 {k : Nat} {mv : Bool} {host : Option Nat} {xs : List α} (hp : ∀ x, mu7 [f x] = true) (he : ∀ x, (f x).length = esz k) : Src k mv host (.ro (xs.map f)) o (xs.map f) o ([], []) := fun K h => by
 refine aX7 ?_ h
 rw [lr7 hp, Bool.true_and]
 cases xs with
 | nil => exact decide_eq_true rfl
 | cons x xs => exact decide_eq_true (by simp [he])
theorem dZ7 {k n len : Nat} {b : Option Nat} {cap : Nat} {host : Option Nat} {rows : Rows} (ho : o n = some (ent b cap k rows)) (hh : decide (host ≠ some n) = true) (hl : len = rows.length) : Src k true host (.ref n b cap 0 len k) o rows (upd o n none) ([n], [n]) := fun K h => by
 refine bn7 ho (aX7 ?_ ?_)
 ·simp only [ent, hl, hh]; simp
 ·refine a97 (ai7 ?_)
  simp only [ent, List.drop_zero, hl, List.take_length]
  exact h
theorem BC7 {k n len : Nat} {b : Option Nat} {cap : Nat} {host : Option Nat} {xs : List α} (ho : o n = some (ent b cap k (xs.map f))) (hl : len = xs.length) (hp : ∀ x, mu7 [f x] = true) : Src k false host (.ref n b cap 0 len k) o (xs.map f) o ([n], []) := fun K h => by
 refine bn7 ho (aX7 ?_ ?_)
 ·simp only [ent, hl]; simp
 ·refine aX7 ?_ (ai7 ?_)
  ·simp only [ent, List.drop_zero, hl, dr7, lr7 hp]
  ·simp only [ent, List.drop_zero, hl, dr7]
   exact h
theorem dD7 {k : Nat} {mv : Bool} {a b : Od} {n : Nat} {b' : Option Nat} {cap len : Nat} {xs ys : List α} {rows : Rows} {o' : ak7} {l : bd7} (ha : ev t a = .ref n b' cap 0 len k) (hs : Src k mv (some n) (ev t b) o rows o' l) (hr : rows = ys.map f) (ho : o' n = some (ent b' cap k (xs.map f))) (hl : len = xs.length) (hf : aI7 (xs ++ ys).length = true) (hk : ∀ b2 cap2, KL ⟨aE7 t d (.ref n b2 cap2 0 (xs ++ ys).length k), upd o' n (some (ent b2 cap2 k ((xs ++ ys).map f)))⟩ (l.1 ++ [n], l.2 ++ [n])) : vdo G d (.app k mv a b) t o KL := by
 show dV7 G d (.app k mv a b) t o KL
 intro ch
 simp only [aA7, ha]
 have hf' := gw7 hf
 refine ac7 (hs _ (bn7 ho (aX7 ?_ (a97 (ai7 ?_)))))
 ·simp only [ent, hl, hr, List.length_map] at hf' ⊢
  simp only [List.length_append] at hf'
  simp [hf']
 ·simp only [ent, hl, hr, dr7, List.length_map]
  have := hk (ch 0).1 (ch 0).2
  rw [List.length_append, List.map_append] at this
  exact this
theorem F97 {k : Nat} {mv : Bool} {a b : Od} {ys : List α} {rows : Rows} {o' : ak7} {l : bd7} (ha : ev t a = .nil) (hs : Src k mv none (ev t b) o rows o' l) (hr : rows = ys.map f) (hf : aI7 ys.length = true) (hk : ∀ b2 cap2, KL ⟨aE7 t d (.ref (cE7 d * 8) b2 cap2 0 ys.length k), upd o' (cE7 d * 8) (some (ent b2 cap2 k (ys.map f)))⟩ (l.1, l.2 ++ [cE7 d * 8])) : vdo G d (.app k mv a b) t o KL := by
 show dV7 G d (.app k mv a b) t o KL
 intro ch
 simp only [aA7, ha]
 have hf' := gw7 hf
 refine ac7 (hs _ (aX7 ?_ (a97 (ai7 ?_))))
 ·simp only [hr, List.length_map]
  simp [hf']
 ·simp only [hr, List.length_map, List.append_nil]
  exact hk (ch 0).1 (ch 0).2
theorem CO7 {k : Nat} {z : List T} {n m : Od} {len : Int} {k1 k2 : IntKind} {x : α} (hn : ev t n = .v (.int k1 len)) (hm : ev t m = .v (.int k2 len)) (h0 : decide (0 ≤ len) = true) (hf : aI7 len.toNat = true) (hz : z = f x) (hk : ∀ b, KL ⟨aE7 t d (.ref (cE7 d * 8) (some b) len.toNat 0 (List.replicate len.toNat x).length k), upd o (cE7 d * 8) (some (ent (some b) len.toNat k ((List.replicate len.toNat x).map f)))⟩ ([], [cE7 d * 8])) : vdo G d (.mks k z n m) t o KL := by
 show dV7 G d (.mks k z n m) t o KL
 intro ch
 have hf' := gw7 hf
 have h0' := of_decide_eq_true h0
 simp only [aA7, hn, hm, asI]
 refine aX7 ?_ (a97 (ai7 ?_))
 ·simp [h0', hf']
 ·have := hk ((ch 0).1.getD 0)
  rw [List.map_replicate, ← hz, List.length_replicate] at this
  exact this
theorem Ga7 {sz : Nat} {p : Od} {n c k cap : Nat} {b : Option Nat} {bx : Bool} {row : List T} {xs : List AV} (hp : ev t p = .ptr n b k 0 c) (ho : o n = some ⟨b, cap, k, bx, [row]⟩) (hc : decide (c + sz ≤ row.length) = true) (hv : n27 ((row.drop c).take sz) = some xs) (hk : KL ⟨aE7 t d (.agg xs), o⟩ ([n], [])) : vdo G d (.ldr sz p) t o KL := by
 show dV7 G d (.ldr sz p) t o KL
 intro ch
 simp only [aA7, hp]
 refine bn7 ho (bf7 (aX7 ?_ (bf7 (c87 (a := .agg xs) ?_ (ai7 hk)))))
 ·simpa using hc
 ·simp only [List.getD_cons_zero, hv]
  rfl
def Tot (box : Bool) (host j : Nat) (k : Option Nat) (x : AV) (o : ak7) (c : T) (o' : ak7) (l : bd7) : Prop := ∀ K : T → ak7 → bd7 → Prop, K c o' l → (toT box host j k x).vp o K
def Tos (box : Bool) (host j : Nat) (ks : List (Option Nat)) (xs : List AV) (o : ak7) (cs : List T) (o' : ak7) (l : bd7) : Prop := ∀ K : List T → ak7 → bd7 → Prop, K cs o' l → (sQ7 box host j ks xs).vp o K
section
variable {box : Bool} {host j : Nat} {o1 o2 : ak7}
theorem CP7 {v : Value} (h : v.oneCell' = true) : Tot box host j none (.v v) o (.v v) o ([], []) := fun K hK => ⟨h, hK⟩
theorem BD7 {k : Nat} {rows : Rows} : Tot box host j (some k) (.ro rows) o (.sl false (k % 16) rows) o ([], []) := fun K hK => hK
theorem CQ7 {k : Nat} {A : Option Addr} {cap : Nat} {rows : Rows} : Tot true host j (some k) (.raw A cap rows) o (.rw A cap rows) o ([], []) := fun K hK => hK
theorem CR7 {k : Nat} {A : Option Addr} {cap : Nat} {rows : Rows} : Tot false host j (some k) (.raw A cap rows) o (.sl false (k % 16) rows) o ([], []) := fun K hK => hK
theorem wL7 {k : Nat} : Tot false host j (some k) .nil o (.sl true k []) o ([], []) := fun K hK => hK
theorem r77 {kk n len : Nat} {b : Option Nat} {cap : Nat} {rows : Rows} (ho : o n = some (ent b cap kk rows)) (hl : len = rows.length) (hn : decide (n ≠ host) = true) : Tot false host j (some kk) (.ref n b cap 0 len kk) o (.sl true kk rows) (upd o n none) ([n], [n]) := fun K hK => by
 subst hl
 refine bn7 ho (bf7 (aX7 ?_ (bf7 (a97 (ai7 ?_)))))
 ·simp only [ent, hn]; simp
 ·simp only [ent, List.take_length]
  exact hK
theorem ol7 : Tos box host j [] [] o [] o ([], []) := fun K hK => hK
theorem kB7 {k : Option Nat} {ks : List (Option Nat)} {x : AV} {xs : List AV} {c : T} {cs : List T} {l1 l2 : bd7} (h : Tot box host j k x o c o1 l1) (hs : Tos box host (j + 1) ks xs o1 cs o2 l2) : Tos box host j (k :: ks) (x :: xs) o (c :: cs) o2 (l1.1 ++ l2.1, l1.2 ++ l2.2) := fun K hK => ac7 (h _ (ac7 (hs _ (ai7 (by simpa using hK)))))
end
theorem CS7 {ks : List (Option Nat)} {p y : Od} {n : Nat} {b : Option Nat} {cap k r c : Nat} {xs : List α} {x x' : α} {cs : List T} {o' : ak7} {l : bd7} (hp : ev t p = .ptr n b k r c) (ho : o n = some (ent b cap k (xs.map f))) (hv : Tos false n c ks (he7 (ev t y)) o cs o' l) (ho' : o' n = some (ent b cap k (xs.map f))) (h : xs[r]? = some x) (hc : decide (c + ks.length ≤ (f x).length) = true) (hx : bN7 (f x) c cs = f x') (hk : KL ⟨aE7 t d .junk, upd o' n (some (ent b cap k ((xs.set r x').map f)))⟩ (n :: (l.1 ++ [n]), l.2 ++ [n])) : vdo G d (.store ks p y) t o KL := by
 show dV7 G d (.store ks p y) t o KL
 intro ch
 have hg : (xs.map f).getD r [] = f x := oh7 h
 have hr : r < (xs.map f).length := by rw [List.length_map]; exact (List.getElem?_eq_some_iff.1 h).1
 simp only [aA7, hp]
 refine bn7 ho (bf7 (ac7 (hv _ (bn7 ho' (bf7 (aX7 ?_ (a97 (ai7 ?_))))))))
 ·simp only [ent, hg]
  have := of_decide_eq_true hc
  simp [this]
  simpa using hr
 ·simp only [ent, hg, hx]
  have : (xs.map f).set r (f x') = (xs.set r x').map f := by rw [List.map_set]
  rw [this]
  exact hk
theorem M57 {ks : List (Option Nat)} {p y : Od} {n : Nat} {b : Option Nat} {cap k r c : Nat} {xs : List α} {x x' : α} {row cs : List T} {o' : ak7} {l : bd7} (hp : ev t p = .ptr n b k r c) (ho : o n = some ⟨b, cap, k, false, (xs.map f).set r row⟩) (hv : Tos false n c ks (he7 (ev t y)) o cs o' l) (ho' : o' n = some ⟨b, cap, k, false, (xs.map f).set r row⟩) (h : xs[r]? = some x) (hc : decide (c + ks.length ≤ row.length) = true) (hx : bN7 row c cs = f x') (hk : KL ⟨aE7 t d .junk, upd o' n (some (ent b cap k ((xs.set r x').map f)))⟩ (n :: (l.1 ++ [n]), l.2 ++ [n])) : vdo G d (.store ks p y) t o KL := by
 show dV7 G d (.store ks p y) t o KL
 intro ch
 have hr : r < xs.length := (List.getElem?_eq_some_iff.1 h).1
 have hg : ((xs.map f).set r row).getD r [] = row := by
  rw [List.getD_eq_getElem?_getD, List.getElem?_set_self (by simpa using hr)]
  rfl
 simp only [aA7, hp]
 refine bn7 ho (bf7 (ac7 (hv _ (bn7 ho' (bf7 (aX7 ?_ (a97 (ai7 ?_))))))))
 ·simp only [hg]
  have := of_decide_eq_true hc
  simp [this]
  simpa using hr
 ·simp only [hg, hx]
  have : ((xs.map f).set r row).set r (f x') = (xs.set r x').map f := by rw [List.set_set, List.map_set]
  rw [this]
  exact hk
section
variable {box : Bool} {host j : Nat} {o1 o2 : ak7}
theorem CT7 {k : Nat} : Tot true host j (some k) .nil o (.al (cn host j) none 0 0 0 k) (upd o (cn host j) (some (ent none 0 k []))) ([], [cn host j]) := fun K hK => a97 (ai7 hK)
theorem CU7 {kk k n off len cap : Nat} {b : Option Nat} {rows : Rows} (ho : o n = some (ent b cap k rows)) (hn : decide (n ≠ host) = true) : Tot true host j (some kk) (.ref n b cap off len k) o (.al (cn host j) b cap off len k) (upd (upd o n none) (cn host j) (some (ent b cap k rows))) ([n], [n, cn host j]) := fun K hK => by
 refine bn7 ho (bf7 (aX7 ?_ (bf7 (a97 (bf7 (a97 (ai7 ?_)))))))
 ·simp only [ent, hn]; simp
 ·exact hK
def Zop (host j : Nat) (z : List T) (o : ak7) (cs : List T) (o' : ak7) (l : bd7) : Prop := ∀ K : List T → ak7 → bd7 → Prop, K cs o' l → (us7 host j z).vp o K
theorem CV7 : Zop host j [] o [] o ([], []) := fun K hK => hK
theorem M67 {x : Value} {z cs : List T} {l : bd7} (h : Zop host (j + 1) z o cs o1 l) : Zop host j (.v x :: z) o (.v x :: cs) o1 l := fun K hK => ac7 (ai7 (ac7 (h _ (ai7 (by simpa using hK)))))
theorem Gb7 {k : Nat} {z cs : List T} {l : bd7} (h : Zop host (j + 1) z (upd o (cn host j) (some (ent none 0 k []))) cs o1 l) : Zop host j (.sl true k [] :: z) o (.al (cn host j) none 0 0 0 k :: cs) o1 (l.1, cn host j :: l.2) := fun K hK => by
 refine ac7 (a97 (ai7 (ac7 (h _ (ai7 ?_)))))
 simpa using hK
end
theorem Gc7 {k : Nat} {ks : List (Option Nat)} {y : Od} {cs : List T} {o' : ak7} {l : bd7} (hv : Tos true (cE7 d * 8) 0 ks (he7 (ev t y)) o cs o' l) (hk : ∀ b, KL ⟨aE7 t d (.ptr (cE7 d * 8) (some b) k 0 0), upd o' (cE7 d * 8) (some ⟨some b, 1, k, true, [cs]⟩)⟩ (l.1, l.2 ++ [cE7 d * 8])) : vdo G d (.box k ks y) t o KL := by
 show dV7 G d (.box k ks y) t o KL
 intro ch
 have := hk ((ch 0).1.getD 0)
 exact ac7 (hv _ (a97 (ai7 (by simpa using this))))
theorem Gd7 {k : Nat} {ks : List (Option Nat)} {z : List T} {y : Od} {cs : List T} {o' : ak7} {l : bd7} (hv : Tos false (cE7 d * 8) 0 ks (he7 (ev t y)) o cs o' l) (hk : ∀ b, KL ⟨aE7 t d (.ref (cE7 d * 8) (some b) 1 0 1 k), upd o' (cE7 d * 8) (some ⟨some b, 1, k, false, [cs]⟩)⟩ (l.1, l.2 ++ [cE7 d * 8])) : vdo G d (.lit k ks z 1 [(0, y)]) t o KL := by
 show dV7 G d (.lit k ks z 1 [(0, y)]) t o KL
 intro ch
 have := hk ((ch 0).1.getD 0)
 simp only [aA7, n17, List.replicate]
 refine ac7 (ac7 ?_)
 refine aX7 (by rfl) ?_
 refine ai7 ?_
 refine ac7 (hv _ ?_)
 refine ai7 ?_
 refine a97 (ai7 ?_)
 simpa using this
theorem Ge7 {k : Nat} {z cs : List T} {o' : ak7} {l : bd7} (hv : Zop (cE7 d * 8) 0 z o cs o' l) (hk : ∀ b, KL ⟨aE7 t d (.ptr (cE7 d * 8) (some b) k 0 0), upd o' (cE7 d * 8) (some ⟨some b, 1, k, true, [cs]⟩)⟩ (l.1, l.2 ++ [cE7 d * 8])) : vdo G d (.alloc k z) t o KL := by
 show dV7 G d (.alloc k z) t o KL
 intro ch
 have := hk ((ch 0).1.getD 0)
 exact ac7 (hv _ (a97 (ai7 (by simpa using this))))
def Fj7 (row : List T) (c : Nat) (cs row' : List T) : Prop := c + cs.length ≤ row.length ∧ bN7 row c cs = row'
theorem jr7 {x : T} : ∀ {cs row : List T} {c : Nat}, bN7 (x :: row) (c + 1) cs = x :: bN7 row c cs
 | [], row, c => rfl
 | y :: cs, row, c => by
  show bN7 (x :: row.set c y) (c + 1 + 1) cs = _
  rw [jr7]
  rfl
theorem Gf7 {row : List T} : Fj7 row 0 [] row := ⟨by simp, rfl⟩
theorem Gg7 {x y : T} {row cs row' : List T} (h : Fj7 row 0 cs row') : Fj7 (x :: row) 0 (y :: cs) (y :: row') := by
 obtain ⟨h1, h2⟩ := h
 refine ⟨by simp at h1 ⊢; omega, ?_⟩
 show bN7 (y :: row) (0 + 1) cs = _
 rw [jr7, h2]
theorem CW7 {x : T} {row cs row' : List T} {c : Nat} (h : Fj7 row c cs row') : Fj7 (x :: row) (c + 1) cs (x :: row') := by
 obtain ⟨h1, h2⟩ := h
 refine ⟨by simp at h1 ⊢; omega, ?_⟩
 rw [jr7, h2]
theorem Gh7 {ks : List (Option Nat)} {p y : Od} {n : Nat} {b : Option Nat} {cap k c : Nat} {bx : Bool} {row row' cs : List T} {o' : ak7} {l : bd7} (hp : ev t p = .ptr n b k 0 c) (ho : o n = some ⟨b, cap, k, bx, [row]⟩) (hv : Tos bx n c ks (he7 (ev t y)) o cs o' l) (ho' : o' n = some ⟨b, cap, k, bx, [row]⟩) (hx : Fj7 row c cs row') (hc : decide (ks.length = cs.length) = true) (hk : KL ⟨aE7 t d .junk, upd o' n (some ⟨b, cap, k, bx, [row']⟩)⟩ (n :: (l.1 ++ [n]), l.2 ++ [n])) : vdo G d (.store ks p y) t o KL := by
 show dV7 G d (.store ks p y) t o KL
 intro ch
 obtain ⟨h1, h2⟩ := hx
 have hc := of_decide_eq_true hc
 simp only [aA7, hp]
 refine bn7 ho (bf7 (ac7 (hv _ (bn7 ho' (bf7 (aX7 ?_ (a97 (ai7 ?_))))))))
 ·simp
  omega
 ·simp only [List.getD_cons_zero, List.set_cons_zero, h2]
  exact hk
theorem pW7 {i : Nat} {x y : AV} : aE7 (aE7 t (some i) x) (some i) y = aE7 t (some i) y := by
 funext j
 simp only [aE7]
 split <;> rfl
theorem BE7 {dd : Nat} {ch : Ch} {op : Opx} {x : AV} (h : evp t op = some x) {K : AV → ak7 → bd7 → Prop} (hK : K x o ([], [])) : (aA7 G dd ch t op).vp o K := by
 cases op with
 | load sz agg p =>
  simp only [evp] at h
  split at h
  ·rename_i cs hcs
   split at h
   ·rename_i hle
    simp only [aA7, hcs, hle, if_true]
    exact c87 h (ai7 hK)
   ·cases h
  ·cases h
 | _ => first | (cases h; done) | exact c87 h (ai7 hK)
theorem nq7 {i : Nat} {op : Opx} {f : AV → HM AV} {op' : Opx} (hw : hOp op' = true) (hs : ∀ ch, aA7 G i ch t op' = (aA7 G i ch t op).bind f) (h : vdo G (some i) op t o fun s l1 => (f (s.t i)).vp s.o fun y o' l2 => KL ⟨aE7 s.t (some i) y, o'⟩ (l1.1 ++ l2.1, l1.2 ++ l2.2)) : vdo G (some i) op' t o KL := by
 have hi : ∀ x, aE7 t (some i) x i = x := fun x => by simp [aE7]
 have key : dV7 G (some i) op' t o KL := by
  intro ch
  show (aA7 G i ch t op').vp o _
  rw [hs]
  have hv : ∀ {K : AV → Prop}, vop t op K → ∃ x, evp t op = some x ∧ K x := lm7
  have pur : (vop t op fun x => (f ((aE7 t (some i) x) i)).vp o fun y o' l2 => KL ⟨aE7 (aE7 t (some i) x) (some i) y, o'⟩ ((([], []) : bd7).1 ++ l2.1, (([], []) : bd7).2 ++ l2.2)) → ((aA7 G i ch t op).bind f).vp o fun x o' l => KL ⟨aE7 t (some i) x, o'⟩ l := fun h => by
   obtain ⟨x, h1, h2⟩ := hv h
   rw [hi] at h2
   simp only [pW7] at h2
   exact ac7 (BE7 (K := fun a o' l1 => (f a).vp o' fun b o'' l2 => KL ⟨aE7 t (some i) b, o''⟩ (l1.1 ++ l2.1, l1.2 ++ l2.2)) h1 h2)
  have hea : (dV7 G (some i) op t o fun s l1 => (f (s.t i)).vp s.o fun y o' l2 => KL ⟨aE7 s.t (some i) y, o'⟩ (l1.1 ++ l2.1, l1.2 ++ l2.2)) → ((aA7 G i ch t op).bind f).vp o fun x o' l => KL ⟨aE7 t (some i) x, o'⟩ l := fun h => by
   refine ac7 (cc7 (K' := fun x o' l1 => (f x).vp o' fun y o'' l2 => KL ⟨aE7 t (some i) y, o''⟩ (l1.1 ++ l2.1, l1.2 ++ l2.2)) (h ch) fun x o' l hh => ?_)
   simp only [hi] at hh
   simp only [pW7] at hh
   exact hh
  unfold vdo at h
  split at h
  ·split at h
   ·exact hea h
   ·exact pur h
  ·split at h
   ·exact hea h
   ·exact pur h
 unfold vdo
 split
 ·cases hw
 ·rw [hw]
  exact key
theorem bz7 {i : Nat} {op : Opx} (h : vdo G (some i) op t o fun s l1 => (e77 (s.t i)).vp s.o fun y o' l2 => KL ⟨aE7 s.t (some i) y, o'⟩ (l1.1 ++ l2.1, l1.2 ++ l2.2)) : vdo G (some i) (.frz op) t o KL := nq7 rfl (fun _ => rfl) h
theorem zn7 {i m k : Nat} {op : Opx} (h : vdo G (some i) op t o fun s l1 => (kn7 m k (s.t i)).vp s.o fun y o' l2 => KL ⟨aE7 s.t (some i) y, o'⟩ (l1.1 ++ l2.1, l1.2 ++ l2.2)) : vdo G (some i) (.ren m k op) t o KL := nq7 rfl (fun _ => rfl) h
def Frz (x : AV) (o : ak7) (y : AV) (o' : ak7) (l : bd7) : Prop := ∀ K : AV → ak7 → bd7 → Prop, K y o' l → (e77 x).vp o K
def Gi7 (x : List AV) (o : ak7) (y : List AV) (o' : ak7) (l : bd7) : Prop := ∀ K : List AV → ak7 → bd7 → Prop, K y o' l → (rN7 x).vp o K
section
variable {o1 o2 : ak7} {l1 l2 : bd7}
theorem wM7 {v : Value} : Frz (.v v) o (.v v) o ([], []) := fun K h => h
theorem M77 {rows : Rows} : Frz (.ro rows) o (.ro rows) o ([], []) := fun K h => h
theorem BF7 : Frz .nil o (.ro []) o ([], []) := fun K h => h
theorem gx7 {n : Nat} {b : Option Nat} {cap k len : Nat} {xs : List α} {g : α → List T} (ho : o n = some (ent b cap k (xs.map f))) (he : ∀ x, erL (f x) = some (g x)) (hl : len = xs.length) : Frz (.ref n b cap 0 len k) o (.ro (xs.map g)) (upd o n none) ([n], [n]) := fun K h => by
 subst hl
 refine bn7 ho (bf7 (aX7 ?_ (bf7 (a97 (bf7 (c87 (a := xs.map g) ?_ (ai7 h)))))))
 ·simp [ent]
 ·simp only [ent, List.drop_zero]
  rw [show (xs.map f).take xs.length = xs.map f by rw [← List.length_map (f := f), List.take_length], dX7 he]
theorem Gj7 {n : Nat} {b : Option Nat} {cap k : Nat} (ho : o n = some (ent b cap k [])) : Frz (.ref n b cap 0 0 k) o (.ro []) (upd o n none) ([n], [n]) := gx7 (α := Nat) (f := fun _ => []) (g := fun _ => []) (xs := []) ho (fun _ => rfl) rfl
theorem nr7 {cs ys : List AV} (h : Gi7 cs o ys o1 l1) : Frz (.agg cs) o (.agg ys) o1 l1 := fun K hK => ac7 (h _ (ai7 (by simpa using hK)))
theorem Gk7 {cs ys : List AV} (h : Gi7 cs o ys o1 l1) : Frz (.tup cs) o (.tup ys) o1 l1 := fun K hK => ac7 (h _ (ai7 (by simpa using hK)))
theorem js7 : Gi7 [] o [] o ([], []) := fun K h => h
theorem bj7 {x y : AV} {xs ys : List AV} (h : Frz x o y o1 l1) (hs : Gi7 xs o1 ys o2 l2) : Gi7 (x :: xs) o (y :: ys) o2 (l1.1 ++ l2.1, l1.2 ++ l2.2) := fun K hK => ac7 (h _ (ac7 (hs _ (ai7 (by simpa using hK)))))
theorem Ml7 {m k0 n : Nat} {b : Option Nat} {cap off len k : Nat} {x : AV} {e : Ent} {K : AV → ak7 → bd7 → Prop} (hx : x = .ref n b cap off len k) (ho : o n = some e) (hk : K (.ref m b cap off len k) (upd (upd o n none) m (some e)) ([n], [n, m])) : (kn7 m k0 x).vp o K := by
 subst hx
 exact bn7 ho (bf7 (a97 (bf7 (a97 (ai7 hk)))))
theorem M87 {m k0 : Nat} {x : AV} {K : AV → ak7 → bd7 → Prop} (hx : x = .nil) (hk : K (.ref m none 0 0 0 k0) (upd o m (some (ent none 0 k0 []))) ([], [m])) : (kn7 m k0 x).vp o K := by
 subst hx
 exact a97 (ai7 hk)
end
theorem r87 {i j : Nat} {op : Opx} (h : vdo G (some i) op t o fun s l1 => (jL7 j (s.t i)).vp s.o fun y o' l2 => KL ⟨aE7 s.t (some i) y, o'⟩ (l1.1 ++ l2.1, l1.2 ++ l2.2)) : vdo G (some i) (.pfz j op) t o KL := nq7 rfl (fun _ => rfl) h
theorem CX7 {i : Nat} {op : Opx} (h : vdo G (some i) op t o fun s l1 => (kT7 (s.t i)).vp s.o fun y o' l2 => KL ⟨aE7 s.t (some i) y, o'⟩ (l1.1 ++ l2.1, l1.2 ++ l2.2)) : vdo G (some i) (.trn op) t o KL := nq7 rfl (fun _ => rfl) h
theorem M97 {i : Nat} {ns : List Nat} {op : Opx} (h : vdo G (some i) op t o fun s l1 => (kS7 ns (s.t i)).vp s.o fun y o' l2 => KL ⟨aE7 s.t (some i) y, o'⟩ (l1.1 ++ l2.1, l1.2 ++ l2.2)) : vdo G (some i) (.unr ns op) t o KL := nq7 rfl (fun _ => rfl) h
theorem Gl7 {i : Nat} {op : Opx} (h : vdo G (some i) op t o fun s l1 => (HM.ret (rO7 (s.t i))).vp s.o fun y o' l2 => KL ⟨aE7 s.t (some i) y, o'⟩ (l1.1 ++ l2.1, l1.2 ++ l2.2)) : vdo G (some i) (.rawl op) t o KL := nq7 (f := fun x => .ret (rO7 x)) rfl (fun _ => rfl) h
theorem BG7 {γ : Type} {f g : γ → List T} {n j k cap off len : Nat} {b : Option Nat} {xs : List γ} {x : AV} {rest : List AV} {K : AV → ak7 → bd7 → Prop} (hp : dz7 j (xs.map f) = some (xs.map g)) (hx : he7 x = .ref n b cap off len k :: rest) (ho : o n = some (ent b cap k (xs.map f))) (hk : K x (upd o n (some (ent b cap k (xs.map g)))) ([n], [n])) : (jL7 j x).vp o K := by
 unfold jL7
 rw [hx]
 refine bn7 ho (bf7 (aX7 (by simp [ent]) (bf7 (ac7 (c87 (a := xs.map g) (by simpa [ent] using hp) (ai7 (a97 (ai7 ?_))))))))
 simpa [ent] using hk
theorem Qs7 {γ : Type} {f : γ → List T} {n k cap len : Nat} {b : Option Nat} {xs ys : List γ} {j : Int} {x : AV} {K : AV → ak7 → bd7 → Prop} (hs : slc xs 0 j = some ys) (hx : x = .ref n b cap 0 len k) (ho : o n = some (ent b cap k (xs.map f))) (hl : len = ys.length) (hk : K (.ref n b cap 0 len k) (upd o n (some (ent b cap k (ys.map f)))) ([n], [n])) : (kT7 x).vp o K := by
 subst hx
 subst hl
 unfold slc at hs
 split at hs
 ·rename_i hc
  cases hs
  have e : (xs.map f).take ((xs.take j.toNat).drop (0 : Int).toNat).length = ((xs.take j.toNat).drop (0 : Int).toNat).map f := by
   simp [List.map_take]
  refine bn7 ho (bf7 (aX7 ?_ (bf7 (a97 (ai7 ?_)))))
  ·simp [ent]
   omega
  ·simp only [ent, e]
   exact hk
 ·cases hs
theorem Gm7 {e : Nat} {x : Od} {lo hi : Option Od} {n len kk cap : Nat} {b : Option Nat} {xs ys : List α} {j : Int} (hs : slc xs 0 j = some ys) (hx : ev t x = .ref n b cap 0 len kk) (hl : mq7 (lo.map (ev t)) = some none) (hh : mq7 (hi.map (ev t)) = some (some j)) (he : e = esz kk) (hlen : len = xs.length) (hk : KL ⟨aE7 t d (.ref n b cap 0 ys.length kk), o⟩ ([], [])) : vdo G d (.sls e x lo hi) t o KL := by
 show ∃ y, evp t (.sls e x lo hi) = some y ∧ KL ⟨aE7 t d y, o⟩ ([], [])
 unfold slc at hs
 split at hs
 ·rename_i hc
  cases hs
  refine ⟨_, ?_, hk⟩
  simp only [evp, hx, hl, hh, Option.getD_none, Option.getD_some]
  rw [if_pos ⟨he, by simp, hc.2.1, by omega⟩]
  have e1 : ((xs.take j.toNat).drop (0 : Int).toNat).length = j.toNat := by
   simp
   omega
  rw [e1]
  simp
 ·cases hs
def UnL (ns : List Nat) (xs : List AV) (o : ak7) (ys : List AV) (L : List Nat) : Prop := ∀ K : List AV → ak7 → bd7 → Prop, K ys o (L, []) → (Cb7 ns xs).vp o K
theorem BH7 {xs : List AV} : UnL [] xs o xs [] := fun K h => by
 cases xs <;> exact h
theorem BI7 {n m : Nat} {ns : List Nat} {xs ys : List AV} {b : Option Nat} {cap off len k : Nat} {L : List Nat} (h : UnL ns xs o ys L) : UnL (m :: ns) (.ref n b cap off len k :: xs) o (.ref n b cap off len k :: ys) L := fun K hK => ac7 (ai7 (ac7 (h _ (ai7 (by simpa using hK)))))
theorem BJ7 {n : Nat} {ns : List Nat} {xs ys : List AV} {A : Option Addr} {b : Option Nat} {cap len k : Nat} {rows : Rows} {L : List Nat} (ho : o n = some (ent b cap k rows)) (hA : A = ur7 b) (hl : len = rows.length) (h : UnL ns xs o ys L) : UnL (n :: ns) (.v (.slice A len cap) :: xs) o (.ref n b cap 0 len k :: ys) (n :: L) := fun K hK => by
 subst hA
 subst hl
 refine ac7 ?_
 refine bn7 ho (bf7 (aX7 (by simp [ent]) (bf7 (ai7 ?_))))
 refine ac7 (h _ (ai7 ?_))
 simpa [ent] using hK
theorem Qt7 {ns : List Nat} {x : AV} {xs ys : List AV} {L : List Nat} {K : AV → ak7 → bd7 → Prop} (hx : x = .agg xs) (h : UnL ns xs o ys L) (hk : K (.agg ys) o (L, [])) : (kS7 ns x).vp o K := by
 subst hx
 exact ac7 (h _ (ai7 (by simpa using hk)))
theorem QZ7 {x : AV} {xs ys : List AV} {K : AV → ak7 → bd7 → Prop} (hx : x = .agg xs) (hy : xs.map uv7 = ys) (hk : K (.agg ys) o ([], [])) : (HM.ret (rO7 x)).vp o K := by
 subst hx
 subst hy
 exact hk
def Q07 (p : AV) (o o' : ak7) (l : bd7) : Prop := ∀ (x : AV) (K : AV → ak7 → bd7 → Prop), K x o' l → (mw7 p x).vp o K
def eX7 (p : AV) (KL : St → bd7 → Prop) (s : St) (l1 : bd7) : Prop := ∃ o' l2, Q07 p s.o o' l2 ∧ KL ⟨s.t, o'⟩ (l1.1 ++ l2.1, l1.2 ++ l2.2)
theorem Gn7 {p : Od} {op : Opx} (h : vdo G d op t o (eX7 (ev t p) KL)) : vdo G d (.shut p op) t o KL := by
 show dV7 G d (.shut p op) t o KL
 intro ch
 show ((aA7 G (cE7 d) ch t op).bind fun x => mw7 (ev t p) x).vp o _
 have hv : ∀ {K : AV → Prop}, vop t op K → ∃ x, evp t op = some x ∧ K x := lm7
 have pur : (vop t op fun x => eX7 (ev t p) KL ⟨aE7 t d x, o⟩ ([], [])) → ((aA7 G (cE7 d) ch t op).bind fun x => mw7 (ev t p) x).vp o fun x o' l => KL ⟨aE7 t d x, o'⟩ l := fun h => by
  obtain ⟨x, h1, o', l2, h2, h3⟩ := hv h
  exact ac7 (BE7 (K := fun a o' l1 => (mw7 (ev t p) a).vp o' fun b o'' l2 => KL ⟨aE7 t d b, o''⟩ (l1.1 ++ l2.1, l1.2 ++ l2.2)) h1 (h2 _ _ h3))
 have hea : dV7 G d op t o (eX7 (ev t p) KL) → ((aA7 G (cE7 d) ch t op).bind fun x => mw7 (ev t p) x).vp o fun x o' l => KL ⟨aE7 t d x, o'⟩ l := fun h =>
  ac7 (cc7 (h ch) fun x o' l ⟨o2, l2, h2, h3⟩ => h2 _ _ h3)
 unfold vdo at h
 split at h
 ·split at h
  ·exact hea h
  ·exact pur h
 ·split at h
  ·exact hea h
  ·exact pur h
theorem Go7 {β γ : Type} {f : γ → List T} {g : β → List T} {p : Od} {n r c k k2 cap : Nat} {b : Option Nat} {xs : List γ} {x : γ} {ys : List β} {rest : List T} (hx : xs[r]? = some x) (hp : ev t p = .ptr n b k r c) (ho : o n = some (ent b cap k (xs.map f))) (hf : (f x).drop c = .sl true k2 (ys.map g) :: rest) (hk : ∀ bb cc, KL ⟨aE7 t d (.ref (cE7 d * 8 + 0) bb cc 0 ys.length k2), upd (upd o (cE7 d * 8 + 0) (some (ent bb cc k2 (ys.map g)))) n (some ⟨b, cap, k, false, (xs.map f).set r ((f x).set c (.al (cE7 d * 8 + 0) bb cc 0 ys.length k2))⟩)⟩ ([n], [cE7 d * 8 + 0, n])) : vdo G d (.load 1 false p) t o KL := by
 have h : dV7 G d (.load 1 false p) t o KL := by
  intro ch
  have hr : r < xs.length := (List.getElem?_eq_some_iff.1 hx).1
  have e : (xs.map f).getD r [] = f x := oh7 hx
  have hlt : c + 1 ≤ (f x).length := by
   rcases Nat.lt_or_ge c (f x).length with h | h
   ·exact h
   ·rw [List.drop_eq_nil_of_le h] at hf
    cases hf
  simp only [aA7, hp]
  refine bn7 ho (bf7 (aX7 ?_ (bf7 ?_)))
  ·simp only [ent, e]
   simp
   exact ⟨hr, hlt⟩
  ·simp only [ent, e, hf, List.take_succ_cons, List.take_zero]
   have := hk (ch 0).1 (ch 0).2
   refine ac7 (ac7 (a97 (ai7 (ai7 ?_))))
   simp only [List.length_map]
   refine ac7 (c87 (a := .ref (cE7 d * 8 + 0) (ch 0).1 (ch 0).2 0 ys.length k2) rfl (ai7 (a97 (ai7 ?_))))
   exact this
 unfold vdo
 simp only [hp]
 exact h
def Giv (k : Option Nat) (x : AV) (o : ak7) (c : T) (o' : ak7) : Prop := ∀ K : T → ak7 → bd7 → Prop, (∀ l, K c o' l) → (pj7 k x).vp o K
def Mm7 (ks : List (Option Nat)) (xs : List AV) (o : ak7) (cs : List T) (o' : ak7) : Prop := ∀ K : List T → ak7 → bd7 → Prop, (∀ l, K cs o' l) → (jM7 ks xs).vp o K
def Clo (c : T) (o : ak7) (c' : T) (o' : ak7) : Prop := ∀ K : T → ak7 → bd7 → Prop, (∀ l, K c' o' l) → (ph7 c).vp o K
def CY7 (cs : List T) (o : ak7) (cs' : List T) (o' : ak7) : Prop := ∀ K : List T → ak7 → bd7 → Prop, (∀ l, K cs' o' l) → (b07 cs).vp o K
def Na7 (t : Tm) (r : Nat ⊕ Nat × Nat) (ks : List (Option Nat)) (o : ak7) (x : Bool × List T) (o' : ak7) : Prop := ∀ K : Bool × List T → ak7 → bd7 → Prop, (∀ l, K x o' l) → (gN7 t r ks).vp o K
def Fk7 (t : Tm) (r : List (Nat ⊕ Nat × Nat)) (ks : List (List (Option Nat))) (o : ak7) (x : List (Bool × List T)) (o' : ak7) : Prop := ∀ K : List (Bool × List T) → ak7 → bd7 → Prop, (∀ l, K x o' l) → (dA7 t r ks).vp o K
section
variable {k : Option Nat} {ks : List (Option Nat)} {o1 o2 o' : ak7}
theorem Nb7 {v : Value} (h : v.oneCell' = true) : Giv none (.v v) o (.v v) o := fun K hK => ⟨h, hK _⟩
theorem CZ7 {k : Nat} {A : Option Addr} {cap : Nat} {rows : Rows} : Giv (some k) (.raw A cap rows) o (.v (.slice A rows.length cap)) o := fun K hK => hK _
theorem C07 {k : Nat} : Giv (some k) .nil o (.sl true k []) o := fun K hK => hK _
theorem Gp7 {k : Nat} {rows : Rows} : Giv (some k) (.ro rows) o (.sl false (k % 16) rows) o := fun K hK => hK _
theorem wN7 {kk n len : Nat} {b : Option Nat} {cap : Nat} {rows : Rows} (ho : o n = some (ent b cap kk rows)) (hl : len = rows.length) : Giv k (.ref n b cap 0 len kk) o (.sl true kk rows) (upd o n none) := fun K hK => by
 subst hl
 have h : (y47 (.ref n b cap 0 rows.length kk)).vp o K := by
  refine bn7 ho (aX7 (by simp [ent]) (a97 (ai7 ?_)))
  simp only [ent, List.take_length]
  exact hK _
 cases k <;> exact h
theorem Gq7 {kk n : Nat} {b : Option Nat} {row row' : List T} {o1 : ak7} (ho : o n = some ⟨b, 1, kk, true, [row]⟩) (h : CY7 row (upd o n none) row' o1) : Giv k (.ptr n b kk 0 0) o (.bx kk row') o1 := fun K hK => by
 have : pj7 k (.ptr n b kk 0 0) = y47 (.ptr n b kk 0 0) := by cases k <;> rfl
 rw [this]
 refine bn7 ho (bf7 (aX7 (by simp) (bf7 (a97 (bf7 ?_)))))
 exact ac7 (h _ fun l => ai7 (hK _))
theorem to7 : Mm7 [] [] o [] o := fun K hK => hK _
theorem pX7 {x : AV} {xs : List AV} {c : T} {cs : List T} (h : Giv k x o c o1) (hs : Mm7 ks xs o1 cs o2) : Mm7 (k :: ks) (x :: xs) o (c :: cs) o2 := fun K hK => ac7 (h _ fun l => ac7 (hs _ fun l2 => ai7 (hK _)))
theorem C17 {v : Value} : Clo (.v v) o (.v v) o := fun K hK => hK _
theorem wO7 {A : Option Addr} {cap : Nat} {rows : Rows} : Clo (.rw A cap rows) o (.rw A cap rows) o := fun K hK => hK _
theorem wP7 {w : Bool} {k : Nat} {rows : Rows} : Clo (.sl w k rows) o (.sl w k rows) o := fun K hK => hK _
theorem tp7 {kk n len : Nat} {b : Option Nat} {cap : Nat} {rows : Rows} (ho : o n = some (ent b cap kk rows)) (hl : len = rows.length) : Clo (.al n b cap 0 len kk) o (.sl true kk rows) (upd o n none) := fun K hK => by
 subst hl
 refine bn7 ho (aX7 (by simp [ent]) (a97 (ai7 ?_)))
 simp only [ent, List.take_length]
 exact hK _
theorem kC7 : CY7 [] o [] o := fun K hK => hK _
theorem ih7 {c c' : T} {cs cs' : List T} (h : Clo c o c' o1) (hs : CY7 cs o1 cs' o2) : CY7 (c :: cs) o (c' :: cs') o2 := fun K hK => ac7 (h _ fun l => ac7 (hs _ fun l2 => ai7 (hK _)))
theorem Gr7 {n : Nat} {x : AV} {cs : List T} {g : Bool} (hx : t n = x) (hg : hX7 x = g) (h : Mm7 ks (he7 x) o cs o') : Na7 t (.inl n) ks o (g, cs) o' := fun K hK => by
 subst hx
 subst hg
 exact ac7 (h _ fun l => ai7 (hK _))
theorem Nc7 {n m sz k : Nat} {b : Option Nat} {e : Ent} {row cs : List T} (hx : t n = .ptr m b k 0 0) (ho : o m = some e) (hb : e.b = b) (hk : e.k = k) (hr : e.rows = [row]) (hz : row.length = sz) (hbx : e.box = true) (h : CY7 row (upd o m none) cs o') : Na7 t (.inr (n, sz)) ks o (true, cs) o' := fun K hK => by
 simp only [gN7, hx]
 refine bn7 ho (aX7 ?_ (a97 (bf7 ?_)))
 ·simp [hb, hk, hr, hz, hbx]
 ·rw [hr]
  exact ac7 (h _ fun l => ai7 (hK _))
theorem tq7 : Fk7 t [] [] o [] o := fun K hK => hK _
theorem pY7 {r : Nat ⊕ Nat × Nat} {rs : List (Nat ⊕ Nat × Nat)} {kss : List (List (Option Nat))} {x : Bool × List T} {xs : List (Bool × List T)} (h : Na7 t r ks o x o1) (hs : Fk7 t rs kss o1 xs o2) : Fk7 t (r :: rs) (ks :: kss) o (x :: xs) o2 := fun K hK => ac7 (h _ fun l => ac7 (hs _ fun l2 => ai7 (hK _)))
def zo7 (bs : Nat → Option Nat × Nat) (lc : Nat → Nat) (i : Nat) (ins : List (Bool × Nat × Rows)) (as : List (Option Rows)) (o o' : ak7) : Prop := ∀ K : List (Option Rows) → ak7 → bd7 → Prop, (∀ l, K as o' l) → (kU7 bs lc i ins as).vp o K
section
variable {bs : Nat → Option Nat × Nat} {lc : Nat → Nat} {i j : Nat} {ins : List (Bool × Nat × Rows)} {as : List (Option Rows)}
theorem BK7 : zo7 bs lc i [] [] o o := fun K h => ai7 (h _)
theorem C27 {x : Bool × Nat × Rows} (h : zo7 bs lc (i + 1) ins as o o') : zo7 bs lc i (x :: ins) (none :: as) o o' := fun K hK => ac7 (h _ fun l => ai7 (hK _))
theorem C37 {k : Nat} {rows0 rows : Rows} (hj : lc i = j) (ho : o j = some (ent (bs i).1 (bs i).2 k rows)) (h : zo7 bs lc (i + 1) ins as (upd o j none) o') : zo7 bs lc i ((false, k, rows0) :: ins) (some rows :: as) o o' := fun K hK => by
 subst hj
 refine bn7 ho (bf7 (aX7 (by simp [ent]) (bf7 (a97 (bf7 ?_)))))
 exact ac7 (ai7 (ac7 (h _ fun l => ai7 (hK _))))
theorem Gs7 {k : Nat} {rows0 : Rows} {row row' row2 : List T} (hj : lc i = j) (ho : o j = some ⟨(bs i).1, (bs i).2, k, true, [row]⟩) (hc : CY7 row (upd o j none) row' o1) (hs : row'.map vL7 = row2) (h : zo7 bs lc (i + 1) ins as o1 o') : zo7 bs lc i ((true, k, rows0) :: ins) (some [row2] :: as) o o' := fun K hK => by
 subst hj
 subst hs
 refine bn7 ho (bf7 (aX7 (by simp) (bf7 (a97 (bf7 ?_)))))
 exact ac7 (ac7 (hc _ fun l => ai7 (ac7 (h _ fun l => ai7 (hK _)))))
end
theorem Gt7 {fn : IFn} {kss : List (List (Option Nat))} {bs : Nat → Option Nat × Nat} {ins : List (Bool × Nat × Rows)} {an : Ans} {xs : List (Bool × List T)} (ho : zo7 bs fn.lc 0 ins an.outs o o1) (h : Fk7 t fn.res kss o1 xs o') (hx : xs = an.res) : jm7 fn kss bs ins an ⟨t, o⟩ := by
 refine ac7 (ho _ fun l => ac7 (h _ fun l => ai7 ⟨hx, rfl⟩))
end
def ovr : List (Nat × AV) → Tm → Tm
 | [], t => t
 | (i, x) :: L, t => aE7 (ovr L t) (some i) x
def ovh : List (Nat × Ent) → ak7 → ak7
 | [], o => o
 | (i, x) :: L, o => upd (ovh L o) i (some x)
theorem ovn : t = ovr [] t := rfl
theorem ovc {i : Nat} {x : AV} {L : List (Nat × AV)} (h : t i = x) (hs : t = ovr L t) : t = ovr ((i, x) :: L) t := by
 simp only [ovr]
 rw [← hs]
 exact QW7 h
theorem C47 {i n k l l' : Nat} {b : Option Nat} {cap : Nat} {L : List (Nat × AV)} (h : t i = .ref n b cap 0 l k) (hl : l = l') (hs : t = ovr L t) : t = ovr ((i, .ref n b cap 0 l' k) :: L) t := ovc (by rw [h, hl]) hs
theorem ohn : o = ovh [] o := rfl
theorem ohc {i : Nat} {x : Ent} {L : List (Nat × Ent)} (h : o i = some x) (hs : o = ovh L o) : o = ovh ((i, x) :: L) o := by
 simp only [ovh]
 rw [← hs]
 exact QX7 h
end
section
variable {G : Gam} {Q : Ex → St → Prop} {s : St} {a b : IC}
def uY7 (r r' : List T) : Prop := r = r'
theorem Gu7 : uY7 [] [] := rfl
theorem Qu7 {c : T} {r r' : List T} (hr : uY7 r r') : uY7 (c :: r) (c :: r') := congrArg (c :: ·) hr
theorem Gv7 {n k l l' : Nat} {b : Option Nat} {cap : Nat} {r r' : List T} (h : l = l') (hr : uY7 r r') : uY7 (.al n b cap 0 l k :: r) (.al n b cap 0 l' k :: r') := by
 subst h
 exact congrArg (_ :: ·) hr
theorem C57 {o : ak7} {i k : Nat} {b : Option Nat} {cap : Nat} {row row' : List T} {L : List (Nat × Ent)} (h : o i = some ⟨b, cap, k, true, [row]⟩) (hr : uY7 row row') (hs : o = ovh L o) : o = ovh ((i, ⟨b, cap, k, true, [row']⟩) :: L) o := by
 cases hr
 exact ohc h hs
def kD7 (P : Tm → ak7 → Prop) (Q : Ex → St → Prop) : Ex → St → Prop := fun e s' => match e with
 | .norm => P s'.t s'.o
 | .exit i => Q (.exit i) s'
 | .ret => Q .ret s'
theorem cN7 {P : Tm → ak7 → Prop} {t : Tm} {o : ak7} (h : P t o) : kD7 P Q .norm ⟨t, o⟩ := h
theorem Qv7 {P : Tm → ak7 → Prop} {i : Nat} (h : Q (.exit i) s) : kD7 P Q (.exit i) s := h
theorem Qw7 {P : Tm → ak7 → Prop} (h : Q .ret s) : kD7 P Q .ret s := h
def bL7 (I : Nat → Tm → ak7 → Prop) (n : Nat) (Q : Ex → St → Prop) : Ex → St → Prop := fg7 (fun m s => I m s.t s.o) n Q
theorem fj7 {t : Tm} {o : ak7} (I : Nat → Tm → ak7 → Prop) (n : Nat) (h0 : I n t o) (h : ∀ n t o, I n t o → vwp G a (bL7 I n Q) ⟨t, o⟩) : vwp G (.loop a) Q ⟨t, o⟩ := FG7 (fun m s => I m s.t s.o) n h0 fun n s' hi => h n s'.t s'.o hi
theorem gy7 {I : Nat → Tm → ak7 → Prop} {n : Nat} {t : Tm} {o : ak7} (m : Nat) (hm : m < n) (h : I m t o) : bL7 I n Q .norm ⟨t, o⟩ := ⟨m, hm, h⟩
theorem Gw7 {I : Nat → Tm → ak7 → Prop} {n i : Nat} (h : Q (.exit i) s) : bL7 I n Q (.exit i) s := h
theorem Gx7 {I : Nat → Tm → ak7 → Prop} {n : Nat} (h : Q .ret s) : bL7 I n Q .ret s := h
def dP7 (a b : IC) : IC := .seq a b
def bR7 (id : Nat) (a : IC) : IC := .block id a
theorem ls7 {id : Nat} (P : Tm → ak7 → Prop) (h1 : vwp G a (jX7 id (kD7 P Q)) s) (h2 : ∀ t o, P t o → Q .norm ⟨t, o⟩) : vwp G (bR7 id a) Q s := by
 refine ⟨fun s => P s.t s.o, ?_, fun s' h => h2 s'.t s'.o h⟩
 exact h1
theorem c07 (P : Tm → ak7 → Prop) (h1 : vwp G a (kD7 P Q) s) (h2 : ∀ t o, P t o → vwp G b Q ⟨t, o⟩) : vwp G (dP7 a b) Q s := ⟨fun s => P s.t s.o, h1, fun s' h => h2 s'.t s'.o h⟩
end
end Go.Proofs.AM
