/- Lemmas of the proof (R), on an abstract machine. Conditions: none. -/
import Derived.Test.YtnnfdbdheoajgaaGreatW
import Derived.Test.YtnnfdbdheoajgaaGreatE
set_option linter.unusedVariables false
namespace Go.Proofs.AM
theorem xb7 : ∀ {cs : List T} {K : List T → Prop}, K cs → My7 cs K
 | [], K, h => h
 | c :: cs, K, h => xb7 (cs := cs) h
theorem sG7 : ∀ {e : Option Ent} {K : Option Ent → Prop}, K e → Nc7 e K
 | none, K, h => h
 | some ⟨b, cap, k, true, []⟩, K, h => h
 | some ⟨b, cap, k, true, [row]⟩, K, h => xb7 (cs := row) h
 | some ⟨b, cap, k, true, _ :: _ :: _⟩, K, h => h
 | some ⟨b, cap, k, false, rows⟩, K, h => h
theorem ac7 {α β : Type} {f : α → HM β} : ∀ {m : HM α} {o : aj7} {K : β → aj7 → a47 → Prop}, (m.vp o fun a o' l1 => (f a).vp o' fun b o'' l2 => K b o'' (l1.1 ++ l2.1, l1.2 ++ l2.2)) → (m.bind f).vp o K
 | .ret a, o, K, h => h
 | .get n k, o, K, h => by
  simp only [HM.vp, HM.bind] at h ⊢
  split at h
  ·exact ac7 (m := k _) h
  ·exact h.elim
 | .put n e k, o, K, h => sG7 (ac7 (m := k) (jm7 h))
 | .need b k, o, K, h => ⟨h.1, ac7 (m := k) h.2⟩
 | .opt x k, o, K, ⟨a, h1, h2⟩ => ⟨a, h1, ac7 (m := k a) h2⟩
theorem cc7 {α : Type} : ∀ {m : HM α} {o : aj7} {K K' : α → aj7 → a47 → Prop}, m.vp o K → (∀ a o l, K a o l → K' a o l) → m.vp o K'
 | .ret a, o, K, K', h, hk => hk _ _ _ h
 | .get n k, o, K, K', h, hk => by
  simp only [HM.vp] at h ⊢
  split at h
  ·exact cc7 (m := k _) h fun a o l => hk _ _ _
  ·exact h.elim
 | .put n e k, o, K, K', h, hk => sG7 (cc7 (m := k) (jm7 h) fun a o l => hk _ _ _)
 | .need b k, o, K, K', h, hk => ⟨h.1, cc7 (m := k) h.2 hk⟩
 | .opt x k, o, K, K', ⟨a, h1, h2⟩, hk => ⟨a, h1, cc7 (m := k a) h2 hk⟩
theorem bj7 {β : Type} {n : Nat} {e : Ent} {o : aj7} {k : Ent → HM β} {K : β → aj7 → a47 → Prop} (ho : o n = some e) (h : (k e).vp o fun b o' l => K b o' (n :: l.1, l.2)) : (HM.get n k).vp o K := by
 simp only [HM.vp, ho]
 exact h
theorem ai7 {β : Type} {a : β} {o : aj7} {K : β → aj7 → a47 → Prop} (h : K a o ([], [])) : (HM.ret a).vp o K := h
theorem a77 {α β : Type} {a : α} {f : α → HM β} {o : aj7} {K : β → aj7 → a47 → Prop} (h : (f a).vp o K) : ((HM.ret a).bind f).vp o K := h
theorem aU7 {β : Type} {b : Bool} {o : aj7} {k : HM β} {K : β → aj7 → a47 → Prop} (hb : b = true) (h : k.vp o K) : (HM.need b k).vp o K := ⟨hb, h⟩
theorem c77 {α β : Type} {x : Option α} {a : α} {o : aj7} {k : α → HM β} {K : β → aj7 → a47 → Prop} (hx : x = some a) (h : (k a).vp o K) : (HM.opt x k).vp o K := ⟨a, hx, h⟩
theorem a37 {β : Type} {n : Nat} {e : Option Ent} {o : aj7} {k : HM β} {K : β → aj7 → a47 → Prop} (h : k.vp (upd o n e) fun b o' l => K b o' (l.1, n :: l.2)) : (HM.put n e k).vp o K := sG7 h
section
variable {R : Type} {r : R}
theorem itt {p : Bool} {A B : Option R} (h : (if p = true then A else B) = some r) (c : p = true) : A = some r := by rwa [if_pos c] at h
theorem itf {p : Bool} {A B : Option R} (h : (if p = true then A else B) = some r) (c : p = false) : B = some r := by rwa [if_neg (by rw [c]; decide)] at h
theorem bnd {α : Type} {x : Option α} {f : α → Option R} (h : x.bind f = some r) : ∃ a, x = some a ∧ f a = some r := Option.bind_eq_some_iff.1 h
end
def cat (a b : Str) : Option Str := if a.size + b.size ≤ 9223372036854775807 then some (a ++ b) else none
def idx {α : Type} (xs : List α) (i : Int) : Option α := if 0 ≤ i then xs[i.toNat]? else none
def C67 (s : Str) (i : Int) : Option UInt8 := if 0 ≤ i then s.data.toList[i.toNat]? else none
def seq (a b : Str) : Bool := a.toList == b.toList
def slt (a b : Str) : Bool := Op.bytesLess a.toList b.toList
def slc {α : Type} (xs : List α) (lo hi : Int) : Option (List α) := if 0 ≤ lo ∧ lo ≤ hi ∧ hi ≤ xs.length then some ((xs.take hi.toNat).drop lo.toNat) else none
def C77 (s : Str) (lo hi : Int) : Option Str := if 0 ≤ lo ∧ lo ≤ hi ∧ hi ≤ s.size then some (s.extract lo.toNat hi.toNat) else none
def aH7 (n : Nat) : Bool := decide (n ≤ 4294967296)
def zo7 (a b : Int) : Option Int := if b ≠ 0 then some (a.tmod b) else none
def C87 (a b : Int) : Option Int := if b ≠ 0 then some (IntKind.i64.wrap (a.tdiv b)) else none
def FO7 (a b : Int) : Int := IntKind.i64.wrap ((BitVec.ofInt 64 a ^^^ BitVec.ofInt 64 b).toNat : Int)
theorem aF7 {α : Type} {xs : List α} {i : Int} {x : α} (h : idx xs i = some x) : 0 ≤ i ∧ xs[i.toNat]? = some x := by
 unfold idx at h
 split at h
 ·exact ⟨by assumption, h⟩
 ·cases h
section
variable {G : Gam} {t : Tm} {o : aj7} {KL : St → a47 → Prop} {d : Option Nat} {α : Type} {f : α → List T}
theorem xc7 {x : Od} {xs : List α} (hx : ev t x = .ro (xs.map f)) (hk : KL ⟨aG7 t d (.v (.int .i64 xs.length)), o⟩ ([], [])) : vdo G d (.len false x) t o KL := by
 show vop t (.len false x) (fun y => KL ⟨aG7 t d y, o⟩ ([], []))
 simp only [vop, hx]
 exact ⟨xs.length, by simp, hk⟩
theorem tP7 {x : Od} {A : Option Addr} {cap : Nat} {xs : List α} (hx : ev t x = .raw A cap (xs.map f)) (hk : KL ⟨aG7 t d (.v (.int .i64 xs.length)), o⟩ ([], [])) : vdo G d (.len false x) t o KL := by
 show vop t (.len false x) (fun y => KL ⟨aG7 t d y, o⟩ ([], []))
 simp only [vop, hx]
 exact ⟨xs.length, by simp, hk⟩
theorem tQ7 {e : Nat} {x : Od} {lo hi : Option Od} {A : Option Addr} {cap : Nat} {xs ys : List α} {h : Option Int} (hx : ev t x = .raw A cap (xs.map f)) (hl : mF7 (lo.map (ev t)) = some none) (hh : mF7 (hi.map (ev t)) = some h) (hs : slc xs 0 (h.getD xs.length) = some ys) (hk : KL ⟨aG7 t d (.raw A cap (ys.map f)), o⟩ ([], [])) : vdo G d (.sls e x lo hi) t o KL := by
 show ∃ y, evp t (.sls e x lo hi) = some y ∧ KL ⟨aG7 t d y, o⟩ ([], [])
 unfold slc at hs
 split at hs
 ·rename_i hc
  cases hs
  refine ⟨_, ?_, hk⟩
  simp only [evp, hx, hl, hh, List.length_map]
  rw [if_pos hc.2]
  simp [List.map_take]
 ·cases hs
theorem Go7 {agg : Bool} {ks : List Nat} {x y : Od} {p : Bool} (hp : FK7 agg ks (ev t x) (ev t y) = some p) (h : KL ⟨aG7 t d (.v (.bool p)), o⟩ ([], [])) : vdo G d (.eqs false agg ks x y) t o KL := ⟨p, p, hp, rfl, h⟩
theorem Gp7 {agg : Bool} {ks : List Nat} {x y : Od} {p : Bool} (hp : FK7 agg ks (ev t x) (ev t y) = some p) (h : KL ⟨aG7 t d (.v (.bool !p)), o⟩ ([], [])) : vdo G d (.eqs true agg ks x y) t o KL := ⟨p, !p, hp, rfl, h⟩
theorem QL7 {c x y : Od} (hc : ev t c = .v (.bool true)) (h : vdo G d (.mv x) t o KL) : vdo G d (.pick c x y) t o KL := by
 have h' : frc (fun z => KL ⟨aG7 t d z, o⟩ ([], [])) (ev t x) := h
 exact ⟨_, by simp only [evp, hc]; rfl, eU7 h'⟩
theorem QM7 {c x y : Od} (hc : ev t c = .v (.bool false)) (h : vdo G d (.mv y) t o KL) : vdo G d (.pick c x y) t o KL := by
 have h' : frc (fun z => KL ⟨aG7 t d z, o⟩ ([], [])) (ev t y) := h
 exact ⟨_, by simp only [evp, hc]; rfl, eU7 h'⟩
theorem dp7 {e : Nat} {x i : Od} {xs : List α} {k : IntKind} {j : Int} {y : α} (hx : ev t x = .ro (xs.map f)) (hi : ev t i = .v (.int k j)) (h : idx xs j = some y) (he : (f y).length = e) (hk : KL ⟨aG7 t d (.rptr (f y)), o⟩ ([], [])) : vdo G d (.iaddr e x i) t o KL := by
 obtain ⟨h1, h2⟩ := aF7 h
 show vop t (.iaddr e x i) (fun y => KL ⟨aG7 t d y, o⟩ ([], []))
 simp only [vop, hx, hi]
 exact ⟨j.toNat, f y, by omega, QK7 h2, he, hk⟩
theorem eK7 {e : Nat} {x i : Od} {xs : List α} {k : IntKind} {j : Int} {y : α} {n : Nat} {b : Option Nat} {cap kk : Nat} {len : Nat} (hx : ev t x = .ref n b cap 0 len kk) (hi : ev t i = .v (.int k j)) (h : idx xs j = some y) (he : e = esz kk) (hk : KL ⟨aG7 t d (.ptr n b kk j.toNat 0), o⟩ ([], [])) (hl : len = xs.length := by first | rfl | simp) : vdo G d (.iaddr e x i) t o KL := by
 subst hl
 obtain ⟨h1, h2⟩ := aF7 h
 show vop t (.iaddr e x i) (fun y => KL ⟨aG7 t d y, o⟩ ([], []))
 simp only [vop, hx, hi]
 refine ⟨j.toNat, by omega, (List.getElem?_eq_some_iff.1 h2).1, he, ?_⟩
 rw [Nat.zero_add]
 exact hk
theorem BY7 {x i : Od} {s : Str} {k : IntKind} {j : Int} {c : UInt8} (hx : ev t x = .v (.string s)) (hi : ev t i = .v (.int k j)) (h : C67 s j = some c) (hk : KL ⟨aG7 t d (.v (.int .u8 c.toNat)), o⟩ ([], [])) : vdo G d (.sidx x i) t o KL := by
 have hh : 0 ≤ j ∧ s.data.toList[j.toNat]? = some c := by
  unfold C67 at h
  split at h
  ·exact ⟨by assumption, h⟩
  ·cases h
 show vop t (.sidx x i) (fun y => KL ⟨aG7 t d y, o⟩ ([], []))
 simp only [vop, hx, hi]
 exact ⟨j.toNat, c, by omega, hh.2, hk⟩
theorem Nl7 {x y : Od} {a b s : Str} (hx : ev t x = .v (.string a)) (hy : ev t y = .v (.string b)) (h : cat a b = some s) (hk : KL ⟨aG7 t d (.v (.string s)), o⟩ ([], [])) : vdo G d (.bin .add x y) t o KL := by
 show vop t (.bin .add x y) (fun y => KL ⟨aG7 t d y, o⟩ ([], []))
 simp only [vop, hx, hy]
 refine ⟨.string s, ?_, hk⟩
 unfold cat at h
 simp only [sm7]
 split at h
 ·rename_i hh
  cases h
  rw [if_pos hh]
 ·cases h
theorem oJ7 {e : Nat} {x : Od} {lo hi : Option Od} {xs ys : List α} {l h : Option Int} (hx : ev t x = .ro (xs.map f)) (hl : mF7 (lo.map (ev t)) = some l) (hh : mF7 (hi.map (ev t)) = some h) (hs : slc xs (l.getD 0) (h.getD xs.length) = some ys) (he : ∀ x, (f x).length = e) (hk : KL ⟨aG7 t d (.ro (ys.map f)), o⟩ ([], [])) : vdo G d (.sls e x lo hi) t o KL := by
 show ∃ y, evp t (.sls e x lo hi) = some y ∧ KL ⟨aG7 t d y, o⟩ ([], [])
 unfold slc at hs
 split at hs
 ·rename_i hc
  cases hs
  have h2 : ((xs.map f).head?.map List.length).getD e = e := by
   cases xs with
   | nil => rfl
   | cons a as => simp [he]
  refine ⟨_, ?_, hk⟩
  simp only [evp, hx, hl, hh, List.length_map]
  rw [if_pos ⟨hc, h2⟩, List.map_drop, List.map_take]
 ·cases hs
theorem Gq7 {x : Od} {lo hi : Option Od} {s s' : Str} {l h : Option Int} (hx : ev t x = .v (.string s)) (hl : mF7 (lo.map (ev t)) = some l) (hh : mF7 (hi.map (ev t)) = some h) (hs : C77 s (l.getD 0) (h.getD s.size) = some s') (hk : KL ⟨aG7 t d (.v (.string s')), o⟩ ([], [])) : vdo G d (.ssl x lo hi) t o KL := by
 show ∃ y, evp t (.ssl x lo hi) = some y ∧ KL ⟨aG7 t d y, o⟩ ([], [])
 unfold C77 at hs
 split at hs
 ·rename_i hc
  cases hs
  refine ⟨_, ?_, hk⟩
  simp only [evp, hx, hl, hh]
  rw [if_pos hc]
 ·cases hs
theorem im7 {x y : Od} {k : IntKind} {a b v : Int} (hx : ev t x = .v (.int k a)) (hy : ev t y = .v (.int k b)) (h : zo7 a b = some v) (hk : KL ⟨aG7 t d (.v (.int k v)), o⟩ ([], [])) : vdo G d (.bin .rem x y) t o KL := by
 show vop t (.bin .rem x y) (fun y => KL ⟨aG7 t d y, o⟩ ([], []))
 simp only [vop, hx, hy]
 refine ⟨.int k v, ?_, hk⟩
 unfold zo7 at h
 split at h
 ·rename_i hb
  cases h
  simp [sm7, hb]
 ·cases h
theorem xd7 {x y : Od} {a b v : Int} (hx : ev t x = .v (.int .i64 a)) (hy : ev t y = .v (.int .i64 b)) (h : C87 a b = some v) (hk : KL ⟨aG7 t d (.v (.int .i64 v)), o⟩ ([], [])) : vdo G d (.bin .quo x y) t o KL := by
 show vop t (.bin .quo x y) (fun y => KL ⟨aG7 t d y, o⟩ ([], []))
 simp only [vop, hx, hy]
 refine ⟨.int .i64 v, ?_, hk⟩
 unfold C87 at h
 split at h
 ·rename_i hb
  cases h
  simp [sm7, hb]
 ·cases h
theorem xe7 {x y : Od} {a b : Int} (hx : ev t x = .v (.int .i64 a)) (hy : ev t y = .v (.int .i64 b)) (hk : KL ⟨aG7 t d (.v (.int .i64 (FO7 a b))), o⟩ ([], [])) : vdo G d (.bin .xor x y) t o KL := by
 show vop t (.bin .xor x y) (fun y => KL ⟨aG7 t d y, o⟩ ([], []))
 simp only [vop, hx, hy]
 exact ⟨.int .i64 (FO7 a b), by simp only [sm7, if_true]; rfl, hk⟩
def ent (b : Option Nat) (cap k : Nat) (rows : Rows) : Ent := ⟨b, cap, k, false, rows⟩
theorem oK7 {xs : List α} {i : Nat} {x : α} (h : xs[i]? = some x) : (xs.map f).getD i [] = f x := by
 rw [List.getD_eq_getElem?_getD, QK7 h]
 rfl
theorem oL7 {sz : Nat} {agg : Bool} {p : Od} {n : Nat} {b : Option Nat} {cap k r c : Nat} {xs : List α} {x : α} {y : AV} (hp : ev t p = .ptr n b k r c) (ho : o n = some (ent b cap k (xs.map f))) (h : xs[r]? = some x) (hc : decide (c + sz ≤ (f x).length) = true) (hw : wm7 (((f x).drop c).take sz) = false) (hy : one agg ((((f x).drop c).take sz).map u37) = some y) (hk : KL ⟨aG7 t d y, o⟩ ([n], [])) : vdo G d (.load sz agg p) t o KL := by
 have hg : (xs.map f).getD r [] = f x := oK7 h
 have hr : r < (xs.map f).length := by rw [List.length_map]; exact (List.getElem?_eq_some_iff.1 h).1
 show (match ev t p with | .ptr .. => dU7 G d (.load sz agg p) t o KL | _ => vop t (.load sz agg p) fun x => KL ⟨aG7 t d x, o⟩ ([], []))
 rw [hp]
 intro ch
 simp only [aB7, hp]
 refine bj7 ho (a77 (aU7 ?_ (a77 ?_)))
 ·simp only [ent, hg, Bool.and_eq_true, decide_eq_true_eq]
  exact ⟨⟨⟨trivial, trivial⟩, decide_eq_true hr⟩, of_decide_eq_true hc⟩
 ·simp only [ent, hg, hw]
  exact c77 hy (ai7 hk)
def vx7 (x : AV) (o : aj7) (y : AV) (L : List Nat) : Prop := ∀ K : AV → aj7 → a47 → Prop, K y o (L, []) → (bor x).vp o K
def eL7 (xs : List AV) (o : aj7) (ys : List AV) (L : List Nat) : Prop := ∀ K : List AV → aj7 → a47 → Prop, K ys o (L, []) → (wl7 xs).vp o K
def zP7 (x : T) (o : aj7) (y : T) (L : List Nat) : Prop := ∀ K : T → aj7 → a47 → Prop, K y o (L, []) → (FU7 x).vp o K
def tR7 (xs : List T) (o : aj7) (ys : List T) (L : List Nat) : Prop := ∀ K : List T → aj7 → a47 → Prop, K ys o (L, []) → (sn7 xs).vp o K
theorem BZ7 {v : Value} : vx7 (.v v) o (.v v) [] := fun K h => h
theorem xf7 {rows : Rows} : vx7 (.ro rows) o (.ro rows) [] := fun K h => h
theorem tS7 {A : Option Addr} {cap : Nat} {rows : Rows} : vx7 (.raw A cap rows) o (.raw A cap rows) [] := fun K h => h
theorem qj7 {n : Nat} {b : Option Nat} {cap k len : Nat} {xs : List α} {g : α → List T} (ho : o n = some (ent b cap k (xs.map f))) (he : ∀ x, erL (f x) = some (g x)) (hl : len = xs.length) : vx7 (.lref n b cap len k) o (.raw (u17 b) cap (xs.map g)) [n] := fun K h => by
 subst hl
 refine bj7 ho (a77 (aU7 ?_ (a77 ?_)))
 ·simp [ent]
 ·refine c77 (a := .raw (u17 b) cap (xs.map g)) ?_ (ai7 h)
  simp only [ent]
  rw [dW7 he]
  rfl
theorem tT7 : vx7 .nil o (.ro []) [] := fun K h => h
theorem xg7 {cs : List T} : vx7 (.rptr cs) o (.rptr cs) [] := fun K h => h
theorem oM7 {n : Nat} {b : Option Nat} {cap k len : Nat} {xs : List α} {g : α → List T} (ho : o n = some (ent b cap k (xs.map f))) (he : ∀ x, erL (f x) = some (g x)) (hl : len = xs.length) : vx7 (.ref n b cap 0 len k) o (.ro (xs.map g)) [n] := fun K h => by
 subst hl
 refine bj7 ho (aU7 ?_ ?_)
 ·simp [ent]
 ·refine c77 (a := .ro (xs.map g)) ?_ (ai7 h)
  simp only [ent, List.drop_zero]
  rw [show (xs.map f).take xs.length = xs.map f by rw [← List.length_map (f := f), List.take_length], dW7 he]
  rfl
theorem qk7 {n : Nat} {b : Option Nat} {cap k len : Nat} {rows : Rows} {xs : List α} {g : α → List T} (ho : o n = some ⟨b, cap, k, false, rows⟩) (hr : rows = xs.map g) (he : ∀ x, erL (g x) = some (g x)) (hl : len = xs.length) : vx7 (.ref n b cap 0 len k) o (.ro (xs.map g)) [n] := by
 subst hr
 exact oM7 ho he hl
theorem tU7 {cs ys : List AV} {L : List Nat} (h : eL7 cs o ys L) : vx7 (.agg cs) o (.agg ys) L := fun K hK => ac7 (h _ (ai7 (by simpa using hK)))
theorem xh7 {g : Nat} {cs ys : List AV} {L : List Nat} (h : eL7 cs o ys L) : vx7 (.fn g cs) o (.fn g ys) L := fun K hK => ac7 (h _ (ai7 (by simpa using hK)))
theorem ql7 : eL7 [] o [] [] := fun K h => h
theorem nE7 {x y : AV} {xs ys : List AV} {L1 L2 : List Nat} (h : vx7 x o y L1) (hs : eL7 xs o ys L2) : eL7 (x :: xs) o (y :: ys) (L1 ++ L2) := fun K hK => ac7 (h _ (ac7 (hs _ (ai7 (by simpa using hK)))))
theorem xi7 {v : Value} : zP7 (.v v) o (.v v) [] := fun K h => ⟨_, rfl, h⟩
theorem tV7 {w : Bool} {k : Nat} {xs : List α} {g : α → List T} (he : ∀ x, erL (f x) = some (g x)) : zP7 (.sl w k (xs.map f)) o (.sl false (k % 16) (xs.map g)) [] := fun K h => c77 (a := .sl false (k % 16) (xs.map g)) (by simp only [erT, dW7 he]; rfl) (ai7 h)
theorem tW7 {n : Nat} {b : Option Nat} {cap k len : Nat} {xs : List α} {g : α → List T} (ho : o n = some (ent b cap k (xs.map f))) (he : ∀ x, erL (f x) = some (g x)) (hl : len = xs.length) : zP7 (.al n b cap 0 len k) o (.sl false (k % 16) (xs.map g)) [n] := fun K h => by
 subst hl
 refine bj7 ho (aU7 ?_ ?_)
 ·simp [ent]
 ·refine c77 (a := .sl false (k % 16) (xs.map g)) ?_ (ai7 h)
  simp only [ent, List.drop_zero]
  rw [show (xs.map f).take xs.length = xs.map f by rw [← List.length_map (f := f), List.take_length], dW7 he]
  rfl
theorem nF7 : tR7 [] o [] [] := fun K h => h
theorem ly7 {x y : T} {xs ys : List T} {L1 L2 : List Nat} (h : zP7 x o y L1) (hs : tR7 xs o ys L2) : tR7 (x :: xs) o (y :: ys) (L1 ++ L2) := fun K hK => ac7 (h _ (ac7 (hs _ (ai7 (by simpa using hK)))))
theorem tX7 {n : Nat} {b : Option Nat} {k c : Nat} {row : List T} {e : Ent} {ys : List T} {L : List Nat} (ho : o n = some e) (hb : e.b = b) (hk : e.k = k) (hr : e.rows = [row]) (h : tR7 (row.drop c) o ys L) : vx7 (.ptr n b k 0 c) o (.rptr ys) (n :: L) := fun K hK => by
 refine bj7 ho (aU7 ?_ ?_)
 ·simp [hb, hk, hr]
 ·rw [hr]
  refine a77 (ac7 (h _ (ai7 ?_)))
  simpa using hK
def dX7 (xs : List (Bool × Od)) : Bool := xs.all fun x => !x.1
theorem nG7 : ∀ {xs : List (Bool × Od)} {i : Nat} {K : List (Option AV) × List In → aj7 → a47 → Prop}, dX7 xs = true → K (xs.map fun _ => none, []) o ([], []) → (i87 t i xs).vp o K
 | [], i, K, h, hK => hK
 | (m, x) :: xs, i, K, h, hK => by
  simp only [dX7, List.all_cons, Bool.and_eq_true, Bool.not_eq_true'] at h
  obtain ⟨rfl, h⟩ := h
  exact ac7 (nG7 h (ai7 hK))
theorem vy7 : ∀ {xs : List (Bool × Od)} {ys : List AV} {L : List Nat} {K : List AV → aj7 → a47 → Prop}, eL7 (xs.map fun x => ev t x.2) o ys L → K ys o (L, []) → (g87 t xs (xs.map fun _ => none)).vp o K := by
 intro xs
 have key : ∀ xs : List (Bool × Od), g87 t xs (xs.map fun _ => none) = wl7 (xs.map fun x => ev t x.2) := by
  intro xs
  induction xs with
  | nil => rfl
  | cons x xs ih =>
   obtain ⟨m, x⟩ := x
   show (do let z ← bor (ev t x); let zs ← g87 t xs (xs.map fun _ => none); HM.ret (z :: zs) : HM (List AV)) = _
   rw [ih]
   rfl
 intro ys L K h hK
 rw [key]
 exact h _ hK
theorem qm7 {xs : List (Bool × Od)} {ys : List AV} {L : List Nat} {K : List AV × List In → aj7 → a47 → Prop} (hn : dX7 xs = true) (h : eL7 (xs.map fun x => ev t x.2) o ys L) (hK : K (ys, []) o (L, [])) : (args t xs).vp o K :=
 ac7 (nG7 hn (ac7 (vy7 h (ai7 (by simpa using hK)))))
theorem Gr7 {g : Nat} {xs : List (Bool × Od)} {as : List AV} {L : List Nat} {r : Ans} (hg : G g as [] = some r) (hn : dX7 xs = true) (ha : eL7 (xs.map fun x => ev t x.2) o as L) (hw : (gr7 t xs || (d27 (r.res.map (·.2)) && r.outs.all gl7)) = true) (ho : r.outs = []) (hk : ∀ ch : Ch, (bs7 (cB7 d) ch 0 r.res).vp o fun ys o' l => KL ⟨aG7 t d (jN7 ys), o'⟩ (L ++ l.1, l.2)) : vdo G d (.call g xs) t o KL := by
 show dU7 G d (.call g xs) t o KL
 intro ch
 refine ac7 (qm7 hn ha ?_)
 refine c77 (a := r) hg (aU7 hw (a77 ?_))
 unfold tail
 rw [ho]
 refine ac7 (ai7 (ac7 (cc7 (hk ch) fun ys o' l h => ai7 ?_)))
 simpa using h
theorem C97 {fv : Od} {g : Nat} {caps cs : List AV} {xs : List (Bool × Od)} {as : List AV} {L L2 : List Nat} {r : Ans} (hf : ev t fv = .fn g caps) (hg : G g (as ++ cs) [] = some r) (hn : dX7 xs = true) (ha : eL7 (xs.map fun x => ev t x.2) o as L) (hc : eL7 caps o cs L2) (hw : ((gr7 t xs && u57 caps) || (d27 (r.res.map (·.2)) && r.outs.all gl7)) = true) (ho : r.outs = []) (hk : ∀ ch : Ch, (bs7 (cB7 d) ch 0 r.res).vp o fun ys o' l => KL ⟨aG7 t d (jN7 ys), o'⟩ (L ++ (L2 ++ l.1), l.2)) : vdo G d (.calld fv xs) t o KL := by
 show dU7 G d (.calld fv xs) t o KL
 intro ch
 simp only [aB7, hf]
 refine ac7 (qm7 hn ha ?_)
 refine ac7 (hc _ ?_)
 refine c77 (a := r) hg (aU7 hw (a77 ?_))
 unfold tail
 rw [ho]
 refine ac7 (ai7 (ac7 (cc7 (hk ch) fun ys o' l h => ai7 ?_)))
 simpa using h
structure vz7 (cs : List T) (o : aj7) (cs' : List T) (o' : aj7) (l : a47) : Prop where
 out : ∀ K : List T → aj7 → a47 → Prop, K cs' o' l → (bW7 cs).vp o K
theorem xj7 : vz7 [] o [] o ([], []) := ⟨fun K h => h⟩
theorem Gs7 {x : Value} {cs cs' : List T} {o' : aj7} {l : a47} (h : vz7 cs o cs' o' l) : vz7 (.v x :: cs) o (.v x :: cs') o' l := ⟨fun K hK => ac7 (ai7 (ac7 (h.out _ (ai7 (by simpa using hK)))))⟩
theorem B07 {A : Option Addr} {cap : Nat} {rows : Rows} {cs cs' : List T} {o' : aj7} {l : a47} (h : vz7 cs o cs' o' l) : vz7 (.rw A cap rows :: cs) o (.rw A cap rows :: cs') o' l := ⟨fun K hK => ac7 (ai7 (ac7 (h.out _ (ai7 (by simpa using hK)))))⟩
theorem B17 {w : Bool} {k : Nat} {rows : Rows} {cs cs' : List T} {o' : aj7} {l : a47} (h : vz7 cs o cs' o' l) : vz7 (.sl w k rows :: cs) o (.sl w k rows :: cs') o' l := ⟨fun K hK => ac7 (ai7 (ac7 (h.out _ (ai7 (by simpa using hK)))))⟩
theorem B27 {n : Nat} {b : Option Nat} {cap k len : Nat} {rows : Rows} {cs cs' : List T} {o' : aj7} {l : a47} (ho : o n = some (ent b cap k rows)) (hl : len = rows.length) (h : vz7 cs (upd o n none) cs' o' l) : vz7 (.al n b cap 0 len k :: cs) o (.sl true k rows :: cs') o' (n :: l.1, n :: l.2) := by
 refine ⟨fun K hK => ?_⟩
 subst hl
 refine ac7 (bj7 ho (a77 (aU7 (by simp [ent]) (a77 (a37 (ai7 ?_))))))
 refine ac7 (h.out _ (ai7 ?_))
 simpa [ent] using hK
def B37 (i : Nat) (cs : List AV) (o : aj7) (ys : List AV) (ins : List In) (o' : aj7) (l : a47) : Prop := ∀ K : List AV × List In → aj7 → a47 → Prop, K (ys, ins) o' l → (cg7 i cs).vp o K
section
variable {i : Nat} {cs ys : List AV} {ins : List In} {o' o1 : aj7} {l : a47}
theorem Gt7 : B37 i [] o [] [] o ([], []) := fun K h => h
theorem Ri7 {x : Value} (h : B37 i cs o ys ins o' l) : B37 i (.v x :: cs) o (.v x :: ys) ins o' l := fun K hK => ac7 (h _ (ai7 (by simpa using hK)))
theorem Gu7 {n : Nat} {b : Option Nat} {cap k len : Nat} {rows : Rows} (ho : o n = some (ent b cap k rows)) (hl : len = rows.length) (h : B37 (i + 1) cs (upd o n none) ys ins o' l) : B37 i (.ref n b cap 0 len k :: cs) o (.io i len k :: ys) (⟨n, ent b cap k rows⟩ :: ins) o' (n :: l.1, n :: l.2) := fun K hK => by
 subst hl
 refine bj7 ho (a77 (aU7 (by simp [ent]) (a77 (a37 (a77 ?_)))))
 exact ac7 (h _ (ai7 (by simpa using hK)))
theorem Gv7 {n : Nat} {b : Option Nat} {cap k : Nat} {row row' : List T} {l0 : a47} (ho : o n = some ⟨b, cap, k, true, [row]⟩) (hc : vz7 row (upd o n none) row' o1 l0) (h : B37 (i + 1) cs o1 ys ins o' l) : B37 i (.ptr n b k 0 0 :: cs) o (.pio i k :: ys) (⟨n, ⟨b, cap, k, true, [row']⟩⟩ :: ins) o' (n :: (l0.1 ++ l.1), n :: (l0.2 ++ l.2)) := fun K hK => by
 refine bj7 ho (a77 (aU7 (by simp) (a77 (a37 (a77 ?_)))))
 exact ac7 (hc.out _ (ac7 (h _ (ai7 (by simpa using hK)))))
end
def sH7 (t : Tm) (i : Nat) (xs : List (Bool × Od)) (o : aj7) (zs : List (Option AV)) (ins : List In) (o' : aj7) (l : a47) : Prop := ∀ K : List (Option AV) × List In → aj7 → a47 → Prop, K (zs, ins) o' l → (i87 t i xs).vp o K
section
variable {i : Nat} {x : Od} {xs : List (Bool × Od)} {zs : List (Option AV)} {ins more : List In} {o' o1 : aj7} {l l1 : a47} {as : List AV} {L L1 : List Nat}
theorem Gw7 : sH7 t i [] o [] [] o ([], []) := fun K h => h
theorem Da7 (h : sH7 t i xs o zs ins o' l) : sH7 t i ((false, x) :: xs) o (none :: zs) ins o' l := fun K hK => ac7 (h _ (ai7 (by simpa using hK)))
theorem Db7 {ys : List AV} {y : AV} {j : Nat} (h : B37 i (hf7 (ev t x)) o ys ins o1 l1) (hy : one (ia7 (ev t x)) ys = some y) (hj : i + ins.length = j) (h2 : sH7 t j xs o1 zs more o' l) : sH7 t i ((true, x) :: xs) o (some y :: zs) (ins ++ more) o' (l1.1 ++ l.1, l1.2 ++ l.2) := fun K hK => by
 subst hj
 exact ac7 (h _ (ac7 (c77 hy (ai7 (ac7 (h2 _ (ai7 (by simpa using hK))))))))
structure hO7 (t : Tm) (xs : List (Bool × Od)) (zs : List (Option AV)) (o : aj7) (as : List AV) (L : List Nat) : Prop where
 out : ∀ K : List AV → aj7 → a47 → Prop, K as o (L, []) → (g87 t xs zs).vp o K
theorem Gx7 : hO7 t [] [] o [] [] := ⟨fun K h => h⟩
theorem Dc7 {m : Bool} {y : AV} (h : hO7 t xs zs o as L) : hO7 t ((m, x) :: xs) (some y :: zs) o (y :: as) L := ⟨fun K hK => ac7 (ai7 (ac7 (h.out _ (ai7 (by simpa using hK)))))⟩
theorem Dd7 {m : Bool} {y : AV} (h1 : vx7 (ev t x) o y L1) (h : hO7 t xs zs o as L) : hO7 t ((m, x) :: xs) (none :: zs) o (y :: as) (L1 ++ L) := ⟨fun K hK => ac7 (h1 _ (ac7 (h.out _ (ai7 (by simpa using hK)))))⟩
end
structure BkS (ins : List In) (rs : List (Option Rows)) (o o2 : aj7) (N : List Nat) : Prop where
 out : ∀ K : Unit → aj7 → a47 → Prop, K () o2 ([], N) → (mL7 ins rs).vp o K
def oN7 (as bs cs : List T) : Prop := i97 as bs = cs
theorem Gy7 : oN7 [] [] [] := rfl
theorem Nm7 {A : Option Addr} {cap : Nat} {rows : Rows} {as bs cs : List T} (h : oN7 as bs cs) : oN7 (.rw A cap rows :: as) (.v (.slice A rows.length cap) :: bs) (.rw A cap rows :: cs) := by
 unfold oN7 at h ⊢
 simp [i97, wn7, h]
theorem Gz7 {a c : T} {as bs cs : List T} (h0 : wn7 a c = c) (h : oN7 as bs cs) : oN7 (a :: as) (c :: bs) (c :: cs) := by
 unfold oN7 at h ⊢
 simp [i97, h0, h]
section
variable {is : List In} {rs : List (Option Rows)} {o2 : aj7} {N : List Nat} {n k cap : Nat} {b : Option Nat}
theorem GA7 : BkS [] [] o o [] := ⟨fun K h => h⟩
theorem De7 {i : In} (h : BkS is rs o o2 N) : BkS (i :: is) (none :: rs) o o2 N := ⟨fun K hK => h.out K hK⟩
theorem Df7 {rows r : Rows} (h : BkS is rs (upd o n (some (ent b cap k r))) o2 N) : BkS (⟨n, ent b cap k rows⟩ :: is) (some r :: rs) o o2 (n :: N) := ⟨fun K hK => a37 (a77 (h.out _ hK))⟩
theorem GB7 {row r r' : List T} (hr : oN7 row r r') (h : BkS is rs (upd o n (some ⟨b, cap, k, true, [r']⟩)) o2 N) : BkS (⟨n, ⟨b, cap, k, true, [row]⟩⟩ :: is) (some [r] :: rs) o o2 (n :: N) := ⟨fun K hK => by
 unfold oN7 at hr
 refine a37 (a77 ?_)
 have e : wo7 ⟨b, cap, k, true, [row]⟩ [r] = [r'] := by simp [wo7, hr]
 simp only [e]
 exact h.out _ hK⟩
end
theorem Dg7 {g : Nat} {xs : List (Bool × Od)} {zs : List (Option AV)} {as : List AV} {ins : List In} {o1 : aj7} {l1 : a47} {L : List Nat} {r : Ans} (hg : G g as (ins.map fun i => (i.e.box, i.e.k, i.e.rows)) = some r) (ha : sH7 t 0 xs o zs ins o1 l1) (hl : hO7 t xs zs o1 as L) (hw : (gr7 t xs || (d27 (r.res.map (·.2)) && r.outs.all gl7)) = true) {o2 : aj7} {N : List Nat} (hb : BkS ins r.outs o1 o2 N) (hk : ∀ ch : Ch, (bs7 (cB7 d) ch 0 r.res).vp o2 fun ys o' l => KL ⟨aG7 t d (jN7 ys), o'⟩ (l1.1 ++ (L ++ l.1), l1.2 ++ (N ++ l.2))) : vdo G d (.call g xs) t o KL := by
 show dU7 G d (.call g xs) t o KL
 intro ch
 refine ac7 (ac7 (ha _ (ac7 (hl.out _ (ai7 ?_)))))
 refine c77 (a := r) hg (aU7 hw (a77 ?_))
 unfold tail
 refine ac7 (hb.out _ (ac7 (cc7 (hk ch) fun ys o' l h => ai7 ?_)))
 simpa using h
section
variable {dd : Nat} {ch : Ch} {j : Nat} {cs : List T} {K : List AV → aj7 → a47 → Prop}
theorem B47 (h : K [] o ([], [])) : (eQ7 dd ch j []).vp o K := h
theorem Mz7 {x : Value} (h : (eQ7 dd ch (j + 1) cs).vp o fun ys o' l => K (.v x :: ys) o' l) : (eQ7 dd ch j (.v x :: cs)).vp o K :=
 ac7 (ai7 (ac7 (cc7 h fun ys o' l hh => ai7 (by simpa using hh))))
theorem GC7 {k : Nat} {row : List T} (h : (eQ7 dd ch (j + 1) cs).vp (upd o (dd * 8 + j) (some ⟨(ch j).1, 1, k, true, [row]⟩)) fun ys o' l => K (.ptr (dd * 8 + j) (ch j).1 k 0 0 :: ys) o' (l.1, (dd * 8 + j) :: l.2)) : (eQ7 dd ch j (.bx k row :: cs)).vp o K :=
 ac7 (a37 (ai7 (ac7 (cc7 h fun ys o' l hh => ai7 (by simpa using hh)))))
theorem GD7 {k : Nat} {rows : Rows} (h : (eQ7 dd ch (j + 1) cs).vp o fun ys o' l => K (.ro rows :: ys) o' l) : (eQ7 dd ch j (.sl false k rows :: cs)).vp o K :=
 ac7 (ai7 (ac7 (cc7 h fun ys o' l hh => ai7 (by simpa using hh))))
theorem vA7 {k : Nat} {xs : List α} (h : (eQ7 dd ch (j + 1) cs).vp (upd o (dd * 8 + j) (some (ent (ch j).1 (ch j).2 k (xs.map f)))) fun ys o' l => K (.ref (dd * 8 + j) (ch j).1 (ch j).2 0 xs.length k :: ys) o' (l.1, (dd * 8 + j) :: l.2)) : (eQ7 dd ch j (.sl true k (xs.map f) :: cs)).vp o K := by
 refine ac7 (ac7 (a37 (ai7 (ai7 ?_))))
 refine ac7 (cc7 h fun ys o' l hh => ai7 ?_)
 simpa using hh
variable {rs : List (Bool × List T)}
theorem xk7 (h : K [] o ([], [])) : (bs7 dd ch j []).vp o K := h
theorem tY7 {r : am7} (h : (eQ7 dd ch (j + 1 + 1) []).vp (upd (upd o (dd * 8 + j) (some (ent (ch j).1 (ch j).2 115 (r.commits.map (af7 true))))) (dd * 8 + (j + 1)) (some (ent (ch (j + 1)).1 (ch (j + 1)).2 130 (r.heads.map az7)))) fun ys o' l => K (.ref (dd * 8 + j) (ch j).1 (ch j).2 0 r.commits.length 115 :: .ref (dd * 8 + (j + 1)) (ch (j + 1)).1 (ch (j + 1)).2 0 r.heads.length 130 :: ys) o' (l.1, (dd * 8 + j) :: (dd * 8 + (j + 1)) :: l.2)) : (eQ7 dd ch j (jp7 true r)).vp o K :=
 vA7 (f := af7 true) (xs := r.commits) (k := 115) (cs := [T.sl true 130 (List.map az7 r.heads)]) (vA7 (f := az7) (xs := r.heads) (k := 130) (cs := []) h)
theorem tZ7 {r : Feat} (h : (eQ7 dd ch (j + 1 + 1 + 1 + 1) []).vp (upd (upd o (dd * 8 + (j + 1 + 1)) (some (ent (ch (j + 1 + 1)).1 (ch (j + 1 + 1)).2 66 (r.shape.pts.map ePt)))) (dd * 8 + (j + 1 + 1 + 1)) (some (ent (ch (j + 1 + 1 + 1)).1 (ch (j + 1 + 1 + 1)).2 82 (r.tags.map bg7)))) fun ys o' l => K (.v (.string r.id) :: .v (.int .i64 r.shape.kind) :: .ref (dd * 8 + (j + 1 + 1)) (ch (j + 1 + 1)).1 (ch (j + 1 + 1)).2 0 r.shape.pts.length 66 :: .ref (dd * 8 + (j + 1 + 1 + 1)) (ch (j + 1 + 1 + 1)).1 (ch (j + 1 + 1 + 1)).2 0 r.tags.length 82 :: ys) o' (l.1, (dd * 8 + (j + 1 + 1)) :: (dd * 8 + (j + 1 + 1 + 1)) :: l.2)) : (eQ7 dd ch j (ak7 true r)).vp o K :=
 Mz7 (x := .string r.id) (cs := [.v (.int .i64 r.shape.kind), T.sl true 66 (r.shape.pts.map ePt), T.sl true 82 (r.tags.map bg7)]) (Mz7 (x := .int .i64 r.shape.kind) (cs := [T.sl true 66 (r.shape.pts.map ePt), T.sl true 82 (r.tags.map bg7)]) (vA7 (f := ePt) (xs := r.shape.pts) (k := 66) (cs := [T.sl true 82 (r.tags.map bg7)]) (vA7 (f := bg7) (xs := r.tags) (k := 82) (cs := []) h)))
theorem xl7 {c : T} (h : (eQ7 dd ch j [c]).vp o fun xs o' l1 => ∃ x, xs = [x] ∧ (bs7 dd ch (j + 1) rs).vp o' fun ys o'' l2 => K (x :: ys) o'' (l1.1 ++ l2.1, l1.2 ++ l2.2)) : (bs7 dd ch j ((false, [c]) :: rs)).vp o K := by
 refine ac7 (cc7 h fun xs o' l1 hh => ?_)
 obtain ⟨x, rfl, hh⟩ := hh
 refine ac7 (c77 (a := x) rfl (ai7 (ac7 (cc7 hh fun ys o'' l2 h3 => ai7 ?_))))
 simpa using h3
theorem xm7 {cs : List T} (h : (eQ7 dd ch j cs).vp o fun xs o' l1 => (bs7 dd ch (j + cs.length) rs).vp o' fun ys o'' l2 => K (.agg xs :: ys) o'' (l1.1 ++ l2.1, l1.2 ++ l2.2)) : (bs7 dd ch j ((true, cs) :: rs)).vp o K := by
 refine ac7 (cc7 h fun xs o' l1 hh => ?_)
 refine ac7 (c77 (a := .agg xs) rfl (ai7 (ac7 (cc7 hh fun ys o'' l2 h3 => ai7 ?_))))
 simpa using h3
end
theorem lz7 (hp : ∀ x, mK7 [f x] = true) : ∀ xs : List α, mK7 (xs.map f) = true
 | [] => rfl
 | x :: xs => by
  have h1 := hp x
  have h2 := lz7 hp xs
  simp only [mK7, List.map_cons, List.all_cons, List.all_nil, Bool.and_true, Bool.and_eq_true] at h1 h2 ⊢
  exact ⟨h1, h2⟩
theorem dq7 {xs : List α} : (xs.map f).take xs.length = xs.map f := by rw [← List.length_map (f := f), List.take_length]
theorem zQ7 {xs : List α} {b : Option Nat} {c k : Nat} : List.take xs.length (ent b c k (xs.map f)).rows = xs.map f := dq7
theorem hP7 {n : Nat} (h : aH7 n = true) : n ≤ u47 := of_decide_eq_true h
def Src (k : Nat) (mv : Bool) (host : Option Nat) (y : AV) (o : aj7) (rows : Rows) (o' : aj7) (l : a47) : Prop := ∀ K : Rows → aj7 → a47 → Prop, K rows o' l → (k17 k mv host y).vp o K
theorem Dh7 {k : Nat} {mv : Bool} {host : Option Nat} : Src k mv host .nil o [] o ([], []) := fun K h => h
theorem in7 {k : Nat} {mv : Bool} {host : Option Nat} {xs : List α} (hp : ∀ x, mK7 [f x] = true) (he : ∀ x, (f x).length = esz k) : Src k mv host (.ro (xs.map f)) o (xs.map f) o ([], []) := fun K h => by
 refine aU7 ?_ h
 rw [lz7 hp, Bool.true_and]
 cases xs with
 | nil => exact decide_eq_true rfl
 | cons x xs => exact decide_eq_true (by simp [he])
theorem eW7 {k n len : Nat} {b : Option Nat} {cap : Nat} {host : Option Nat} {rows : Rows} (ho : o n = some (ent b cap k rows)) (hh : decide (host ≠ some n) = true) (hl : len = rows.length) : Src k true host (.ref n b cap 0 len k) o rows (upd o n none) ([n], [n]) := fun K h => by
 refine bj7 ho (aU7 ?_ ?_)
 ·simp only [ent, hl, hh]; simp
 ·refine a37 (ai7 ?_)
  simp only [ent, List.drop_zero, hl, List.take_length]
  exact h
theorem B57 {k n len : Nat} {b : Option Nat} {cap : Nat} {host : Option Nat} {xs : List α} (ho : o n = some (ent b cap k (xs.map f))) (hl : len = xs.length) (hp : ∀ x, mK7 [f x] = true) : Src k false host (.ref n b cap 0 len k) o (xs.map f) o ([n], []) := fun K h => by
 refine bj7 ho (aU7 ?_ ?_)
 ·simp only [ent, hl]; simp
 ·refine aU7 ?_ (ai7 ?_)
  ·simp only [ent, List.drop_zero, hl, dq7, lz7 hp]
  ·simp only [ent, List.drop_zero, hl, dq7]
   exact h
theorem d37 {k : Nat} {mv : Bool} {a b : Od} {n : Nat} {b' : Option Nat} {cap len : Nat} {xs ys : List α} {rows : Rows} {o' : aj7} {l : a47} (ha : ev t a = .ref n b' cap 0 len k) (hs : Src k mv (some n) (ev t b) o rows o' l) (hr : rows = ys.map f) (ho : o' n = some (ent b' cap k (xs.map f))) (hl : len = xs.length) (hf : aH7 (xs ++ ys).length = true) (hk : ∀ b2 cap2, KL ⟨aG7 t d (.ref n b2 cap2 0 (xs ++ ys).length k), upd o' n (some (ent b2 cap2 k ((xs ++ ys).map f)))⟩ (l.1 ++ [n], l.2 ++ [n])) : vdo G d (.app k mv a b) t o KL := by
 show dU7 G d (.app k mv a b) t o KL
 intro ch
 simp only [aB7, ha]
 have hf' := hP7 hf
 refine ac7 (hs _ (bj7 ho (aU7 ?_ (a37 (ai7 ?_)))))
 ·simp only [ent, hl, hr, List.length_map] at hf' ⊢
  simp only [List.length_append] at hf'
  simp [hf']
 ·simp only [ent, hl, hr, dq7, List.length_map]
  have := hk (ch 0).1 (ch 0).2
  rw [List.length_append, List.map_append] at this
  exact this
theorem GE7 {k : Nat} {mv : Bool} {a b : Od} {ys : List α} {rows : Rows} {o' : aj7} {l : a47} (ha : ev t a = .nil) (hs : Src k mv none (ev t b) o rows o' l) (hr : rows = ys.map f) (hf : aH7 ys.length = true) (hk : ∀ b2 cap2, KL ⟨aG7 t d (.ref (cB7 d * 8) b2 cap2 0 ys.length k), upd o' (cB7 d * 8) (some (ent b2 cap2 k (ys.map f)))⟩ (l.1, l.2 ++ [cB7 d * 8])) : vdo G d (.app k mv a b) t o KL := by
 show dU7 G d (.app k mv a b) t o KL
 intro ch
 simp only [aB7, ha]
 have hf' := hP7 hf
 refine ac7 (hs _ (aU7 ?_ (a37 (ai7 ?_))))
 ·simp only [hr, List.length_map]
  simp [hf']
 ·simp only [hr, List.length_map, List.append_nil]
  exact hk (ch 0).1 (ch 0).2
theorem Di7 {k : Nat} {z : List T} {n m : Od} {len : Int} {k1 k2 : IntKind} {x : α} (hn : ev t n = .v (.int k1 len)) (hm : ev t m = .v (.int k2 len)) (h0 : decide (0 ≤ len) = true) (hf : aH7 len.toNat = true) (hz : z = f x) (hk : ∀ b, KL ⟨aG7 t d (.ref (cB7 d * 8) (some b) len.toNat 0 (List.replicate len.toNat x).length k), upd o (cB7 d * 8) (some (ent (some b) len.toNat k ((List.replicate len.toNat x).map f)))⟩ ([], [cB7 d * 8])) : vdo G d (.mks k z n m) t o KL := by
 show dU7 G d (.mks k z n m) t o KL
 intro ch
 have hf' := hP7 hf
 have h0' := of_decide_eq_true h0
 simp only [aB7, hn, hm, asI]
 refine aU7 ?_ (a37 (ai7 ?_))
 ·simp [h0', hf']
 ·have := hk ((ch 0).1.getD 0)
  rw [List.map_replicate, ← hz, List.length_replicate] at this
  exact this
theorem GF7 {sz : Nat} {p : Od} {n c k cap : Nat} {b : Option Nat} {bx : Bool} {row : List T} {xs : List AV} (hp : ev t p = .ptr n b k 0 c) (ho : o n = some ⟨b, cap, k, bx, [row]⟩) (hc : decide (c + sz ≤ row.length) = true) (hv : ov7 ((row.drop c).take sz) = some xs) (hk : KL ⟨aG7 t d (.agg xs), o⟩ ([n], [])) : vdo G d (.ldr sz p) t o KL := by
 show dU7 G d (.ldr sz p) t o KL
 intro ch
 simp only [aB7, hp]
 refine bj7 ho (a77 (aU7 ?_ (a77 (c77 (a := .agg xs) ?_ (ai7 hk)))))
 ·simpa using hc
 ·simp only [List.getD_cons_zero, hv]
  rfl
def Tot (box : Bool) (host j : Nat) (k : Option Nat) (x : AV) (o : aj7) (c : T) (o' : aj7) (l : a47) : Prop := ∀ K : T → aj7 → a47 → Prop, K c o' l → (toT box host j k x).vp o K
def Tos (box : Bool) (host j : Nat) (ks : List (Option Nat)) (xs : List AV) (o : aj7) (cs : List T) (o' : aj7) (l : a47) : Prop := ∀ K : List T → aj7 → a47 → Prop, K cs o' l → (tt7 box host j ks xs).vp o K
section
variable {box : Bool} {host j : Nat} {o1 o2 : aj7}
theorem Dj7 {v : Value} (h : v.oneCell' = true) : Tot box host j none (.v v) o (.v v) o ([], []) := fun K hK => ⟨h, hK⟩
theorem B67 {k : Nat} {rows : Rows} : Tot box host j (some k) (.ro rows) o (.sl false (k % 16) rows) o ([], []) := fun K hK => hK
theorem Dk7 {k : Nat} {A : Option Addr} {cap : Nat} {rows : Rows} : Tot true host j (some k) (.raw A cap rows) o (.rw A cap rows) o ([], []) := fun K hK => hK
theorem Dl7 {k : Nat} {A : Option Addr} {cap : Nat} {rows : Rows} : Tot false host j (some k) (.raw A cap rows) o (.sl false (k % 16) rows) o ([], []) := fun K hK => hK
theorem xn7 {k : Nat} : Tot false host j (some k) .nil o (.sl true k []) o ([], []) := fun K hK => hK
theorem sI7 {kk n len : Nat} {b : Option Nat} {cap : Nat} {rows : Rows} (ho : o n = some (ent b cap kk rows)) (hl : len = rows.length) (hn : decide (n ≠ host) = true) : Tot false host j (some kk) (.ref n b cap 0 len kk) o (.sl true kk rows) (upd o n none) ([n], [n]) := fun K hK => by
 subst hl
 refine bj7 ho (a77 (aU7 ?_ (a77 (a37 (ai7 ?_)))))
 ·simp only [ent, hn]; simp
 ·simp only [ent, List.take_length]
  exact hK
theorem oO7 : Tos box host j [] [] o [] o ([], []) := fun K hK => hK
theorem kK7 {k : Option Nat} {ks : List (Option Nat)} {x : AV} {xs : List AV} {c : T} {cs : List T} {l1 l2 : a47} (h : Tot box host j k x o c o1 l1) (hs : Tos box host (j + 1) ks xs o1 cs o2 l2) : Tos box host j (k :: ks) (x :: xs) o (c :: cs) o2 (l1.1 ++ l2.1, l1.2 ++ l2.2) := fun K hK => ac7 (h _ (ac7 (hs _ (ai7 (by simpa using hK)))))
end
theorem Dm7 {ks : List (Option Nat)} {p y : Od} {n : Nat} {b : Option Nat} {cap k r c : Nat} {xs : List α} {x x' : α} {cs : List T} {o' : aj7} {l : a47} (hp : ev t p = .ptr n b k r c) (ho : o n = some (ent b cap k (xs.map f))) (hv : Tos false n c ks (hf7 (ev t y)) o cs o' l) (ho' : o' n = some (ent b cap k (xs.map f))) (h : xs[r]? = some x) (hc : decide (c + ks.length ≤ (f x).length) = true) (hx : bP7 (f x) c cs = f x') (hk : KL ⟨aG7 t d .junk, upd o' n (some (ent b cap k ((xs.set r x').map f)))⟩ (n :: (l.1 ++ [n]), l.2 ++ [n])) : vdo G d (.store ks p y) t o KL := by
 show dU7 G d (.store ks p y) t o KL
 intro ch
 have hg : (xs.map f).getD r [] = f x := oK7 h
 have hr : r < (xs.map f).length := by rw [List.length_map]; exact (List.getElem?_eq_some_iff.1 h).1
 simp only [aB7, hp]
 refine bj7 ho (a77 (ac7 (hv _ (bj7 ho' (a77 (aU7 ?_ (a37 (ai7 ?_))))))))
 ·simp only [ent, hg]
  have := of_decide_eq_true hc
  simp [this]
  simpa using hr
 ·simp only [ent, hg, hx]
  have : (xs.map f).set r (f x') = (xs.set r x').map f := by rw [List.map_set]
  rw [this]
  exact hk
theorem Nn7 {ks : List (Option Nat)} {p y : Od} {n : Nat} {b : Option Nat} {cap k r c : Nat} {xs : List α} {x x' : α} {row cs : List T} {o' : aj7} {l : a47} (hp : ev t p = .ptr n b k r c) (ho : o n = some ⟨b, cap, k, false, (xs.map f).set r row⟩) (hv : Tos false n c ks (hf7 (ev t y)) o cs o' l) (ho' : o' n = some ⟨b, cap, k, false, (xs.map f).set r row⟩) (h : xs[r]? = some x) (hc : decide (c + ks.length ≤ row.length) = true) (hx : bP7 row c cs = f x') (hk : KL ⟨aG7 t d .junk, upd o' n (some (ent b cap k ((xs.set r x').map f)))⟩ (n :: (l.1 ++ [n]), l.2 ++ [n])) : vdo G d (.store ks p y) t o KL := by
 show dU7 G d (.store ks p y) t o KL
 intro ch
 have hr : r < xs.length := (List.getElem?_eq_some_iff.1 h).1
 have hg : ((xs.map f).set r row).getD r [] = row := by
  rw [List.getD_eq_getElem?_getD, List.getElem?_set_self (by simpa using hr)]
  rfl
 simp only [aB7, hp]
 refine bj7 ho (a77 (ac7 (hv _ (bj7 ho' (a77 (aU7 ?_ (a37 (ai7 ?_))))))))
 ·simp only [hg]
  have := of_decide_eq_true hc
  simp [this]
  simpa using hr
 ·simp only [hg, hx]
  have : ((xs.map f).set r row).set r (f x') = (xs.set r x').map f := by rw [List.set_set, List.map_set]
  rw [this]
  exact hk
section
variable {box : Bool} {host j : Nat} {o1 o2 : aj7}
theorem Dn7 {k : Nat} : Tot true host j (some k) .nil o (.al (cn host j) none 0 0 0 k) (upd o (cn host j) (some (ent none 0 k []))) ([], [cn host j]) := fun K hK => a37 (ai7 hK)
theorem Do7 {kk k n off len cap : Nat} {b : Option Nat} {rows : Rows} (ho : o n = some (ent b cap k rows)) (hn : decide (n ≠ host) = true) : Tot true host j (some kk) (.ref n b cap off len k) o (.al (cn host j) b cap off len k) (upd (upd o n none) (cn host j) (some (ent b cap k rows))) ([n], [n, cn host j]) := fun K hK => by
 refine bj7 ho (a77 (aU7 ?_ (a77 (a37 (a77 (a37 (ai7 ?_)))))))
 ·simp only [ent, hn]; simp
 ·exact hK
def Zop (host j : Nat) (z : List T) (o : aj7) (cs : List T) (o' : aj7) (l : a47) : Prop := ∀ K : List T → aj7 → a47 → Prop, K cs o' l → (u27 host j z).vp o K
theorem Dp7 : Zop host j [] o [] o ([], []) := fun K hK => hK
theorem No7 {x : Value} {z cs : List T} {l : a47} (h : Zop host (j + 1) z o cs o1 l) : Zop host j (.v x :: z) o (.v x :: cs) o1 l := fun K hK => ac7 (ai7 (ac7 (h _ (ai7 (by simpa using hK)))))
theorem GG7 {k : Nat} {z cs : List T} {l : a47} (h : Zop host (j + 1) z (upd o (cn host j) (some (ent none 0 k []))) cs o1 l) : Zop host j (.sl true k [] :: z) o (.al (cn host j) none 0 0 0 k :: cs) o1 (l.1, cn host j :: l.2) := fun K hK => by
 refine ac7 (a37 (ai7 (ac7 (h _ (ai7 ?_)))))
 simpa using hK
end
theorem GH7 {k : Nat} {ks : List (Option Nat)} {y : Od} {cs : List T} {o' : aj7} {l : a47} (hv : Tos true (cB7 d * 8) 0 ks (hf7 (ev t y)) o cs o' l) (hk : ∀ b, KL ⟨aG7 t d (.ptr (cB7 d * 8) (some b) k 0 0), upd o' (cB7 d * 8) (some ⟨some b, 1, k, true, [cs]⟩)⟩ (l.1, l.2 ++ [cB7 d * 8])) : vdo G d (.box k ks y) t o KL := by
 show dU7 G d (.box k ks y) t o KL
 intro ch
 have := hk ((ch 0).1.getD 0)
 exact ac7 (hv _ (a37 (ai7 (by simpa using this))))
theorem GI7 {k : Nat} {ks : List (Option Nat)} {z : List T} {y : Od} {cs : List T} {o' : aj7} {l : a47} (hv : Tos false (cB7 d * 8) 0 ks (hf7 (ev t y)) o cs o' l) (hk : ∀ b, KL ⟨aG7 t d (.ref (cB7 d * 8) (some b) 1 0 1 k), upd o' (cB7 d * 8) (some ⟨some b, 1, k, false, [cs]⟩)⟩ (l.1, l.2 ++ [cB7 d * 8])) : vdo G d (.lit k ks z 1 [(0, y)]) t o KL := by
 show dU7 G d (.lit k ks z 1 [(0, y)]) t o KL
 intro ch
 have := hk ((ch 0).1.getD 0)
 simp only [aB7, ou7, List.replicate]
 refine ac7 (ac7 ?_)
 refine aU7 (by rfl) ?_
 refine ai7 ?_
 refine ac7 (hv _ ?_)
 refine ai7 ?_
 refine a37 (ai7 ?_)
 simpa using this
theorem GJ7 {k : Nat} {z cs : List T} {o' : aj7} {l : a47} (hv : Zop (cB7 d * 8) 0 z o cs o' l) (hk : ∀ b, KL ⟨aG7 t d (.ptr (cB7 d * 8) (some b) k 0 0), upd o' (cB7 d * 8) (some ⟨some b, 1, k, true, [cs]⟩)⟩ (l.1, l.2 ++ [cB7 d * 8])) : vdo G d (.alloc k z) t o KL := by
 show dU7 G d (.alloc k z) t o KL
 intro ch
 have := hk ((ch 0).1.getD 0)
 exact ac7 (hv _ (a37 (ai7 (by simpa using this))))
def FP7 (row : List T) (c : Nat) (cs row' : List T) : Prop := c + cs.length ≤ row.length ∧ bP7 row c cs = row'
theorem jt7 {x : T} : ∀ {cs row : List T} {c : Nat}, bP7 (x :: row) (c + 1) cs = x :: bP7 row c cs
 | [], row, c => rfl
 | y :: cs, row, c => by
  show bP7 (x :: row.set c y) (c + 1 + 1) cs = _
  rw [jt7]
  rfl
theorem GK7 {row : List T} : FP7 row 0 [] row := ⟨by simp, rfl⟩
theorem GL7 {x y : T} {row cs row' : List T} (h : FP7 row 0 cs row') : FP7 (x :: row) 0 (y :: cs) (y :: row') := by
 obtain ⟨h1, h2⟩ := h
 refine ⟨by simp at h1 ⊢; omega, ?_⟩
 show bP7 (y :: row) (0 + 1) cs = _
 rw [jt7, h2]
theorem Dq7 {x : T} {row cs row' : List T} {c : Nat} (h : FP7 row c cs row') : FP7 (x :: row) (c + 1) cs (x :: row') := by
 obtain ⟨h1, h2⟩ := h
 refine ⟨by simp at h1 ⊢; omega, ?_⟩
 rw [jt7, h2]
theorem GM7 {ks : List (Option Nat)} {p y : Od} {n : Nat} {b : Option Nat} {cap k c : Nat} {bx : Bool} {row row' cs : List T} {o' : aj7} {l : a47} (hp : ev t p = .ptr n b k 0 c) (ho : o n = some ⟨b, cap, k, bx, [row]⟩) (hv : Tos bx n c ks (hf7 (ev t y)) o cs o' l) (ho' : o' n = some ⟨b, cap, k, bx, [row]⟩) (hx : FP7 row c cs row') (hc : decide (ks.length = cs.length) = true) (hk : KL ⟨aG7 t d .junk, upd o' n (some ⟨b, cap, k, bx, [row']⟩)⟩ (n :: (l.1 ++ [n]), l.2 ++ [n])) : vdo G d (.store ks p y) t o KL := by
 show dU7 G d (.store ks p y) t o KL
 intro ch
 obtain ⟨h1, h2⟩ := hx
 have hc := of_decide_eq_true hc
 simp only [aB7, hp]
 refine bj7 ho (a77 (ac7 (hv _ (bj7 ho' (a77 (aU7 ?_ (a37 (ai7 ?_))))))))
 ·simp
  omega
 ·simp only [List.getD_cons_zero, List.set_cons_zero, h2]
  exact hk
theorem qn7 {i : Nat} {x y : AV} : aG7 (aG7 t (some i) x) (some i) y = aG7 t (some i) y := by
 funext j
 simp only [aG7]
 split <;> rfl
theorem B77 {dd : Nat} {ch : Ch} {op : Opx} {x : AV} (h : evp t op = some x) {K : AV → aj7 → a47 → Prop} (hK : K x o ([], [])) : (aB7 G dd ch t op).vp o K := by
 cases op with
 | load sz agg p =>
  simp only [evp] at h
  split at h
  ·rename_i cs hcs
   split at h
   ·rename_i hle
    simp only [aB7, hcs, hle, if_true]
    exact c77 h (ai7 hK)
   ·cases h
  ·cases h
 | _ => first | (cases h; done) | exact c77 h (ai7 hK)
theorem nH7 {i : Nat} {op : Opx} {f : AV → HM AV} {op' : Opx} (hw : hOp op' = true) (hs : ∀ ch, aB7 G i ch t op' = (aB7 G i ch t op).bind f) (h : vdo G (some i) op t o fun s l1 => (f (s.t i)).vp s.o fun y o' l2 => KL ⟨aG7 s.t (some i) y, o'⟩ (l1.1 ++ l2.1, l1.2 ++ l2.2)) : vdo G (some i) op' t o KL := by
 have hi : ∀ x, aG7 t (some i) x i = x := fun x => by simp [aG7]
 have key : dU7 G (some i) op' t o KL := by
  intro ch
  show (aB7 G i ch t op').vp o _
  rw [hs]
  have hv : ∀ {K : AV → Prop}, vop t op K → ∃ x, evp t op = some x ∧ K x := lv7
  have pur : (vop t op fun x => (f ((aG7 t (some i) x) i)).vp o fun y o' l2 => KL ⟨aG7 (aG7 t (some i) x) (some i) y, o'⟩ ((([], []) : a47).1 ++ l2.1, (([], []) : a47).2 ++ l2.2)) → ((aB7 G i ch t op).bind f).vp o fun x o' l => KL ⟨aG7 t (some i) x, o'⟩ l := fun h => by
   obtain ⟨x, h1, h2⟩ := hv h
   rw [hi] at h2
   simp only [qn7] at h2
   exact ac7 (B77 (K := fun a o' l1 => (f a).vp o' fun b o'' l2 => KL ⟨aG7 t (some i) b, o''⟩ (l1.1 ++ l2.1, l1.2 ++ l2.2)) h1 h2)
  have hea : (dU7 G (some i) op t o fun s l1 => (f (s.t i)).vp s.o fun y o' l2 => KL ⟨aG7 s.t (some i) y, o'⟩ (l1.1 ++ l2.1, l1.2 ++ l2.2)) → ((aB7 G i ch t op).bind f).vp o fun x o' l => KL ⟨aG7 t (some i) x, o'⟩ l := fun h => by
   refine ac7 (cc7 (K' := fun x o' l1 => (f x).vp o' fun y o'' l2 => KL ⟨aG7 t (some i) y, o''⟩ (l1.1 ++ l2.1, l1.2 ++ l2.2)) (h ch) fun x o' l hh => ?_)
   simp only [hi] at hh
   simp only [qn7] at hh
   exact hh
  unfold vdo at h
  split at h
  ·split at h
   ·exact hea h
   ·exact pur h
  ·split at h
   ·exact hea h
   ·exact pur h
 unfold vdo
 split
 ·cases hw
 ·rw [hw]
  exact key
theorem du7 {i : Nat} {op : Opx} (h : vdo G (some i) op t o fun s l1 => (e87 (s.t i)).vp s.o fun y o' l2 => KL ⟨aG7 s.t (some i) y, o'⟩ (l1.1 ++ l2.1, l1.2 ++ l2.2)) : vdo G (some i) (.frz op) t o KL := nH7 rfl (fun _ => rfl) h
theorem zR7 {i m k : Nat} {op : Opx} (h : vdo G (some i) op t o fun s l1 => (kt7 m k (s.t i)).vp s.o fun y o' l2 => KL ⟨aG7 s.t (some i) y, o'⟩ (l1.1 ++ l2.1, l1.2 ++ l2.2)) : vdo G (some i) (.ren m k op) t o KL := nH7 rfl (fun _ => rfl) h
def Frz (x : AV) (o : aj7) (y : AV) (o' : aj7) (l : a47) : Prop := ∀ K : AV → aj7 → a47 → Prop, K y o' l → (e87 x).vp o K
def GN7 (x : List AV) (o : aj7) (y : List AV) (o' : aj7) (l : a47) : Prop := ∀ K : List AV → aj7 → a47 → Prop, K y o' l → (so7 x).vp o K
section
variable {o1 o2 : aj7} {l1 l2 : a47}
theorem Np7 {v : Value} : Frz (.v v) o (.v v) o ([], []) := fun K h => h
theorem Nq7 {rows : Rows} : Frz (.ro rows) o (.ro rows) o ([], []) := fun K h => h
theorem B87 : Frz .nil o (.ro []) o ([], []) := fun K h => h
theorem xo7 {n : Nat} {b : Option Nat} {cap k len : Nat} {xs : List α} {g : α → List T} (ho : o n = some (ent b cap k (xs.map f))) (he : ∀ x, erL (f x) = some (g x)) (hl : len = xs.length) : Frz (.ref n b cap 0 len k) o (.ro (xs.map g)) (upd o n none) ([n], [n]) := fun K h => by
 subst hl
 refine bj7 ho (a77 (aU7 ?_ (a77 (a37 (a77 (c77 (a := xs.map g) ?_ (ai7 h)))))))
 ·simp [ent]
 ·simp only [ent, List.drop_zero]
  rw [show (xs.map f).take xs.length = xs.map f by rw [← List.length_map (f := f), List.take_length], dW7 he]
theorem GO7 {n : Nat} {b : Option Nat} {cap k : Nat} (ho : o n = some (ent b cap k [])) : Frz (.ref n b cap 0 0 k) o (.ro []) (upd o n none) ([n], [n]) := xo7 (α := Nat) (f := fun _ => []) (g := fun _ => []) (xs := []) ho (fun _ => rfl) rfl
theorem B97 {cs ys : List AV} (h : GN7 cs o ys o1 l1) : Frz (.agg cs) o (.agg ys) o1 l1 := fun K hK => ac7 (h _ (ai7 (by simpa using hK)))
theorem GP7 {cs ys : List AV} (h : GN7 cs o ys o1 l1) : Frz (.tup cs) o (.tup ys) o1 l1 := fun K hK => ac7 (h _ (ai7 (by simpa using hK)))
theorem xp7 : GN7 [] o [] o ([], []) := fun K h => h
theorem io7 {x y : AV} {xs ys : List AV} (h : Frz x o y o1 l1) (hs : GN7 xs o1 ys o2 l2) : GN7 (x :: xs) o (y :: ys) o2 (l1.1 ++ l2.1, l1.2 ++ l2.2) := fun K hK => ac7 (h _ (ac7 (hs _ (ai7 (by simpa using hK)))))
theorem MA7 {m k0 n : Nat} {b : Option Nat} {cap off len k : Nat} {x : AV} {e : Ent} {K : AV → aj7 → a47 → Prop} (hx : x = .ref n b cap off len k) (ho : o n = some e) (hk : K (.ref m b cap off len k) (upd (upd o n none) m (some e)) ([n], [n, m])) : (kt7 m k0 x).vp o K := by
 subst hx
 exact bj7 ho (a77 (a37 (a77 (a37 (ai7 hk)))))
theorem Nr7 {m k0 : Nat} {x : AV} {K : AV → aj7 → a47 → Prop} (hx : x = .nil) (hk : K (.ref m none 0 0 0 k0) (upd o m (some (ent none 0 k0 []))) ([], [m])) : (kt7 m k0 x).vp o K := by
 subst hx
 exact a37 (ai7 hk)
end
theorem Dr7 {i j : Nat} {op : Opx} (h : vdo G (some i) op t o fun s l1 => (jO7 j (s.t i)).vp s.o fun y o' l2 => KL ⟨aG7 s.t (some i) y, o'⟩ (l1.1 ++ l2.1, l1.2 ++ l2.2)) : vdo G (some i) (.pfz j op) t o KL := nH7 rfl (fun _ => rfl) h
theorem Ds7 {i : Nat} {op : Opx} (h : vdo G (some i) op t o fun s l1 => (k37 (s.t i)).vp s.o fun y o' l2 => KL ⟨aG7 s.t (some i) y, o'⟩ (l1.1 ++ l2.1, l1.2 ++ l2.2)) : vdo G (some i) (.trn op) t o KL := nH7 rfl (fun _ => rfl) h
theorem Ns7 {i : Nat} {ns : List Nat} {op : Opx} (h : vdo G (some i) op t o fun s l1 => (k27 ns (s.t i)).vp s.o fun y o' l2 => KL ⟨aG7 s.t (some i) y, o'⟩ (l1.1 ++ l2.1, l1.2 ++ l2.2)) : vdo G (some i) (.unr ns op) t o KL := nH7 rfl (fun _ => rfl) h
theorem GQ7 {i : Nat} {op : Opx} (h : vdo G (some i) op t o fun s l1 => (HM.ret (sp7 (s.t i))).vp s.o fun y o' l2 => KL ⟨aG7 s.t (some i) y, o'⟩ (l1.1 ++ l2.1, l1.2 ++ l2.2)) : vdo G (some i) (.rawl op) t o KL := nH7 (f := fun x => .ret (sp7 x)) rfl (fun _ => rfl) h
theorem MB7 {γ : Type} {f g : γ → List T} {n j k cap off len : Nat} {b : Option Nat} {xs : List γ} {x : AV} {rest : List AV} {K : AV → aj7 → a47 → Prop} (hp : dw7 j (xs.map f) = some (xs.map g)) (hx : hf7 x = .ref n b cap off len k :: rest) (ho : o n = some (ent b cap k (xs.map f))) (hk : K x (upd o n (some (ent b cap k (xs.map g)))) ([n], [n])) : (jO7 j x).vp o K := by
 unfold jO7
 rw [hx]
 refine bj7 ho (a77 (aU7 (by simp [ent]) (a77 (ac7 (c77 (a := xs.map g) (by simpa [ent] using hp) (ai7 (a37 (ai7 ?_))))))))
 simpa [ent] using hk
theorem QN7 {γ : Type} {f : γ → List T} {n k cap len : Nat} {b : Option Nat} {xs ys : List γ} {j : Int} {x : AV} {K : AV → aj7 → a47 → Prop} (hs : slc xs 0 j = some ys) (hx : x = .ref n b cap 0 len k) (ho : o n = some (ent b cap k (xs.map f))) (hl : len = ys.length) (hk : K (.ref n b cap 0 len k) (upd o n (some (ent b cap k (ys.map f)))) ([n], [n])) : (k37 x).vp o K := by
 subst hx
 subst hl
 unfold slc at hs
 split at hs
 ·rename_i hc
  cases hs
  have e : (xs.map f).take ((xs.take j.toNat).drop (0 : Int).toNat).length = ((xs.take j.toNat).drop (0 : Int).toNat).map f := by
   simp [List.map_take]
  refine bj7 ho (a77 (aU7 ?_ (a77 (a37 (ai7 ?_)))))
  ·simp [ent]
   omega
  ·simp only [ent, e]
   exact hk
 ·cases hs
theorem GR7 {e : Nat} {x : Od} {lo hi : Option Od} {n len kk cap : Nat} {b : Option Nat} {xs ys : List α} {j : Int} (hs : slc xs 0 j = some ys) (hx : ev t x = .ref n b cap 0 len kk) (hl : mF7 (lo.map (ev t)) = some none) (hh : mF7 (hi.map (ev t)) = some (some j)) (he : e = esz kk) (hlen : len = xs.length) (hk : KL ⟨aG7 t d (.ref n b cap 0 ys.length kk), o⟩ ([], [])) : vdo G d (.sls e x lo hi) t o KL := by
 show ∃ y, evp t (.sls e x lo hi) = some y ∧ KL ⟨aG7 t d y, o⟩ ([], [])
 unfold slc at hs
 split at hs
 ·rename_i hc
  cases hs
  refine ⟨_, ?_, hk⟩
  simp only [evp, hx, hl, hh, Option.getD_none, Option.getD_some]
  rw [if_pos ⟨he, by simp, hc.2.1, by omega⟩]
  have e1 : ((xs.take j.toNat).drop (0 : Int).toNat).length = j.toNat := by
   simp
   omega
  rw [e1]
  simp
 ·cases hs
def UnL (ns : List Nat) (xs : List AV) (o : aj7) (ys : List AV) (L : List Nat) : Prop := ∀ K : List AV → aj7 → a47 → Prop, K ys o (L, []) → (CF7 ns xs).vp o K
theorem Ca7 {xs : List AV} : UnL [] xs o xs [] := fun K h => by
 cases xs <;> exact h
theorem Cb7 {n m : Nat} {ns : List Nat} {xs ys : List AV} {b : Option Nat} {cap off len k : Nat} {L : List Nat} (h : UnL ns xs o ys L) : UnL (m :: ns) (.ref n b cap off len k :: xs) o (.ref n b cap off len k :: ys) L := fun K hK => ac7 (ai7 (ac7 (h _ (ai7 (by simpa using hK)))))
theorem Cc7 {n : Nat} {ns : List Nat} {xs ys : List AV} {A : Option Addr} {b : Option Nat} {cap len k : Nat} {rows : Rows} {L : List Nat} (ho : o n = some (ent b cap k rows)) (hA : A = u17 b) (hl : len = rows.length) (h : UnL ns xs o ys L) : UnL (n :: ns) (.v (.slice A len cap) :: xs) o (.ref n b cap 0 len k :: ys) (n :: L) := fun K hK => by
 subst hA
 subst hl
 refine ac7 ?_
 refine bj7 ho (a77 (aU7 (by simp [ent]) (a77 (ai7 ?_))))
 refine ac7 (h _ (ai7 ?_))
 simpa [ent] using hK
theorem QO7 {ns : List Nat} {x : AV} {xs ys : List AV} {L : List Nat} {K : AV → aj7 → a47 → Prop} (hx : x = .agg xs) (h : UnL ns xs o ys L) (hk : K (.agg ys) o (L, [])) : (k27 ns x).vp o K := by
 subst hx
 exact ac7 (h _ (ai7 (by simpa using hk)))
theorem Rj7 {x : AV} {xs ys : List AV} {K : AV → aj7 → a47 → Prop} (hx : x = .agg xs) (hy : xs.map u67 = ys) (hk : K (.agg ys) o ([], [])) : (HM.ret (sp7 x)).vp o K := by
 subst hx
 subst hy
 exact hk
def Rk7 (p : AV) (o o' : aj7) (l : a47) : Prop := ∀ (x : AV) (K : AV → aj7 → a47 → Prop), K x o' l → (mM7 p x).vp o K
def dY7 (p : AV) (KL : St → a47 → Prop) (s : St) (l1 : a47) : Prop := ∃ o' l2, Rk7 p s.o o' l2 ∧ KL ⟨s.t, o'⟩ (l1.1 ++ l2.1, l1.2 ++ l2.2)
theorem xq7 {p : Od} {op : Opx} (h : vdo G d op t o (dY7 (ev t p) KL)) : vdo G d (.shut p op) t o KL := by
 show dU7 G d (.shut p op) t o KL
 intro ch
 show ((aB7 G (cB7 d) ch t op).bind fun x => mM7 (ev t p) x).vp o _
 have hv : ∀ {K : AV → Prop}, vop t op K → ∃ x, evp t op = some x ∧ K x := lv7
 have pur : (vop t op fun x => dY7 (ev t p) KL ⟨aG7 t d x, o⟩ ([], [])) → ((aB7 G (cB7 d) ch t op).bind fun x => mM7 (ev t p) x).vp o fun x o' l => KL ⟨aG7 t d x, o'⟩ l := fun h => by
  obtain ⟨x, h1, o', l2, h2, h3⟩ := hv h
  exact ac7 (B77 (K := fun a o' l1 => (mM7 (ev t p) a).vp o' fun b o'' l2 => KL ⟨aG7 t d b, o''⟩ (l1.1 ++ l2.1, l1.2 ++ l2.2)) h1 (h2 _ _ h3))
 have hea : dU7 G d op t o (dY7 (ev t p) KL) → ((aB7 G (cB7 d) ch t op).bind fun x => mM7 (ev t p) x).vp o fun x o' l => KL ⟨aG7 t d x, o'⟩ l := fun h =>
  ac7 (cc7 (h ch) fun x o' l ⟨o2, l2, h2, h3⟩ => h2 _ _ h3)
 unfold vdo at h
 split at h
 ·split at h
  ·exact hea h
  ·exact pur h
 ·split at h
  ·exact hea h
  ·exact pur h
theorem xr7 {β γ : Type} {f : γ → List T} {g : β → List T} {p : Od} {n r c k k2 cap : Nat} {b : Option Nat} {xs : List γ} {x : γ} {ys : List β} {rest : List T} (hx : xs[r]? = some x) (hp : ev t p = .ptr n b k r c) (ho : o n = some (ent b cap k (xs.map f))) (hf : (f x).drop c = .sl true k2 (ys.map g) :: rest) (hk : ∀ bb cc, KL ⟨aG7 t d (.ref (cB7 d * 8 + 0) bb cc 0 ys.length k2), upd (upd o (cB7 d * 8 + 0) (some (ent bb cc k2 (ys.map g)))) n (some ⟨b, cap, k, false, (xs.map f).set r ((f x).set c (.al (cB7 d * 8 + 0) bb cc 0 ys.length k2))⟩)⟩ ([n], [cB7 d * 8 + 0, n])) : vdo G d (.load 1 false p) t o KL := by
 have h : dU7 G d (.load 1 false p) t o KL := by
  intro ch
  have hr : r < xs.length := (List.getElem?_eq_some_iff.1 hx).1
  have e : (xs.map f).getD r [] = f x := oK7 hx
  have hlt : c + 1 ≤ (f x).length := by
   rcases Nat.lt_or_ge c (f x).length with h | h
   ·exact h
   ·rw [List.drop_eq_nil_of_le h] at hf
    cases hf
  simp only [aB7, hp]
  refine bj7 ho (a77 (aU7 ?_ (a77 ?_)))
  ·simp only [ent, e]
   simp
   exact ⟨hr, hlt⟩
  ·simp only [ent, e, hf, List.take_succ_cons, List.take_zero]
   have := hk (ch 0).1 (ch 0).2
   refine ac7 (ac7 (a37 (ai7 (ai7 ?_))))
   simp only [List.length_map]
   refine ac7 (c77 (a := .ref (cB7 d * 8 + 0) (ch 0).1 (ch 0).2 0 ys.length k2) rfl (ai7 (a37 (ai7 ?_))))
   exact this
 unfold vdo
 simp only [hp]
 exact h
theorem Nt7 {γ : Type} {f : γ → List T} {pv : AV} {n r c k cap : Nat} {b b0 : Option Nat} {xs : List γ} {x : γ} {row : List T} {o1 : aj7} {l : a47} (y : γ) {s : St} {l1 : a47} (hx : xs[r]? = some x) (hk : KL ⟨s.t, upd o1 n (some (ent b cap k ((xs.set r y).map f)))⟩ (l1.1 ++ (n :: l.1), l1.2 ++ (n :: (l.2 ++ [n])))) (hp : pv = .ptr n b0 k r c) (ho : s.o n = some ⟨b, cap, k, false, (xs.map f).set r row⟩) (hc : vz7 row (upd s.o n none) (f y) o1 l) : dY7 pv KL s l1 := by
 refine ⟨_, (n :: l.1, n :: (l.2 ++ [n])), fun z K hK => ?_, hk⟩
 subst hp
 have hr : r < xs.length := (List.getElem?_eq_some_iff.1 hx).1
 refine bj7 ho (a77 (aU7 (by simpa using hr) (a77 (a37 (a77 (ac7 ?_))))))
 have e : ((xs.map f).set r row).getD r [] = row := by
  rw [List.getD_eq_getElem?_getD, List.getElem?_set_self (by simpa using hr)]
  rfl
 show (bW7 (((xs.map f).set r row).getD r [])).vp _ _
 rw [e]
 refine hc.out _ (a37 (ai7 ?_))
 have e2 : ((xs.map f).set r row).set r (f y) = (xs.set r y).map f := by rw [List.set_set, List.map_set]
 simp only [e2]
 simpa [ent] using hK
theorem GS7 {γ : Type} {f : γ → List T} {pv : AV} {n r c k cap : Nat} {b b0 : Option Nat} {xs : List γ} {x : γ} {row : List T} {o1 : aj7} {l : a47} {s : St} {l1 : a47} (hx : xs[r]? = some x) (hk : KL ⟨s.t, upd o1 n (some (ent b cap k (xs.map f)))⟩ (l1.1 ++ (n :: l.1), l1.2 ++ (n :: (l.2 ++ [n])))) (hp : pv = .ptr n b0 k r c) (ho : s.o n = some ⟨b, cap, k, false, (xs.map f).set r row⟩) (hc : vz7 row (upd s.o n none) (f x) o1 l) : dY7 pv KL s l1 := by
 refine Nt7 x hx ?_ hp ho hc
 have : xs.set r x = xs := by
  obtain ⟨h1, h2⟩ := List.getElem?_eq_some_iff.1 hx
  rw [← h2, List.set_getElem_self]
 rw [this]
 exact hk
def Giv (k : Option Nat) (x : AV) (o : aj7) (c : T) (o' : aj7) : Prop := ∀ K : T → aj7 → a47 → Prop, (∀ l, K c o' l) → (pJ7 k x).vp o K
def MC7 (ks : List (Option Nat)) (xs : List AV) (o : aj7) (cs : List T) (o' : aj7) : Prop := ∀ K : List T → aj7 → a47 → Prop, (∀ l, K cs o' l) → (jP7 ks xs).vp o K
def Clo (c : T) (o : aj7) (c' : T) (o' : aj7) : Prop := ∀ K : T → aj7 → a47 → Prop, (∀ l, K c' o' l) → (pH7 c).vp o K
def Dt7 (cs : List T) (o : aj7) (cs' : List T) (o' : aj7) : Prop := ∀ K : List T → aj7 → a47 → Prop, (∀ l, K cs' o' l) → (bW7 cs).vp o K
def Nu7 (t : Tm) (r : Nat ⊕ Nat × Nat) (ks : List (Option Nat)) (o : aj7) (x : Bool × List T) (o' : aj7) : Prop := ∀ K : Bool × List T → aj7 → a47 → Prop, (∀ l, K x o' l) → (gO7 t r ks).vp o K
def FQ7 (t : Tm) (r : List (Nat ⊕ Nat × Nat)) (ks : List (List (Option Nat))) (o : aj7) (x : List (Bool × List T)) (o' : aj7) : Prop := ∀ K : List (Bool × List T) → aj7 → a47 → Prop, (∀ l, K x o' l) → (dx7 t r ks).vp o K
section
variable {k : Option Nat} {ks : List (Option Nat)} {o1 o2 o' : aj7}
theorem Nv7 {v : Value} (h : v.oneCell' = true) : Giv none (.v v) o (.v v) o := fun K hK => ⟨h, hK _⟩
theorem Du7 {k : Nat} {A : Option Addr} {cap : Nat} {rows : Rows} : Giv (some k) (.raw A cap rows) o (.v (.slice A rows.length cap)) o := fun K hK => hK _
theorem Dv7 {k : Nat} : Giv (some k) .nil o (.sl true k []) o := fun K hK => hK _
theorem GT7 {k : Nat} {rows : Rows} : Giv (some k) (.ro rows) o (.sl false (k % 16) rows) o := fun K hK => hK _
theorem xs7 {kk n len : Nat} {b : Option Nat} {cap : Nat} {rows : Rows} (ho : o n = some (ent b cap kk rows)) (hl : len = rows.length) : Giv k (.ref n b cap 0 len kk) o (.sl true kk rows) (upd o n none) := fun K hK => by
 subst hl
 have h : (zy7 (.ref n b cap 0 rows.length kk)).vp o K := by
  refine bj7 ho (aU7 (by simp [ent]) (a37 (ai7 ?_)))
  simp only [ent, List.take_length]
  exact hK _
 cases k <;> exact h
theorem GU7 {kk n : Nat} {b : Option Nat} {row row' : List T} {o1 : aj7} (ho : o n = some ⟨b, 1, kk, true, [row]⟩) (h : Dt7 row (upd o n none) row' o1) : Giv k (.ptr n b kk 0 0) o (.bx kk row') o1 := fun K hK => by
 have : pJ7 k (.ptr n b kk 0 0) = zy7 (.ptr n b kk 0 0) := by cases k <;> rfl
 rw [this]
 refine bj7 ho (a77 (aU7 (by simp) (a77 (a37 (a77 ?_)))))
 exact ac7 (h _ fun l => ai7 (hK _))
theorem t07 : MC7 [] [] o [] o := fun K hK => hK _
theorem qo7 {x : AV} {xs : List AV} {c : T} {cs : List T} (h : Giv k x o c o1) (hs : MC7 ks xs o1 cs o2) : MC7 (k :: ks) (x :: xs) o (c :: cs) o2 := fun K hK => ac7 (h _ fun l => ac7 (hs _ fun l2 => ai7 (hK _)))
theorem Dw7 {v : Value} : Clo (.v v) o (.v v) o := fun K hK => hK _
theorem xt7 {A : Option Addr} {cap : Nat} {rows : Rows} : Clo (.rw A cap rows) o (.rw A cap rows) o := fun K hK => hK _
theorem xu7 {w : Bool} {k : Nat} {rows : Rows} : Clo (.sl w k rows) o (.sl w k rows) o := fun K hK => hK _
theorem t17 {kk n len : Nat} {b : Option Nat} {cap : Nat} {rows : Rows} (ho : o n = some (ent b cap kk rows)) (hl : len = rows.length) : Clo (.al n b cap 0 len kk) o (.sl true kk rows) (upd o n none) := fun K hK => by
 subst hl
 refine bj7 ho (aU7 (by simp [ent]) (a37 (ai7 ?_)))
 simp only [ent, List.take_length]
 exact hK _
theorem kL7 : Dt7 [] o [] o := fun K hK => hK _
theorem ip7 {c c' : T} {cs cs' : List T} (h : Clo c o c' o1) (hs : Dt7 cs o1 cs' o2) : Dt7 (c :: cs) o (c' :: cs') o2 := fun K hK => ac7 (h _ fun l => ac7 (hs _ fun l2 => ai7 (hK _)))
theorem GV7 {n : Nat} {x : AV} {cs : List T} {g : Bool} (hx : t n = x) (hg : ia7 x = g) (h : MC7 ks (hf7 x) o cs o') : Nu7 t (.inl n) ks o (g, cs) o' := fun K hK => by
 subst hx
 subst hg
 exact ac7 (h _ fun l => ai7 (hK _))
theorem Nw7 {n m sz k : Nat} {b : Option Nat} {e : Ent} {row cs : List T} (hx : t n = .ptr m b k 0 0) (ho : o m = some e) (hb : e.b = b) (hk : e.k = k) (hr : e.rows = [row]) (hz : row.length = sz) (hbx : e.box = true) (h : Dt7 row (upd o m none) cs o') : Nu7 t (.inr (n, sz)) ks o (true, cs) o' := fun K hK => by
 simp only [gO7, hx]
 refine bj7 ho (aU7 ?_ (a37 (a77 ?_)))
 ·simp [hb, hk, hr, hz, hbx]
 ·rw [hr]
  exact ac7 (h _ fun l => ai7 (hK _))
theorem t27 : FQ7 t [] [] o [] o := fun K hK => hK _
theorem qp7 {r : Nat ⊕ Nat × Nat} {rs : List (Nat ⊕ Nat × Nat)} {kss : List (List (Option Nat))} {x : Bool × List T} {xs : List (Bool × List T)} (h : Nu7 t r ks o x o1) (hs : FQ7 t rs kss o1 xs o2) : FQ7 t (r :: rs) (ks :: kss) o (x :: xs) o2 := fun K hK => ac7 (h _ fun l => ac7 (hs _ fun l2 => ai7 (hK _)))
def zS7 (bs : Nat → Option Nat × Nat) (lc : Nat → Nat) (i : Nat) (ins : List (Bool × Nat × Rows)) (as : List (Option Rows)) (o o' : aj7) : Prop := ∀ K : List (Option Rows) → aj7 → a47 → Prop, (∀ l, K as o' l) → (k57 bs lc i ins as).vp o K
section
variable {bs : Nat → Option Nat × Nat} {lc : Nat → Nat} {i j : Nat} {ins : List (Bool × Nat × Rows)} {as : List (Option Rows)}
theorem Cd7 : zS7 bs lc i [] [] o o := fun K h => ai7 (h _)
theorem Dx7 {x : Bool × Nat × Rows} (h : zS7 bs lc (i + 1) ins as o o') : zS7 bs lc i (x :: ins) (none :: as) o o' := fun K hK => ac7 (h _ fun l => ai7 (hK _))
theorem Dy7 {k : Nat} {rows0 rows : Rows} (hj : lc i = j) (ho : o j = some (ent (bs i).1 (bs i).2 k rows)) (h : zS7 bs lc (i + 1) ins as (upd o j none) o') : zS7 bs lc i ((false, k, rows0) :: ins) (some rows :: as) o o' := fun K hK => by
 subst hj
 refine bj7 ho (a77 (aU7 (by simp [ent]) (a77 (a37 (a77 ?_)))))
 exact ac7 (ai7 (ac7 (h _ fun l => ai7 (hK _))))
theorem GW7 {k : Nat} {rows0 : Rows} {row row' row2 : List T} (hj : lc i = j) (ho : o j = some ⟨(bs i).1, (bs i).2, k, true, [row]⟩) (hc : Dt7 row (upd o j none) row' o1) (hs : row'.map wq7 = row2) (h : zS7 bs lc (i + 1) ins as o1 o') : zS7 bs lc i ((true, k, rows0) :: ins) (some [row2] :: as) o o' := fun K hK => by
 subst hj
 subst hs
 refine bj7 ho (a77 (aU7 (by simp) (a77 (a37 (a77 ?_)))))
 exact ac7 (ac7 (hc _ fun l => ai7 (ac7 (h _ fun l => ai7 (hK _)))))
end
theorem GX7 {fn : IFn} {kss : List (List (Option Nat))} {bs : Nat → Option Nat × Nat} {ins : List (Bool × Nat × Rows)} {an : Ans} {xs : List (Bool × List T)} (ho : zS7 bs fn.lc 0 ins an.outs o o1) (h : FQ7 t fn.res kss o1 xs o') (hx : xs = an.res) : jn7 fn kss bs ins an ⟨t, o⟩ := by
 refine ac7 (ho _ fun l => ac7 (h _ fun l => ai7 ⟨hx, rfl⟩))
end
def ovr : List (Nat × AV) → Tm → Tm
 | [], t => t
 | (i, x) :: L, t => aG7 (ovr L t) (some i) x
def ovh : List (Nat × Ent) → aj7 → aj7
 | [], o => o
 | (i, x) :: L, o => upd (ovh L o) i (some x)
theorem ovn : t = ovr [] t := rfl
theorem ovc {i : Nat} {x : AV} {L : List (Nat × AV)} (h : t i = x) (hs : t = ovr L t) : t = ovr ((i, x) :: L) t := by
 simp only [ovr]
 rw [← hs]
 exact Rg7 h
theorem Dz7 {i n k l l' : Nat} {b : Option Nat} {cap : Nat} {L : List (Nat × AV)} (h : t i = .ref n b cap 0 l k) (hl : l = l') (hs : t = ovr L t) : t = ovr ((i, .ref n b cap 0 l' k) :: L) t := ovc (by rw [h, hl]) hs
theorem ohn : o = ovh [] o := rfl
theorem ohc {i : Nat} {x : Ent} {L : List (Nat × Ent)} (h : o i = some x) (hs : o = ovh L o) : o = ovh ((i, x) :: L) o := by
 simp only [ovh]
 rw [← hs]
 exact Rh7 h
end
section
variable {G : Gam} {Q : Ex → St → Prop} {s : St} {a b : IC}
def vB7 (r r' : List T) : Prop := r = r'
theorem GY7 : vB7 [] [] := rfl
theorem QP7 {c : T} {r r' : List T} (hr : vB7 r r') : vB7 (c :: r) (c :: r') := congrArg (c :: ·) hr
theorem GZ7 {n k l l' : Nat} {b : Option Nat} {cap : Nat} {r r' : List T} (h : l = l') (hr : vB7 r r') : vB7 (.al n b cap 0 l k :: r) (.al n b cap 0 l' k :: r') := by
 subst h
 exact congrArg (_ :: ·) hr
theorem DA7 {o : aj7} {i k : Nat} {b : Option Nat} {cap : Nat} {row row' : List T} {L : List (Nat × Ent)} (h : o i = some ⟨b, cap, k, true, [row]⟩) (hr : vB7 row row') (hs : o = ovh L o) : o = ovh ((i, ⟨b, cap, k, true, [row']⟩) :: L) o := by
 cases hr
 exact ohc h hs
def kM7 (P : Tm → aj7 → Prop) (Q : Ex → St → Prop) : Ex → St → Prop := fun e s' => match e with
 | .norm => P s'.t s'.o
 | .exit i => Q (.exit i) s'
 | .ret => Q .ret s'
theorem dd7 {P : Tm → aj7 → Prop} {t : Tm} {o : aj7} (h : P t o) : kM7 P Q .norm ⟨t, o⟩ := h
theorem QQ7 {P : Tm → aj7 → Prop} {i : Nat} (h : Q (.exit i) s) : kM7 P Q (.exit i) s := h
theorem QR7 {P : Tm → aj7 → Prop} (h : Q .ret s) : kM7 P Q .ret s := h
def bL7 (I : Nat → Tm → aj7 → Prop) (n : Nat) (Q : Ex → St → Prop) : Ex → St → Prop := fi7 (fun m s => I m s.t s.o) n Q
theorem fl7 {t : Tm} {o : aj7} (I : Nat → Tm → aj7 → Prop) (n : Nat) (h0 : I n t o) (h : ∀ n t o, I n t o → vwp G a (bL7 I n Q) ⟨t, o⟩) : vwp G (.loop a) Q ⟨t, o⟩ := Gd7 (fun m s => I m s.t s.o) n h0 fun n s' hi => h n s'.t s'.o hi
theorem gy7 {I : Nat → Tm → aj7 → Prop} {n : Nat} {t : Tm} {o : aj7} (m : Nat) (hm : m < n) (h : I m t o) : bL7 I n Q .norm ⟨t, o⟩ := ⟨m, hm, h⟩
theorem G07 {I : Nat → Tm → aj7 → Prop} {n i : Nat} (h : Q (.exit i) s) : bL7 I n Q (.exit i) s := h
theorem G17 {I : Nat → Tm → aj7 → Prop} {n : Nat} (h : Q .ret s) : bL7 I n Q .ret s := h
def d87 (a b : IC) : IC := .seq a b
def bO7 (id : Nat) (a : IC) : IC := .block id a
theorem lA7 {id : Nat} (P : Tm → aj7 → Prop) (h1 : vwp G a (j07 id (kM7 P Q)) s) (h2 : ∀ t o, P t o → Q .norm ⟨t, o⟩) : vwp G (bO7 id a) Q s := by
 refine ⟨fun s => P s.t s.o, ?_, fun s' h => h2 s'.t s'.o h⟩
 exact h1
theorem dA7 (P : Tm → aj7 → Prop) (h1 : vwp G a (kM7 P Q) s) (h2 : ∀ t o, P t o → vwp G b Q ⟨t, o⟩) : vwp G (d87 a b) Q s := ⟨fun s => P s.t s.o, h1, fun s' h => h2 s'.t s'.o h⟩
end
end Go.Proofs.AM
