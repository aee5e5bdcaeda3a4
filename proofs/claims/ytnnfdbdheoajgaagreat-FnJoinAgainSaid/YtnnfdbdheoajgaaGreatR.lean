/- Lemmas of the proof (R), on an abstract machine. Conditions: none. -/
import Derived.Test.YtnnfdbdheoajgaaGreatW
import Derived.Test.YtnnfdbdheoajgaaGreatE
set_option linter.unusedVariables false
namespace Go.Proofs.AM
theorem wW7 : ∀ {cs : List T} {K : List T → Prop}, K cs → L37 cs K
 | [], K, h => h
 | c :: cs, K, h => wW7 (cs := cs) h
theorem sx7 : ∀ {e : Option Ent} {K : Option Ent → Prop}, K e → MI7 e K
 | none, K, h => h
 | some ⟨b, cap, k, true, []⟩, K, h => h
 | some ⟨b, cap, k, true, [row]⟩, K, h => wW7 (cs := row) h
 | some ⟨b, cap, k, true, _ :: _ :: _⟩, K, h => h
 | some ⟨b, cap, k, false, rows⟩, K, h => h
theorem ac7 {α β : Type} {f : α → HM β} : ∀ {m : HM α} {o : aj7} {K : β → aj7 → a67 → Prop}, (m.vp o fun a o' l1 => (f a).vp o' fun b o'' l2 => K b o'' (l1.1 ++ l2.1, l1.2 ++ l2.2)) → (m.bind f).vp o K
 | .ret a, o, K, h => h
 | .get n k, o, K, h => by
  simp only [HM.vp, HM.bind] at h ⊢
  split at h
  ·exact ac7 (m := k _) h
  ·exact h.elim
 | .put n e k, o, K, h => sx7 (ac7 (m := k) (i77 h))
 | .need b k, o, K, h => ⟨h.1, ac7 (m := k) h.2⟩
 | .opt x k, o, K, ⟨a, h1, h2⟩ => ⟨a, h1, ac7 (m := k a) h2⟩
theorem cc7 {α : Type} : ∀ {m : HM α} {o : aj7} {K K' : α → aj7 → a67 → Prop}, m.vp o K → (∀ a o l, K a o l → K' a o l) → m.vp o K'
 | .ret a, o, K, K', h, hk => hk _ _ _ h
 | .get n k, o, K, K', h, hk => by
  simp only [HM.vp] at h ⊢
  split at h
  ·exact cc7 (m := k _) h fun a o l => hk _ _ _
  ·exact h.elim
 | .put n e k, o, K, K', h, hk => sx7 (cc7 (m := k) (i77 h) fun a o l => hk _ _ _)
 | .need b k, o, K, K', h, hk => ⟨h.1, cc7 (m := k) h.2 hk⟩
 | .opt x k, o, K, K', ⟨a, h1, h2⟩, hk => ⟨a, h1, cc7 (m := k a) h2 hk⟩
theorem bk7 {β : Type} {n : Nat} {e : Ent} {o : aj7} {k : Ent → HM β} {K : β → aj7 → a67 → Prop} (ho : o n = some e) (h : (k e).vp o fun b o' l => K b o' (n :: l.1, l.2)) : (HM.get n k).vp o K := by
 simp only [HM.vp, ho]
 exact h
theorem ag7 {β : Type} {a : β} {o : aj7} {K : β → aj7 → a67 → Prop} (h : K a o ([], [])) : (HM.ret a).vp o K := h
theorem a87 {α β : Type} {a : α} {f : α → HM β} {o : aj7} {K : β → aj7 → a67 → Prop} (h : (f a).vp o K) : ((HM.ret a).bind f).vp o K := h
theorem aW7 {β : Type} {b : Bool} {o : aj7} {k : HM β} {K : β → aj7 → a67 → Prop} (hb : b = true) (h : k.vp o K) : (HM.need b k).vp o K := ⟨hb, h⟩
theorem c07 {α β : Type} {x : Option α} {a : α} {o : aj7} {k : α → HM β} {K : β → aj7 → a67 → Prop} (hx : x = some a) (h : (k a).vp o K) : (HM.opt x k).vp o K := ⟨a, hx, h⟩
theorem a47 {β : Type} {n : Nat} {e : Option Ent} {o : aj7} {k : HM β} {K : β → aj7 → a67 → Prop} (h : k.vp (upd o n e) fun b o' l => K b o' (l.1, n :: l.2)) : (HM.put n e k).vp o K := sx7 h
section
variable {R : Type} {r : R}
theorem itt {p : Bool} {A B : Option R} (h : (if p = true then A else B) = some r) (c : p = true) : A = some r := by rwa [if_pos c] at h
theorem itf {p : Bool} {A B : Option R} (h : (if p = true then A else B) = some r) (c : p = false) : B = some r := by rwa [if_neg (by rw [c]; decide)] at h
theorem bnd {α : Type} {x : Option α} {f : α → Option R} (h : x.bind f = some r) : ∃ a, x = some a ∧ f a = some r := Option.bind_eq_some_iff.1 h
end
def cat (a b : Str) : Option Str := if a.size + b.size ≤ 9223372036854775807 then some (a ++ b) else none
def idx {α : Type} (xs : List α) (i : Int) : Option α := if 0 ≤ i then xs[i.toNat]? else none
def CC7 (s : Str) (i : Int) : Option UInt8 := if 0 ≤ i then s.data.toList[i.toNat]? else none
def seq (a b : Str) : Bool := a.toList == b.toList
def slt (a b : Str) : Bool := Op.bytesLess a.toList b.toList
def slc {α : Type} (xs : List α) (lo hi : Int) : Option (List α) := if 0 ≤ lo ∧ lo ≤ hi ∧ hi ≤ xs.length then some ((xs.take hi.toNat).drop lo.toNat) else none
def CD7 (s : Str) (lo hi : Int) : Option Str := if 0 ≤ lo ∧ lo ≤ hi ∧ hi ≤ s.size then some (s.extract lo.toNat hi.toNat) else none
def aG7 (n : Nat) : Bool := decide (n ≤ 4294967296)
def y37 (a b : Int) : Option Int := if b ≠ 0 then some (a.tmod b) else none
def CE7 (a b : Int) : Option Int := if b ≠ 0 then some (IntKind.i64.wrap (a.tdiv b)) else none
def Fn7 (a b : Int) : Int := IntKind.i64.wrap ((BitVec.ofInt 64 a ^^^ BitVec.ofInt 64 b).toNat : Int)
theorem aM7 {α : Type} {xs : List α} {i : Int} {x : α} (h : idx xs i = some x) : 0 ≤ i ∧ xs[i.toNat]? = some x := by
 unfold idx at h
 split at h
 ·exact ⟨by assumption, h⟩
 ·cases h
section
variable {G : Gam} {t : Tm} {o : aj7} {KL : St → a67 → Prop} {d : Option Nat} {α : Type} {f : α → List T}
theorem wX7 {x : Od} {xs : List α} (hx : ev t x = .ro (xs.map f)) (hk : KL ⟨aD7 t d (.v (.int .i64 xs.length)), o⟩ ([], [])) : vdo G d (.len false x) t o KL := by
 show vop t (.len false x) (fun y => KL ⟨aD7 t d y, o⟩ ([], []))
 simp only [vop, hx]
 exact ⟨xs.length, by simp, hk⟩
theorem tF7 {x : Od} {A : Option Addr} {cap : Nat} {xs : List α} (hx : ev t x = .raw A cap (xs.map f)) (hk : KL ⟨aD7 t d (.v (.int .i64 xs.length)), o⟩ ([], [])) : vdo G d (.len false x) t o KL := by
 show vop t (.len false x) (fun y => KL ⟨aD7 t d y, o⟩ ([], []))
 simp only [vop, hx]
 exact ⟨xs.length, by simp, hk⟩
theorem tG7 {e : Nat} {x : Od} {lo hi : Option Od} {A : Option Addr} {cap : Nat} {xs ys : List α} {h : Option Int} (hx : ev t x = .raw A cap (xs.map f)) (hl : mu7 (lo.map (ev t)) = some none) (hh : mu7 (hi.map (ev t)) = some h) (hs : slc xs 0 (h.getD xs.length) = some ys) (hk : KL ⟨aD7 t d (.raw A cap (ys.map f)), o⟩ ([], [])) : vdo G d (.sls e x lo hi) t o KL := by
 show ∃ y, evp t (.sls e x lo hi) = some y ∧ KL ⟨aD7 t d y, o⟩ ([], [])
 unfold slc at hs
 split at hs
 ·rename_i hc
  cases hs
  refine ⟨_, ?_, hk⟩
  simp only [evp, hx, hl, hh, List.length_map]
  rw [if_pos hc.2]
  simp [List.map_take]
 ·cases hs
theorem FX7 {agg : Bool} {ks : List Nat} {x y : Od} {p : Bool} (hp : Fj7 agg ks (ev t x) (ev t y) = some p) (h : KL ⟨aD7 t d (.v (.bool p)), o⟩ ([], [])) : vdo G d (.eqs false agg ks x y) t o KL := ⟨p, p, hp, rfl, h⟩
theorem FY7 {agg : Bool} {ks : List Nat} {x y : Od} {p : Bool} (hp : Fj7 agg ks (ev t x) (ev t y) = some p) (h : KL ⟨aD7 t d (.v (.bool !p)), o⟩ ([], [])) : vdo G d (.eqs true agg ks x y) t o KL := ⟨p, !p, hp, rfl, h⟩
theorem Qc7 {c x y : Od} (hc : ev t c = .v (.bool true)) (h : vdo G d (.mv x) t o KL) : vdo G d (.pick c x y) t o KL := by
 have h' : frc (fun z => KL ⟨aD7 t d z, o⟩ ([], [])) (ev t x) := h
 exact ⟨_, by simp only [evp, hc]; rfl, eO7 h'⟩
theorem Qd7 {c x y : Od} (hc : ev t c = .v (.bool false)) (h : vdo G d (.mv y) t o KL) : vdo G d (.pick c x y) t o KL := by
 have h' : frc (fun z => KL ⟨aD7 t d z, o⟩ ([], [])) (ev t y) := h
 exact ⟨_, by simp only [evp, hc]; rfl, eO7 h'⟩
theorem eQ7 {e : Nat} {x i : Od} {xs : List α} {k : IntKind} {j : Int} {y : α} (hx : ev t x = .ro (xs.map f)) (hi : ev t i = .v (.int k j)) (h : idx xs j = some y) (he : (f y).length = e) (hk : KL ⟨aD7 t d (.rptr (f y)), o⟩ ([], [])) : vdo G d (.iaddr e x i) t o KL := by
 obtain ⟨h1, h2⟩ := aM7 h
 show vop t (.iaddr e x i) (fun y => KL ⟨aD7 t d y, o⟩ ([], []))
 simp only [vop, hx, hi]
 exact ⟨j.toNat, f y, by omega, Qb7 h2, he, hk⟩
theorem fh7 {e : Nat} {x i : Od} {xs : List α} {k : IntKind} {j : Int} {y : α} {n : Nat} {b : Option Nat} {cap kk : Nat} {len : Nat} (hx : ev t x = .ref n b cap 0 len kk) (hi : ev t i = .v (.int k j)) (h : idx xs j = some y) (he : e = esz kk) (hk : KL ⟨aD7 t d (.ptr n b kk j.toNat 0), o⟩ ([], [])) (hl : len = xs.length := by first | rfl | simp) : vdo G d (.iaddr e x i) t o KL := by
 subst hl
 obtain ⟨h1, h2⟩ := aM7 h
 show vop t (.iaddr e x i) (fun y => KL ⟨aD7 t d y, o⟩ ([], []))
 simp only [vop, hx, hi]
 refine ⟨j.toNat, by omega, (List.getElem?_eq_some_iff.1 h2).1, he, ?_⟩
 rw [Nat.zero_add]
 exact hk
theorem Bz7 {x i : Od} {s : Str} {k : IntKind} {j : Int} {c : UInt8} (hx : ev t x = .v (.string s)) (hi : ev t i = .v (.int k j)) (h : CC7 s j = some c) (hk : KL ⟨aD7 t d (.v (.int .u8 c.toNat)), o⟩ ([], [])) : vdo G d (.sidx x i) t o KL := by
 have hh : 0 ≤ j ∧ s.data.toList[j.toNat]? = some c := by
  unfold CC7 at h
  split at h
  ·exact ⟨by assumption, h⟩
  ·cases h
 show vop t (.sidx x i) (fun y => KL ⟨aD7 t d y, o⟩ ([], []))
 simp only [vop, hx, hi]
 exact ⟨j.toNat, c, by omega, hh.2, hk⟩
theorem MR7 {x y : Od} {a b s : Str} (hx : ev t x = .v (.string a)) (hy : ev t y = .v (.string b)) (h : cat a b = some s) (hk : KL ⟨aD7 t d (.v (.string s)), o⟩ ([], [])) : vdo G d (.bin .add x y) t o KL := by
 show vop t (.bin .add x y) (fun y => KL ⟨aD7 t d y, o⟩ ([], []))
 simp only [vop, hx, hy]
 refine ⟨.string s, ?_, hk⟩
 unfold cat at h
 simp only [sd7]
 split at h
 ·rename_i hh
  cases h
  rw [if_pos hh]
 ·cases h
theorem ou7 {e : Nat} {x : Od} {lo hi : Option Od} {xs ys : List α} {l h : Option Int} (hx : ev t x = .ro (xs.map f)) (hl : mu7 (lo.map (ev t)) = some l) (hh : mu7 (hi.map (ev t)) = some h) (hs : slc xs (l.getD 0) (h.getD xs.length) = some ys) (he : ∀ x, (f x).length = e) (hk : KL ⟨aD7 t d (.ro (ys.map f)), o⟩ ([], [])) : vdo G d (.sls e x lo hi) t o KL := by
 show ∃ y, evp t (.sls e x lo hi) = some y ∧ KL ⟨aD7 t d y, o⟩ ([], [])
 unfold slc at hs
 split at hs
 ·rename_i hc
  cases hs
  have h2 : ((xs.map f).head?.map List.length).getD e = e := by
   cases xs with
   | nil => rfl
   | cons a as => simp [he]
  refine ⟨_, ?_, hk⟩
  simp only [evp, hx, hl, hh, List.length_map]
  rw [if_pos ⟨hc, h2⟩, List.map_drop, List.map_take]
 ·cases hs
theorem FZ7 {x : Od} {lo hi : Option Od} {s s' : Str} {l h : Option Int} (hx : ev t x = .v (.string s)) (hl : mu7 (lo.map (ev t)) = some l) (hh : mu7 (hi.map (ev t)) = some h) (hs : CD7 s (l.getD 0) (h.getD s.size) = some s') (hk : KL ⟨aD7 t d (.v (.string s')), o⟩ ([], [])) : vdo G d (.ssl x lo hi) t o KL := by
 show ∃ y, evp t (.ssl x lo hi) = some y ∧ KL ⟨aD7 t d y, o⟩ ([], [])
 unfold CD7 at hs
 split at hs
 ·rename_i hc
  cases hs
  refine ⟨_, ?_, hk⟩
  simp only [evp, hx, hl, hh]
  rw [if_pos hc]
 ·cases hs
theorem ib7 {x y : Od} {k : IntKind} {a b v : Int} (hx : ev t x = .v (.int k a)) (hy : ev t y = .v (.int k b)) (h : y37 a b = some v) (hk : KL ⟨aD7 t d (.v (.int k v)), o⟩ ([], [])) : vdo G d (.bin .rem x y) t o KL := by
 show vop t (.bin .rem x y) (fun y => KL ⟨aD7 t d y, o⟩ ([], []))
 simp only [vop, hx, hy]
 refine ⟨.int k v, ?_, hk⟩
 unfold y37 at h
 split at h
 ·rename_i hb
  cases h
  simp [sd7, hb]
 ·cases h
theorem wY7 {x y : Od} {a b v : Int} (hx : ev t x = .v (.int .i64 a)) (hy : ev t y = .v (.int .i64 b)) (h : CE7 a b = some v) (hk : KL ⟨aD7 t d (.v (.int .i64 v)), o⟩ ([], [])) : vdo G d (.bin .quo x y) t o KL := by
 show vop t (.bin .quo x y) (fun y => KL ⟨aD7 t d y, o⟩ ([], []))
 simp only [vop, hx, hy]
 refine ⟨.int .i64 v, ?_, hk⟩
 unfold CE7 at h
 split at h
 ·rename_i hb
  cases h
  simp [sd7, hb]
 ·cases h
theorem wZ7 {x y : Od} {a b : Int} (hx : ev t x = .v (.int .i64 a)) (hy : ev t y = .v (.int .i64 b)) (hk : KL ⟨aD7 t d (.v (.int .i64 (Fn7 a b))), o⟩ ([], [])) : vdo G d (.bin .xor x y) t o KL := by
 show vop t (.bin .xor x y) (fun y => KL ⟨aD7 t d y, o⟩ ([], []))
 simp only [vop, hx, hy]
 exact ⟨.int .i64 (Fn7 a b), by simp only [sd7, if_true]; rfl, hk⟩
def ent (b : Option Nat) (cap k : Nat) (rows : Rows) : Ent := ⟨b, cap, k, false, rows⟩
theorem ov7 {xs : List α} {i : Nat} {x : α} (h : xs[i]? = some x) : (xs.map f).getD i [] = f x := by
 rw [List.getD_eq_getElem?_getD, Qb7 h]
 rfl
theorem ow7 {sz : Nat} {agg : Bool} {p : Od} {n : Nat} {b : Option Nat} {cap k r c : Nat} {xs : List α} {x : α} {y : AV} (hp : ev t p = .ptr n b k r c) (ho : o n = some (ent b cap k (xs.map f))) (h : xs[r]? = some x) (hc : decide (c + sz ≤ (f x).length) = true) (hw : v37 (((f x).drop c).take sz) = false) (hy : one agg ((((f x).drop c).take sz).map uS7) = some y) (hk : KL ⟨aD7 t d y, o⟩ ([n], [])) : vdo G d (.load sz agg p) t o KL := by
 have hg : (xs.map f).getD r [] = f x := ov7 h
 have hr : r < (xs.map f).length := by rw [List.length_map]; exact (List.getElem?_eq_some_iff.1 h).1
 show (match ev t p with | .ptr .. => dQ7 G d (.load sz agg p) t o KL | _ => vop t (.load sz agg p) fun x => KL ⟨aD7 t d x, o⟩ ([], []))
 rw [hp]
 intro ch
 simp only [az7, hp]
 refine bk7 ho (a87 (aW7 ?_ (a87 ?_)))
 ·simp only [ent, hg, Bool.and_eq_true, decide_eq_true_eq]
  exact ⟨⟨⟨trivial, trivial⟩, decide_eq_true hr⟩, of_decide_eq_true hc⟩
 ·simp only [ent, hg, hw]
  exact c07 hy (ag7 hk)
def vm7 (x : AV) (o : aj7) (y : AV) (L : List Nat) : Prop := ∀ K : AV → aj7 → a67 → Prop, K y o (L, []) → (bor x).vp o K
def eF7 (xs : List AV) (o : aj7) (ys : List AV) (L : List Nat) : Prop := ∀ K : List AV → aj7 → a67 → Prop, K ys o (L, []) → (v27 xs).vp o K
def zv7 (x : T) (o : aj7) (y : T) (L : List Nat) : Prop := ∀ K : T → aj7 → a67 → Prop, K y o (L, []) → (Ft7 x).vp o K
def tH7 (xs : List T) (o : aj7) (ys : List T) (L : List Nat) : Prop := ∀ K : List T → aj7 → a67 → Prop, K ys o (L, []) → (se7 xs).vp o K
theorem BA7 {v : Value} : vm7 (.v v) o (.v v) [] := fun K h => h
theorem w07 {rows : Rows} : vm7 (.ro rows) o (.ro rows) [] := fun K h => h
theorem tI7 {A : Option Addr} {cap : Nat} {rows : Rows} : vm7 (.raw A cap rows) o (.raw A cap rows) [] := fun K h => h
theorem p87 {n : Nat} {b : Option Nat} {cap k len : Nat} {xs : List α} {g : α → List T} (ho : o n = some (ent b cap k (xs.map f))) (he : ∀ x, erL (f x) = some (g x)) (hl : len = xs.length) : vm7 (.lref n b cap len k) o (.raw (uQ7 b) cap (xs.map g)) [n] := fun K h => by
 subst hl
 refine bk7 ho (a87 (aW7 ?_ (a87 ?_)))
 ·simp [ent]
 ·refine c07 (a := .raw (uQ7 b) cap (xs.map g)) ?_ (ag7 h)
  simp only [ent]
  rw [dS7 he]
  rfl
theorem tJ7 : vm7 .nil o (.ro []) [] := fun K h => h
theorem w17 {cs : List T} : vm7 (.rptr cs) o (.rptr cs) [] := fun K h => h
theorem ox7 {n : Nat} {b : Option Nat} {cap k len : Nat} {xs : List α} {g : α → List T} (ho : o n = some (ent b cap k (xs.map f))) (he : ∀ x, erL (f x) = some (g x)) (hl : len = xs.length) : vm7 (.ref n b cap 0 len k) o (.ro (xs.map g)) [n] := fun K h => by
 subst hl
 refine bk7 ho (aW7 ?_ ?_)
 ·simp [ent]
 ·refine c07 (a := .ro (xs.map g)) ?_ (ag7 h)
  simp only [ent, List.drop_zero]
  rw [show (xs.map f).take xs.length = xs.map f by rw [← List.length_map (f := f), List.take_length], dS7 he]
  rfl
theorem p97 {n : Nat} {b : Option Nat} {cap k len : Nat} {rows : Rows} {xs : List α} {g : α → List T} (ho : o n = some ⟨b, cap, k, false, rows⟩) (hr : rows = xs.map g) (he : ∀ x, erL (g x) = some (g x)) (hl : len = xs.length) : vm7 (.ref n b cap 0 len k) o (.ro (xs.map g)) [n] := by
 subst hr
 exact ox7 ho he hl
theorem tK7 {cs ys : List AV} {L : List Nat} (h : eF7 cs o ys L) : vm7 (.agg cs) o (.agg ys) L := fun K hK => ac7 (h _ (ag7 (by simpa using hK)))
theorem w27 {g : Nat} {cs ys : List AV} {L : List Nat} (h : eF7 cs o ys L) : vm7 (.fn g cs) o (.fn g ys) L := fun K hK => ac7 (h _ (ag7 (by simpa using hK)))
theorem qa7 : eF7 [] o [] [] := fun K h => h
theorem nt7 {x y : AV} {xs ys : List AV} {L1 L2 : List Nat} (h : vm7 x o y L1) (hs : eF7 xs o ys L2) : eF7 (x :: xs) o (y :: ys) (L1 ++ L2) := fun K hK => ac7 (h _ (ac7 (hs _ (ag7 (by simpa using hK)))))
theorem w37 {v : Value} : zv7 (.v v) o (.v v) [] := fun K h => ⟨_, rfl, h⟩
theorem tL7 {w : Bool} {k : Nat} {xs : List α} {g : α → List T} (he : ∀ x, erL (f x) = some (g x)) : zv7 (.sl w k (xs.map f)) o (.sl false (k % 16) (xs.map g)) [] := fun K h => c07 (a := .sl false (k % 16) (xs.map g)) (by simp only [erT, dS7 he]; rfl) (ag7 h)
theorem tM7 {n : Nat} {b : Option Nat} {cap k len : Nat} {xs : List α} {g : α → List T} (ho : o n = some (ent b cap k (xs.map f))) (he : ∀ x, erL (f x) = some (g x)) (hl : len = xs.length) : zv7 (.al n b cap 0 len k) o (.sl false (k % 16) (xs.map g)) [n] := fun K h => by
 subst hl
 refine bk7 ho (aW7 ?_ ?_)
 ·simp [ent]
 ·refine c07 (a := .sl false (k % 16) (xs.map g)) ?_ (ag7 h)
  simp only [ent, List.drop_zero]
  rw [show (xs.map f).take xs.length = xs.map f by rw [← List.length_map (f := f), List.take_length], dS7 he]
  rfl
theorem nu7 : tH7 [] o [] [] := fun K h => h
theorem li7 {x y : T} {xs ys : List T} {L1 L2 : List Nat} (h : zv7 x o y L1) (hs : tH7 xs o ys L2) : tH7 (x :: xs) o (y :: ys) (L1 ++ L2) := fun K hK => ac7 (h _ (ac7 (hs _ (ag7 (by simpa using hK)))))
theorem tN7 {n : Nat} {b : Option Nat} {k c : Nat} {row : List T} {e : Ent} {ys : List T} {L : List Nat} (ho : o n = some e) (hb : e.b = b) (hk : e.k = k) (hr : e.rows = [row]) (h : tH7 (row.drop c) o ys L) : vm7 (.ptr n b k 0 c) o (.rptr ys) (n :: L) := fun K hK => by
 refine bk7 ho (aW7 ?_ ?_)
 ·simp [hb, hk, hr]
 ·rw [hr]
  refine a87 (ac7 (h _ (ag7 ?_)))
  simpa using hK
def dT7 (xs : List (Bool × Od)) : Bool := xs.all fun x => !x.1
theorem nv7 : ∀ {xs : List (Bool × Od)} {i : Nat} {K : List (Option AV) × List In → aj7 → a67 → Prop}, dT7 xs = true → K (xs.map fun _ => none, []) o ([], []) → (iT7 t i xs).vp o K
 | [], i, K, h, hK => hK
 | (m, x) :: xs, i, K, h, hK => by
  simp only [dT7, List.all_cons, Bool.and_eq_true, Bool.not_eq_true'] at h
  obtain ⟨rfl, h⟩ := h
  exact ac7 (nv7 h (ag7 hK))
theorem vn7 : ∀ {xs : List (Bool × Od)} {ys : List AV} {L : List Nat} {K : List AV → aj7 → a67 → Prop}, eF7 (xs.map fun x => ev t x.2) o ys L → K ys o (L, []) → (g17 t xs (xs.map fun _ => none)).vp o K := by
 intro xs
 have key : ∀ xs : List (Bool × Od), g17 t xs (xs.map fun _ => none) = v27 (xs.map fun x => ev t x.2) := by
  intro xs
  induction xs with
  | nil => rfl
  | cons x xs ih =>
   obtain ⟨m, x⟩ := x
   show (do let z ← bor (ev t x); let zs ← g17 t xs (xs.map fun _ => none); HM.ret (z :: zs) : HM (List AV)) = _
   rw [ih]
   rfl
 intro ys L K h hK
 rw [key]
 exact h _ hK
theorem qb7 {xs : List (Bool × Od)} {ys : List AV} {L : List Nat} {K : List AV × List In → aj7 → a67 → Prop} (hn : dT7 xs = true) (h : eF7 (xs.map fun x => ev t x.2) o ys L) (hK : K (ys, []) o (L, [])) : (args t xs).vp o K :=
 ac7 (nv7 hn (ac7 (vn7 h (ag7 (by simpa using hK)))))
theorem F07 {g : Nat} {xs : List (Bool × Od)} {as : List AV} {L : List Nat} {r : Ans} (hg : G g as [] = some r) (hn : dT7 xs = true) (ha : eF7 (xs.map fun x => ev t x.2) o as L) (hw : (gl7 t xs || (dY7 (r.res.map (·.2)) && r.outs.all gg7)) = true) (ho : r.outs = []) (hk : ∀ ch : Ch, (bs7 (cA7 d) ch 0 r.res).vp o fun ys o' l => KL ⟨aD7 t d (jB7 ys), o'⟩ (L ++ l.1, l.2)) : vdo G d (.call g xs) t o KL := by
 show dQ7 G d (.call g xs) t o KL
 intro ch
 refine ac7 (qb7 hn ha ?_)
 refine c07 (a := r) hg (aW7 hw (a87 ?_))
 unfold tail
 rw [ho]
 refine ac7 (ag7 (ac7 (cc7 (hk ch) fun ys o' l h => ag7 ?_)))
 simpa using h
theorem CF7 {fv : Od} {g : Nat} {caps cs : List AV} {xs : List (Bool × Od)} {as : List AV} {L L2 : List Nat} {r : Ans} (hf : ev t fv = .fn g caps) (hg : G g (as ++ cs) [] = some r) (hn : dT7 xs = true) (ha : eF7 (xs.map fun x => ev t x.2) o as L) (hc : eF7 caps o cs L2) (hw : ((gl7 t xs && uU7 caps) || (dY7 (r.res.map (·.2)) && r.outs.all gg7)) = true) (ho : r.outs = []) (hk : ∀ ch : Ch, (bs7 (cA7 d) ch 0 r.res).vp o fun ys o' l => KL ⟨aD7 t d (jB7 ys), o'⟩ (L ++ (L2 ++ l.1), l.2)) : vdo G d (.calld fv xs) t o KL := by
 show dQ7 G d (.calld fv xs) t o KL
 intro ch
 simp only [az7, hf]
 refine ac7 (qb7 hn ha ?_)
 refine ac7 (hc _ ?_)
 refine c07 (a := r) hg (aW7 hw (a87 ?_))
 unfold tail
 rw [ho]
 refine ac7 (ag7 (ac7 (cc7 (hk ch) fun ys o' l h => ag7 ?_)))
 simpa using h
structure y47 (cs : List T) (o : aj7) (cs' : List T) (o' : aj7) (l : a67) : Prop where
 out : ∀ K : List T → aj7 → a67 → Prop, K cs' o' l → (b07 cs).vp o K
theorem CG7 : y47 [] o [] o ([], []) := ⟨fun K h => h⟩
theorem MS7 {x : Value} {cs cs' : List T} {o' : aj7} {l : a67} (h : y47 cs o cs' o' l) : y47 (.v x :: cs) o (.v x :: cs') o' l := ⟨fun K hK => ac7 (ag7 (ac7 (h.out _ (ag7 (by simpa using hK)))))⟩
theorem F17 {A : Option Addr} {cap : Nat} {rows : Rows} {cs cs' : List T} {o' : aj7} {l : a67} (h : y47 cs o cs' o' l) : y47 (.rw A cap rows :: cs) o (.rw A cap rows :: cs') o' l := ⟨fun K hK => ac7 (ag7 (ac7 (h.out _ (ag7 (by simpa using hK)))))⟩
theorem F27 {w : Bool} {k : Nat} {rows : Rows} {cs cs' : List T} {o' : aj7} {l : a67} (h : y47 cs o cs' o' l) : y47 (.sl w k rows :: cs) o (.sl w k rows :: cs') o' l := ⟨fun K hK => ac7 (ag7 (ac7 (h.out _ (ag7 (by simpa using hK)))))⟩
theorem F37 {n : Nat} {b : Option Nat} {cap k len : Nat} {rows : Rows} {cs cs' : List T} {o' : aj7} {l : a67} (ho : o n = some (ent b cap k rows)) (hl : len = rows.length) (h : y47 cs (upd o n none) cs' o' l) : y47 (.al n b cap 0 len k :: cs) o (.sl true k rows :: cs') o' (n :: l.1, n :: l.2) := by
 refine ⟨fun K hK => ?_⟩
 subst hl
 refine ac7 (bk7 ho (a87 (aW7 (by simp [ent]) (a87 (a47 (ag7 ?_))))))
 refine ac7 (h.out _ (ag7 ?_))
 simpa [ent] using hK
def BB7 (i : Nat) (cs : List AV) (o : aj7) (ys : List AV) (ins : List In) (o' : aj7) (l : a67) : Prop := ∀ K : List AV × List In → aj7 → a67 → Prop, K (ys, ins) o' l → (ch7 i cs).vp o K
section
variable {i : Nat} {cs ys : List AV} {ins : List In} {o' o1 : aj7} {l : a67}
theorem F47 : BB7 i [] o [] [] o ([], []) := fun K h => h
theorem QJ7 {x : Value} (h : BB7 i cs o ys ins o' l) : BB7 i (.v x :: cs) o (.v x :: ys) ins o' l := fun K hK => ac7 (h _ (ag7 (by simpa using hK)))
theorem F57 {n : Nat} {b : Option Nat} {cap k len : Nat} {rows : Rows} (ho : o n = some (ent b cap k rows)) (hl : len = rows.length) (h : BB7 (i + 1) cs (upd o n none) ys ins o' l) : BB7 i (.ref n b cap 0 len k :: cs) o (.io i len k :: ys) (⟨n, ent b cap k rows⟩ :: ins) o' (n :: l.1, n :: l.2) := fun K hK => by
 subst hl
 refine bk7 ho (a87 (aW7 (by simp [ent]) (a87 (a47 (a87 ?_)))))
 exact ac7 (h _ (ag7 (by simpa using hK)))
theorem F67 {n : Nat} {b : Option Nat} {cap k : Nat} {row row' : List T} {l0 : a67} (ho : o n = some ⟨b, cap, k, true, [row]⟩) (hc : y47 row (upd o n none) row' o1 l0) (h : BB7 (i + 1) cs o1 ys ins o' l) : BB7 i (.ptr n b k 0 0 :: cs) o (.pio i k :: ys) (⟨n, ⟨b, cap, k, true, [row']⟩⟩ :: ins) o' (n :: (l0.1 ++ l.1), n :: (l0.2 ++ l.2)) := fun K hK => by
 refine bk7 ho (a87 (aW7 (by simp) (a87 (a47 (a87 ?_)))))
 exact ac7 (hc.out _ (ac7 (h _ (ag7 (by simpa using hK)))))
end
def sy7 (t : Tm) (i : Nat) (xs : List (Bool × Od)) (o : aj7) (zs : List (Option AV)) (ins : List In) (o' : aj7) (l : a67) : Prop := ∀ K : List (Option AV) × List In → aj7 → a67 → Prop, K (zs, ins) o' l → (iT7 t i xs).vp o K
section
variable {i : Nat} {x : Od} {xs : List (Bool × Od)} {zs : List (Option AV)} {ins more : List In} {o' o1 : aj7} {l l1 : a67} {as : List AV} {L L1 : List Nat}
theorem F77 : sy7 t i [] o [] [] o ([], []) := fun K h => h
theorem CH7 (h : sy7 t i xs o zs ins o' l) : sy7 t i ((false, x) :: xs) o (none :: zs) ins o' l := fun K hK => ac7 (h _ (ag7 (by simpa using hK)))
theorem CI7 {ys : List AV} {y : AV} {j : Nat} (h : BB7 i (g87 (ev t x)) o ys ins o1 l1) (hy : one (hV7 (ev t x)) ys = some y) (hj : i + ins.length = j) (h2 : sy7 t j xs o1 zs more o' l) : sy7 t i ((true, x) :: xs) o (some y :: zs) (ins ++ more) o' (l1.1 ++ l.1, l1.2 ++ l.2) := fun K hK => by
 subst hj
 exact ac7 (h _ (ac7 (c07 hy (ag7 (ac7 (h2 _ (ag7 (by simpa using hK))))))))
structure hF7 (t : Tm) (xs : List (Bool × Od)) (zs : List (Option AV)) (o : aj7) (as : List AV) (L : List Nat) : Prop where
 out : ∀ K : List AV → aj7 → a67 → Prop, K as o (L, []) → (g17 t xs zs).vp o K
theorem F87 : hF7 t [] [] o [] [] := ⟨fun K h => h⟩
theorem CJ7 {m : Bool} {y : AV} (h : hF7 t xs zs o as L) : hF7 t ((m, x) :: xs) (some y :: zs) o (y :: as) L := ⟨fun K hK => ac7 (ag7 (ac7 (h.out _ (ag7 (by simpa using hK)))))⟩
theorem CK7 {m : Bool} {y : AV} (h1 : vm7 (ev t x) o y L1) (h : hF7 t xs zs o as L) : hF7 t ((m, x) :: xs) (none :: zs) o (y :: as) (L1 ++ L) := ⟨fun K hK => ac7 (h1 _ (ac7 (h.out _ (ag7 (by simpa using hK)))))⟩
end
structure BkS (ins : List In) (rs : List (Option Rows)) (o o2 : aj7) (N : List Nat) : Prop where
 out : ∀ K : Unit → aj7 → a67 → Prop, K () o2 ([], N) → (mA7 ins rs).vp o K
def oy7 (as bs cs : List T) : Prop := iU7 as bs = cs
theorem F97 : oy7 [] [] [] := rfl
theorem MT7 {A : Option Addr} {cap : Nat} {rows : Rows} {as bs cs : List T} (h : oy7 as bs cs) : oy7 (.rw A cap rows :: as) (.v (.slice A rows.length cap) :: bs) (.rw A cap rows :: cs) := by
 unfold oy7 at h ⊢
 simp [iU7, v87, h]
theorem Ga7 {a c : T} {as bs cs : List T} (h0 : v87 a c = c) (h : oy7 as bs cs) : oy7 (a :: as) (c :: bs) (c :: cs) := by
 unfold oy7 at h ⊢
 simp [iU7, h0, h]
section
variable {is : List In} {rs : List (Option Rows)} {o2 : aj7} {N : List Nat} {n k cap : Nat} {b : Option Nat}
theorem Gb7 : BkS [] [] o o [] := ⟨fun K h => h⟩
theorem CL7 {i : In} (h : BkS is rs o o2 N) : BkS (i :: is) (none :: rs) o o2 N := ⟨fun K hK => h.out K hK⟩
theorem CM7 {rows r : Rows} (h : BkS is rs (upd o n (some (ent b cap k r))) o2 N) : BkS (⟨n, ent b cap k rows⟩ :: is) (some r :: rs) o o2 (n :: N) := ⟨fun K hK => a47 (a87 (h.out _ hK))⟩
theorem Gc7 {row r r' : List T} (hr : oy7 row r r') (h : BkS is rs (upd o n (some ⟨b, cap, k, true, [r']⟩)) o2 N) : BkS (⟨n, ⟨b, cap, k, true, [row]⟩⟩ :: is) (some [r] :: rs) o o2 (n :: N) := ⟨fun K hK => by
 unfold oy7 at hr
 refine a47 (a87 ?_)
 have e : v97 ⟨b, cap, k, true, [row]⟩ [r] = [r'] := by simp [v97, hr]
 simp only [e]
 exact h.out _ hK⟩
end
theorem CN7 {g : Nat} {xs : List (Bool × Od)} {zs : List (Option AV)} {as : List AV} {ins : List In} {o1 : aj7} {l1 : a67} {L : List Nat} {r : Ans} (hg : G g as (ins.map fun i => (i.e.box, i.e.k, i.e.rows)) = some r) (ha : sy7 t 0 xs o zs ins o1 l1) (hl : hF7 t xs zs o1 as L) (hw : (gl7 t xs || (dY7 (r.res.map (·.2)) && r.outs.all gg7)) = true) {o2 : aj7} {N : List Nat} (hb : BkS ins r.outs o1 o2 N) (hk : ∀ ch : Ch, (bs7 (cA7 d) ch 0 r.res).vp o2 fun ys o' l => KL ⟨aD7 t d (jB7 ys), o'⟩ (l1.1 ++ (L ++ l.1), l1.2 ++ (N ++ l.2))) : vdo G d (.call g xs) t o KL := by
 show dQ7 G d (.call g xs) t o KL
 intro ch
 refine ac7 (ac7 (ha _ (ac7 (hl.out _ (ag7 ?_)))))
 refine c07 (a := r) hg (aW7 hw (a87 ?_))
 unfold tail
 refine ac7 (hb.out _ (ac7 (cc7 (hk ch) fun ys o' l h => ag7 ?_)))
 simpa using h
section
variable {dd : Nat} {ch : Ch} {j : Nat} {cs : List T} {K : List AV → aj7 → a67 → Prop}
theorem BC7 (h : K [] o ([], [])) : (eK7 dd ch j []).vp o K := h
theorem L47 {x : Value} (h : (eK7 dd ch (j + 1) cs).vp o fun ys o' l => K (.v x :: ys) o' l) : (eK7 dd ch j (.v x :: cs)).vp o K :=
 ac7 (ag7 (ac7 (cc7 h fun ys o' l hh => ag7 (by simpa using hh))))
theorem Gd7 {k : Nat} {row : List T} (h : (eK7 dd ch (j + 1) cs).vp (upd o (dd * 8 + j) (some ⟨(ch j).1, 1, k, true, [row]⟩)) fun ys o' l => K (.ptr (dd * 8 + j) (ch j).1 k 0 0 :: ys) o' (l.1, (dd * 8 + j) :: l.2)) : (eK7 dd ch j (.bx k row :: cs)).vp o K :=
 ac7 (a47 (ag7 (ac7 (cc7 h fun ys o' l hh => ag7 (by simpa using hh)))))
theorem Ge7 {k : Nat} {rows : Rows} (h : (eK7 dd ch (j + 1) cs).vp o fun ys o' l => K (.ro rows :: ys) o' l) : (eK7 dd ch j (.sl false k rows :: cs)).vp o K :=
 ac7 (ag7 (ac7 (cc7 h fun ys o' l hh => ag7 (by simpa using hh))))
theorem vo7 {k : Nat} {xs : List α} (h : (eK7 dd ch (j + 1) cs).vp (upd o (dd * 8 + j) (some (ent (ch j).1 (ch j).2 k (xs.map f)))) fun ys o' l => K (.ref (dd * 8 + j) (ch j).1 (ch j).2 0 xs.length k :: ys) o' (l.1, (dd * 8 + j) :: l.2)) : (eK7 dd ch j (.sl true k (xs.map f) :: cs)).vp o K := by
 refine ac7 (ac7 (a47 (ag7 (ag7 ?_))))
 refine ac7 (cc7 h fun ys o' l hh => ag7 ?_)
 simpa using hh
variable {rs : List (Bool × List T)}
theorem w47 (h : K [] o ([], [])) : (bs7 dd ch j []).vp o K := h
theorem tO7 {r : am7} (h : (eK7 dd ch (j + 1 + 1) []).vp (upd (upd o (dd * 8 + j) (some (ent (ch j).1 (ch j).2 115 (r.commits.map (af7 true))))) (dd * 8 + (j + 1)) (some (ent (ch (j + 1)).1 (ch (j + 1)).2 130 (r.heads.map av7)))) fun ys o' l => K (.ref (dd * 8 + j) (ch j).1 (ch j).2 0 r.commits.length 115 :: .ref (dd * 8 + (j + 1)) (ch (j + 1)).1 (ch (j + 1)).2 0 r.heads.length 130 :: ys) o' (l.1, (dd * 8 + j) :: (dd * 8 + (j + 1)) :: l.2)) : (eK7 dd ch j (ja7 true r)).vp o K :=
 vo7 (f := af7 true) (xs := r.commits) (k := 115) (cs := [T.sl true 130 (List.map av7 r.heads)]) (vo7 (f := av7) (xs := r.heads) (k := 130) (cs := []) h)
theorem tP7 {r : Feat} (h : (eK7 dd ch (j + 1 + 1 + 1 + 1) []).vp (upd (upd o (dd * 8 + (j + 1 + 1)) (some (ent (ch (j + 1 + 1)).1 (ch (j + 1 + 1)).2 66 (r.shape.pts.map ePt)))) (dd * 8 + (j + 1 + 1 + 1)) (some (ent (ch (j + 1 + 1 + 1)).1 (ch (j + 1 + 1 + 1)).2 82 (r.tags.map be7)))) fun ys o' l => K (.v (.string r.id) :: .v (.int .i64 r.shape.kind) :: .ref (dd * 8 + (j + 1 + 1)) (ch (j + 1 + 1)).1 (ch (j + 1 + 1)).2 0 r.shape.pts.length 66 :: .ref (dd * 8 + (j + 1 + 1 + 1)) (ch (j + 1 + 1 + 1)).1 (ch (j + 1 + 1 + 1)).2 0 r.tags.length 82 :: ys) o' (l.1, (dd * 8 + (j + 1 + 1)) :: (dd * 8 + (j + 1 + 1 + 1)) :: l.2)) : (eK7 dd ch j (ak7 true r)).vp o K :=
 L47 (x := .string r.id) (cs := [.v (.int .i64 r.shape.kind), T.sl true 66 (r.shape.pts.map ePt), T.sl true 82 (r.tags.map be7)]) (L47 (x := .int .i64 r.shape.kind) (cs := [T.sl true 66 (r.shape.pts.map ePt), T.sl true 82 (r.tags.map be7)]) (vo7 (f := ePt) (xs := r.shape.pts) (k := 66) (cs := [T.sl true 82 (r.tags.map be7)]) (vo7 (f := be7) (xs := r.tags) (k := 82) (cs := []) h)))
theorem w57 {c : T} (h : (eK7 dd ch j [c]).vp o fun xs o' l1 => ∃ x, xs = [x] ∧ (bs7 dd ch (j + 1) rs).vp o' fun ys o'' l2 => K (x :: ys) o'' (l1.1 ++ l2.1, l1.2 ++ l2.2)) : (bs7 dd ch j ((false, [c]) :: rs)).vp o K := by
 refine ac7 (cc7 h fun xs o' l1 hh => ?_)
 obtain ⟨x, rfl, hh⟩ := hh
 refine ac7 (c07 (a := x) rfl (ag7 (ac7 (cc7 hh fun ys o'' l2 h3 => ag7 ?_))))
 simpa using h3
theorem w67 {cs : List T} (h : (eK7 dd ch j cs).vp o fun xs o' l1 => (bs7 dd ch (j + cs.length) rs).vp o' fun ys o'' l2 => K (.agg xs :: ys) o'' (l1.1 ++ l2.1, l1.2 ++ l2.2)) : (bs7 dd ch j ((true, cs) :: rs)).vp o K := by
 refine ac7 (cc7 h fun xs o' l1 hh => ?_)
 refine ac7 (c07 (a := .agg xs) rfl (ag7 (ac7 (cc7 hh fun ys o'' l2 h3 => ag7 ?_))))
 simpa using h3
end
theorem lj7 (hp : ∀ x, mz7 [f x] = true) : ∀ xs : List α, mz7 (xs.map f) = true
 | [] => rfl
 | x :: xs => by
  have h1 := hp x
  have h2 := lj7 hp xs
  simp only [mz7, List.map_cons, List.all_cons, List.all_nil, Bool.and_true, Bool.and_eq_true] at h1 h2 ⊢
  exact ⟨h1, h2⟩
theorem dn7 {xs : List α} : (xs.map f).take xs.length = xs.map f := by rw [← List.length_map (f := f), List.take_length]
theorem zw7 {xs : List α} {b : Option Nat} {c k : Nat} : List.take xs.length (ent b c k (xs.map f)).rows = xs.map f := dn7
theorem hG7 {n : Nat} (h : aG7 n = true) : n ≤ uT7 := of_decide_eq_true h
def Src (k : Nat) (mv : Bool) (host : Option Nat) (y : AV) (o : aj7) (rows : Rows) (o' : aj7) (l : a67) : Prop := ∀ K : Rows → aj7 → a67 → Prop, K rows o' l → (kL7 k mv host y).vp o K
theorem CO7 {k : Nat} {mv : Bool} {host : Option Nat} : Src k mv host .nil o [] o ([], []) := fun K h => h
theorem ic7 {k : Nat} {mv : Bool} {host : Option Nat} {xs : List α} (hp : ∀ x, mz7 [f x] = true) (he : ∀ x, (f x).length = esz k) : Src k mv host (.ro (xs.map f)) o (xs.map f) o ([], []) := fun K h => by
 refine aW7 ?_ h
 rw [lj7 hp, Bool.true_and]
 cases xs with
 | nil => exact decide_eq_true rfl
 | cons x xs => exact decide_eq_true (by simp [he])
theorem eR7 {k n len : Nat} {b : Option Nat} {cap : Nat} {host : Option Nat} {rows : Rows} (ho : o n = some (ent b cap k rows)) (hh : decide (host ≠ some n) = true) (hl : len = rows.length) : Src k true host (.ref n b cap 0 len k) o rows (upd o n none) ([n], [n]) := fun K h => by
 refine bk7 ho (aW7 ?_ ?_)
 ·simp only [ent, hl, hh]; simp
 ·refine a47 (ag7 ?_)
  simp only [ent, List.drop_zero, hl, List.take_length]
  exact h
theorem BD7 {k n len : Nat} {b : Option Nat} {cap : Nat} {host : Option Nat} {xs : List α} (ho : o n = some (ent b cap k (xs.map f))) (hl : len = xs.length) (hp : ∀ x, mz7 [f x] = true) : Src k false host (.ref n b cap 0 len k) o (xs.map f) o ([n], []) := fun K h => by
 refine bk7 ho (aW7 ?_ ?_)
 ·simp only [ent, hl]; simp
 ·refine aW7 ?_ (ag7 ?_)
  ·simp only [ent, List.drop_zero, hl, dn7, lj7 hp]
  ·simp only [ent, List.drop_zero, hl, dn7]
   exact h
theorem dZ7 {k : Nat} {mv : Bool} {a b : Od} {n : Nat} {b' : Option Nat} {cap len : Nat} {xs ys : List α} {rows : Rows} {o' : aj7} {l : a67} (ha : ev t a = .ref n b' cap 0 len k) (hs : Src k mv (some n) (ev t b) o rows o' l) (hr : rows = ys.map f) (ho : o' n = some (ent b' cap k (xs.map f))) (hl : len = xs.length) (hf : aG7 (xs ++ ys).length = true) (hk : ∀ b2 cap2, KL ⟨aD7 t d (.ref n b2 cap2 0 (xs ++ ys).length k), upd o' n (some (ent b2 cap2 k ((xs ++ ys).map f)))⟩ (l.1 ++ [n], l.2 ++ [n])) : vdo G d (.app k mv a b) t o KL := by
 show dQ7 G d (.app k mv a b) t o KL
 intro ch
 simp only [az7, ha]
 have hf' := hG7 hf
 refine ac7 (hs _ (bk7 ho (aW7 ?_ (a47 (ag7 ?_)))))
 ·simp only [ent, hl, hr, List.length_map] at hf' ⊢
  simp only [List.length_append] at hf'
  simp [hf']
 ·simp only [ent, hl, hr, dn7, List.length_map]
  have := hk (ch 0).1 (ch 0).2
  rw [List.length_append, List.map_append] at this
  exact this
theorem Gf7 {k : Nat} {mv : Bool} {a b : Od} {ys : List α} {rows : Rows} {o' : aj7} {l : a67} (ha : ev t a = .nil) (hs : Src k mv none (ev t b) o rows o' l) (hr : rows = ys.map f) (hf : aG7 ys.length = true) (hk : ∀ b2 cap2, KL ⟨aD7 t d (.ref (cA7 d * 8) b2 cap2 0 ys.length k), upd o' (cA7 d * 8) (some (ent b2 cap2 k (ys.map f)))⟩ (l.1, l.2 ++ [cA7 d * 8])) : vdo G d (.app k mv a b) t o KL := by
 show dQ7 G d (.app k mv a b) t o KL
 intro ch
 simp only [az7, ha]
 have hf' := hG7 hf
 refine ac7 (hs _ (aW7 ?_ (a47 (ag7 ?_))))
 ·simp only [hr, List.length_map]
  simp [hf']
 ·simp only [hr, List.length_map, List.append_nil]
  exact hk (ch 0).1 (ch 0).2
theorem CP7 {k : Nat} {z : List T} {n m : Od} {len : Int} {k1 k2 : IntKind} {x : α} (hn : ev t n = .v (.int k1 len)) (hm : ev t m = .v (.int k2 len)) (h0 : decide (0 ≤ len) = true) (hf : aG7 len.toNat = true) (hz : z = f x) (hk : ∀ b, KL ⟨aD7 t d (.ref (cA7 d * 8) (some b) len.toNat 0 (List.replicate len.toNat x).length k), upd o (cA7 d * 8) (some (ent (some b) len.toNat k ((List.replicate len.toNat x).map f)))⟩ ([], [cA7 d * 8])) : vdo G d (.mks k z n m) t o KL := by
 show dQ7 G d (.mks k z n m) t o KL
 intro ch
 have hf' := hG7 hf
 have h0' := of_decide_eq_true h0
 simp only [az7, hn, hm, asI]
 refine aW7 ?_ (a47 (ag7 ?_))
 ·simp [h0', hf']
 ·have := hk ((ch 0).1.getD 0)
  rw [List.map_replicate, ← hz, List.length_replicate] at this
  exact this
theorem Gg7 {sz : Nat} {p : Od} {n c k cap : Nat} {b : Option Nat} {bx : Bool} {row : List T} {xs : List AV} (hp : ev t p = .ptr n b k 0 c) (ho : o n = some ⟨b, cap, k, bx, [row]⟩) (hc : decide (c + sz ≤ row.length) = true) (hv : og7 ((row.drop c).take sz) = some xs) (hk : KL ⟨aD7 t d (.agg xs), o⟩ ([n], [])) : vdo G d (.ldr sz p) t o KL := by
 show dQ7 G d (.ldr sz p) t o KL
 intro ch
 simp only [az7, hp]
 refine bk7 ho (a87 (aW7 ?_ (a87 (c07 (a := .agg xs) ?_ (ag7 hk)))))
 ·simpa using hc
 ·simp only [List.getD_cons_zero, hv]
  rfl
def Tot (box : Bool) (host j : Nat) (k : Option Nat) (x : AV) (o : aj7) (c : T) (o' : aj7) (l : a67) : Prop := ∀ K : T → aj7 → a67 → Prop, K c o' l → (toT box host j k x).vp o K
def Tos (box : Bool) (host j : Nat) (ks : List (Option Nat)) (xs : List AV) (o : aj7) (cs : List T) (o' : aj7) (l : a67) : Prop := ∀ K : List T → aj7 → a67 → Prop, K cs o' l → (tj7 box host j ks xs).vp o K
section
variable {box : Bool} {host j : Nat} {o1 o2 : aj7}
theorem CQ7 {v : Value} (h : v.oneCell' = true) : Tot box host j none (.v v) o (.v v) o ([], []) := fun K hK => ⟨h, hK⟩
theorem BE7 {k : Nat} {rows : Rows} : Tot box host j (some k) (.ro rows) o (.sl false (k % 16) rows) o ([], []) := fun K hK => hK
theorem CR7 {k : Nat} {A : Option Addr} {cap : Nat} {rows : Rows} : Tot true host j (some k) (.raw A cap rows) o (.rw A cap rows) o ([], []) := fun K hK => hK
theorem CS7 {k : Nat} {A : Option Addr} {cap : Nat} {rows : Rows} : Tot false host j (some k) (.raw A cap rows) o (.sl false (k % 16) rows) o ([], []) := fun K hK => hK
theorem w77 {k : Nat} : Tot false host j (some k) .nil o (.sl true k []) o ([], []) := fun K hK => hK
theorem sz7 {kk n len : Nat} {b : Option Nat} {cap : Nat} {rows : Rows} (ho : o n = some (ent b cap kk rows)) (hl : len = rows.length) (hn : decide (n ≠ host) = true) : Tot false host j (some kk) (.ref n b cap 0 len kk) o (.sl true kk rows) (upd o n none) ([n], [n]) := fun K hK => by
 subst hl
 refine bk7 ho (a87 (aW7 ?_ (a87 (a47 (ag7 ?_)))))
 ·simp only [ent, hn]; simp
 ·simp only [ent, List.take_length]
  exact hK
theorem oz7 : Tos box host j [] [] o [] o ([], []) := fun K hK => hK
theorem kv7 {k : Option Nat} {ks : List (Option Nat)} {x : AV} {xs : List AV} {c : T} {cs : List T} {l1 l2 : a67} (h : Tot box host j k x o c o1 l1) (hs : Tos box host (j + 1) ks xs o1 cs o2 l2) : Tos box host j (k :: ks) (x :: xs) o (c :: cs) o2 (l1.1 ++ l2.1, l1.2 ++ l2.2) := fun K hK => ac7 (h _ (ac7 (hs _ (ag7 (by simpa using hK)))))
end
theorem CT7 {ks : List (Option Nat)} {p y : Od} {n : Nat} {b : Option Nat} {cap k r c : Nat} {xs : List α} {x x' : α} {cs : List T} {o' : aj7} {l : a67} (hp : ev t p = .ptr n b k r c) (ho : o n = some (ent b cap k (xs.map f))) (hv : Tos false n c ks (g87 (ev t y)) o cs o' l) (ho' : o' n = some (ent b cap k (xs.map f))) (h : xs[r]? = some x) (hc : decide (c + ks.length ≤ (f x).length) = true) (hx : bL7 (f x) c cs = f x') (hk : KL ⟨aD7 t d .junk, upd o' n (some (ent b cap k ((xs.set r x').map f)))⟩ (n :: (l.1 ++ [n]), l.2 ++ [n])) : vdo G d (.store ks p y) t o KL := by
 show dQ7 G d (.store ks p y) t o KL
 intro ch
 have hg : (xs.map f).getD r [] = f x := ov7 h
 have hr : r < (xs.map f).length := by rw [List.length_map]; exact (List.getElem?_eq_some_iff.1 h).1
 simp only [az7, hp]
 refine bk7 ho (a87 (ac7 (hv _ (bk7 ho' (a87 (aW7 ?_ (a47 (ag7 ?_))))))))
 ·simp only [ent, hg]
  have := of_decide_eq_true hc
  simp [this]
  simpa using hr
 ·simp only [ent, hg, hx]
  have : (xs.map f).set r (f x') = (xs.set r x').map f := by rw [List.map_set]
  rw [this]
  exact hk
theorem MU7 {ks : List (Option Nat)} {p y : Od} {n : Nat} {b : Option Nat} {cap k r c : Nat} {xs : List α} {x x' : α} {row cs : List T} {o' : aj7} {l : a67} (hp : ev t p = .ptr n b k r c) (ho : o n = some ⟨b, cap, k, false, (xs.map f).set r row⟩) (hv : Tos false n c ks (g87 (ev t y)) o cs o' l) (ho' : o' n = some ⟨b, cap, k, false, (xs.map f).set r row⟩) (h : xs[r]? = some x) (hc : decide (c + ks.length ≤ row.length) = true) (hx : bL7 row c cs = f x') (hk : KL ⟨aD7 t d .junk, upd o' n (some (ent b cap k ((xs.set r x').map f)))⟩ (n :: (l.1 ++ [n]), l.2 ++ [n])) : vdo G d (.store ks p y) t o KL := by
 show dQ7 G d (.store ks p y) t o KL
 intro ch
 have hr : r < xs.length := (List.getElem?_eq_some_iff.1 h).1
 have hg : ((xs.map f).set r row).getD r [] = row := by
  rw [List.getD_eq_getElem?_getD, List.getElem?_set_self (by simpa using hr)]
  rfl
 simp only [az7, hp]
 refine bk7 ho (a87 (ac7 (hv _ (bk7 ho' (a87 (aW7 ?_ (a47 (ag7 ?_))))))))
 ·simp only [hg]
  have := of_decide_eq_true hc
  simp [this]
  simpa using hr
 ·simp only [hg, hx]
  have : ((xs.map f).set r row).set r (f x') = (xs.set r x').map f := by rw [List.set_set, List.map_set]
  rw [this]
  exact hk
section
variable {box : Bool} {host j : Nat} {o1 o2 : aj7}
theorem CU7 {k : Nat} : Tot true host j (some k) .nil o (.al (cn host j) none 0 0 0 k) (upd o (cn host j) (some (ent none 0 k []))) ([], [cn host j]) := fun K hK => a47 (ag7 hK)
theorem CV7 {kk k n off len cap : Nat} {b : Option Nat} {rows : Rows} (ho : o n = some (ent b cap k rows)) (hn : decide (n ≠ host) = true) : Tot true host j (some kk) (.ref n b cap off len k) o (.al (cn host j) b cap off len k) (upd (upd o n none) (cn host j) (some (ent b cap k rows))) ([n], [n, cn host j]) := fun K hK => by
 refine bk7 ho (a87 (aW7 ?_ (a87 (a47 (a87 (a47 (ag7 ?_)))))))
 ·simp only [ent, hn]; simp
 ·exact hK
def Zop (host j : Nat) (z : List T) (o : aj7) (cs : List T) (o' : aj7) (l : a67) : Prop := ∀ K : List T → aj7 → a67 → Prop, K cs o' l → (uR7 host j z).vp o K
theorem CW7 : Zop host j [] o [] o ([], []) := fun K hK => hK
theorem MV7 {x : Value} {z cs : List T} {l : a67} (h : Zop host (j + 1) z o cs o1 l) : Zop host j (.v x :: z) o (.v x :: cs) o1 l := fun K hK => ac7 (ag7 (ac7 (h _ (ag7 (by simpa using hK)))))
theorem Gh7 {k : Nat} {z cs : List T} {l : a67} (h : Zop host (j + 1) z (upd o (cn host j) (some (ent none 0 k []))) cs o1 l) : Zop host j (.sl true k [] :: z) o (.al (cn host j) none 0 0 0 k :: cs) o1 (l.1, cn host j :: l.2) := fun K hK => by
 refine ac7 (a47 (ag7 (ac7 (h _ (ag7 ?_)))))
 simpa using hK
end
theorem Gi7 {k : Nat} {ks : List (Option Nat)} {y : Od} {cs : List T} {o' : aj7} {l : a67} (hv : Tos true (cA7 d * 8) 0 ks (g87 (ev t y)) o cs o' l) (hk : ∀ b, KL ⟨aD7 t d (.ptr (cA7 d * 8) (some b) k 0 0), upd o' (cA7 d * 8) (some ⟨some b, 1, k, true, [cs]⟩)⟩ (l.1, l.2 ++ [cA7 d * 8])) : vdo G d (.box k ks y) t o KL := by
 show dQ7 G d (.box k ks y) t o KL
 intro ch
 have := hk ((ch 0).1.getD 0)
 exact ac7 (hv _ (a47 (ag7 (by simpa using this))))
theorem Gj7 {k : Nat} {ks : List (Option Nat)} {z : List T} {y : Od} {cs : List T} {o' : aj7} {l : a67} (hv : Tos false (cA7 d * 8) 0 ks (g87 (ev t y)) o cs o' l) (hk : ∀ b, KL ⟨aD7 t d (.ref (cA7 d * 8) (some b) 1 0 1 k), upd o' (cA7 d * 8) (some ⟨some b, 1, k, false, [cs]⟩)⟩ (l.1, l.2 ++ [cA7 d * 8])) : vdo G d (.lit k ks z 1 [(0, y)]) t o KL := by
 show dQ7 G d (.lit k ks z 1 [(0, y)]) t o KL
 intro ch
 have := hk ((ch 0).1.getD 0)
 simp only [az7, of7, List.replicate]
 refine ac7 (ac7 ?_)
 refine aW7 (by rfl) ?_
 refine ag7 ?_
 refine ac7 (hv _ ?_)
 refine ag7 ?_
 refine a47 (ag7 ?_)
 simpa using this
theorem Gk7 {k : Nat} {z cs : List T} {o' : aj7} {l : a67} (hv : Zop (cA7 d * 8) 0 z o cs o' l) (hk : ∀ b, KL ⟨aD7 t d (.ptr (cA7 d * 8) (some b) k 0 0), upd o' (cA7 d * 8) (some ⟨some b, 1, k, true, [cs]⟩)⟩ (l.1, l.2 ++ [cA7 d * 8])) : vdo G d (.alloc k z) t o KL := by
 show dQ7 G d (.alloc k z) t o KL
 intro ch
 have := hk ((ch 0).1.getD 0)
 exact ac7 (hv _ (a47 (ag7 (by simpa using this))))
def Fo7 (row : List T) (c : Nat) (cs row' : List T) : Prop := c + cs.length ≤ row.length ∧ bL7 row c cs = row'
theorem je7 {x : T} : ∀ {cs row : List T} {c : Nat}, bL7 (x :: row) (c + 1) cs = x :: bL7 row c cs
 | [], row, c => rfl
 | y :: cs, row, c => by
  show bL7 (x :: row.set c y) (c + 1 + 1) cs = _
  rw [je7]
  rfl
theorem Gl7 {row : List T} : Fo7 row 0 [] row := ⟨by simp, rfl⟩
theorem Gm7 {x y : T} {row cs row' : List T} (h : Fo7 row 0 cs row') : Fo7 (x :: row) 0 (y :: cs) (y :: row') := by
 obtain ⟨h1, h2⟩ := h
 refine ⟨by simp at h1 ⊢; omega, ?_⟩
 show bL7 (y :: row) (0 + 1) cs = _
 rw [je7, h2]
theorem CX7 {x : T} {row cs row' : List T} {c : Nat} (h : Fo7 row c cs row') : Fo7 (x :: row) (c + 1) cs (x :: row') := by
 obtain ⟨h1, h2⟩ := h
 refine ⟨by simp at h1 ⊢; omega, ?_⟩
 rw [je7, h2]
theorem Gn7 {ks : List (Option Nat)} {p y : Od} {n : Nat} {b : Option Nat} {cap k c : Nat} {bx : Bool} {row row' cs : List T} {o' : aj7} {l : a67} (hp : ev t p = .ptr n b k 0 c) (ho : o n = some ⟨b, cap, k, bx, [row]⟩) (hv : Tos bx n c ks (g87 (ev t y)) o cs o' l) (ho' : o' n = some ⟨b, cap, k, bx, [row]⟩) (hx : Fo7 row c cs row') (hc : decide (ks.length = cs.length) = true) (hk : KL ⟨aD7 t d .junk, upd o' n (some ⟨b, cap, k, bx, [row']⟩)⟩ (n :: (l.1 ++ [n]), l.2 ++ [n])) : vdo G d (.store ks p y) t o KL := by
 show dQ7 G d (.store ks p y) t o KL
 intro ch
 obtain ⟨h1, h2⟩ := hx
 have hc := of_decide_eq_true hc
 simp only [az7, hp]
 refine bk7 ho (a87 (ac7 (hv _ (bk7 ho' (a87 (aW7 ?_ (a47 (ag7 ?_))))))))
 ·simp
  omega
 ·simp only [List.getD_cons_zero, List.set_cons_zero, h2]
  exact hk
theorem qc7 {i : Nat} {x y : AV} : aD7 (aD7 t (some i) x) (some i) y = aD7 t (some i) y := by
 funext j
 simp only [aD7]
 split <;> rfl
theorem BF7 {dd : Nat} {ch : Ch} {op : Opx} {x : AV} (h : evp t op = some x) {K : AV → aj7 → a67 → Prop} (hK : K x o ([], [])) : (az7 G dd ch t op).vp o K := by
 cases op with
 | load sz agg p =>
  simp only [evp] at h
  split at h
  ·rename_i cs hcs
   split at h
   ·rename_i hle
    simp only [az7, hcs, hle, if_true]
    exact c07 h (ag7 hK)
   ·cases h
  ·cases h
 | _ => first | (cases h; done) | exact c07 h (ag7 hK)
theorem nw7 {i : Nat} {op : Opx} {f : AV → HM AV} {op' : Opx} (hw : hOp op' = true) (hs : ∀ ch, az7 G i ch t op' = (az7 G i ch t op).bind f) (h : vdo G (some i) op t o fun s l1 => (f (s.t i)).vp s.o fun y o' l2 => KL ⟨aD7 s.t (some i) y, o'⟩ (l1.1 ++ l2.1, l1.2 ++ l2.2)) : vdo G (some i) op' t o KL := by
 have hi : ∀ x, aD7 t (some i) x i = x := fun x => by simp [aD7]
 have key : dQ7 G (some i) op' t o KL := by
  intro ch
  show (az7 G i ch t op').vp o _
  rw [hs]
  have hv : ∀ {K : AV → Prop}, vop t op K → ∃ x, evp t op = some x ∧ K x := lf7
  have pur : (vop t op fun x => (f ((aD7 t (some i) x) i)).vp o fun y o' l2 => KL ⟨aD7 (aD7 t (some i) x) (some i) y, o'⟩ ((([], []) : a67).1 ++ l2.1, (([], []) : a67).2 ++ l2.2)) → ((az7 G i ch t op).bind f).vp o fun x o' l => KL ⟨aD7 t (some i) x, o'⟩ l := fun h => by
   obtain ⟨x, h1, h2⟩ := hv h
   rw [hi] at h2
   simp only [qc7] at h2
   exact ac7 (BF7 (K := fun a o' l1 => (f a).vp o' fun b o'' l2 => KL ⟨aD7 t (some i) b, o''⟩ (l1.1 ++ l2.1, l1.2 ++ l2.2)) h1 h2)
  have hea : (dQ7 G (some i) op t o fun s l1 => (f (s.t i)).vp s.o fun y o' l2 => KL ⟨aD7 s.t (some i) y, o'⟩ (l1.1 ++ l2.1, l1.2 ++ l2.2)) → ((az7 G i ch t op).bind f).vp o fun x o' l => KL ⟨aD7 t (some i) x, o'⟩ l := fun h => by
   refine ac7 (cc7 (K' := fun x o' l1 => (f x).vp o' fun y o'' l2 => KL ⟨aD7 t (some i) y, o''⟩ (l1.1 ++ l2.1, l1.2 ++ l2.2)) (h ch) fun x o' l hh => ?_)
   simp only [hi] at hh
   simp only [qc7] at hh
   exact hh
  unfold vdo at h
  split at h
  ·split at h
   ·exact hea h
   ·exact pur h
  ·split at h
   ·exact hea h
   ·exact pur h
 unfold vdo
 split
 ·cases hw
 ·rw [hw]
  exact key
theorem dr7 {i : Nat} {op : Opx} (h : vdo G (some i) op t o fun s l1 => (e57 (s.t i)).vp s.o fun y o' l2 => KL ⟨aD7 s.t (some i) y, o'⟩ (l1.1 ++ l2.1, l1.2 ++ l2.2)) : vdo G (some i) (.frz op) t o KL := nw7 rfl (fun _ => rfl) h
theorem zx7 {i m k : Nat} {op : Opx} (h : vdo G (some i) op t o fun s l1 => (kf7 m k (s.t i)).vp s.o fun y o' l2 => KL ⟨aD7 s.t (some i) y, o'⟩ (l1.1 ++ l2.1, l1.2 ++ l2.2)) : vdo G (some i) (.ren m k op) t o KL := nw7 rfl (fun _ => rfl) h
def Frz (x : AV) (o : aj7) (y : AV) (o' : aj7) (l : a67) : Prop := ∀ K : AV → aj7 → a67 → Prop, K y o' l → (e57 x).vp o K
def Go7 (x : List AV) (o : aj7) (y : List AV) (o' : aj7) (l : a67) : Prop := ∀ K : List AV → aj7 → a67 → Prop, K y o' l → (sf7 x).vp o K
section
variable {o1 o2 : aj7} {l1 l2 : a67}
theorem MW7 {v : Value} : Frz (.v v) o (.v v) o ([], []) := fun K h => h
theorem MX7 {rows : Rows} : Frz (.ro rows) o (.ro rows) o ([], []) := fun K h => h
theorem BG7 : Frz .nil o (.ro []) o ([], []) := fun K h => h
theorem w87 {n : Nat} {b : Option Nat} {cap k len : Nat} {xs : List α} {g : α → List T} (ho : o n = some (ent b cap k (xs.map f))) (he : ∀ x, erL (f x) = some (g x)) (hl : len = xs.length) : Frz (.ref n b cap 0 len k) o (.ro (xs.map g)) (upd o n none) ([n], [n]) := fun K h => by
 subst hl
 refine bk7 ho (a87 (aW7 ?_ (a87 (a47 (a87 (c07 (a := xs.map g) ?_ (ag7 h)))))))
 ·simp [ent]
 ·simp only [ent, List.drop_zero]
  rw [show (xs.map f).take xs.length = xs.map f by rw [← List.length_map (f := f), List.take_length], dS7 he]
theorem Gp7 {n : Nat} {b : Option Nat} {cap k : Nat} (ho : o n = some (ent b cap k [])) : Frz (.ref n b cap 0 0 k) o (.ro []) (upd o n none) ([n], [n]) := w87 (α := Nat) (f := fun _ => []) (g := fun _ => []) (xs := []) ho (fun _ => rfl) rfl
theorem BH7 {cs ys : List AV} (h : Go7 cs o ys o1 l1) : Frz (.agg cs) o (.agg ys) o1 l1 := fun K hK => ac7 (h _ (ag7 (by simpa using hK)))
theorem Gq7 {cs ys : List AV} (h : Go7 cs o ys o1 l1) : Frz (.tup cs) o (.tup ys) o1 l1 := fun K hK => ac7 (h _ (ag7 (by simpa using hK)))
theorem w97 : Go7 [] o [] o ([], []) := fun K h => h
theorem id7 {x y : AV} {xs ys : List AV} (h : Frz x o y o1 l1) (hs : Go7 xs o1 ys o2 l2) : Go7 (x :: xs) o (y :: ys) o2 (l1.1 ++ l2.1, l1.2 ++ l2.2) := fun K hK => ac7 (h _ (ac7 (hs _ (ag7 (by simpa using hK)))))
theorem L57 {m k0 n : Nat} {b : Option Nat} {cap off len k : Nat} {x : AV} {e : Ent} {K : AV → aj7 → a67 → Prop} (hx : x = .ref n b cap off len k) (ho : o n = some e) (hk : K (.ref m b cap off len k) (upd (upd o n none) m (some e)) ([n], [n, m])) : (kf7 m k0 x).vp o K := by
 subst hx
 exact bk7 ho (a87 (a47 (a87 (a47 (ag7 hk)))))
theorem MY7 {m k0 : Nat} {x : AV} {K : AV → aj7 → a67 → Prop} (hx : x = .nil) (hk : K (.ref m none 0 0 0 k0) (upd o m (some (ent none 0 k0 []))) ([], [m])) : (kf7 m k0 x).vp o K := by
 subst hx
 exact a47 (ag7 hk)
end
theorem CY7 {i j : Nat} {op : Opx} (h : vdo G (some i) op t o fun s l1 => (jC7 j (s.t i)).vp s.o fun y o' l2 => KL ⟨aD7 s.t (some i) y, o'⟩ (l1.1 ++ l2.1, l1.2 ++ l2.2)) : vdo G (some i) (.pfz j op) t o KL := nw7 rfl (fun _ => rfl) h
theorem CZ7 {i : Nat} {op : Opx} (h : vdo G (some i) op t o fun s l1 => (kN7 (s.t i)).vp s.o fun y o' l2 => KL ⟨aD7 s.t (some i) y, o'⟩ (l1.1 ++ l2.1, l1.2 ++ l2.2)) : vdo G (some i) (.trn op) t o KL := nw7 rfl (fun _ => rfl) h
theorem MZ7 {i : Nat} {ns : List Nat} {op : Opx} (h : vdo G (some i) op t o fun s l1 => (kM7 ns (s.t i)).vp s.o fun y o' l2 => KL ⟨aD7 s.t (some i) y, o'⟩ (l1.1 ++ l2.1, l1.2 ++ l2.2)) : vdo G (some i) (.unr ns op) t o KL := nw7 rfl (fun _ => rfl) h
theorem Gr7 {i : Nat} {op : Opx} (h : vdo G (some i) op t o fun s l1 => (HM.ret (sg7 (s.t i))).vp s.o fun y o' l2 => KL ⟨aD7 s.t (some i) y, o'⟩ (l1.1 ++ l2.1, l1.2 ++ l2.2)) : vdo G (some i) (.rawl op) t o KL := nw7 (f := fun x => .ret (sg7 x)) rfl (fun _ => rfl) h
theorem L67 {γ : Type} {f g : γ → List T} {n j k cap off len : Nat} {b : Option Nat} {xs : List γ} {x : AV} {rest : List AV} {K : AV → aj7 → a67 → Prop} (hp : du7 j (xs.map f) = some (xs.map g)) (hx : g87 x = .ref n b cap off len k :: rest) (ho : o n = some (ent b cap k (xs.map f))) (hk : K x (upd o n (some (ent b cap k (xs.map g)))) ([n], [n])) : (jC7 j x).vp o K := by
 unfold jC7
 rw [hx]
 refine bk7 ho (a87 (aW7 (by simp [ent]) (a87 (ac7 (c07 (a := xs.map g) (by simpa [ent] using hp) (ag7 (a47 (ag7 ?_))))))))
 simpa [ent] using hk
theorem Qe7 {γ : Type} {f : γ → List T} {n k cap len : Nat} {b : Option Nat} {xs ys : List γ} {j : Int} {x : AV} {K : AV → aj7 → a67 → Prop} (hs : slc xs 0 j = some ys) (hx : x = .ref n b cap 0 len k) (ho : o n = some (ent b cap k (xs.map f))) (hl : len = ys.length) (hk : K (.ref n b cap 0 len k) (upd o n (some (ent b cap k (ys.map f)))) ([n], [n])) : (kN7 x).vp o K := by
 subst hx
 subst hl
 unfold slc at hs
 split at hs
 ·rename_i hc
  cases hs
  have e : (xs.map f).take ((xs.take j.toNat).drop (0 : Int).toNat).length = ((xs.take j.toNat).drop (0 : Int).toNat).map f := by
   simp [List.map_take]
  refine bk7 ho (a87 (aW7 ?_ (a87 (a47 (ag7 ?_)))))
  ·simp [ent]
   omega
  ·simp only [ent, e]
   exact hk
 ·cases hs
theorem Gs7 {e : Nat} {x : Od} {lo hi : Option Od} {n len kk cap : Nat} {b : Option Nat} {xs ys : List α} {j : Int} (hs : slc xs 0 j = some ys) (hx : ev t x = .ref n b cap 0 len kk) (hl : mu7 (lo.map (ev t)) = some none) (hh : mu7 (hi.map (ev t)) = some (some j)) (he : e = esz kk) (hlen : len = xs.length) (hk : KL ⟨aD7 t d (.ref n b cap 0 ys.length kk), o⟩ ([], [])) : vdo G d (.sls e x lo hi) t o KL := by
 show ∃ y, evp t (.sls e x lo hi) = some y ∧ KL ⟨aD7 t d y, o⟩ ([], [])
 unfold slc at hs
 split at hs
 ·rename_i hc
  cases hs
  refine ⟨_, ?_, hk⟩
  simp only [evp, hx, hl, hh, Option.getD_none, Option.getD_some]
  rw [if_pos ⟨he, by simp, hc.2.1, by omega⟩]
  have e1 : ((xs.take j.toNat).drop (0 : Int).toNat).length = j.toNat := by
   simp
   omega
  rw [e1]
  simp
 ·cases hs
def UnL (ns : List Nat) (xs : List AV) (o : aj7) (ys : List AV) (L : List Nat) : Prop := ∀ K : List AV → aj7 → a67 → Prop, K ys o (L, []) → (Cb7 ns xs).vp o K
theorem BI7 {xs : List AV} : UnL [] xs o xs [] := fun K h => by
 cases xs <;> exact h
theorem BJ7 {n m : Nat} {ns : List Nat} {xs ys : List AV} {b : Option Nat} {cap off len k : Nat} {L : List Nat} (h : UnL ns xs o ys L) : UnL (m :: ns) (.ref n b cap off len k :: xs) o (.ref n b cap off len k :: ys) L := fun K hK => ac7 (ag7 (ac7 (h _ (ag7 (by simpa using hK)))))
theorem BK7 {n : Nat} {ns : List Nat} {xs ys : List AV} {A : Option Addr} {b : Option Nat} {cap len k : Nat} {rows : Rows} {L : List Nat} (ho : o n = some (ent b cap k rows)) (hA : A = uQ7 b) (hl : len = rows.length) (h : UnL ns xs o ys L) : UnL (n :: ns) (.v (.slice A len cap) :: xs) o (.ref n b cap 0 len k :: ys) (n :: L) := fun K hK => by
 subst hA
 subst hl
 refine ac7 ?_
 refine bk7 ho (a87 (aW7 (by simp [ent]) (a87 (ag7 ?_))))
 refine ac7 (h _ (ag7 ?_))
 simpa [ent] using hK
theorem Qf7 {ns : List Nat} {x : AV} {xs ys : List AV} {L : List Nat} {K : AV → aj7 → a67 → Prop} (hx : x = .agg xs) (h : UnL ns xs o ys L) (hk : K (.agg ys) o (L, [])) : (kM7 ns x).vp o K := by
 subst hx
 exact ac7 (h _ (ag7 (by simpa using hk)))
theorem QK7 {x : AV} {xs ys : List AV} {K : AV → aj7 → a67 → Prop} (hx : x = .agg xs) (hy : xs.map uV7 = ys) (hk : K (.agg ys) o ([], [])) : (HM.ret (sg7 x)).vp o K := by
 subst hx
 subst hy
 exact hk
def QL7 (p : AV) (o o' : aj7) (l : a67) : Prop := ∀ (x : AV) (K : AV → aj7 → a67 → Prop), K x o' l → (mB7 p x).vp o K
def eS7 (p : AV) (KL : St → a67 → Prop) (s : St) (l1 : a67) : Prop := ∃ o' l2, QL7 p s.o o' l2 ∧ KL ⟨s.t, o'⟩ (l1.1 ++ l2.1, l1.2 ++ l2.2)
theorem Gt7 {p : Od} {op : Opx} (h : vdo G d op t o (eS7 (ev t p) KL)) : vdo G d (.shut p op) t o KL := by
 show dQ7 G d (.shut p op) t o KL
 intro ch
 show ((az7 G (cA7 d) ch t op).bind fun x => mB7 (ev t p) x).vp o _
 have hv : ∀ {K : AV → Prop}, vop t op K → ∃ x, evp t op = some x ∧ K x := lf7
 have pur : (vop t op fun x => eS7 (ev t p) KL ⟨aD7 t d x, o⟩ ([], [])) → ((az7 G (cA7 d) ch t op).bind fun x => mB7 (ev t p) x).vp o fun x o' l => KL ⟨aD7 t d x, o'⟩ l := fun h => by
  obtain ⟨x, h1, o', l2, h2, h3⟩ := hv h
  exact ac7 (BF7 (K := fun a o' l1 => (mB7 (ev t p) a).vp o' fun b o'' l2 => KL ⟨aD7 t d b, o''⟩ (l1.1 ++ l2.1, l1.2 ++ l2.2)) h1 (h2 _ _ h3))
 have hea : dQ7 G d op t o (eS7 (ev t p) KL) → ((az7 G (cA7 d) ch t op).bind fun x => mB7 (ev t p) x).vp o fun x o' l => KL ⟨aD7 t d x, o'⟩ l := fun h =>
  ac7 (cc7 (h ch) fun x o' l ⟨o2, l2, h2, h3⟩ => h2 _ _ h3)
 unfold vdo at h
 split at h
 ·split at h
  ·exact hea h
  ·exact pur h
 ·split at h
  ·exact hea h
  ·exact pur h
theorem Gu7 {β γ : Type} {f : γ → List T} {g : β → List T} {p : Od} {n r c k k2 cap : Nat} {b : Option Nat} {xs : List γ} {x : γ} {ys : List β} {rest : List T} (hx : xs[r]? = some x) (hp : ev t p = .ptr n b k r c) (ho : o n = some (ent b cap k (xs.map f))) (hf : (f x).drop c = .sl true k2 (ys.map g) :: rest) (hk : ∀ bb cc, KL ⟨aD7 t d (.ref (cA7 d * 8 + 0) bb cc 0 ys.length k2), upd (upd o (cA7 d * 8 + 0) (some (ent bb cc k2 (ys.map g)))) n (some ⟨b, cap, k, false, (xs.map f).set r ((f x).set c (.al (cA7 d * 8 + 0) bb cc 0 ys.length k2))⟩)⟩ ([n], [cA7 d * 8 + 0, n])) : vdo G d (.load 1 false p) t o KL := by
 have h : dQ7 G d (.load 1 false p) t o KL := by
  intro ch
  have hr : r < xs.length := (List.getElem?_eq_some_iff.1 hx).1
  have e : (xs.map f).getD r [] = f x := ov7 hx
  have hlt : c + 1 ≤ (f x).length := by
   rcases Nat.lt_or_ge c (f x).length with h | h
   ·exact h
   ·rw [List.drop_eq_nil_of_le h] at hf
    cases hf
  simp only [az7, hp]
  refine bk7 ho (a87 (aW7 ?_ (a87 ?_)))
  ·simp only [ent, e]
   simp
   exact ⟨hr, hlt⟩
  ·simp only [ent, e, hf, List.take_succ_cons, List.take_zero]
   have := hk (ch 0).1 (ch 0).2
   refine ac7 (ac7 (a47 (ag7 (ag7 ?_))))
   simp only [List.length_map]
   refine ac7 (c07 (a := .ref (cA7 d * 8 + 0) (ch 0).1 (ch 0).2 0 ys.length k2) rfl (ag7 (a47 (ag7 ?_))))
   exact this
 unfold vdo
 simp only [hp]
 exact h
def Giv (k : Option Nat) (x : AV) (o : aj7) (c : T) (o' : aj7) : Prop := ∀ K : T → aj7 → a67 → Prop, (∀ l, K c o' l) → (py7 k x).vp o K
def L77 (ks : List (Option Nat)) (xs : List AV) (o : aj7) (cs : List T) (o' : aj7) : Prop := ∀ K : List T → aj7 → a67 → Prop, (∀ l, K cs o' l) → (jD7 ks xs).vp o K
def Clo (c : T) (o : aj7) (c' : T) (o' : aj7) : Prop := ∀ K : T → aj7 → a67 → Prop, (∀ l, K c' o' l) → (pw7 c).vp o K
def C07 (cs : List T) (o : aj7) (cs' : List T) (o' : aj7) : Prop := ∀ K : List T → aj7 → a67 → Prop, (∀ l, K cs' o' l) → (b07 cs).vp o K
def M07 (t : Tm) (r : Nat ⊕ Nat × Nat) (ks : List (Option Nat)) (o : aj7) (x : Bool × List T) (o' : aj7) : Prop := ∀ K : Bool × List T → aj7 → a67 → Prop, (∀ l, K x o' l) → (gF7 t r ks).vp o K
def Fp7 (t : Tm) (r : List (Nat ⊕ Nat × Nat)) (ks : List (List (Option Nat))) (o : aj7) (x : List (Bool × List T)) (o' : aj7) : Prop := ∀ K : List (Bool × List T) → aj7 → a67 → Prop, (∀ l, K x o' l) → (dw7 t r ks).vp o K
section
variable {k : Option Nat} {ks : List (Option Nat)} {o1 o2 o' : aj7}
theorem M17 {v : Value} (h : v.oneCell' = true) : Giv none (.v v) o (.v v) o := fun K hK => ⟨h, hK _⟩
theorem C17 {k : Nat} {A : Option Addr} {cap : Nat} {rows : Rows} : Giv (some k) (.raw A cap rows) o (.v (.slice A rows.length cap)) o := fun K hK => hK _
theorem C27 {k : Nat} : Giv (some k) .nil o (.sl true k []) o := fun K hK => hK _
theorem Gv7 {k : Nat} {rows : Rows} : Giv (some k) (.ro rows) o (.sl false (k % 16) rows) o := fun K hK => hK _
theorem xa7 {kk n len : Nat} {b : Option Nat} {cap : Nat} {rows : Rows} (ho : o n = some (ent b cap kk rows)) (hl : len = rows.length) : Giv k (.ref n b cap 0 len kk) o (.sl true kk rows) (upd o n none) := fun K hK => by
 subst hl
 have h : (ze7 (.ref n b cap 0 rows.length kk)).vp o K := by
  refine bk7 ho (aW7 (by simp [ent]) (a47 (ag7 ?_)))
  simp only [ent, List.take_length]
  exact hK _
 cases k <;> exact h
theorem Gw7 {kk n : Nat} {b : Option Nat} {row row' : List T} {o1 : aj7} (ho : o n = some ⟨b, 1, kk, true, [row]⟩) (h : C07 row (upd o n none) row' o1) : Giv k (.ptr n b kk 0 0) o (.bx kk row') o1 := fun K hK => by
 have : py7 k (.ptr n b kk 0 0) = ze7 (.ptr n b kk 0 0) := by cases k <;> rfl
 rw [this]
 refine bk7 ho (a87 (aW7 (by simp) (a87 (a47 (a87 ?_)))))
 exact ac7 (h _ fun l => ag7 (hK _))
theorem tQ7 : L77 [] [] o [] o := fun K hK => hK _
theorem qd7 {x : AV} {xs : List AV} {c : T} {cs : List T} (h : Giv k x o c o1) (hs : L77 ks xs o1 cs o2) : L77 (k :: ks) (x :: xs) o (c :: cs) o2 := fun K hK => ac7 (h _ fun l => ac7 (hs _ fun l2 => ag7 (hK _)))
theorem C37 {v : Value} : Clo (.v v) o (.v v) o := fun K hK => hK _
theorem xb7 {A : Option Addr} {cap : Nat} {rows : Rows} : Clo (.rw A cap rows) o (.rw A cap rows) o := fun K hK => hK _
theorem xc7 {w : Bool} {k : Nat} {rows : Rows} : Clo (.sl w k rows) o (.sl w k rows) o := fun K hK => hK _
theorem tR7 {kk n len : Nat} {b : Option Nat} {cap : Nat} {rows : Rows} (ho : o n = some (ent b cap kk rows)) (hl : len = rows.length) : Clo (.al n b cap 0 len kk) o (.sl true kk rows) (upd o n none) := fun K hK => by
 subst hl
 refine bk7 ho (aW7 (by simp [ent]) (a47 (ag7 ?_)))
 simp only [ent, List.take_length]
 exact hK _
theorem kw7 : C07 [] o [] o := fun K hK => hK _
theorem ie7 {c c' : T} {cs cs' : List T} (h : Clo c o c' o1) (hs : C07 cs o1 cs' o2) : C07 (c :: cs) o (c' :: cs') o2 := fun K hK => ac7 (h _ fun l => ac7 (hs _ fun l2 => ag7 (hK _)))
theorem Gx7 {n : Nat} {x : AV} {cs : List T} {g : Bool} (hx : t n = x) (hg : hV7 x = g) (h : L77 ks (g87 x) o cs o') : M07 t (.inl n) ks o (g, cs) o' := fun K hK => by
 subst hx
 subst hg
 exact ac7 (h _ fun l => ag7 (hK _))
theorem M27 {n m sz k : Nat} {b : Option Nat} {e : Ent} {row cs : List T} (hx : t n = .ptr m b k 0 0) (ho : o m = some e) (hb : e.b = b) (hk : e.k = k) (hr : e.rows = [row]) (hz : row.length = sz) (hbx : e.box = true) (h : C07 row (upd o m none) cs o') : M07 t (.inr (n, sz)) ks o (true, cs) o' := fun K hK => by
 simp only [gF7, hx]
 refine bk7 ho (aW7 ?_ (a47 (a87 ?_)))
 ·simp [hb, hk, hr, hz, hbx]
 ·rw [hr]
  exact ac7 (h _ fun l => ag7 (hK _))
theorem tS7 : Fp7 t [] [] o [] o := fun K hK => hK _
theorem qe7 {r : Nat ⊕ Nat × Nat} {rs : List (Nat ⊕ Nat × Nat)} {kss : List (List (Option Nat))} {x : Bool × List T} {xs : List (Bool × List T)} (h : M07 t r ks o x o1) (hs : Fp7 t rs kss o1 xs o2) : Fp7 t (r :: rs) (ks :: kss) o (x :: xs) o2 := fun K hK => ac7 (h _ fun l => ac7 (hs _ fun l2 => ag7 (hK _)))
def zy7 (bs : Nat → Option Nat × Nat) (lc : Nat → Nat) (i : Nat) (ins : List (Bool × Nat × Rows)) (as : List (Option Rows)) (o o' : aj7) : Prop := ∀ K : List (Option Rows) → aj7 → a67 → Prop, (∀ l, K as o' l) → (kO7 bs lc i ins as).vp o K
section
variable {bs : Nat → Option Nat × Nat} {lc : Nat → Nat} {i j : Nat} {ins : List (Bool × Nat × Rows)} {as : List (Option Rows)}
theorem BL7 : zy7 bs lc i [] [] o o := fun K h => ag7 (h _)
theorem C47 {x : Bool × Nat × Rows} (h : zy7 bs lc (i + 1) ins as o o') : zy7 bs lc i (x :: ins) (none :: as) o o' := fun K hK => ac7 (h _ fun l => ag7 (hK _))
theorem C57 {k : Nat} {rows0 rows : Rows} (hj : lc i = j) (ho : o j = some (ent (bs i).1 (bs i).2 k rows)) (h : zy7 bs lc (i + 1) ins as (upd o j none) o') : zy7 bs lc i ((false, k, rows0) :: ins) (some rows :: as) o o' := fun K hK => by
 subst hj
 refine bk7 ho (a87 (aW7 (by simp [ent]) (a87 (a47 (a87 ?_)))))
 exact ac7 (ag7 (ac7 (h _ fun l => ag7 (hK _))))
theorem Gy7 {k : Nat} {rows0 : Rows} {row row' row2 : List T} (hj : lc i = j) (ho : o j = some ⟨(bs i).1, (bs i).2, k, true, [row]⟩) (hc : C07 row (upd o j none) row' o1) (hs : row'.map wb7 = row2) (h : zy7 bs lc (i + 1) ins as o1 o') : zy7 bs lc i ((true, k, rows0) :: ins) (some [row2] :: as) o o' := fun K hK => by
 subst hj
 subst hs
 refine bk7 ho (a87 (aW7 (by simp) (a87 (a47 (a87 ?_)))))
 exact ac7 (ac7 (hc _ fun l => ag7 (ac7 (h _ fun l => ag7 (hK _)))))
end
theorem Gz7 {fn : IFn} {kss : List (List (Option Nat))} {bs : Nat → Option Nat × Nat} {ins : List (Bool × Nat × Rows)} {an : Ans} {xs : List (Bool × List T)} (ho : zy7 bs fn.lc 0 ins an.outs o o1) (h : Fp7 t fn.res kss o1 xs o') (hx : xs = an.res) : i87 fn kss bs ins an ⟨t, o⟩ := by
 refine ac7 (ho _ fun l => ac7 (h _ fun l => ag7 ⟨hx, rfl⟩))
end
def ovr : List (Nat × AV) → Tm → Tm
 | [], t => t
 | (i, x) :: L, t => aD7 (ovr L t) (some i) x
def ovh : List (Nat × Ent) → aj7 → aj7
 | [], o => o
 | (i, x) :: L, o => upd (ovh L o) i (some x)
theorem ovn : t = ovr [] t := rfl
theorem ovc {i : Nat} {x : AV} {L : List (Nat × AV)} (h : t i = x) (hs : t = ovr L t) : t = ovr ((i, x) :: L) t := by
 simp only [ovr]
 rw [← hs]
 exact QH7 h
theorem C67 {i n k l l' : Nat} {b : Option Nat} {cap : Nat} {L : List (Nat × AV)} (h : t i = .ref n b cap 0 l k) (hl : l = l') (hs : t = ovr L t) : t = ovr ((i, .ref n b cap 0 l' k) :: L) t := ovc (by rw [h, hl]) hs
theorem ohn : o = ovh [] o := rfl
theorem ohc {i : Nat} {x : Ent} {L : List (Nat × Ent)} (h : o i = some x) (hs : o = ovh L o) : o = ovh ((i, x) :: L) o := by
 simp only [ovh]
 rw [← hs]
 exact QI7 h
end
section
variable {G : Gam} {Q : Ex → St → Prop} {s : St} {a b : IC}
def vp7 (r r' : List T) : Prop := r = r'
theorem GA7 : vp7 [] [] := rfl
theorem Qg7 {c : T} {r r' : List T} (hr : vp7 r r') : vp7 (c :: r) (c :: r') := congrArg (c :: ·) hr
theorem GB7 {n k l l' : Nat} {b : Option Nat} {cap : Nat} {r r' : List T} (h : l = l') (hr : vp7 r r') : vp7 (.al n b cap 0 l k :: r) (.al n b cap 0 l' k :: r') := by
 subst h
 exact congrArg (_ :: ·) hr
theorem C77 {o : aj7} {i k : Nat} {b : Option Nat} {cap : Nat} {row row' : List T} {L : List (Nat × Ent)} (h : o i = some ⟨b, cap, k, true, [row]⟩) (hr : vp7 row row') (hs : o = ovh L o) : o = ovh ((i, ⟨b, cap, k, true, [row']⟩) :: L) o := by
 cases hr
 exact ohc h hs
def kx7 (P : Tm → aj7 → Prop) (Q : Ex → St → Prop) : Ex → St → Prop := fun e s' => match e with
 | .norm => P s'.t s'.o
 | .exit i => Q (.exit i) s'
 | .ret => Q .ret s'
theorem cm7 {P : Tm → aj7 → Prop} {t : Tm} {o : aj7} (h : P t o) : kx7 P Q .norm ⟨t, o⟩ := h
theorem Qh7 {P : Tm → aj7 → Prop} {i : Nat} (h : Q (.exit i) s) : kx7 P Q (.exit i) s := h
theorem Qi7 {P : Tm → aj7 → Prop} (h : Q .ret s) : kx7 P Q .ret s := h
def bI7 (I : Nat → Tm → aj7 → Prop) (n : Nat) (Q : Ex → St → Prop) : Ex → St → Prop := fe7 (fun m s => I m s.t s.o) n Q
theorem fi7 {t : Tm} {o : aj7} (I : Nat → Tm → aj7 → Prop) (n : Nat) (h0 : I n t o) (h : ∀ n t o, I n t o → vwp G a (bI7 I n Q) ⟨t, o⟩) : vwp G (.loop a) Q ⟨t, o⟩ := FM7 (fun m s => I m s.t s.o) n h0 fun n s' hi => h n s'.t s'.o hi
theorem gs7 {I : Nat → Tm → aj7 → Prop} {n : Nat} {t : Tm} {o : aj7} (m : Nat) (hm : m < n) (h : I m t o) : bI7 I n Q .norm ⟨t, o⟩ := ⟨m, hm, h⟩
theorem GC7 {I : Nat → Tm → aj7 → Prop} {n i : Nat} (h : Q (.exit i) s) : bI7 I n Q (.exit i) s := h
theorem GD7 {I : Nat → Tm → aj7 → Prop} {n : Nat} (h : Q .ret s) : bI7 I n Q .ret s := h
def dX7 (a b : IC) : IC := .seq a b
def bM7 (id : Nat) (a : IC) : IC := .block id a
theorem lk7 {id : Nat} (P : Tm → aj7 → Prop) (h1 : vwp G a (jO7 id (kx7 P Q)) s) (h2 : ∀ t o, P t o → Q .norm ⟨t, o⟩) : vwp G (bM7 id a) Q s := by
 refine ⟨fun s => P s.t s.o, ?_, fun s' h => h2 s'.t s'.o h⟩
 exact h1
theorem cV7 (P : Tm → aj7 → Prop) (h1 : vwp G a (kx7 P Q) s) (h2 : ∀ t o, P t o → vwp G b Q ⟨t, o⟩) : vwp G (dX7 a b) Q s := ⟨fun s => P s.t s.o, h1, fun s' h => h2 s'.t s'.o h⟩
end
end Go.Proofs.AM
