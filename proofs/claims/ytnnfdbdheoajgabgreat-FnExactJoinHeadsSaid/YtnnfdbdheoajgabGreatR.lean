/- Lemmas of the proof (R), on an abstract machine. Conditions: none. -/
import Derived.Test.YtnnfdbdheoajgabGreatW
import Derived.Test.YtnnfdbdheoajgabGreatE
set_option linter.unusedVariables false
namespace Go.Proofs.AM
theorem xV7 : ∀ {cs : List T} {K : List T → Prop}, K cs → Pk7 cs K
 | [], K, h => h
 | c :: cs, K, h => xV7 (cs := cs) h
theorem sR7 : ∀ {e : Option Ent} {K : Option Ent → Prop}, K e → P17 e K
 | none, K, h => h
 | some ⟨b, cap, k, true, []⟩, K, h => h
 | some ⟨b, cap, k, true, [row]⟩, K, h => xV7 (cs := row) h
 | some ⟨b, cap, k, true, _ :: _ :: _⟩, K, h => h
 | some ⟨b, cap, k, false, rows⟩, K, h => h
theorem ae7 {α β : Type} {f : α → HM β} : ∀ {m : HM α} {o : al7} {K : β → al7 → a57 → Prop}, (m.vp o fun a o' l1 => (f a).vp o' fun b o'' l2 => K b o'' (l1.1 ++ l2.1, l1.2 ++ l2.2)) → (m.bind f).vp o K
 | .ret a, o, K, h => h
 | .get n k, o, K, h => by
  simp only [HM.vp, HM.bind] at h ⊢
  split at h
  ·exact ae7 (m := k _) h
  ·exact h.elim
 | .put n e k, o, K, h => sR7 (ae7 (m := k) (iZ7 h))
 | .need b k, o, K, h => ⟨h.1, ae7 (m := k) h.2⟩
 | .opt x k, o, K, ⟨a, h1, h2⟩ => ⟨a, h1, ae7 (m := k a) h2⟩
theorem bY7 {α : Type} : ∀ {m : HM α} {o : al7} {K K' : α → al7 → a57 → Prop}, m.vp o K → (∀ a o l, K a o l → K' a o l) → m.vp o K'
 | .ret a, o, K, K', h, hk => hk _ _ _ h
 | .get n k, o, K, K', h, hk => by
  simp only [HM.vp] at h ⊢
  split at h
  ·exact bY7 (m := k _) h fun a o l => hk _ _ _
  ·exact h.elim
 | .put n e k, o, K, K', h, hk => sR7 (bY7 (m := k) (iZ7 h) fun a o l => hk _ _ _)
 | .need b k, o, K, K', h, hk => ⟨h.1, bY7 (m := k) h.2 hk⟩
 | .opt x k, o, K, K', ⟨a, h1, h2⟩, hk => ⟨a, h1, bY7 (m := k a) h2 hk⟩
theorem bt7 {β : Type} {n : Nat} {e : Ent} {o : al7} {k : Ent → HM β} {K : β → al7 → a57 → Prop} (ho : o n = some e) (h : (k e).vp o fun b o' l => K b o' (n :: l.1, l.2)) : (HM.get n k).vp o K := by
 simp only [HM.vp, ho]
 exact h
theorem aj7 {β : Type} {a : β} {o : al7} {K : β → al7 → a57 → Prop} (h : K a o ([], [])) : (HM.ret a).vp o K := h
theorem a77 {α β : Type} {a : α} {f : α → HM β} {o : al7} {K : β → al7 → a57 → Prop} (h : (f a).vp o K) : ((HM.ret a).bind f).vp o K := h
theorem aV7 {β : Type} {b : Bool} {o : al7} {k : HM β} {K : β → al7 → a57 → Prop} (hb : b = true) (h : k.vp o K) : (HM.need b k).vp o K := ⟨hb, h⟩
theorem cR7 {α β : Type} {x : Option α} {a : α} {o : al7} {k : α → HM β} {K : β → al7 → a57 → Prop} (hx : x = some a) (h : (k a).vp o K) : (HM.opt x k).vp o K := ⟨a, hx, h⟩
theorem a37 {β : Type} {n : Nat} {e : Option Ent} {o : al7} {k : HM β} {K : β → al7 → a57 → Prop} (h : k.vp (upd o n e) fun b o' l => K b o' (l.1, n :: l.2)) : (HM.put n e k).vp o K := sR7 h
section
variable {R : Type} {r : R}
theorem itt {p : Bool} {A B : Option R} (h : (if p = true then A else B) = some r) (c : p = true) : A = some r := by rwa [if_pos c] at h
theorem itf {p : Bool} {A B : Option R} (h : (if p = true then A else B) = some r) (c : p = false) : B = some r := by rwa [if_neg (by rw [c]; decide)] at h
theorem bnd {α : Type} {x : Option α} {f : α → Option R} (h : x.bind f = some r) : ∃ a, x = some a ∧ f a = some r := Option.bind_eq_some_iff.1 h
end
def cat (a b : Str) : Option Str := if a.size + b.size ≤ 9223372036854775807 then some (a ++ b) else none
def idx {α : Type} (xs : List α) (i : Int) : Option α := if 0 ≤ i then xs[i.toNat]? else none
def D47 (s : Str) (i : Int) : Option UInt8 := if 0 ≤ i then s.data.toList[i.toNat]? else none
def seq (a b : Str) : Bool := a.toList == b.toList
def slt (a b : Str) : Bool := Op.bytesLess a.toList b.toList
def slc {α : Type} (xs : List α) (lo hi : Int) : Option (List α) := if 0 ≤ lo ∧ lo ≤ hi ∧ hi ≤ xs.length then some ((xs.take hi.toNat).drop lo.toNat) else none
def Pl7 (s : Str) (lo hi : Int) : Option Str := if 0 ≤ lo ∧ lo ≤ hi ∧ hi ≤ s.size then some (s.extract lo.toNat hi.toNat) else none
def aE7 (n : Nat) : Bool := decide (n ≤ 4294967296)
def Pm7 (a b : Int) : Option Int := if b ≠ 0 then some (a.tmod b) else none
def Pn7 (a b : Int) : Option Int := if b ≠ 0 then some (IntKind.i64.wrap (a.tdiv b)) else none
def Ub7 (a b : Int) : Int := IntKind.i64.wrap ((BitVec.ofInt 64 a ^^^ BitVec.ofInt 64 b).toNat : Int)
theorem aq7 {α : Type} {xs : List α} {i : Int} {x : α} (h : idx xs i = some x) : 0 ≤ i ∧ xs[i.toNat]? = some x := by
 unfold idx at h
 split at h
 ·exact ⟨by assumption, h⟩
 ·cases h
section
variable {G : Gam} {t : Tm} {o : al7} {KL : St → a57 → Prop} {d : Option Nat} {α : Type} {f : α → List T}
theorem xW7 {x : Od} {xs : List α} (hx : ev t x = .ro (xs.map f)) (hk : KL ⟨aF7 t d (.v (.int .i64 xs.length)), o⟩ ([], [])) : vdo G d (.len false x) t o KL := by
 show vop t (.len false x) (fun y => KL ⟨aF7 t d y, o⟩ ([], []))
 simp only [vop, hx]
 exact ⟨xs.length, by simp, hk⟩
theorem t57 {x : Od} {A : Option Addr} {cap : Nat} {xs : List α} (hx : ev t x = .raw A cap (xs.map f)) (hk : KL ⟨aF7 t d (.v (.int .i64 xs.length)), o⟩ ([], [])) : vdo G d (.len false x) t o KL := by
 show vop t (.len false x) (fun y => KL ⟨aF7 t d y, o⟩ ([], []))
 simp only [vop, hx]
 exact ⟨xs.length, by simp, hk⟩
theorem Ic7 {agg : Bool} {ks : List Nat} {x y : Od} {p : Bool} (hp : Hu7 agg ks (ev t x) (ev t y) = some p) (h : KL ⟨aF7 t d (.v (.bool p)), o⟩ ([], [])) : vdo G d (.eqs false agg ks x y) t o KL := ⟨p, p, hp, rfl, h⟩
theorem Id7 {agg : Bool} {ks : List Nat} {x y : Od} {p : Bool} (hp : Hu7 agg ks (ev t x) (ev t y) = some p) (h : KL ⟨aF7 t d (.v (.bool !p)), o⟩ ([], [])) : vdo G d (.eqs true agg ks x y) t o KL := ⟨p, !p, hp, rfl, h⟩
theorem Uc7 {c x y : Od} (hc : ev t c = .v (.bool true)) (h : vdo G d (.mv x) t o KL) : vdo G d (.pick c x y) t o KL := by
 have h' : frc (fun z => KL ⟨aF7 t d z, o⟩ ([], [])) (ev t x) := h
 exact ⟨_, by simp only [evp, hc]; rfl, ey7 h'⟩
theorem Ud7 {c x y : Od} (hc : ev t c = .v (.bool false)) (h : vdo G d (.mv y) t o KL) : vdo G d (.pick c x y) t o KL := by
 have h' : frc (fun z => KL ⟨aF7 t d z, o⟩ ([], [])) (ev t y) := h
 exact ⟨_, by simp only [evp, hc]; rfl, ey7 h'⟩
theorem AA7 {e : Nat} {x i : Od} {xs : List α} {k : IntKind} {j : Int} {y : α} (hx : ev t x = .ro (xs.map f)) (hi : ev t i = .v (.int k j)) (h : idx xs j = some y) (he : (f y).length = e) (hk : KL ⟨aF7 t d (.rptr (f y)), o⟩ ([], [])) : vdo G d (.iaddr e x i) t o KL := by
 obtain ⟨h1, h2⟩ := aq7 h
 show vop t (.iaddr e x i) (fun y => KL ⟨aF7 t d y, o⟩ ([], []))
 simp only [vop, hx, hi]
 exact ⟨j.toNat, f y, by omega, Ua7 h2, he, hk⟩
theorem AB7 {e : Nat} {x i : Od} {xs : List α} {k : IntKind} {j : Int} {y : α} {n : Nat} {b : Option Nat} {cap kk : Nat} {len : Nat} (hx : ev t x = .ref n b cap 0 len kk) (hi : ev t i = .v (.int k j)) (h : idx xs j = some y) (he : e = esz kk) (hk : KL ⟨aF7 t d (.ptr n b kk j.toNat 0), o⟩ ([], [])) (hl : len = xs.length := by first | rfl | simp) : vdo G d (.iaddr e x i) t o KL := by
 subst hl
 obtain ⟨h1, h2⟩ := aq7 h
 show vop t (.iaddr e x i) (fun y => KL ⟨aF7 t d y, o⟩ ([], []))
 simp only [vop, hx, hi]
 refine ⟨j.toNat, by omega, (List.getElem?_eq_some_iff.1 h2).1, he, ?_⟩
 rw [Nat.zero_add]
 exact hk
theorem C47 {x i : Od} {s : Str} {k : IntKind} {j : Int} {c : UInt8} (hx : ev t x = .v (.string s)) (hi : ev t i = .v (.int k j)) (h : D47 s j = some c) (hk : KL ⟨aF7 t d (.v (.int .u8 c.toNat)), o⟩ ([], [])) : vdo G d (.sidx x i) t o KL := by
 have hh : 0 ≤ j ∧ s.data.toList[j.toNat]? = some c := by
  unfold D47 at h
  split at h
  ·exact ⟨by assumption, h⟩
  ·cases h
 show vop t (.sidx x i) (fun y => KL ⟨aF7 t d y, o⟩ ([], []))
 simp only [vop, hx, hi]
 exact ⟨j.toNat, c, by omega, hh.2, hk⟩
theorem Qa7 {x y : Od} {a b s : Str} (hx : ev t x = .v (.string a)) (hy : ev t y = .v (.string b)) (h : cat a b = some s) (hk : KL ⟨aF7 t d (.v (.string s)), o⟩ ([], [])) : vdo G d (.bin .add x y) t o KL := by
 show vop t (.bin .add x y) (fun y => KL ⟨aF7 t d y, o⟩ ([], []))
 simp only [vop, hx, hy]
 refine ⟨.string s, ?_, hk⟩
 unfold cat at h
 simp only [sw7]
 split at h
 ·rename_i hh
  cases h
  rw [if_pos hh]
 ·cases h
theorem Qb7 {e : Nat} {x : Od} {lo hi : Option Od} {xs ys : List α} {l h : Option Int} (hx : ev t x = .ro (xs.map f)) (hl : m57 (lo.map (ev t)) = some l) (hh : m57 (hi.map (ev t)) = some h) (hs : slc xs (l.getD 0) (h.getD xs.length) = some ys) (he : ∀ x, (f x).length = e) (hk : KL ⟨aF7 t d (.ro (ys.map f)), o⟩ ([], [])) : vdo G d (.sls e x lo hi) t o KL := by
 show ∃ y, evp t (.sls e x lo hi) = some y ∧ KL ⟨aF7 t d y, o⟩ ([], [])
 unfold slc at hs
 split at hs
 ·rename_i hc
  cases hs
  have h2 : ((xs.map f).head?.map List.length).getD e = e := by
   cases xs with
   | nil => rfl
   | cons a as => simp [he]
  refine ⟨_, ?_, hk⟩
  simp only [evp, hx, hl, hh, List.length_map]
  rw [if_pos ⟨hc, h2⟩, List.map_drop, List.map_take]
 ·cases hs
theorem Qc7 {x : Od} {lo hi : Option Od} {s s' : Str} {l h : Option Int} (hx : ev t x = .v (.string s)) (hl : m57 (lo.map (ev t)) = some l) (hh : m57 (hi.map (ev t)) = some h) (hs : Pl7 s (l.getD 0) (h.getD s.size) = some s') (hk : KL ⟨aF7 t d (.v (.string s')), o⟩ ([], [])) : vdo G d (.ssl x lo hi) t o KL := by
 show ∃ y, evp t (.ssl x lo hi) = some y ∧ KL ⟨aF7 t d y, o⟩ ([], [])
 unfold Pl7 at hs
 split at hs
 ·rename_i hc
  cases hs
  refine ⟨_, ?_, hk⟩
  simp only [evp, hx, hl, hh]
  rw [if_pos hc]
 ·cases hs
theorem Ie7 {x y : Od} {k : IntKind} {a b v : Int} (hx : ev t x = .v (.int k a)) (hy : ev t y = .v (.int k b)) (h : Pm7 a b = some v) (hk : KL ⟨aF7 t d (.v (.int k v)), o⟩ ([], [])) : vdo G d (.bin .rem x y) t o KL := by
 show vop t (.bin .rem x y) (fun y => KL ⟨aF7 t d y, o⟩ ([], []))
 simp only [vop, hx, hy]
 refine ⟨.int k v, ?_, hk⟩
 unfold Pm7 at h
 split at h
 ·rename_i hb
  cases h
  simp [sw7, hb]
 ·cases h
theorem If7 {x y : Od} {a b v : Int} (hx : ev t x = .v (.int .i64 a)) (hy : ev t y = .v (.int .i64 b)) (h : Pn7 a b = some v) (hk : KL ⟨aF7 t d (.v (.int .i64 v)), o⟩ ([], [])) : vdo G d (.bin .quo x y) t o KL := by
 show vop t (.bin .quo x y) (fun y => KL ⟨aF7 t d y, o⟩ ([], []))
 simp only [vop, hx, hy]
 refine ⟨.int .i64 v, ?_, hk⟩
 unfold Pn7 at h
 split at h
 ·rename_i hb
  cases h
  simp [sw7, hb]
 ·cases h
theorem Ig7 {x y : Od} {a b : Int} (hx : ev t x = .v (.int .i64 a)) (hy : ev t y = .v (.int .i64 b)) (hk : KL ⟨aF7 t d (.v (.int .i64 (Ub7 a b))), o⟩ ([], [])) : vdo G d (.bin .xor x y) t o KL := by
 show vop t (.bin .xor x y) (fun y => KL ⟨aF7 t d y, o⟩ ([], []))
 simp only [vop, hx, hy]
 exact ⟨.int .i64 (Ub7 a b), by simp only [sw7, if_true]; rfl, hk⟩
def ent (b : Option Nat) (cap k : Nat) (rows : Rows) : Ent := ⟨b, cap, k, false, rows⟩
theorem oy7 {xs : List α} {i : Nat} {x : α} (h : xs[i]? = some x) : (xs.map f).getD i [] = f x := by
 rw [List.getD_eq_getElem?_getD, Ua7 h]
 rfl
theorem D57 {sz : Nat} {agg : Bool} {p : Od} {n : Nat} {b : Option Nat} {cap k r c : Nat} {xs : List α} {x : α} {y : AV} (hp : ev t p = .ptr n b k r c) (ho : o n = some (ent b cap k (xs.map f))) (h : xs[r]? = some x) (hc : decide (c + sz ≤ (f x).length) = true) (hw : wY7 (((f x).drop c).take sz) = false) (hy : one agg ((((f x).drop c).take sz).map vC7) = some y) (hk : KL ⟨aF7 t d y, o⟩ ([n], [])) : vdo G d (.load sz agg p) t o KL := by
 have hg : (xs.map f).getD r [] = f x := oy7 h
 have hr : r < (xs.map f).length := by rw [List.length_map]; exact (List.getElem?_eq_some_iff.1 h).1
 show (match ev t p with | .ptr .. => dM7 G d (.load sz agg p) t o KL | _ => vop t (.load sz agg p) fun x => KL ⟨aF7 t d x, o⟩ ([], []))
 rw [hp]
 intro ch
 simp only [at7, hp]
 refine bt7 ho (a77 (aV7 ?_ (a77 ?_)))
 ·simp only [ent, hg, Bool.and_eq_true, decide_eq_true_eq]
  exact ⟨⟨⟨trivial, trivial⟩, decide_eq_true hr⟩, of_decide_eq_true hc⟩
 ·simp only [ent, hg, hw]
  exact cR7 hy (aj7 hk)
def wa7 (x : AV) (o : al7) (y : AV) (L : List Nat) : Prop := ∀ K : AV → al7 → a57 → Prop, K y o (L, []) → (bor x).vp o K
def eo7 (xs : List AV) (o : al7) (ys : List AV) (L : List Nat) : Prop := ∀ K : List AV → al7 → a57 → Prop, K ys o (L, []) → (wX7 xs).vp o K
def AC7 (x : T) (o : al7) (y : T) (L : List Nat) : Prop := ∀ K : T → al7 → a57 → Prop, K y o (L, []) → (HF7 x).vp o K
def t67 (xs : List T) (o : al7) (ys : List T) (L : List Nat) : Prop := ∀ K : List T → al7 → a57 → Prop, K ys o (L, []) → (sx7 xs).vp o K
theorem C57 {v : Value} : wa7 (.v v) o (.v v) [] := fun K h => h
theorem xX7 {rows : Rows} : wa7 (.ro rows) o (.ro rows) [] := fun K h => h
theorem t77 {A : Option Addr} {cap : Nat} {rows : Rows} : wa7 (.raw A cap rows) o (.raw A cap rows) [] := fun K h => h
theorem qe7 {n : Nat} {b : Option Nat} {cap k len : Nat} {xs : List α} {g : α → List T} (ho : o n = some (ent b cap k (xs.map f))) (he : ∀ x, erL (f x) = some (g x)) (hl : len = xs.length) : wa7 (.lref n b cap len k) o (.raw (CM7 b) cap (xs.map g)) [n] := fun K h => by
 subst hl
 refine bt7 ho (a77 (aV7 ?_ (a77 ?_)))
 ·simp [ent]
 ·refine cR7 (a := .raw (CM7 b) cap (xs.map g)) ?_ (aj7 h)
  simp only [ent]
  rw [dF7 he]
  rfl
theorem t87 : wa7 .nil o (.ro []) [] := fun K h => h
theorem xY7 {cs : List T} : wa7 (.rptr cs) o (.rptr cs) [] := fun K h => h
theorem oz7 {n : Nat} {b : Option Nat} {cap k len : Nat} {xs : List α} {g : α → List T} (ho : o n = some (ent b cap k (xs.map f))) (he : ∀ x, erL (f x) = some (g x)) (hl : len = xs.length) : wa7 (.ref n b cap 0 len k) o (.ro (xs.map g)) [n] := fun K h => by
 subst hl
 refine bt7 ho (aV7 ?_ ?_)
 ·simp [ent]
 ·refine cR7 (a := .ro (xs.map g)) ?_ (aj7 h)
  simp only [ent, List.drop_zero]
  rw [show (xs.map f).take xs.length = xs.map f by rw [← List.length_map (f := f), List.take_length], dF7 he]
  rfl
theorem qf7 {n : Nat} {b : Option Nat} {cap k len : Nat} {rows : Rows} {xs : List α} {g : α → List T} (ho : o n = some ⟨b, cap, k, false, rows⟩) (hr : rows = xs.map g) (he : ∀ x, erL (g x) = some (g x)) (hl : len = xs.length) : wa7 (.ref n b cap 0 len k) o (.ro (xs.map g)) [n] := by
 subst hr
 exact oz7 ho he hl
theorem t97 {cs ys : List AV} {L : List Nat} (h : eo7 cs o ys L) : wa7 (.agg cs) o (.agg ys) L := fun K hK => ae7 (h _ (aj7 (by simpa using hK)))
theorem xZ7 {g : Nat} {cs ys : List AV} {L : List Nat} (h : eo7 cs o ys L) : wa7 (.fn g cs) o (.fn g ys) L := fun K hK => ae7 (h _ (aj7 (by simpa using hK)))
theorem qg7 : eo7 [] o [] [] := fun K h => h
theorem nA7 {x y : AV} {xs ys : List AV} {L1 L2 : List Nat} (h : wa7 x o y L1) (hs : eo7 xs o ys L2) : eo7 (x :: xs) o (y :: ys) (L1 ++ L2) := fun K hK => ae7 (h _ (ae7 (hs _ (aj7 (by simpa using hK)))))
theorem x07 {v : Value} : AC7 (.v v) o (.v v) [] := fun K h => ⟨_, rfl, h⟩
theorem ua7 {w : Bool} {k : Nat} {xs : List α} {g : α → List T} (he : ∀ x, erL (f x) = some (g x)) : AC7 (.sl w k (xs.map f)) o (.sl false (k % 16) (xs.map g)) [] := fun K h => cR7 (a := .sl false (k % 16) (xs.map g)) (by simp only [erT, dF7 he]; rfl) (aj7 h)
theorem ub7 {n : Nat} {b : Option Nat} {cap k len : Nat} {xs : List α} {g : α → List T} (ho : o n = some (ent b cap k (xs.map f))) (he : ∀ x, erL (f x) = some (g x)) (hl : len = xs.length) : AC7 (.al n b cap 0 len k) o (.sl false (k % 16) (xs.map g)) [n] := fun K h => by
 subst hl
 refine bt7 ho (aV7 ?_ ?_)
 ·simp [ent]
 ·refine cR7 (a := .sl false (k % 16) (xs.map g)) ?_ (aj7 h)
  simp only [ent, List.drop_zero]
  rw [show (xs.map f).take xs.length = xs.map f by rw [← List.length_map (f := f), List.take_length], dF7 he]
  rfl
theorem nB7 : t67 [] o [] [] := fun K h => h
theorem lg7 {x y : T} {xs ys : List T} {L1 L2 : List Nat} (h : AC7 x o y L1) (hs : t67 xs o ys L2) : t67 (x :: xs) o (y :: ys) (L1 ++ L2) := fun K hK => ae7 (h _ (ae7 (hs _ (aj7 (by simpa using hK)))))
theorem uc7 {n : Nat} {b : Option Nat} {k c : Nat} {row : List T} {e : Ent} {ys : List T} {L : List Nat} (ho : o n = some e) (hb : e.b = b) (hk : e.k = k) (hr : e.rows = [row]) (h : t67 (row.drop c) o ys L) : wa7 (.ptr n b k 0 c) o (.rptr ys) (n :: L) := fun K hK => by
 refine bt7 ho (aV7 ?_ ?_)
 ·simp [hb, hk, hr]
 ·rw [hr]
  refine a77 (ae7 (h _ (aj7 ?_)))
  simpa using hK
def dG7 (xs : List (Bool × Od)) : Bool := xs.all fun x => !x.1
theorem nC7 : ∀ {xs : List (Bool × Od)} {i : Nat} {K : List (Option AV) × List In → al7 → a57 → Prop}, dG7 xs = true → K (xs.map fun _ => none, []) o ([], []) → (iN7 t i xs).vp o K
 | [], i, K, h, hK => hK
 | (m, x) :: xs, i, K, h, hK => by
  simp only [dG7, List.all_cons, Bool.and_eq_true, Bool.not_eq_true'] at h
  obtain ⟨rfl, h⟩ := h
  exact ae7 (nC7 h (aj7 hK))
theorem wb7 : ∀ {xs : List (Bool × Od)} {ys : List AV} {L : List Nat} {K : List AV → al7 → a57 → Prop}, eo7 (xs.map fun x => ev t x.2) o ys L → K ys o (L, []) → (g27 t xs (xs.map fun _ => none)).vp o K := by
 intro xs
 have key : ∀ xs : List (Bool × Od), g27 t xs (xs.map fun _ => none) = wX7 (xs.map fun x => ev t x.2) := by
  intro xs
  induction xs with
  | nil => rfl
  | cons x xs ih =>
   obtain ⟨m, x⟩ := x
   show (do let z ← bor (ev t x); let zs ← g27 t xs (xs.map fun _ => none); HM.ret (z :: zs) : HM (List AV)) = _
   rw [ih]
   rfl
 intro ys L K h hK
 rw [key]
 exact h _ hK
theorem qh7 {xs : List (Bool × Od)} {ys : List AV} {L : List Nat} {K : List AV × List In → al7 → a57 → Prop} (hn : dG7 xs = true) (h : eo7 (xs.map fun x => ev t x.2) o ys L) (hK : K (ys, []) o (L, [])) : (args t xs).vp o K :=
 ae7 (nC7 hn (ae7 (wb7 h (aj7 (by simpa using hK)))))
theorem Ih7 {g : Nat} {xs : List (Bool × Od)} {as : List AV} {L : List Nat} {r : Ans} (hg : G g as [] = some r) (hn : dG7 xs = true) (ha : eo7 (xs.map fun x => ev t x.2) o as L) (hw : (f27 t xs || (dL7 (r.res.map (·.2)) && r.outs.all fV7)) = true) (ho : r.outs = []) (hk : ∀ ch : Ch, (bq7 (cn7 d) ch 0 r.res).vp o fun ys o' l => KL ⟨aF7 t d (js7 ys), o'⟩ (L ++ l.1, l.2)) : vdo G d (.call g xs) t o KL := by
 show dM7 G d (.call g xs) t o KL
 intro ch
 refine ae7 (qh7 hn ha ?_)
 refine cR7 (a := r) hg (aV7 hw (a77 ?_))
 unfold tail
 rw [ho]
 refine ae7 (aj7 (ae7 (bY7 (hk ch) fun ys o' l h => aj7 ?_)))
 simpa using h
theorem D67 {fv : Od} {g : Nat} {caps cs : List AV} {xs : List (Bool × Od)} {as : List AV} {L L2 : List Nat} {r : Ans} (hf : ev t fv = .fn g caps) (hg : G g (as ++ cs) [] = some r) (hn : dG7 xs = true) (ha : eo7 (xs.map fun x => ev t x.2) o as L) (hc : eo7 caps o cs L2) (hw : ((f27 t xs && vE7 caps) || (dL7 (r.res.map (·.2)) && r.outs.all fV7)) = true) (ho : r.outs = []) (hk : ∀ ch : Ch, (bq7 (cn7 d) ch 0 r.res).vp o fun ys o' l => KL ⟨aF7 t d (js7 ys), o'⟩ (L ++ (L2 ++ l.1), l.2)) : vdo G d (.calld fv xs) t o KL := by
 show dM7 G d (.calld fv xs) t o KL
 intro ch
 simp only [at7, hf]
 refine ae7 (qh7 hn ha ?_)
 refine ae7 (hc _ ?_)
 refine cR7 (a := r) hg (aV7 hw (a77 ?_))
 unfold tail
 rw [ho]
 refine ae7 (aj7 (ae7 (bY7 (hk ch) fun ys o' l h => aj7 ?_)))
 simpa using h
structure wM7 (cs : List T) (o : al7) (cs' : List T) (o' : al7) (l : a57) : Prop where
 out : ∀ K : List T → al7 → a57 → Prop, K cs' o' l → (bV7 cs).vp o K
theorem x47 : wM7 [] o [] o ([], []) := ⟨fun K h => h⟩
theorem Ii7 {x : Value} {cs cs' : List T} {o' : al7} {l : a57} (h : wM7 cs o cs' o' l) : wM7 (.v x :: cs) o (.v x :: cs') o' l := ⟨fun K hK => ae7 (aj7 (ae7 (h.out _ (aj7 (by simpa using hK)))))⟩
theorem C67 {A : Option Addr} {cap : Nat} {rows : Rows} {cs cs' : List T} {o' : al7} {l : a57} (h : wM7 cs o cs' o' l) : wM7 (.rw A cap rows :: cs) o (.rw A cap rows :: cs') o' l := ⟨fun K hK => ae7 (aj7 (ae7 (h.out _ (aj7 (by simpa using hK)))))⟩
theorem C77 {w : Bool} {k : Nat} {rows : Rows} {cs cs' : List T} {o' : al7} {l : a57} (h : wM7 cs o cs' o' l) : wM7 (.sl w k rows :: cs) o (.sl w k rows :: cs') o' l := ⟨fun K hK => ae7 (aj7 (ae7 (h.out _ (aj7 (by simpa using hK)))))⟩
theorem C87 {n : Nat} {b : Option Nat} {cap k len : Nat} {rows : Rows} {cs cs' : List T} {o' : al7} {l : a57} (ho : o n = some (ent b cap k rows)) (hl : len = rows.length) (h : wM7 cs (upd o n none) cs' o' l) : wM7 (.al n b cap 0 len k :: cs) o (.sl true k rows :: cs') o' (n :: l.1, n :: l.2) := by
 refine ⟨fun K hK => ?_⟩
 subst hl
 refine ae7 (bt7 ho (a77 (aV7 (by simp [ent]) (a77 (a37 (aj7 ?_))))))
 refine ae7 (h.out _ (aj7 ?_))
 simpa [ent] using hK
def C97 (i : Nat) (cs : List AV) (o : al7) (ys : List AV) (ins : List In) (o' : al7) (l : a57) : Prop := ∀ K : List AV × List In → al7 → a57 → Prop, K (ys, ins) o' l → (b07 i cs).vp o K
section
variable {i : Nat} {cs ys : List AV} {ins : List In} {o' o1 : al7} {l : a57}
theorem Ij7 : C97 i [] o [] [] o ([], []) := fun K h => h
theorem UE7 {x : Value} (h : C97 i cs o ys ins o' l) : C97 i (.v x :: cs) o (.v x :: ys) ins o' l := fun K hK => ae7 (h _ (aj7 (by simpa using hK)))
theorem Ik7 {n : Nat} {b : Option Nat} {cap k len : Nat} {rows : Rows} (ho : o n = some (ent b cap k rows)) (hl : len = rows.length) (h : C97 (i + 1) cs (upd o n none) ys ins o' l) : C97 i (.ref n b cap 0 len k :: cs) o (.io i len k :: ys) (⟨n, ent b cap k rows⟩ :: ins) o' (n :: l.1, n :: l.2) := fun K hK => by
 subst hl
 refine bt7 ho (a77 (aV7 (by simp [ent]) (a77 (a37 (a77 ?_)))))
 exact ae7 (h _ (aj7 (by simpa using hK)))
theorem Il7 {n : Nat} {b : Option Nat} {cap k : Nat} {row row' : List T} {l0 : a57} (ho : o n = some ⟨b, cap, k, true, [row]⟩) (hc : wM7 row (upd o n none) row' o1 l0) (h : C97 (i + 1) cs o1 ys ins o' l) : C97 i (.ptr n b k 0 0 :: cs) o (.pio i k :: ys) (⟨n, ⟨b, cap, k, true, [row']⟩⟩ :: ins) o' (n :: (l0.1 ++ l.1), n :: (l0.2 ++ l.2)) := fun K hK => by
 refine bt7 ho (a77 (aV7 (by simp) (a77 (a37 (a77 ?_)))))
 exact ae7 (hc.out _ (ae7 (h _ (aj7 (by simpa using hK)))))
end
def sS7 (t : Tm) (i : Nat) (xs : List (Bool × Od)) (o : al7) (zs : List (Option AV)) (ins : List In) (o' : al7) (l : a57) : Prop := ∀ K : List (Option AV) × List In → al7 → a57 → Prop, K (zs, ins) o' l → (iN7 t i xs).vp o K
section
variable {i : Nat} {x : Od} {xs : List (Bool × Od)} {zs : List (Option AV)} {ins more : List In} {o' o1 : al7} {l l1 : a57} {as : List AV} {L L1 : List Nat}
theorem Im7 : sS7 t i [] o [] [] o ([], []) := fun K h => h
theorem D77 (h : sS7 t i xs o zs ins o' l) : sS7 t i ((false, x) :: xs) o (none :: zs) ins o' l := fun K hK => ae7 (h _ (aj7 (by simpa using hK)))
theorem D87 {ys : List AV} {y : AV} {j : Nat} (h : C97 i (hK7 (ev t x)) o ys ins o1 l1) (hy : one (hN7 (ev t x)) ys = some y) (hj : i + ins.length = j) (h2 : sS7 t j xs o1 zs more o' l) : sS7 t i ((true, x) :: xs) o (some y :: zs) (ins ++ more) o' (l1.1 ++ l.1, l1.2 ++ l.2) := fun K hK => by
 subst hj
 exact ae7 (h _ (ae7 (cR7 hy (aj7 (ae7 (h2 _ (aj7 (by simpa using hK))))))))
structure hB7 (t : Tm) (xs : List (Bool × Od)) (zs : List (Option AV)) (o : al7) (as : List AV) (L : List Nat) : Prop where
 out : ∀ K : List AV → al7 → a57 → Prop, K as o (L, []) → (g27 t xs zs).vp o K
theorem In7 : hB7 t [] [] o [] [] := ⟨fun K h => h⟩
theorem D97 {m : Bool} {y : AV} (h : hB7 t xs zs o as L) : hB7 t ((m, x) :: xs) (some y :: zs) o (y :: as) L := ⟨fun K hK => ae7 (aj7 (ae7 (h.out _ (aj7 (by simpa using hK)))))⟩
theorem Ea7 {m : Bool} {y : AV} (h1 : wa7 (ev t x) o y L1) (h : hB7 t xs zs o as L) : hB7 t ((m, x) :: xs) (none :: zs) o (y :: as) (L1 ++ L) := ⟨fun K hK => ae7 (h1 _ (ae7 (h.out _ (aj7 (by simpa using hK)))))⟩
end
structure BkS (ins : List In) (rs : List (Option Rows)) (o o2 : al7) (N : List Nat) : Prop where
 out : ∀ K : Unit → al7 → a57 → Prop, K () o2 ([], N) → (mw7 ins rs).vp o K
def oA7 (as bs cs : List T) : Prop := iO7 as bs = cs
theorem Io7 : oA7 [] [] [] := rfl
theorem Qd7 {A : Option Addr} {cap : Nat} {rows : Rows} {as bs cs : List T} (h : oA7 as bs cs) : oA7 (.rw A cap rows :: as) (.v (.slice A rows.length cap) :: bs) (.rw A cap rows :: cs) := by
 unfold oA7 at h ⊢
 simp [iO7, wZ7, h]
theorem Ip7 {a c : T} {as bs cs : List T} (h0 : wZ7 a c = c) (h : oA7 as bs cs) : oA7 (a :: as) (c :: bs) (c :: cs) := by
 unfold oA7 at h ⊢
 simp [iO7, h0, h]
section
variable {is : List In} {rs : List (Option Rows)} {o2 : al7} {N : List Nat} {n k cap : Nat} {b : Option Nat}
theorem Iq7 : BkS [] [] o o [] := ⟨fun K h => h⟩
theorem Eb7 {i : In} (h : BkS is rs o o2 N) : BkS (i :: is) (none :: rs) o o2 N := ⟨fun K hK => h.out K hK⟩
theorem Ec7 {rows r : Rows} (h : BkS is rs (upd o n (some (ent b cap k r))) o2 N) : BkS (⟨n, ent b cap k rows⟩ :: is) (some r :: rs) o o2 (n :: N) := ⟨fun K hK => a37 (a77 (h.out _ hK))⟩
theorem Ir7 {row r r' : List T} (hr : oA7 row r r') (h : BkS is rs (upd o n (some ⟨b, cap, k, true, [r']⟩)) o2 N) : BkS (⟨n, ⟨b, cap, k, true, [row]⟩⟩ :: is) (some [r] :: rs) o o2 (n :: N) := ⟨fun K hK => by
 unfold oA7 at hr
 refine a37 (a77 ?_)
 have e : w07 ⟨b, cap, k, true, [row]⟩ [r] = [r'] := by simp [w07, hr]
 simp only [e]
 exact h.out _ hK⟩
end
theorem Ed7 {g : Nat} {xs : List (Bool × Od)} {zs : List (Option AV)} {as : List AV} {ins : List In} {o1 : al7} {l1 : a57} {L : List Nat} {r : Ans} (hg : G g as (ins.map fun i => (i.e.box, i.e.k, i.e.rows)) = some r) (ha : sS7 t 0 xs o zs ins o1 l1) (hl : hB7 t xs zs o1 as L) (hw : (f27 t xs || (dL7 (r.res.map (·.2)) && r.outs.all fV7)) = true) {o2 : al7} {N : List Nat} (hb : BkS ins r.outs o1 o2 N) (hk : ∀ ch : Ch, (bq7 (cn7 d) ch 0 r.res).vp o2 fun ys o' l => KL ⟨aF7 t d (js7 ys), o'⟩ (l1.1 ++ (L ++ l.1), l1.2 ++ (N ++ l.2))) : vdo G d (.call g xs) t o KL := by
 show dM7 G d (.call g xs) t o KL
 intro ch
 refine ae7 (ae7 (ha _ (ae7 (hl.out _ (aj7 ?_)))))
 refine cR7 (a := r) hg (aV7 hw (a77 ?_))
 unfold tail
 refine ae7 (hb.out _ (ae7 (bY7 (hk ch) fun ys o' l h => aj7 ?_)))
 simpa using h
section
variable {dd : Nat} {ch : Ch} {j : Nat} {cs : List T} {K : List AV → al7 → a57 → Prop}
theorem Da7 (h : K [] o ([], [])) : (ev7 dd ch j []).vp o K := h
theorem Po7 {x : Value} (h : (ev7 dd ch (j + 1) cs).vp o fun ys o' l => K (.v x :: ys) o' l) : (ev7 dd ch j (.v x :: cs)).vp o K :=
 ae7 (aj7 (ae7 (bY7 h fun ys o' l hh => aj7 (by simpa using hh))))
theorem Is7 {k : Nat} {row : List T} (h : (ev7 dd ch (j + 1) cs).vp (upd o (dd * 8 + j) (some ⟨(ch j).1, 1, k, true, [row]⟩)) fun ys o' l => K (.ptr (dd * 8 + j) (ch j).1 k 0 0 :: ys) o' (l.1, (dd * 8 + j) :: l.2)) : (ev7 dd ch j (.bx k row :: cs)).vp o K :=
 ae7 (a37 (aj7 (ae7 (bY7 h fun ys o' l hh => aj7 (by simpa using hh)))))
theorem It7 {k : Nat} {rows : Rows} (h : (ev7 dd ch (j + 1) cs).vp o fun ys o' l => K (.ro rows :: ys) o' l) : (ev7 dd ch j (.sl false k rows :: cs)).vp o K :=
 ae7 (aj7 (ae7 (bY7 h fun ys o' l hh => aj7 (by simpa using hh))))
theorem wc7 {k : Nat} {xs : List α} (h : (ev7 dd ch (j + 1) cs).vp (upd o (dd * 8 + j) (some (ent (ch j).1 (ch j).2 k (xs.map f)))) fun ys o' l => K (.ref (dd * 8 + j) (ch j).1 (ch j).2 0 xs.length k :: ys) o' (l.1, (dd * 8 + j) :: l.2)) : (ev7 dd ch j (.sl true k (xs.map f) :: cs)).vp o K := by
 refine ae7 (ae7 (a37 (aj7 (aj7 ?_))))
 refine ae7 (bY7 h fun ys o' l hh => aj7 ?_)
 simpa using hh
variable {rs : List (Bool × List T)}
theorem x97 (h : K [] o ([], [])) : (bq7 dd ch j []).vp o K := h
theorem ud7 {r : az7} (h : (ev7 dd ch (j + 1 + 1) []).vp (upd (upd o (dd * 8 + j) (some (ent (ch j).1 (ch j).2 115 (r.commits.map (af7 true))))) (dd * 8 + (j + 1)) (some (ent (ch (j + 1)).1 (ch (j + 1)).2 130 (r.heads.map aw7)))) fun ys o' l => K (.ref (dd * 8 + j) (ch j).1 (ch j).2 0 r.commits.length 115 :: .ref (dd * 8 + (j + 1)) (ch (j + 1)).1 (ch (j + 1)).2 0 r.heads.length 130 :: ys) o' (l.1, (dd * 8 + j) :: (dd * 8 + (j + 1)) :: l.2)) : (ev7 dd ch j (j47 true r)).vp o K :=
 wc7 (f := af7 true) (xs := r.commits) (k := 115) (cs := [T.sl true 130 (List.map aw7 r.heads)]) (wc7 (f := aw7) (xs := r.heads) (k := 130) (cs := []) h)
theorem ue7 {r : Feat} (h : (ev7 dd ch (j + 1 + 1 + 1 + 1) []).vp (upd (upd o (dd * 8 + (j + 1 + 1)) (some (ent (ch (j + 1 + 1)).1 (ch (j + 1 + 1)).2 66 (r.shape.pts.map ePt)))) (dd * 8 + (j + 1 + 1 + 1)) (some (ent (ch (j + 1 + 1 + 1)).1 (ch (j + 1 + 1 + 1)).2 82 (r.tags.map aX7)))) fun ys o' l => K (.v (.string r.id) :: .v (.int .i64 r.shape.kind) :: .ref (dd * 8 + (j + 1 + 1)) (ch (j + 1 + 1)).1 (ch (j + 1 + 1)).2 0 r.shape.pts.length 66 :: .ref (dd * 8 + (j + 1 + 1 + 1)) (ch (j + 1 + 1 + 1)).1 (ch (j + 1 + 1 + 1)).2 0 r.tags.length 82 :: ys) o' (l.1, (dd * 8 + (j + 1 + 1)) :: (dd * 8 + (j + 1 + 1 + 1)) :: l.2)) : (ev7 dd ch j (am7 true r)).vp o K :=
 Po7 (x := .string r.id) (cs := [.v (.int .i64 r.shape.kind), T.sl true 66 (r.shape.pts.map ePt), T.sl true 82 (r.tags.map aX7)]) (Po7 (x := .int .i64 r.shape.kind) (cs := [T.sl true 66 (r.shape.pts.map ePt), T.sl true 82 (r.tags.map aX7)]) (wc7 (f := ePt) (xs := r.shape.pts) (k := 66) (cs := [T.sl true 82 (r.tags.map aX7)]) (wc7 (f := aX7) (xs := r.tags) (k := 82) (cs := []) h)))
theorem ya7 {c : T} (h : (ev7 dd ch j [c]).vp o fun xs o' l1 => ∃ x, xs = [x] ∧ (bq7 dd ch (j + 1) rs).vp o' fun ys o'' l2 => K (x :: ys) o'' (l1.1 ++ l2.1, l1.2 ++ l2.2)) : (bq7 dd ch j ((false, [c]) :: rs)).vp o K := by
 refine ae7 (bY7 h fun xs o' l1 hh => ?_)
 obtain ⟨x, rfl, hh⟩ := hh
 refine ae7 (cR7 (a := x) rfl (aj7 (ae7 (bY7 hh fun ys o'' l2 h3 => aj7 ?_))))
 simpa using h3
theorem yb7 {cs : List T} (h : (ev7 dd ch j cs).vp o fun xs o' l1 => (bq7 dd ch (j + cs.length) rs).vp o' fun ys o'' l2 => K (.agg xs :: ys) o'' (l1.1 ++ l2.1, l1.2 ++ l2.2)) : (bq7 dd ch j ((true, cs) :: rs)).vp o K := by
 refine ae7 (bY7 h fun xs o' l1 hh => ?_)
 refine ae7 (cR7 (a := .agg xs) rfl (aj7 (ae7 (bY7 hh fun ys o'' l2 h3 => aj7 ?_))))
 simpa using h3
end
theorem lh7 (hp : ∀ x, eM7 [f x] = true) : ∀ xs : List α, eM7 (xs.map f) = true
 | [] => rfl
 | x :: xs => by
  have h1 := hp x
  have h2 := lh7 hp xs
  simp only [eM7, List.map_cons, List.all_cons, List.all_nil, Bool.and_true, Bool.and_eq_true] at h1 h2 ⊢
  exact ⟨h1, h2⟩
theorem dc7 {xs : List α} : (xs.map f).take xs.length = xs.map f := by rw [← List.length_map (f := f), List.take_length]
theorem AD7 {xs : List α} {b : Option Nat} {c k : Nat} : List.take xs.length (ent b c k (xs.map f)).rows = xs.map f := dc7
theorem hC7 {n : Nat} (h : aE7 n = true) : n ≤ vD7 := of_decide_eq_true h
def Src (k : Nat) (mv : Bool) (host : Option Nat) (y : AV) (o : al7) (rows : Rows) (o' : al7) (l : a57) : Prop := ∀ K : Rows → al7 → a57 → Prop, K rows o' l → (jr7 k mv host y).vp o K
theorem Ee7 {k : Nat} {mv : Bool} {host : Option Nat} : Src k mv host .nil o [] o ([], []) := fun K h => h
theorem Iu7 {k : Nat} {mv : Bool} {host : Option Nat} {xs : List α} (hp : ∀ x, eM7 [f x] = true) (he : ∀ x, (f x).length = esz k) : Src k mv host (.ro (xs.map f)) o (xs.map f) o ([], []) := fun K h => by
 refine aV7 ?_ h
 rw [lh7 hp, Bool.true_and]
 cases xs with
 | nil => exact decide_eq_true rfl
 | cons x xs => exact decide_eq_true (by simp [he])
theorem Iv7 {k n len : Nat} {b : Option Nat} {cap : Nat} {host : Option Nat} {rows : Rows} (ho : o n = some (ent b cap k rows)) (hh : decide (host ≠ some n) = true) (hl : len = rows.length) : Src k true host (.ref n b cap 0 len k) o rows (upd o n none) ([n], [n]) := fun K h => by
 refine bt7 ho (aV7 ?_ ?_)
 ·simp only [ent, hl, hh]; simp
 ·refine a37 (aj7 ?_)
  simp only [ent, List.drop_zero, hl, List.take_length]
  exact h
theorem Iw7 {k n len : Nat} {b : Option Nat} {cap : Nat} {host : Option Nat} {xs : List α} (ho : o n = some (ent b cap k (xs.map f))) (hl : len = xs.length) (hp : ∀ x, eM7 [f x] = true) : Src k false host (.ref n b cap 0 len k) o (xs.map f) o ([n], []) := fun K h => by
 refine bt7 ho (aV7 ?_ ?_)
 ·simp only [ent, hl]; simp
 ·refine aV7 ?_ (aj7 ?_)
  ·simp only [ent, List.drop_zero, hl, dc7, lh7 hp]
  ·simp only [ent, List.drop_zero, hl, dc7]
   exact h
theorem Qe7 {k : Nat} {mv : Bool} {a b : Od} {n : Nat} {b' : Option Nat} {cap len : Nat} {xs ys : List α} {rows : Rows} {o' : al7} {l : a57} (ha : ev t a = .ref n b' cap 0 len k) (hs : Src k mv (some n) (ev t b) o rows o' l) (hr : rows = ys.map f) (ho : o' n = some (ent b' cap k (xs.map f))) (hl : len = xs.length) (hf : aE7 (xs ++ ys).length = true) (hk : ∀ b2 cap2, KL ⟨aF7 t d (.ref n b2 cap2 0 (xs ++ ys).length k), upd o' n (some (ent b2 cap2 k ((xs ++ ys).map f)))⟩ (l.1 ++ [n], l.2 ++ [n])) : vdo G d (.app k mv a b) t o KL := by
 show dM7 G d (.app k mv a b) t o KL
 intro ch
 simp only [at7, ha]
 have hf' := hC7 hf
 refine ae7 (hs _ (bt7 ho (aV7 ?_ (a37 (aj7 ?_)))))
 ·simp only [ent, hl, hr, List.length_map] at hf' ⊢
  simp only [List.length_append] at hf'
  simp [hf']
 ·simp only [ent, hl, hr, dc7, List.length_map]
  have := hk (ch 0).1 (ch 0).2
  rw [List.length_append, List.map_append] at this
  exact this
theorem Ix7 {k : Nat} {mv : Bool} {a b : Od} {ys : List α} {rows : Rows} {o' : al7} {l : a57} (ha : ev t a = .nil) (hs : Src k mv none (ev t b) o rows o' l) (hr : rows = ys.map f) (hf : aE7 ys.length = true) (hk : ∀ b2 cap2, KL ⟨aF7 t d (.ref (cn7 d * 8) b2 cap2 0 ys.length k), upd o' (cn7 d * 8) (some (ent b2 cap2 k (ys.map f)))⟩ (l.1, l.2 ++ [cn7 d * 8])) : vdo G d (.app k mv a b) t o KL := by
 show dM7 G d (.app k mv a b) t o KL
 intro ch
 simp only [at7, ha]
 have hf' := hC7 hf
 refine ae7 (hs _ (aV7 ?_ (a37 (aj7 ?_))))
 ·simp only [hr, List.length_map]
  simp [hf']
 ·simp only [hr, List.length_map, List.append_nil]
  exact hk (ch 0).1 (ch 0).2
theorem Ef7 {k : Nat} {z : List T} {n m : Od} {len : Int} {k1 k2 : IntKind} {x : α} (hn : ev t n = .v (.int k1 len)) (hm : ev t m = .v (.int k2 len)) (h0 : decide (0 ≤ len) = true) (hf : aE7 len.toNat = true) (hz : z = f x) (hk : ∀ b, KL ⟨aF7 t d (.ref (cn7 d * 8) (some b) len.toNat 0 (List.replicate len.toNat x).length k), upd o (cn7 d * 8) (some (ent (some b) len.toNat k ((List.replicate len.toNat x).map f)))⟩ ([], [cn7 d * 8])) : vdo G d (.mks k z n m) t o KL := by
 show dM7 G d (.mks k z n m) t o KL
 intro ch
 have hf' := hC7 hf
 have h0' := of_decide_eq_true h0
 simp only [at7, hn, hm, asI]
 refine aV7 ?_ (a37 (aj7 ?_))
 ·simp [h0', hf']
 ·have := hk ((ch 0).1.getD 0)
  rw [List.map_replicate, ← hz, List.length_replicate] at this
  exact this
def Tot (box : Bool) (host j : Nat) (k : Option Nat) (x : AV) (o : al7) (c : T) (o' : al7) (l : a57) : Prop := ∀ K : T → al7 → a57 → Prop, K c o' l → (toT box host j k x).vp o K
def Tos (box : Bool) (host j : Nat) (ks : List (Option Nat)) (xs : List AV) (o : al7) (cs : List T) (o' : al7) (l : a57) : Prop := ∀ K : List T → al7 → a57 → Prop, K cs o' l → (tI7 box host j ks xs).vp o K
section
variable {box : Bool} {host j : Nat} {o1 o2 : al7}
theorem Eg7 {v : Value} (h : v.oneCell' = true) : Tot box host j none (.v v) o (.v v) o ([], []) := fun K hK => ⟨h, hK⟩
theorem Db7 {k : Nat} {rows : Rows} : Tot box host j (some k) (.ro rows) o (.sl false (k % 16) rows) o ([], []) := fun K hK => hK
theorem Eh7 {k : Nat} {A : Option Addr} {cap : Nat} {rows : Rows} : Tot true host j (some k) (.raw A cap rows) o (.rw A cap rows) o ([], []) := fun K hK => hK
theorem Ei7 {k : Nat} {A : Option Addr} {cap : Nat} {rows : Rows} : Tot false host j (some k) (.raw A cap rows) o (.sl false (k % 16) rows) o ([], []) := fun K hK => hK
theorem yc7 {k : Nat} : Tot false host j (some k) .nil o (.sl true k []) o ([], []) := fun K hK => hK
theorem sT7 {kk n len : Nat} {b : Option Nat} {cap : Nat} {rows : Rows} (ho : o n = some (ent b cap kk rows)) (hl : len = rows.length) (hn : decide (n ≠ host) = true) : Tot false host j (some kk) (.ref n b cap 0 len kk) o (.sl true kk rows) (upd o n none) ([n], [n]) := fun K hK => by
 subst hl
 refine bt7 ho (a77 (aV7 ?_ (a77 (a37 (aj7 ?_)))))
 ·simp only [ent, hn]; simp
 ·simp only [ent, List.take_length]
  exact hK
theorem oB7 : Tos box host j [] [] o [] o ([], []) := fun K hK => hK
theorem ks7 {k : Option Nat} {ks : List (Option Nat)} {x : AV} {xs : List AV} {c : T} {cs : List T} {l1 l2 : a57} (h : Tot box host j k x o c o1 l1) (hs : Tos box host (j + 1) ks xs o1 cs o2 l2) : Tos box host j (k :: ks) (x :: xs) o (c :: cs) o2 (l1.1 ++ l2.1, l1.2 ++ l2.2) := fun K hK => ae7 (h _ (ae7 (hs _ (aj7 (by simpa using hK)))))
end
theorem Ej7 {ks : List (Option Nat)} {p y : Od} {n : Nat} {b : Option Nat} {cap k r c : Nat} {xs : List α} {x x' : α} {cs : List T} {o' : al7} {l : a57} (hp : ev t p = .ptr n b k r c) (ho : o n = some (ent b cap k (xs.map f))) (hv : Tos false n c ks (hK7 (ev t y)) o cs o' l) (ho' : o' n = some (ent b cap k (xs.map f))) (h : xs[r]? = some x) (hc : decide (c + ks.length ≤ (f x).length) = true) (hx : bS7 (f x) c cs = f x') (hk : KL ⟨aF7 t d .junk, upd o' n (some (ent b cap k ((xs.set r x').map f)))⟩ (n :: (l.1 ++ [n]), l.2 ++ [n])) : vdo G d (.store ks p y) t o KL := by
 show dM7 G d (.store ks p y) t o KL
 intro ch
 have hg : (xs.map f).getD r [] = f x := oy7 h
 have hr : r < (xs.map f).length := by rw [List.length_map]; exact (List.getElem?_eq_some_iff.1 h).1
 simp only [at7, hp]
 refine bt7 ho (a77 (ae7 (hv _ (bt7 ho' (a77 (aV7 ?_ (a37 (aj7 ?_))))))))
 ·simp only [ent, hg]
  have := of_decide_eq_true hc
  simp [this]
  simpa using hr
 ·simp only [ent, hg, hx]
  have : (xs.map f).set r (f x') = (xs.set r x').map f := by rw [List.map_set]
  rw [this]
  exact hk
section
variable {box : Bool} {host j : Nat} {o1 o2 : al7}
theorem Ek7 {k : Nat} : Tot true host j (some k) .nil o (.al (cn host j) none 0 0 0 k) (upd o (cn host j) (some (ent none 0 k []))) ([], [cn host j]) := fun K hK => a37 (aj7 hK)
theorem El7 {kk k n off len cap : Nat} {b : Option Nat} {rows : Rows} (ho : o n = some (ent b cap k rows)) (hn : decide (n ≠ host) = true) : Tot true host j (some kk) (.ref n b cap off len k) o (.al (cn host j) b cap off len k) (upd (upd o n none) (cn host j) (some (ent b cap k rows))) ([n], [n, cn host j]) := fun K hK => by
 refine bt7 ho (a77 (aV7 ?_ (a77 (a37 (a77 (a37 (aj7 ?_)))))))
 ·simp only [ent, hn]; simp
 ·exact hK
def Zop (host j : Nat) (z : List T) (o : al7) (cs : List T) (o' : al7) (l : a57) : Prop := ∀ K : List T → al7 → a57 → Prop, K cs o' l → (vB7 host j z).vp o K
theorem Em7 : Zop host j [] o [] o ([], []) := fun K hK => hK
theorem Qf7 {x : Value} {z cs : List T} {l : a57} (h : Zop host (j + 1) z o cs o1 l) : Zop host j (.v x :: z) o (.v x :: cs) o1 l := fun K hK => ae7 (aj7 (ae7 (h _ (aj7 (by simpa using hK)))))
theorem Iy7 {k : Nat} {z cs : List T} {l : a57} (h : Zop host (j + 1) z (upd o (cn host j) (some (ent none 0 k []))) cs o1 l) : Zop host j (.sl true k [] :: z) o (.al (cn host j) none 0 0 0 k :: cs) o1 (l.1, cn host j :: l.2) := fun K hK => by
 refine ae7 (a37 (aj7 (ae7 (h _ (aj7 ?_)))))
 simpa using hK
end
theorem Iz7 {k : Nat} {ks : List (Option Nat)} {y : Od} {cs : List T} {o' : al7} {l : a57} (hv : Tos true (cn7 d * 8) 0 ks (hK7 (ev t y)) o cs o' l) (hk : ∀ b, KL ⟨aF7 t d (.ptr (cn7 d * 8) (some b) k 0 0), upd o' (cn7 d * 8) (some ⟨some b, 1, k, true, [cs]⟩)⟩ (l.1, l.2 ++ [cn7 d * 8])) : vdo G d (.box k ks y) t o KL := by
 show dM7 G d (.box k ks y) t o KL
 intro ch
 have := hk ((ch 0).1.getD 0)
 exact ae7 (hv _ (a37 (aj7 (by simpa using this))))
theorem IA7 {k : Nat} {ks : List (Option Nat)} {z : List T} {y : Od} {cs : List T} {o' : al7} {l : a57} (hv : Tos false (cn7 d * 8) 0 ks (hK7 (ev t y)) o cs o' l) (hk : ∀ b, KL ⟨aF7 t d (.ref (cn7 d * 8) (some b) 1 0 1 k), upd o' (cn7 d * 8) (some ⟨some b, 1, k, false, [cs]⟩)⟩ (l.1, l.2 ++ [cn7 d * 8])) : vdo G d (.lit k ks z 1 [(0, y)]) t o KL := by
 show dM7 G d (.lit k ks z 1 [(0, y)]) t o KL
 intro ch
 have := hk ((ch 0).1.getD 0)
 simp only [at7, om7, List.replicate]
 refine ae7 (ae7 ?_)
 refine aV7 (by rfl) ?_
 refine aj7 ?_
 refine ae7 (hv _ ?_)
 refine aj7 ?_
 refine a37 (aj7 ?_)
 simpa using this
theorem IB7 {k : Nat} {z cs : List T} {o' : al7} {l : a57} (hv : Zop (cn7 d * 8) 0 z o cs o' l) (hk : ∀ b, KL ⟨aF7 t d (.ptr (cn7 d * 8) (some b) k 0 0), upd o' (cn7 d * 8) (some ⟨some b, 1, k, true, [cs]⟩)⟩ (l.1, l.2 ++ [cn7 d * 8])) : vdo G d (.alloc k z) t o KL := by
 show dM7 G d (.alloc k z) t o KL
 intro ch
 have := hk ((ch 0).1.getD 0)
 exact ae7 (hv _ (a37 (aj7 (by simpa using this))))
def Hz7 (row : List T) (c : Nat) (cs row' : List T) : Prop := c + cs.length ≤ row.length ∧ bS7 row c cs = row'
theorem i57 {x : T} : ∀ {cs row : List T} {c : Nat}, bS7 (x :: row) (c + 1) cs = x :: bS7 row c cs
 | [], row, c => rfl
 | y :: cs, row, c => by
  show bS7 (x :: row.set c y) (c + 1 + 1) cs = _
  rw [i57]
  rfl
theorem IC7 {row : List T} : Hz7 row 0 [] row := ⟨by simp, rfl⟩
theorem ID7 {x y : T} {row cs row' : List T} (h : Hz7 row 0 cs row') : Hz7 (x :: row) 0 (y :: cs) (y :: row') := by
 obtain ⟨h1, h2⟩ := h
 refine ⟨by simp at h1 ⊢; omega, ?_⟩
 show bS7 (y :: row) (0 + 1) cs = _
 rw [i57, h2]
theorem En7 {x : T} {row cs row' : List T} {c : Nat} (h : Hz7 row c cs row') : Hz7 (x :: row) (c + 1) cs (x :: row') := by
 obtain ⟨h1, h2⟩ := h
 refine ⟨by simp at h1 ⊢; omega, ?_⟩
 rw [i57, h2]
theorem IE7 {ks : List (Option Nat)} {p y : Od} {n : Nat} {b : Option Nat} {cap k c : Nat} {bx : Bool} {row row' cs : List T} {o' : al7} {l : a57} (hp : ev t p = .ptr n b k 0 c) (ho : o n = some ⟨b, cap, k, bx, [row]⟩) (hv : Tos bx n c ks (hK7 (ev t y)) o cs o' l) (ho' : o' n = some ⟨b, cap, k, bx, [row]⟩) (hx : Hz7 row c cs row') (hc : decide (ks.length = cs.length) = true) (hk : KL ⟨aF7 t d .junk, upd o' n (some ⟨b, cap, k, bx, [row']⟩)⟩ (n :: (l.1 ++ [n]), l.2 ++ [n])) : vdo G d (.store ks p y) t o KL := by
 show dM7 G d (.store ks p y) t o KL
 intro ch
 obtain ⟨h1, h2⟩ := hx
 have hc := of_decide_eq_true hc
 simp only [at7, hp]
 refine bt7 ho (a77 (ae7 (hv _ (bt7 ho' (a77 (aV7 ?_ (a37 (aj7 ?_))))))))
 ·simp
  omega
 ·simp only [List.getD_cons_zero, List.set_cons_zero, h2]
  exact hk
theorem qi7 {i : Nat} {x y : AV} : aF7 (aF7 t (some i) x) (some i) y = aF7 t (some i) y := by
 funext j
 simp only [aF7]
 split <;> rfl
theorem Dc7 {dd : Nat} {ch : Ch} {op : Opx} {x : AV} (h : evp t op = some x) {K : AV → al7 → a57 → Prop} (hK : K x o ([], [])) : (at7 G dd ch t op).vp o K := by
 cases op with
 | load sz agg p =>
  simp only [evp] at h
  split at h
  ·rename_i cs hcs
   split at h
   ·rename_i hle
    simp only [at7, hcs, hle, if_true]
    exact cR7 h (aj7 hK)
   ·cases h
  ·cases h
 | _ => first | (cases h; done) | exact cR7 h (aj7 hK)
theorem uf7 {i : Nat} {op : Opx} {f : AV → HM AV} {op' : Opx} (hw : hOp op' = true) (hs : ∀ ch, at7 G i ch t op' = (at7 G i ch t op).bind f) (h : vdo G (some i) op t o fun s l1 => (f (s.t i)).vp s.o fun y o' l2 => KL ⟨aF7 s.t (some i) y, o'⟩ (l1.1 ++ l2.1, l1.2 ++ l2.2)) : vdo G (some i) op' t o KL := by
 have hi : ∀ x, aF7 t (some i) x i = x := fun x => by simp [aF7]
 have key : dM7 G (some i) op' t o KL := by
  intro ch
  show (at7 G i ch t op').vp o _
  rw [hs]
  have hv : ∀ {K : AV → Prop}, vop t op K → ∃ x, evp t op = some x ∧ K x := ld7
  have pur : (vop t op fun x => (f ((aF7 t (some i) x) i)).vp o fun y o' l2 => KL ⟨aF7 (aF7 t (some i) x) (some i) y, o'⟩ ((([], []) : a57).1 ++ l2.1, (([], []) : a57).2 ++ l2.2)) → ((at7 G i ch t op).bind f).vp o fun x o' l => KL ⟨aF7 t (some i) x, o'⟩ l := fun h => by
   obtain ⟨x, h1, h2⟩ := hv h
   rw [hi] at h2
   simp only [qi7] at h2
   exact ae7 (Dc7 (K := fun a o' l1 => (f a).vp o' fun b o'' l2 => KL ⟨aF7 t (some i) b, o''⟩ (l1.1 ++ l2.1, l1.2 ++ l2.2)) h1 h2)
  have hea : (dM7 G (some i) op t o fun s l1 => (f (s.t i)).vp s.o fun y o' l2 => KL ⟨aF7 s.t (some i) y, o'⟩ (l1.1 ++ l2.1, l1.2 ++ l2.2)) → ((at7 G i ch t op).bind f).vp o fun x o' l => KL ⟨aF7 t (some i) x, o'⟩ l := fun h => by
   refine ae7 (bY7 (K' := fun x o' l1 => (f x).vp o' fun y o'' l2 => KL ⟨aF7 t (some i) y, o''⟩ (l1.1 ++ l2.1, l1.2 ++ l2.2)) (h ch) fun x o' l hh => ?_)
   simp only [hi] at hh
   simp only [qi7] at hh
   exact hh
  unfold vdo at h
  split at h
  ·split at h
   ·exact hea h
   ·exact pur h
  ·split at h
   ·exact hea h
   ·exact pur h
 unfold vdo
 split
 ·cases hw
 ·rw [hw]
  exact key
theorem Qg7 {i : Nat} {op : Opx} (h : vdo G (some i) op t o fun s l1 => (eO7 (s.t i)).vp s.o fun y o' l2 => KL ⟨aF7 s.t (some i) y, o'⟩ (l1.1 ++ l2.1, l1.2 ++ l2.2)) : vdo G (some i) (.frz op) t o KL := uf7 rfl (fun _ => rfl) h
theorem Qh7 {i m k : Nat} {op : Opx} (h : vdo G (some i) op t o fun s l1 => (j37 m k (s.t i)).vp s.o fun y o' l2 => KL ⟨aF7 s.t (some i) y, o'⟩ (l1.1 ++ l2.1, l1.2 ++ l2.2)) : vdo G (some i) (.ren m k op) t o KL := uf7 rfl (fun _ => rfl) h
def Frz (x : AV) (o : al7) (y : AV) (o' : al7) (l : a57) : Prop := ∀ K : AV → al7 → a57 → Prop, K y o' l → (eO7 x).vp o K
def IF7 (x : List AV) (o : al7) (y : List AV) (o' : al7) (l : a57) : Prop := ∀ K : List AV → al7 → a57 → Prop, K y o' l → (sy7 x).vp o K
section
variable {o1 o2 : al7} {l1 l2 : a57}
theorem UF7 {v : Value} : Frz (.v v) o (.v v) o ([], []) := fun K h => h
theorem Qi7 {rows : Rows} : Frz (.ro rows) o (.ro rows) o ([], []) := fun K h => h
theorem IG7 : Frz .nil o (.ro []) o ([], []) := fun K h => h
theorem Dd7 {n : Nat} {b : Option Nat} {cap k len : Nat} {xs : List α} {g : α → List T} (ho : o n = some (ent b cap k (xs.map f))) (he : ∀ x, erL (f x) = some (g x)) (hl : len = xs.length) : Frz (.ref n b cap 0 len k) o (.ro (xs.map g)) (upd o n none) ([n], [n]) := fun K h => by
 subst hl
 refine bt7 ho (a77 (aV7 ?_ (a77 (a37 (a77 (cR7 (a := xs.map g) ?_ (aj7 h)))))))
 ·simp [ent]
 ·simp only [ent, List.drop_zero]
  rw [show (xs.map f).take xs.length = xs.map f by rw [← List.length_map (f := f), List.take_length], dF7 he]
theorem IH7 {n : Nat} {b : Option Nat} {cap k : Nat} (ho : o n = some (ent b cap k [])) : Frz (.ref n b cap 0 0 k) o (.ro []) (upd o n none) ([n], [n]) := Dd7 (α := Nat) (f := fun _ => []) (g := fun _ => []) (xs := []) ho (fun _ => rfl) rfl
theorem II7 {cs ys : List AV} (h : IF7 cs o ys o1 l1) : Frz (.agg cs) o (.agg ys) o1 l1 := fun K hK => ae7 (h _ (aj7 (by simpa using hK)))
theorem IJ7 {cs ys : List AV} (h : IF7 cs o ys o1 l1) : Frz (.tup cs) o (.tup ys) o1 l1 := fun K hK => ae7 (h _ (aj7 (by simpa using hK)))
theorem Eo7 : IF7 [] o [] o ([], []) := fun K h => h
theorem AE7 {x y : AV} {xs ys : List AV} (h : Frz x o y o1 l1) (hs : IF7 xs o1 ys o2 l2) : IF7 (x :: xs) o (y :: ys) o2 (l1.1 ++ l2.1, l1.2 ++ l2.2) := fun K hK => ae7 (h _ (ae7 (hs _ (aj7 (by simpa using hK)))))
theorem UG7 {m k0 n : Nat} {b : Option Nat} {cap off len k : Nat} {x : AV} {e : Ent} {K : AV → al7 → a57 → Prop} (hx : x = .ref n b cap off len k) (ho : o n = some e) (hk : K (.ref m b cap off len k) (upd (upd o n none) m (some e)) ([n], [n, m])) : (j37 m k0 x).vp o K := by
 subst hx
 exact bt7 ho (a77 (a37 (a77 (a37 (aj7 hk)))))
theorem Qj7 {m k0 : Nat} {x : AV} {K : AV → al7 → a57 → Prop} (hx : x = .nil) (hk : K (.ref m none 0 0 0 k0) (upd o m (some (ent none 0 k0 []))) ([], [m])) : (j37 m k0 x).vp o K := by
 subst hx
 exact a37 (aj7 hk)
end
theorem Qk7 {i j : Nat} {op : Opx} (h : vdo G (some i) op t o fun s l1 => (jt7 j (s.t i)).vp s.o fun y o' l2 => KL ⟨aF7 s.t (some i) y, o'⟩ (l1.1 ++ l2.1, l1.2 ++ l2.2)) : vdo G (some i) (.pfz j op) t o KL := uf7 rfl (fun _ => rfl) h
theorem Ql7 {i : Nat} {op : Opx} (h : vdo G (some i) op t o fun s l1 => (mq7 (s.t i)).vp s.o fun y o' l2 => KL ⟨aF7 s.t (some i) y, o'⟩ (l1.1 ++ l2.1, l1.2 ++ l2.2)) : vdo G (some i) (.trn op) t o KL := uf7 rfl (fun _ => rfl) h
theorem UH7 {γ : Type} {f g : γ → List T} {n j k cap off len : Nat} {b : Option Nat} {xs : List γ} {x : AV} {rest : List AV} {K : AV → al7 → a57 → Prop} (hp : dj7 j (xs.map f) = some (xs.map g)) (hx : hK7 x = .ref n b cap off len k :: rest) (ho : o n = some (ent b cap k (xs.map f))) (hk : K x (upd o n (some (ent b cap k (xs.map g)))) ([n], [n])) : (jt7 j x).vp o K := by
 unfold jt7
 rw [hx]
 refine bt7 ho (a77 (aV7 (by simp [ent]) (a77 (ae7 (cR7 (a := xs.map g) (by simpa [ent] using hp) (aj7 (a37 (aj7 ?_))))))))
 simpa [ent] using hk
def UI7 (p : AV) (o o' : al7) (l : a57) : Prop := ∀ (x : AV) (K : AV → al7 → a57 → Prop), K x o' l → (mx7 p x).vp o K
def dN7 (p : AV) (KL : St → a57 → Prop) (s : St) (l1 : a57) : Prop := ∃ o' l2, UI7 p s.o o' l2 ∧ KL ⟨s.t, o'⟩ (l1.1 ++ l2.1, l1.2 ++ l2.2)
theorem IK7 {p : Od} {op : Opx} (h : vdo G d op t o (dN7 (ev t p) KL)) : vdo G d (.shut p op) t o KL := by
 show dM7 G d (.shut p op) t o KL
 intro ch
 show ((at7 G (cn7 d) ch t op).bind fun x => mx7 (ev t p) x).vp o _
 have hv : ∀ {K : AV → Prop}, vop t op K → ∃ x, evp t op = some x ∧ K x := ld7
 have pur : (vop t op fun x => dN7 (ev t p) KL ⟨aF7 t d x, o⟩ ([], [])) → ((at7 G (cn7 d) ch t op).bind fun x => mx7 (ev t p) x).vp o fun x o' l => KL ⟨aF7 t d x, o'⟩ l := fun h => by
  obtain ⟨x, h1, o', l2, h2, h3⟩ := hv h
  exact ae7 (Dc7 (K := fun a o' l1 => (mx7 (ev t p) a).vp o' fun b o'' l2 => KL ⟨aF7 t d b, o''⟩ (l1.1 ++ l2.1, l1.2 ++ l2.2)) h1 (h2 _ _ h3))
 have hea : dM7 G d op t o (dN7 (ev t p) KL) → ((at7 G (cn7 d) ch t op).bind fun x => mx7 (ev t p) x).vp o fun x o' l => KL ⟨aF7 t d x, o'⟩ l := fun h =>
  ae7 (bY7 (h ch) fun x o' l ⟨o2, l2, h2, h3⟩ => h2 _ _ h3)
 unfold vdo at h
 split at h
 ·split at h
  ·exact hea h
  ·exact pur h
 ·split at h
  ·exact hea h
  ·exact pur h
theorem nD7 {β γ : Type} {f : γ → List T} {g : β → List T} {p : Od} {n r c k k2 cap : Nat} {b : Option Nat} {xs : List γ} {x : γ} {ys : List β} {rest : List T} (hx : xs[r]? = some x) (hp : ev t p = .ptr n b k r c) (ho : o n = some (ent b cap k (xs.map f))) (hf : (f x).drop c = .sl true k2 (ys.map g) :: rest) (hk : ∀ bb cc, KL ⟨aF7 t d (.ref (cn7 d * 8 + 0) bb cc 0 ys.length k2), upd (upd o (cn7 d * 8 + 0) (some (ent bb cc k2 (ys.map g)))) n (some ⟨b, cap, k, false, (xs.map f).set r ((f x).set c (.al (cn7 d * 8 + 0) bb cc 0 ys.length k2))⟩)⟩ ([n], [cn7 d * 8 + 0, n])) : vdo G d (.load 1 false p) t o KL := by
 have h : dM7 G d (.load 1 false p) t o KL := by
  intro ch
  have hr : r < xs.length := (List.getElem?_eq_some_iff.1 hx).1
  have e : (xs.map f).getD r [] = f x := oy7 hx
  have hlt : c + 1 ≤ (f x).length := by
   rcases Nat.lt_or_ge c (f x).length with h | h
   ·exact h
   ·rw [List.drop_eq_nil_of_le h] at hf
    cases hf
  simp only [at7, hp]
  refine bt7 ho (a77 (aV7 ?_ (a77 ?_)))
  ·simp only [ent, e]
   simp
   exact ⟨hr, hlt⟩
  ·simp only [ent, e, hf, List.take_succ_cons, List.take_zero]
   have := hk (ch 0).1 (ch 0).2
   refine ae7 (ae7 (a37 (aj7 (aj7 ?_))))
   simp only [List.length_map]
   refine ae7 (cR7 (a := .ref (cn7 d * 8 + 0) (ch 0).1 (ch 0).2 0 ys.length k2) rfl (aj7 (a37 (aj7 ?_))))
   exact this
 unfold vdo
 simp only [hp]
 exact h
theorem Qm7 {γ : Type} {f : γ → List T} {pv : AV} {n r c k cap : Nat} {b b0 : Option Nat} {xs : List γ} {x : γ} {row : List T} {o1 : al7} {l : a57} (y : γ) {s : St} {l1 : a57} (hx : xs[r]? = some x) (hk : KL ⟨s.t, upd o1 n (some (ent b cap k ((xs.set r y).map f)))⟩ (l1.1 ++ (n :: l.1), l1.2 ++ (n :: (l.2 ++ [n])))) (hp : pv = .ptr n b0 k r c) (ho : s.o n = some ⟨b, cap, k, false, (xs.map f).set r row⟩) (hc : wM7 row (upd s.o n none) (f y) o1 l) : dN7 pv KL s l1 := by
 refine ⟨_, (n :: l.1, n :: (l.2 ++ [n])), fun z K hK => ?_, hk⟩
 subst hp
 have hr : r < xs.length := (List.getElem?_eq_some_iff.1 hx).1
 refine bt7 ho (a77 (aV7 (by simpa using hr) (a77 (a37 (a77 (ae7 ?_))))))
 have e : ((xs.map f).set r row).getD r [] = row := by
  rw [List.getD_eq_getElem?_getD, List.getElem?_set_self (by simpa using hr)]
  rfl
 show (bV7 (((xs.map f).set r row).getD r [])).vp _ _
 rw [e]
 refine hc.out _ (a37 (aj7 ?_))
 have e2 : ((xs.map f).set r row).set r (f y) = (xs.set r y).map f := by rw [List.set_set, List.map_set]
 simp only [e2]
 simpa [ent] using hK
theorem nE7 : ∀ {xs : List Int}, ju7 (xs.map eB8) = some xs
 | [] => rfl
 | x :: xs => by simp [eB8, ju7, nE7 (xs := xs)]
theorem yd7 {x : Od} {n k cap len : Nat} {b : Option Nat} {xs : List Int} (hp : ev t x = .ref n b cap 0 len k) (ho : o n = some (ent b cap k (xs.map eB8))) (hl : len = xs.length) (hz : esz k = 1) (hk : KL ⟨aF7 t d (.v (.string (DC7 xs))), o⟩ ([n], [])) : vdo G d (.bytes x) t o KL := by
 show dM7 G d (.bytes x) t o KL
 intro ch
 simp only [at7, hp]
 subst hl
 refine bt7 ho (a77 (aV7 (by simp [ent, hz]) (a77 ?_)))
 refine ae7 (cR7 (a := xs) (by simp only [ent]; exact nE7) (aj7 (aj7 ?_)))
 exact hk
def Giv (k : Option Nat) (x : AV) (o : al7) (c : T) (o' : al7) : Prop := ∀ K : T → al7 → a57 → Prop, (∀ l, K c o' l) → (pD7 k x).vp o K
def Pp7 (ks : List (Option Nat)) (xs : List AV) (o : al7) (cs : List T) (o' : al7) : Prop := ∀ K : List T → al7 → a57 → Prop, (∀ l, K cs o' l) → (jv7 ks xs).vp o K
def Clo (c : T) (o : al7) (c' : T) (o' : al7) : Prop := ∀ K : T → al7 → a57 → Prop, (∀ l, K c' o' l) → (pA7 c).vp o K
def Ep7 (cs : List T) (o : al7) (cs' : List T) (o' : al7) : Prop := ∀ K : List T → al7 → a57 → Prop, (∀ l, K cs' o' l) → (bV7 cs).vp o K
def Qn7 (t : Tm) (r : Nat ⊕ Nat × Nat) (ks : List (Option Nat)) (o : al7) (x : Bool × List T) (o' : al7) : Prop := ∀ K : Bool × List T → al7 → a57 → Prop, (∀ l, K x o' l) → (gr7 t r ks).vp o K
def HA7 (t : Tm) (r : List (Nat ⊕ Nat × Nat)) (ks : List (List (Option Nat))) (o : al7) (x : List (Bool × List T)) (o' : al7) : Prop := ∀ K : List (Bool × List T) → al7 → a57 → Prop, (∀ l, K x o' l) → (dk7 t r ks).vp o K
section
variable {k : Option Nat} {ks : List (Option Nat)} {o1 o2 o' : al7}
theorem Qo7 {v : Value} (h : v.oneCell' = true) : Giv none (.v v) o (.v v) o := fun K hK => ⟨h, hK _⟩
theorem Eq7 {k : Nat} {A : Option Addr} {cap : Nat} {rows : Rows} : Giv (some k) (.raw A cap rows) o (.v (.slice A rows.length cap)) o := fun K hK => hK _
theorem Er7 {k : Nat} : Giv (some k) .nil o (.sl true k []) o := fun K hK => hK _
theorem IL7 {k : Nat} {rows : Rows} : Giv (some k) (.ro rows) o (.sl false (k % 16) rows) o := fun K hK => hK _
theorem ye7 {kk n len : Nat} {b : Option Nat} {cap : Nat} {rows : Rows} (ho : o n = some (ent b cap kk rows)) (hl : len = rows.length) : Giv k (.ref n b cap 0 len kk) o (.sl true kk rows) (upd o n none) := fun K hK => by
 subst hl
 have h : (Aj7 (.ref n b cap 0 rows.length kk)).vp o K := by
  refine bt7 ho (aV7 (by simp [ent]) (a37 (aj7 ?_)))
  simp only [ent, List.take_length]
  exact hK _
 cases k <;> exact h
theorem IM7 {kk n : Nat} {b : Option Nat} {row row' : List T} {o1 : al7} (ho : o n = some ⟨b, 1, kk, true, [row]⟩) (h : Ep7 row (upd o n none) row' o1) : Giv k (.ptr n b kk 0 0) o (.bx kk row') o1 := fun K hK => by
 have : pD7 k (.ptr n b kk 0 0) = Aj7 (.ptr n b kk 0 0) := by cases k <;> rfl
 rw [this]
 refine bt7 ho (a77 (aV7 (by simp) (a77 (a37 (a77 ?_)))))
 exact ae7 (h _ fun l => aj7 (hK _))
theorem ug7 : Pp7 [] [] o [] o := fun K hK => hK _
theorem qj7 {x : AV} {xs : List AV} {c : T} {cs : List T} (h : Giv k x o c o1) (hs : Pp7 ks xs o1 cs o2) : Pp7 (k :: ks) (x :: xs) o (c :: cs) o2 := fun K hK => ae7 (h _ fun l => ae7 (hs _ fun l2 => aj7 (hK _)))
theorem Es7 {v : Value} : Clo (.v v) o (.v v) o := fun K hK => hK _
theorem yf7 {A : Option Addr} {cap : Nat} {rows : Rows} : Clo (.rw A cap rows) o (.rw A cap rows) o := fun K hK => hK _
theorem yg7 {w : Bool} {k : Nat} {rows : Rows} : Clo (.sl w k rows) o (.sl w k rows) o := fun K hK => hK _
theorem uh7 {kk n len : Nat} {b : Option Nat} {cap : Nat} {rows : Rows} (ho : o n = some (ent b cap kk rows)) (hl : len = rows.length) : Clo (.al n b cap 0 len kk) o (.sl true kk rows) (upd o n none) := fun K hK => by
 subst hl
 refine bt7 ho (aV7 (by simp [ent]) (a37 (aj7 ?_)))
 simp only [ent, List.take_length]
 exact hK _
theorem kt7 : Ep7 [] o [] o := fun K hK => hK _
theorem h37 {c c' : T} {cs cs' : List T} (h : Clo c o c' o1) (hs : Ep7 cs o1 cs' o2) : Ep7 (c :: cs) o (c' :: cs') o2 := fun K hK => ae7 (h _ fun l => ae7 (hs _ fun l2 => aj7 (hK _)))
theorem IN7 {n : Nat} {x : AV} {cs : List T} {g : Bool} (hx : t n = x) (hg : hN7 x = g) (h : Pp7 ks (hK7 x) o cs o') : Qn7 t (.inl n) ks o (g, cs) o' := fun K hK => by
 subst hx
 subst hg
 exact ae7 (h _ fun l => aj7 (hK _))
theorem Qp7 {n m sz k : Nat} {b : Option Nat} {e : Ent} {row cs : List T} (hx : t n = .ptr m b k 0 0) (ho : o m = some e) (hb : e.b = b) (hk : e.k = k) (hr : e.rows = [row]) (hz : row.length = sz) (hbx : e.box = true) (h : Ep7 row (upd o m none) cs o') : Qn7 t (.inr (n, sz)) ks o (true, cs) o' := fun K hK => by
 simp only [gr7, hx]
 refine bt7 ho (aV7 ?_ (a37 (a77 ?_)))
 ·simp [hb, hk, hr, hz, hbx]
 ·rw [hr]
  exact ae7 (h _ fun l => aj7 (hK _))
theorem ui7 : HA7 t [] [] o [] o := fun K hK => hK _
theorem qk7 {r : Nat ⊕ Nat × Nat} {rs : List (Nat ⊕ Nat × Nat)} {kss : List (List (Option Nat))} {x : Bool × List T} {xs : List (Bool × List T)} (h : Qn7 t r ks o x o1) (hs : HA7 t rs kss o1 xs o2) : HA7 t (r :: rs) (ks :: kss) o (x :: xs) o2 := fun K hK => ae7 (h _ fun l => ae7 (hs _ fun l2 => aj7 (hK _)))
def AF7 (bs : Nat → Option Nat × Nat) (lc : Nat → Nat) (i : Nat) (ins : List (Bool × Nat × Rows)) (as : List (Option Rows)) (o o' : al7) : Prop := ∀ K : List (Option Rows) → al7 → a57 → Prop, (∀ l, K as o' l) → (kJ7 bs lc i ins as).vp o K
section
variable {bs : Nat → Option Nat × Nat} {lc : Nat → Nat} {i j : Nat} {ins : List (Bool × Nat × Rows)} {as : List (Option Rows)}
theorem De7 : AF7 bs lc i [] [] o o := fun K h => aj7 (h _)
theorem Et7 {x : Bool × Nat × Rows} (h : AF7 bs lc (i + 1) ins as o o') : AF7 bs lc i (x :: ins) (none :: as) o o' := fun K hK => ae7 (h _ fun l => aj7 (hK _))
theorem Eu7 {k : Nat} {rows0 rows : Rows} (hj : lc i = j) (ho : o j = some (ent (bs i).1 (bs i).2 k rows)) (h : AF7 bs lc (i + 1) ins as (upd o j none) o') : AF7 bs lc i ((false, k, rows0) :: ins) (some rows :: as) o o' := fun K hK => by
 subst hj
 refine bt7 ho (a77 (aV7 (by simp [ent]) (a77 (a37 (a77 ?_)))))
 exact ae7 (aj7 (ae7 (h _ fun l => aj7 (hK _))))
theorem IO7 {k : Nat} {rows0 : Rows} {row row' row2 : List T} (hj : lc i = j) (ho : o j = some ⟨(bs i).1, (bs i).2, k, true, [row]⟩) (hc : Ep7 row (upd o j none) row' o1) (hs : row'.map w47 = row2) (h : AF7 bs lc (i + 1) ins as o1 o') : AF7 bs lc i ((true, k, rows0) :: ins) (some [row2] :: as) o o' := fun K hK => by
 subst hj
 subst hs
 refine bt7 ho (a77 (aV7 (by simp) (a77 (a37 (a77 ?_)))))
 exact ae7 (ae7 (hc _ fun l => aj7 (ae7 (h _ fun l => aj7 (hK _)))))
end
theorem IP7 {fn : IFn} {kss : List (List (Option Nat))} {bs : Nat → Option Nat × Nat} {ins : List (Bool × Nat × Rows)} {an : Ans} {xs : List (Bool × List T)} (ho : AF7 bs fn.lc 0 ins an.outs o o1) (h : HA7 t fn.res kss o1 xs o') (hx : xs = an.res) : i07 fn kss bs ins an ⟨t, o⟩ := by
 refine ae7 (ho _ fun l => ae7 (h _ fun l => aj7 ⟨hx, rfl⟩))
end
def ovr : List (Nat × AV) → Tm → Tm
 | [], t => t
 | (i, x) :: L, t => aF7 (ovr L t) (some i) x
def ovh : List (Nat × Ent) → al7 → al7
 | [], o => o
 | (i, x) :: L, o => upd (ovh L o) i (some x)
theorem ovn : t = ovr [] t := rfl
theorem ovc {i : Nat} {x : AV} {L : List (Nat × AV)} (h : t i = x) (hs : t = ovr L t) : t = ovr ((i, x) :: L) t := by
 simp only [ovr]
 rw [← hs]
 exact UC7 h
theorem Ev7 {i n k l l' : Nat} {b : Option Nat} {cap : Nat} {L : List (Nat × AV)} (h : t i = .ref n b cap 0 l k) (hl : l = l') (hs : t = ovr L t) : t = ovr ((i, .ref n b cap 0 l' k) :: L) t := ovc (by rw [h, hl]) hs
theorem ohn : o = ovh [] o := rfl
theorem ohc {i : Nat} {x : Ent} {L : List (Nat × Ent)} (h : o i = some x) (hs : o = ovh L o) : o = ovh ((i, x) :: L) o := by
 simp only [ovh]
 rw [← hs]
 exact UD7 h
end
section
variable {G : Gam} {Q : Ex → St → Prop} {s : St} {a b : IC}
def wd7 (r r' : List T) : Prop := r = r'
theorem IQ7 : wd7 [] [] := rfl
theorem Ue7 {c : T} {r r' : List T} (hr : wd7 r r') : wd7 (c :: r) (c :: r') := congrArg (c :: ·) hr
theorem IR7 {n k l l' : Nat} {b : Option Nat} {cap : Nat} {r r' : List T} (h : l = l') (hr : wd7 r r') : wd7 (.al n b cap 0 l k :: r) (.al n b cap 0 l' k :: r') := by
 subst h
 exact congrArg (_ :: ·) hr
theorem Ew7 {o : al7} {i k : Nat} {b : Option Nat} {cap : Nat} {row row' : List T} {L : List (Nat × Ent)} (h : o i = some ⟨b, cap, k, true, [row]⟩) (hr : wd7 row row') (hs : o = ovh L o) : o = ovh ((i, ⟨b, cap, k, true, [row']⟩) :: L) o := by
 cases hr
 exact ohc h hs
def ku7 (P : Tm → al7 → Prop) (Q : Ex → St → Prop) : Ex → St → Prop := fun e s' => match e with
 | .norm => P s'.t s'.o
 | .exit i => Q (.exit i) s'
 | .ret => Q .ret s'
theorem f37 {P : Tm → al7 → Prop} {t : Tm} {o : al7} (h : P t o) : ku7 P Q .norm ⟨t, o⟩ := h
theorem Uf7 {P : Tm → al7 → Prop} {i : Nat} (h : Q (.exit i) s) : ku7 P Q (.exit i) s := h
theorem Ug7 {P : Tm → al7 → Prop} (h : Q .ret s) : ku7 P Q .ret s := h
def bJ7 (I : Nat → Tm → al7 → Prop) (n : Nat) (Q : Ex → St → Prop) : Ex → St → Prop := eX7 (fun m s => I m s.t s.o) n Q
theorem sU7 {t : Tm} {o : al7} (I : Nat → Tm → al7 → Prop) (n : Nat) (h0 : I n t o) (h : ∀ n t o, I n t o → vwp G a (bJ7 I n Q) ⟨t, o⟩) : vwp G (.loop a) Q ⟨t, o⟩ := H17 (fun m s => I m s.t s.o) n h0 fun n s' hi => h n s'.t s'.o hi
theorem IS7 {I : Nat → Tm → al7 → Prop} {n : Nat} {t : Tm} {o : al7} (m : Nat) (hm : m < n) (h : I m t o) : bJ7 I n Q .norm ⟨t, o⟩ := ⟨m, hm, h⟩
theorem IT7 {I : Nat → Tm → al7 → Prop} {n i : Nat} (h : Q (.exit i) s) : bJ7 I n Q (.exit i) s := h
theorem IU7 {I : Nat → Tm → al7 → Prop} {n : Nat} (h : Q .ret s) : bJ7 I n Q .ret s := h
def fP7 (a b : IC) : IC := .seq a b
def bk7 (id : Nat) (a : IC) : IC := .block id a
theorem IV7 {id : Nat} (P : Tm → al7 → Prop) (h1 : vwp G a (jF7 id (ku7 P Q)) s) (h2 : ∀ t o, P t o → Q .norm ⟨t, o⟩) : vwp G (bk7 id a) Q s := by
 refine ⟨fun s => P s.t s.o, ?_, fun s' h => h2 s'.t s'.o h⟩
 exact h1
theorem fX7 (P : Tm → al7 → Prop) (h1 : vwp G a (ku7 P Q) s) (h2 : ∀ t o, P t o → vwp G b Q ⟨t, o⟩) : vwp G (fP7 a b) Q s := ⟨fun s => P s.t s.o, h1, fun s' h => h2 s'.t s'.o h⟩
end
end Go.Proofs.AM
