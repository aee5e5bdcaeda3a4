/- Lemmas of the proof (R), on an abstract machine. Conditions: none. -/
import Derived.Test.YtnnfdbdheoajgaaGreatW
import Derived.Test.YtnnfdbdheoajgaaGreatE
set_option linter.unusedVariables false
namespace Go.Proofs.AM
theorem wZ7 : ∀ {cs : List T} {K : List T → Prop}, K cs → L27 cs K
 | [], K, h => h
 | c :: cs, K, h => wZ7 (cs := cs) h
theorem sj7 : ∀ {e : Option Ent} {K : Option Ent → Prop}, K e → MK7 e K
 | none, K, h => h
 | some ⟨b, cap, k, true, []⟩, K, h => h
 | some ⟨b, cap, k, true, [row]⟩, K, h => wZ7 (cs := row) h
 | some ⟨b, cap, k, true, _ :: _ :: _⟩, K, h => h
 | some ⟨b, cap, k, false, rows⟩, K, h => h
theorem ac7 {α β : Type} {f : α → HM β} : ∀ {m : HM α} {o : ah7} {K : β → ah7 → a57 → Prop}, (m.vp o fun a o' l1 => (f a).vp o' fun b o'' l2 => K b o'' (l1.1 ++ l2.1, l1.2 ++ l2.2)) → (m.bind f).vp o K
 | .ret a, o, K, h => h
 | .get n k, o, K, h => by
  simp only [HM.vp, HM.bind] at h ⊢
  split at h
  ·exact ac7 (m := k _) h
  ·exact h.elim
 | .put n e k, o, K, h => sj7 (ac7 (m := k) (i77 h))
 | .need b k, o, K, h => ⟨h.1, ac7 (m := k) h.2⟩
 | .opt x k, o, K, ⟨a, h1, h2⟩ => ⟨a, h1, ac7 (m := k a) h2⟩
theorem cb7 {α : Type} : ∀ {m : HM α} {o : ah7} {K K' : α → ah7 → a57 → Prop}, m.vp o K → (∀ a o l, K a o l → K' a o l) → m.vp o K'
 | .ret a, o, K, K', h, hk => hk _ _ _ h
 | .get n k, o, K, K', h, hk => by
  simp only [HM.vp] at h ⊢
  split at h
  ·exact cb7 (m := k _) h fun a o l => hk _ _ _
  ·exact h.elim
 | .put n e k, o, K, K', h, hk => sj7 (cb7 (m := k) (i77 h) fun a o l => hk _ _ _)
 | .need b k, o, K, K', h, hk => ⟨h.1, cb7 (m := k) h.2 hk⟩
 | .opt x k, o, K, K', ⟨a, h1, h2⟩, hk => ⟨a, h1, cb7 (m := k a) h2 hk⟩
theorem bm7 {β : Type} {n : Nat} {e : Ent} {o : ah7} {k : Ent → HM β} {K : β → ah7 → a57 → Prop} (ho : o n = some e) (h : (k e).vp o fun b o' l => K b o' (n :: l.1, l.2)) : (HM.get n k).vp o K := by
 simp only [HM.vp, ho]
 exact h
theorem af7 {β : Type} {a : β} {o : ah7} {K : β → ah7 → a57 → Prop} (h : K a o ([], [])) : (HM.ret a).vp o K := h
theorem a87 {α β : Type} {a : α} {f : α → HM β} {o : ah7} {K : β → ah7 → a57 → Prop} (h : (f a).vp o K) : ((HM.ret a).bind f).vp o K := h
theorem aU7 {β : Type} {b : Bool} {o : ah7} {k : HM β} {K : β → ah7 → a57 → Prop} (hb : b = true) (h : k.vp o K) : (HM.need b k).vp o K := ⟨hb, h⟩
theorem cX7 {α β : Type} {x : Option α} {a : α} {o : ah7} {k : α → HM β} {K : β → ah7 → a57 → Prop} (hx : x = some a) (h : (k a).vp o K) : (HM.opt x k).vp o K := ⟨a, hx, h⟩
theorem a47 {β : Type} {n : Nat} {e : Option Ent} {o : ah7} {k : HM β} {K : β → ah7 → a57 → Prop} (h : k.vp (upd o n e) fun b o' l => K b o' (l.1, n :: l.2)) : (HM.put n e k).vp o K := sj7 h
section
variable {R : Type} {r : R}
theorem itt {p : Bool} {A B : Option R} (h : (if p = true then A else B) = some r) (c : p = true) : A = some r := by rwa [if_pos c] at h
theorem itf {p : Bool} {A B : Option R} (h : (if p = true then A else B) = some r) (c : p = false) : B = some r := by rwa [if_neg (by rw [c]; decide)] at h
theorem bnd {α : Type} {x : Option α} {f : α → Option R} (h : x.bind f = some r) : ∃ a, x = some a ∧ f a = some r := Option.bind_eq_some_iff.1 h
end
def cat (a b : Str) : Option Str := if a.size + b.size ≤ 9223372036854775807 then some (a ++ b) else none
def idx {α : Type} (xs : List α) (i : Int) : Option α := if 0 ≤ i then xs[i.toNat]? else none
def CH7 (s : Str) (i : Int) : Option UInt8 := if 0 ≤ i then s.data.toList[i.toNat]? else none
def seq (a b : Str) : Bool := a.toList == b.toList
def slt (a b : Str) : Bool := Op.bytesLess a.toList b.toList
def slc {α : Type} (xs : List α) (lo hi : Int) : Option (List α) := if 0 ≤ lo ∧ lo ≤ hi ∧ hi ≤ xs.length then some ((xs.take hi.toNat).drop lo.toNat) else none
def CI7 (s : Str) (lo hi : Int) : Option Str := if 0 ≤ lo ∧ lo ≤ hi ∧ hi ≤ s.size then some (s.extract lo.toNat hi.toNat) else none
def aH7 (n : Nat) : Bool := decide (n ≤ 4294967296)
def y27 (a b : Int) : Option Int := if b ≠ 0 then some (a.tmod b) else none
def CJ7 (a b : Int) : Option Int := if b ≠ 0 then some (IntKind.i64.wrap (a.tdiv b)) else none
def Fu7 (a b : Int) : Int := IntKind.i64.wrap ((BitVec.ofInt 64 a ^^^ BitVec.ofInt 64 b).toNat : Int)
theorem a17 {α : Type} {xs : List α} {i : Int} {x : α} (h : idx xs i = some x) : 0 ≤ i ∧ xs[i.toNat]? = some x := by
 unfold idx at h
 split at h
 ·exact ⟨by assumption, h⟩
 ·cases h
section
variable {G : Gam} {t : Tm} {o : ah7} {KL : St → a57 → Prop} {d : Option Nat} {α : Type} {f : α → List T}
theorem w07 {x : Od} {xs : List α} (hx : ev t x = .ro (xs.map f)) (hk : KL ⟨aA7 t d (.v (.int .i64 xs.length)), o⟩ ([], [])) : vdo G d (.len false x) t o KL := by
 show vop t (.len false x) (fun y => KL ⟨aA7 t d y, o⟩ ([], []))
 simp only [vop, hx]
 exact ⟨xs.length, by simp, hk⟩
theorem tw7 {x : Od} {A : Option Addr} {cap : Nat} {xs : List α} (hx : ev t x = .raw A cap (xs.map f)) (hk : KL ⟨aA7 t d (.v (.int .i64 xs.length)), o⟩ ([], [])) : vdo G d (.len false x) t o KL := by
 show vop t (.len false x) (fun y => KL ⟨aA7 t d y, o⟩ ([], []))
 simp only [vop, hx]
 exact ⟨xs.length, by simp, hk⟩
theorem tx7 {e : Nat} {x : Od} {lo hi : Option Od} {A : Option Addr} {cap : Nat} {xs ys : List α} {h : Option Int} (hx : ev t x = .raw A cap (xs.map f)) (hl : ki7 (lo.map (ev t)) = some none) (hh : ki7 (hi.map (ev t)) = some h) (hs : slc xs 0 (h.getD xs.length) = some ys) (hk : KL ⟨aA7 t d (.raw A cap (ys.map f)), o⟩ ([], [])) : vdo G d (.sls e x lo hi) t o KL := by
 show ∃ y, evp t (.sls e x lo hi) = some y ∧ KL ⟨aA7 t d y, o⟩ ([], [])
 unfold slc at hs
 split at hs
 ·rename_i hc
  cases hs
  refine ⟨_, ?_, hk⟩
  simp only [evp, hx, hl, hh, List.length_map]
  rw [if_pos hc.2]
  simp [List.map_take]
 ·cases hs
theorem F87 {agg : Bool} {ks : List Nat} {x y : Od} {p : Bool} (hp : Fq7 agg ks (ev t x) (ev t y) = some p) (h : KL ⟨aA7 t d (.v (.bool p)), o⟩ ([], [])) : vdo G d (.eqs false agg ks x y) t o KL := ⟨p, p, hp, rfl, h⟩
theorem F97 {agg : Bool} {ks : List Nat} {x y : Od} {p : Bool} (hp : Fq7 agg ks (ev t x) (ev t y) = some p) (h : KL ⟨aA7 t d (.v (.bool !p)), o⟩ ([], [])) : vdo G d (.eqs true agg ks x y) t o KL := ⟨p, !p, hp, rfl, h⟩
theorem P67 {c x y : Od} (hc : ev t c = .v (.bool true)) (h : vdo G d (.mv x) t o KL) : vdo G d (.pick c x y) t o KL := by
 have h' : frc (fun z => KL ⟨aA7 t d z, o⟩ ([], [])) (ev t x) := h
 exact ⟨_, by simp only [evp, hc]; rfl, eL7 h'⟩
theorem P77 {c x y : Od} (hc : ev t c = .v (.bool false)) (h : vdo G d (.mv y) t o KL) : vdo G d (.pick c x y) t o KL := by
 have h' : frc (fun z => KL ⟨aA7 t d z, o⟩ ([], [])) (ev t y) := h
 exact ⟨_, by simp only [evp, hc]; rfl, eL7 h'⟩
theorem f57 {e : Nat} {x i : Od} {xs : List α} {k : IntKind} {j : Int} {y : α} (hx : ev t x = .ro (xs.map f)) (hi : ev t i = .v (.int k j)) (h : idx xs j = some y) (he : (f y).length = e) (hk : KL ⟨aA7 t d (.rptr (f y)), o⟩ ([], [])) : vdo G d (.iaddr e x i) t o KL := by
 obtain ⟨h1, h2⟩ := a17 h
 show vop t (.iaddr e x i) (fun y => KL ⟨aA7 t d y, o⟩ ([], []))
 simp only [vop, hx, hi]
 exact ⟨j.toNat, f y, by omega, P57 h2, he, hk⟩
theorem gk7 {e : Nat} {x i : Od} {xs : List α} {k : IntKind} {j : Int} {y : α} {n : Nat} {b : Option Nat} {cap kk : Nat} {len : Nat} (hx : ev t x = .ref n b cap 0 len kk) (hi : ev t i = .v (.int k j)) (h : idx xs j = some y) (he : e = esz kk) (hk : KL ⟨aA7 t d (.ptr n b kk j.toNat 0), o⟩ ([], [])) (hl : len = xs.length := by first | rfl | simp) : vdo G d (.iaddr e x i) t o KL := by
 subst hl
 obtain ⟨h1, h2⟩ := a17 h
 show vop t (.iaddr e x i) (fun y => KL ⟨aA7 t d y, o⟩ ([], []))
 simp only [vop, hx, hi]
 refine ⟨j.toNat, by omega, (List.getElem?_eq_some_iff.1 h2).1, he, ?_⟩
 rw [Nat.zero_add]
 exact hk
theorem BC7 {x i : Od} {s : Str} {k : IntKind} {j : Int} {c : UInt8} (hx : ev t x = .v (.string s)) (hi : ev t i = .v (.int k j)) (h : CH7 s j = some c) (hk : KL ⟨aA7 t d (.v (.int .u8 c.toNat)), o⟩ ([], [])) : vdo G d (.sidx x i) t o KL := by
 have hh : 0 ≤ j ∧ s.data.toList[j.toNat]? = some c := by
  unfold CH7 at h
  split at h
  ·exact ⟨by assumption, h⟩
  ·cases h
 show vop t (.sidx x i) (fun y => KL ⟨aA7 t d y, o⟩ ([], []))
 simp only [vop, hx, hi]
 exact ⟨j.toNat, c, by omega, hh.2, hk⟩
theorem MT7 {x y : Od} {a b s : Str} (hx : ev t x = .v (.string a)) (hy : ev t y = .v (.string b)) (h : cat a b = some s) (hk : KL ⟨aA7 t d (.v (.string s)), o⟩ ([], [])) : vdo G d (.bin .add x y) t o KL := by
 show vop t (.bin .add x y) (fun y => KL ⟨aA7 t d y, o⟩ ([], []))
 simp only [vop, hx, hy]
 refine ⟨.string s, ?_, hk⟩
 unfold cat at h
 simp only [rX7]
 split at h
 ·rename_i hh
  cases h
  rw [if_pos hh]
 ·cases h
theorem og7 {e : Nat} {x : Od} {lo hi : Option Od} {xs ys : List α} {l h : Option Int} (hx : ev t x = .ro (xs.map f)) (hl : ki7 (lo.map (ev t)) = some l) (hh : ki7 (hi.map (ev t)) = some h) (hs : slc xs (l.getD 0) (h.getD xs.length) = some ys) (he : ∀ x, (f x).length = e) (hk : KL ⟨aA7 t d (.ro (ys.map f)), o⟩ ([], [])) : vdo G d (.sls e x lo hi) t o KL := by
 show ∃ y, evp t (.sls e x lo hi) = some y ∧ KL ⟨aA7 t d y, o⟩ ([], [])
 unfold slc at hs
 split at hs
 ·rename_i hc
  cases hs
  have h2 : ((xs.map f).head?.map List.length).getD e = e := by
   cases xs with
   | nil => rfl
   | cons a as => simp [he]
  refine ⟨_, ?_, hk⟩
  simp only [evp, hx, hl, hh, List.length_map]
  rw [if_pos ⟨hc, h2⟩, List.map_drop, List.map_take]
 ·cases hs
theorem Ga7 {x : Od} {lo hi : Option Od} {s s' : Str} {l h : Option Int} (hx : ev t x = .v (.string s)) (hl : ki7 (lo.map (ev t)) = some l) (hh : ki7 (hi.map (ev t)) = some h) (hs : CI7 s (l.getD 0) (h.getD s.size) = some s') (hk : KL ⟨aA7 t d (.v (.string s')), o⟩ ([], [])) : vdo G d (.ssl x lo hi) t o KL := by
 show ∃ y, evp t (.ssl x lo hi) = some y ∧ KL ⟨aA7 t d y, o⟩ ([], [])
 unfold CI7 at hs
 split at hs
 ·rename_i hc
  cases hs
  refine ⟨_, ?_, hk⟩
  simp only [evp, hx, hl, hh]
  rw [if_pos hc]
 ·cases hs
theorem h07 {x y : Od} {k : IntKind} {a b v : Int} (hx : ev t x = .v (.int k a)) (hy : ev t y = .v (.int k b)) (h : y27 a b = some v) (hk : KL ⟨aA7 t d (.v (.int k v)), o⟩ ([], [])) : vdo G d (.bin .rem x y) t o KL := by
 show vop t (.bin .rem x y) (fun y => KL ⟨aA7 t d y, o⟩ ([], []))
 simp only [vop, hx, hy]
 refine ⟨.int k v, ?_, hk⟩
 unfold y27 at h
 split at h
 ·rename_i hb
  cases h
  simp [rX7, hb]
 ·cases h
theorem w17 {x y : Od} {a b v : Int} (hx : ev t x = .v (.int .i64 a)) (hy : ev t y = .v (.int .i64 b)) (h : CJ7 a b = some v) (hk : KL ⟨aA7 t d (.v (.int .i64 v)), o⟩ ([], [])) : vdo G d (.bin .quo x y) t o KL := by
 show vop t (.bin .quo x y) (fun y => KL ⟨aA7 t d y, o⟩ ([], []))
 simp only [vop, hx, hy]
 refine ⟨.int .i64 v, ?_, hk⟩
 unfold CJ7 at h
 split at h
 ·rename_i hb
  cases h
  simp [rX7, hb]
 ·cases h
theorem w27 {x y : Od} {a b : Int} (hx : ev t x = .v (.int .i64 a)) (hy : ev t y = .v (.int .i64 b)) (hk : KL ⟨aA7 t d (.v (.int .i64 (Fu7 a b))), o⟩ ([], [])) : vdo G d (.bin .xor x y) t o KL := by
 show vop t (.bin .xor x y) (fun y => KL ⟨aA7 t d y, o⟩ ([], []))
 simp only [vop, hx, hy]
 exact ⟨.int .i64 (Fu7 a b), by simp only [rX7, if_true]; rfl, hk⟩
def ent (b : Option Nat) (cap k : Nat) (rows : Rows) : Ent := ⟨b, cap, k, false, rows⟩
theorem oh7 {xs : List α} {i : Nat} {x : α} (h : xs[i]? = some x) : (xs.map f).getD i [] = f x := by
 rw [List.getD_eq_getElem?_getD, P57 h]
 rfl
theorem oi7 {sz : Nat} {agg : Bool} {p : Od} {n : Nat} {b : Option Nat} {cap k r c : Nat} {xs : List α} {x : α} {y : AV} (hp : ev t p = .ptr n b k r c) (ho : o n = some (ent b cap k (xs.map f))) (h : xs[r]? = some x) (hc : decide (c + sz ≤ (f x).length) = true) (hw : v17 (((f x).drop c).take sz) = false) (hy : one agg ((((f x).drop c).take sz).map uO7) = some y) (hk : KL ⟨aA7 t d y, o⟩ ([n], [])) : vdo G d (.load sz agg p) t o KL := by
 have hg : (xs.map f).getD r [] = f x := oh7 h
 have hr : r < (xs.map f).length := by rw [List.length_map]; exact (List.getElem?_eq_some_iff.1 h).1
 show (match ev t p with | .ptr .. => dP7 G d (.load sz agg p) t o KL | _ => vop t (.load sz agg p) fun x => KL ⟨aA7 t d x, o⟩ ([], []))
 rw [hp]
 intro ch
 simp only [aq7, hp]
 refine bm7 ho (a87 (aU7 ?_ (a87 ?_)))
 ·simp only [ent, hg, Bool.and_eq_true, decide_eq_true_eq]
  exact ⟨⟨⟨trivial, trivial⟩, decide_eq_true hr⟩, of_decide_eq_true hc⟩
 ·simp only [ent, hg, hw]
  exact cX7 hy (af7 hk)
def vk7 (x : AV) (o : ah7) (y : AV) (L : List Nat) : Prop := ∀ K : AV → ah7 → a57 → Prop, K y o (L, []) → (bor x).vp o K
def eB7 (xs : List AV) (o : ah7) (ys : List AV) (L : List Nat) : Prop := ∀ K : List AV → ah7 → a57 → Prop, K ys o (L, []) → (v07 xs).vp o K
def zx7 (x : T) (o : ah7) (y : T) (L : List Nat) : Prop := ∀ K : T → ah7 → a57 → Prop, K y o (L, []) → (FB7 x).vp o K
def ty7 (xs : List T) (o : ah7) (ys : List T) (L : List Nat) : Prop := ∀ K : List T → ah7 → a57 → Prop, K ys o (L, []) → (rY7 xs).vp o K
theorem BD7 {v : Value} : vk7 (.v v) o (.v v) [] := fun K h => h
theorem w37 {rows : Rows} : vk7 (.ro rows) o (.ro rows) [] := fun K h => h
theorem tz7 {A : Option Addr} {cap : Nat} {rows : Rows} : vk7 (.raw A cap rows) o (.raw A cap rows) [] := fun K h => h
theorem pQ7 {n : Nat} {b : Option Nat} {cap k len : Nat} {xs : List α} {g : α → List T} (ho : o n = some (ent b cap k (xs.map f))) (he : ∀ x, erL (f x) = some (g x)) (hl : len = xs.length) : vk7 (.lref n b cap len k) o (.raw (uM7 b) cap (xs.map g)) [n] := fun K h => by
 subst hl
 refine bm7 ho (a87 (aU7 ?_ (a87 ?_)))
 ·simp [ent]
 ·refine cX7 (a := .raw (uM7 b) cap (xs.map g)) ?_ (af7 h)
  simp only [ent]
  rw [dR7 he]
  rfl
theorem tA7 : vk7 .nil o (.ro []) [] := fun K h => h
theorem w47 {cs : List T} : vk7 (.rptr cs) o (.rptr cs) [] := fun K h => h
theorem oj7 {n : Nat} {b : Option Nat} {cap k len : Nat} {xs : List α} {g : α → List T} (ho : o n = some (ent b cap k (xs.map f))) (he : ∀ x, erL (f x) = some (g x)) (hl : len = xs.length) : vk7 (.ref n b cap 0 len k) o (.ro (xs.map g)) [n] := fun K h => by
 subst hl
 refine bm7 ho (aU7 ?_ ?_)
 ·simp [ent]
 ·refine cX7 (a := .ro (xs.map g)) ?_ (af7 h)
  simp only [ent, List.drop_zero]
  rw [show (xs.map f).take xs.length = xs.map f by rw [← List.length_map (f := f), List.take_length], dR7 he]
  rfl
theorem pR7 {n : Nat} {b : Option Nat} {cap k len : Nat} {rows : Rows} {xs : List α} {g : α → List T} (ho : o n = some ⟨b, cap, k, false, rows⟩) (hr : rows = xs.map g) (he : ∀ x, erL (g x) = some (g x)) (hl : len = xs.length) : vk7 (.ref n b cap 0 len k) o (.ro (xs.map g)) [n] := by
 subst hr
 exact oj7 ho he hl
theorem tB7 {cs ys : List AV} {L : List Nat} (h : eB7 cs o ys L) : vk7 (.agg cs) o (.agg ys) L := fun K hK => ac7 (h _ (af7 (by simpa using hK)))
theorem w57 {g : Nat} {cs ys : List AV} {L : List Nat} (h : eB7 cs o ys L) : vk7 (.fn g cs) o (.fn g ys) L := fun K hK => ac7 (h _ (af7 (by simpa using hK)))
theorem pS7 : eB7 [] o [] [] := fun K h => h
theorem ne7 {x y : AV} {xs ys : List AV} {L1 L2 : List Nat} (h : vk7 x o y L1) (hs : eB7 xs o ys L2) : eB7 (x :: xs) o (y :: ys) (L1 ++ L2) := fun K hK => ac7 (h _ (ac7 (hs _ (af7 (by simpa using hK)))))
theorem w67 {v : Value} : zx7 (.v v) o (.v v) [] := fun K h => ⟨_, rfl, h⟩
theorem tC7 {w : Bool} {k : Nat} {xs : List α} {g : α → List T} (he : ∀ x, erL (f x) = some (g x)) : zx7 (.sl w k (xs.map f)) o (.sl false (k % 16) (xs.map g)) [] := fun K h => cX7 (a := .sl false (k % 16) (xs.map g)) (by simp only [erT, dR7 he]; rfl) (af7 h)
theorem tD7 {n : Nat} {b : Option Nat} {cap k len : Nat} {xs : List α} {g : α → List T} (ho : o n = some (ent b cap k (xs.map f))) (he : ∀ x, erL (f x) = some (g x)) (hl : len = xs.length) : zx7 (.al n b cap 0 len k) o (.sl false (k % 16) (xs.map g)) [n] := fun K h => by
 subst hl
 refine bm7 ho (aU7 ?_ ?_)
 ·simp [ent]
 ·refine cX7 (a := .sl false (k % 16) (xs.map g)) ?_ (af7 h)
  simp only [ent, List.drop_zero]
  rw [show (xs.map f).take xs.length = xs.map f by rw [← List.length_map (f := f), List.take_length], dR7 he]
  rfl
theorem nf7 : ty7 [] o [] [] := fun K h => h
theorem le7 {x y : T} {xs ys : List T} {L1 L2 : List Nat} (h : zx7 x o y L1) (hs : ty7 xs o ys L2) : ty7 (x :: xs) o (y :: ys) (L1 ++ L2) := fun K hK => ac7 (h _ (ac7 (hs _ (af7 (by simpa using hK)))))
theorem tE7 {n : Nat} {b : Option Nat} {k c : Nat} {row : List T} {e : Ent} {ys : List T} {L : List Nat} (ho : o n = some e) (hb : e.b = b) (hk : e.k = k) (hr : e.rows = [row]) (h : ty7 (row.drop c) o ys L) : vk7 (.ptr n b k 0 c) o (.rptr ys) (n :: L) := fun K hK => by
 refine bm7 ho (aU7 ?_ ?_)
 ·simp [hb, hk, hr]
 ·rw [hr]
  refine a87 (ac7 (h _ (af7 ?_)))
  simpa using hK
def dS7 (xs : List (Bool × Od)) : Bool := xs.all fun x => !x.1
theorem ng7 : ∀ {xs : List (Bool × Od)} {i : Nat} {K : List (Option AV) × List In → ah7 → a57 → Prop}, dS7 xs = true → K (xs.map fun _ => none, []) o ([], []) → (iV7 t i xs).vp o K
 | [], i, K, h, hK => hK
 | (m, x) :: xs, i, K, h, hK => by
  simp only [dS7, List.all_cons, Bool.and_eq_true, Bool.not_eq_true'] at h
  obtain ⟨rfl, h⟩ := h
  exact ac7 (ng7 h (af7 hK))
theorem vl7 : ∀ {xs : List (Bool × Od)} {ys : List AV} {L : List Nat} {K : List AV → ah7 → a57 → Prop}, eB7 (xs.map fun x => ev t x.2) o ys L → K ys o (L, []) → (gX7 t xs (xs.map fun _ => none)).vp o K := by
 intro xs
 have key : ∀ xs : List (Bool × Od), gX7 t xs (xs.map fun _ => none) = v07 (xs.map fun x => ev t x.2) := by
  intro xs
  induction xs with
  | nil => rfl
  | cons x xs ih =>
   obtain ⟨m, x⟩ := x
   show (do let z ← bor (ev t x); let zs ← gX7 t xs (xs.map fun _ => none); HM.ret (z :: zs) : HM (List AV)) = _
   rw [ih]
   rfl
 intro ys L K h hK
 rw [key]
 exact h _ hK
theorem pT7 {xs : List (Bool × Od)} {ys : List AV} {L : List Nat} {K : List AV × List In → ah7 → a57 → Prop} (hn : dS7 xs = true) (h : eB7 (xs.map fun x => ev t x.2) o ys L) (hK : K (ys, []) o (L, [])) : (args t xs).vp o K :=
 ac7 (ng7 hn (ac7 (vl7 h (af7 (by simpa using hK)))))
theorem Gb7 {g : Nat} {xs : List (Bool × Od)} {as : List AV} {L : List Nat} {r : Ans} (hg : G g as [] = some r) (hn : dS7 xs = true) (ha : eB7 (xs.map fun x => ev t x.2) o as L) (hw : (f97 t xs || (dW7 (r.res.map (·.2)) && r.outs.all f17)) = true) (ho : r.outs = []) (hk : ∀ ch : Ch, (bu7 (cB7 d) ch 0 r.res).vp o fun ys o' l => KL ⟨aA7 t d (jA7 ys), o'⟩ (L ++ l.1, l.2)) : vdo G d (.call g xs) t o KL := by
 show dP7 G d (.call g xs) t o KL
 intro ch
 refine ac7 (pT7 hn ha ?_)
 refine cX7 (a := r) hg (aU7 hw (a87 ?_))
 unfold tail
 rw [ho]
 refine ac7 (af7 (ac7 (cb7 (hk ch) fun ys o' l h => af7 ?_)))
 simpa using h
theorem CK7 {fv : Od} {g : Nat} {caps cs : List AV} {xs : List (Bool × Od)} {as : List AV} {L L2 : List Nat} {r : Ans} (hf : ev t fv = .fn g caps) (hg : G g (as ++ cs) [] = some r) (hn : dS7 xs = true) (ha : eB7 (xs.map fun x => ev t x.2) o as L) (hc : eB7 caps o cs L2) (hw : ((f97 t xs && uQ7 caps) || (dW7 (r.res.map (·.2)) && r.outs.all f17)) = true) (ho : r.outs = []) (hk : ∀ ch : Ch, (bu7 (cB7 d) ch 0 r.res).vp o fun ys o' l => KL ⟨aA7 t d (jA7 ys), o'⟩ (L ++ (L2 ++ l.1), l.2)) : vdo G d (.calld fv xs) t o KL := by
 show dP7 G d (.calld fv xs) t o KL
 intro ch
 simp only [aq7, hf]
 refine ac7 (pT7 hn ha ?_)
 refine ac7 (hc _ ?_)
 refine cX7 (a := r) hg (aU7 hw (a87 ?_))
 unfold tail
 rw [ho]
 refine ac7 (af7 (ac7 (cb7 (hk ch) fun ys o' l h => af7 ?_)))
 simpa using h
structure y37 (cs : List T) (o : ah7) (cs' : List T) (o' : ah7) (l : a57) : Prop where
 out : ∀ K : List T → ah7 → a57 → Prop, K cs' o' l → (ca7 cs).vp o K
theorem CL7 : y37 [] o [] o ([], []) := ⟨fun K h => h⟩
theorem MU7 {x : Value} {cs cs' : List T} {o' : ah7} {l : a57} (h : y37 cs o cs' o' l) : y37 (.v x :: cs) o (.v x :: cs') o' l := ⟨fun K hK => ac7 (af7 (ac7 (h.out _ (af7 (by simpa using hK)))))⟩
theorem Gc7 {A : Option Addr} {cap : Nat} {rows : Rows} {cs cs' : List T} {o' : ah7} {l : a57} (h : y37 cs o cs' o' l) : y37 (.rw A cap rows :: cs) o (.rw A cap rows :: cs') o' l := ⟨fun K hK => ac7 (af7 (ac7 (h.out _ (af7 (by simpa using hK)))))⟩
theorem Gd7 {w : Bool} {k : Nat} {rows : Rows} {cs cs' : List T} {o' : ah7} {l : a57} (h : y37 cs o cs' o' l) : y37 (.sl w k rows :: cs) o (.sl w k rows :: cs') o' l := ⟨fun K hK => ac7 (af7 (ac7 (h.out _ (af7 (by simpa using hK)))))⟩
theorem Ge7 {n : Nat} {b : Option Nat} {cap k len : Nat} {rows : Rows} {cs cs' : List T} {o' : ah7} {l : a57} (ho : o n = some (ent b cap k rows)) (hl : len = rows.length) (h : y37 cs (upd o n none) cs' o' l) : y37 (.al n b cap 0 len k :: cs) o (.sl true k rows :: cs') o' (n :: l.1, n :: l.2) := by
 refine ⟨fun K hK => ?_⟩
 subst hl
 refine ac7 (bm7 ho (a87 (aU7 (by simp [ent]) (a87 (a47 (af7 ?_))))))
 refine ac7 (h.out _ (af7 ?_))
 simpa [ent] using hK
def BE7 (i : Nat) (cs : List AV) (o : ah7) (ys : List AV) (ins : List In) (o' : ah7) (l : a57) : Prop := ∀ K : List AV × List In → ah7 → a57 → Prop, K (ys, ins) o' l → (ce7 i cs).vp o K
section
variable {i : Nat} {cs ys : List AV} {ins : List In} {o' o1 : ah7} {l : a57}
theorem Gf7 : BE7 i [] o [] [] o ([], []) := fun K h => h
theorem QE7 {x : Value} (h : BE7 i cs o ys ins o' l) : BE7 i (.v x :: cs) o (.v x :: ys) ins o' l := fun K hK => ac7 (h _ (af7 (by simpa using hK)))
theorem Gg7 {n : Nat} {b : Option Nat} {cap k len : Nat} {rows : Rows} (ho : o n = some (ent b cap k rows)) (hl : len = rows.length) (h : BE7 (i + 1) cs (upd o n none) ys ins o' l) : BE7 i (.ref n b cap 0 len k :: cs) o (.io i len k :: ys) (⟨n, ent b cap k rows⟩ :: ins) o' (n :: l.1, n :: l.2) := fun K hK => by
 subst hl
 refine bm7 ho (a87 (aU7 (by simp [ent]) (a87 (a47 (a87 ?_)))))
 exact ac7 (h _ (af7 (by simpa using hK)))
theorem Gh7 {n : Nat} {b : Option Nat} {cap k : Nat} {row row' : List T} {l0 : a57} (ho : o n = some ⟨b, cap, k, true, [row]⟩) (hc : y37 row (upd o n none) row' o1 l0) (h : BE7 (i + 1) cs o1 ys ins o' l) : BE7 i (.ptr n b k 0 0 :: cs) o (.pio i k :: ys) (⟨n, ⟨b, cap, k, true, [row']⟩⟩ :: ins) o' (n :: (l0.1 ++ l.1), n :: (l0.2 ++ l.2)) := fun K hK => by
 refine bm7 ho (a87 (aU7 (by simp) (a87 (a47 (a87 ?_)))))
 exact ac7 (hc.out _ (ac7 (h _ (af7 (by simpa using hK)))))
end
def sk7 (t : Tm) (i : Nat) (xs : List (Bool × Od)) (o : ah7) (zs : List (Option AV)) (ins : List In) (o' : ah7) (l : a57) : Prop := ∀ K : List (Option AV) × List In → ah7 → a57 → Prop, K (zs, ins) o' l → (iV7 t i xs).vp o K
section
variable {i : Nat} {x : Od} {xs : List (Bool × Od)} {zs : List (Option AV)} {ins more : List In} {o' o1 : ah7} {l l1 : a57} {as : List AV} {L L1 : List Nat}
theorem Gi7 : sk7 t i [] o [] [] o ([], []) := fun K h => h
theorem CM7 (h : sk7 t i xs o zs ins o' l) : sk7 t i ((false, x) :: xs) o (none :: zs) ins o' l := fun K hK => ac7 (h _ (af7 (by simpa using hK)))
theorem CN7 {ys : List AV} {y : AV} {j : Nat} (h : BE7 i (g37 (ev t x)) o ys ins o1 l1) (hy : one (hN7 (ev t x)) ys = some y) (hj : i + ins.length = j) (h2 : sk7 t j xs o1 zs more o' l) : sk7 t i ((true, x) :: xs) o (some y :: zs) (ins ++ more) o' (l1.1 ++ l.1, l1.2 ++ l.2) := fun K hK => by
 subst hj
 exact ac7 (h _ (ac7 (cX7 hy (af7 (ac7 (h2 _ (af7 (by simpa using hK))))))))
structure hy7 (t : Tm) (xs : List (Bool × Od)) (zs : List (Option AV)) (o : ah7) (as : List AV) (L : List Nat) : Prop where
 out : ∀ K : List AV → ah7 → a57 → Prop, K as o (L, []) → (gX7 t xs zs).vp o K
theorem Gj7 : hy7 t [] [] o [] [] := ⟨fun K h => h⟩
theorem CO7 {m : Bool} {y : AV} (h : hy7 t xs zs o as L) : hy7 t ((m, x) :: xs) (some y :: zs) o (y :: as) L := ⟨fun K hK => ac7 (af7 (ac7 (h.out _ (af7 (by simpa using hK)))))⟩
theorem CP7 {m : Bool} {y : AV} (h1 : vk7 (ev t x) o y L1) (h : hy7 t xs zs o as L) : hy7 t ((m, x) :: xs) (none :: zs) o (y :: as) (L1 ++ L) := ⟨fun K hK => ac7 (h1 _ (ac7 (h.out _ (af7 (by simpa using hK)))))⟩
end
structure BkS (ins : List In) (rs : List (Option Rows)) (o o2 : ah7) (N : List Nat) : Prop where
 out : ∀ K : Unit → ah7 → a57 → Prop, K () o2 ([], N) → (mf7 ins rs).vp o K
def ok7 (as bs cs : List T) : Prop := iW7 as bs = cs
theorem Gk7 : ok7 [] [] [] := rfl
theorem MV7 {A : Option Addr} {cap : Nat} {rows : Rows} {as bs cs : List T} (h : ok7 as bs cs) : ok7 (.rw A cap rows :: as) (.v (.slice A rows.length cap) :: bs) (.rw A cap rows :: cs) := by
 unfold ok7 at h ⊢
 simp [iW7, v27, h]
theorem Gl7 {a c : T} {as bs cs : List T} (h0 : v27 a c = c) (h : ok7 as bs cs) : ok7 (a :: as) (c :: bs) (c :: cs) := by
 unfold ok7 at h ⊢
 simp [iW7, h0, h]
section
variable {is : List In} {rs : List (Option Rows)} {o2 : ah7} {N : List Nat} {n k cap : Nat} {b : Option Nat}
theorem Gm7 : BkS [] [] o o [] := ⟨fun K h => h⟩
theorem CQ7 {i : In} (h : BkS is rs o o2 N) : BkS (i :: is) (none :: rs) o o2 N := ⟨fun K hK => h.out K hK⟩
theorem CR7 {rows r : Rows} (h : BkS is rs (upd o n (some (ent b cap k r))) o2 N) : BkS (⟨n, ent b cap k rows⟩ :: is) (some r :: rs) o o2 (n :: N) := ⟨fun K hK => a47 (a87 (h.out _ hK))⟩
theorem Gn7 {row r r' : List T} (hr : ok7 row r r') (h : BkS is rs (upd o n (some ⟨b, cap, k, true, [r']⟩)) o2 N) : BkS (⟨n, ⟨b, cap, k, true, [row]⟩⟩ :: is) (some [r] :: rs) o o2 (n :: N) := ⟨fun K hK => by
 unfold ok7 at hr
 refine a47 (a87 ?_)
 have e : v37 ⟨b, cap, k, true, [row]⟩ [r] = [r'] := by simp [v37, hr]
 simp only [e]
 exact h.out _ hK⟩
end
theorem CS7 {g : Nat} {xs : List (Bool × Od)} {zs : List (Option AV)} {as : List AV} {ins : List In} {o1 : ah7} {l1 : a57} {L : List Nat} {r : Ans} (hg : G g as (ins.map fun i => (i.e.box, i.e.k, i.e.rows)) = some r) (ha : sk7 t 0 xs o zs ins o1 l1) (hl : hy7 t xs zs o1 as L) (hw : (f97 t xs || (dW7 (r.res.map (·.2)) && r.outs.all f17)) = true) {o2 : ah7} {N : List Nat} (hb : BkS ins r.outs o1 o2 N) (hk : ∀ ch : Ch, (bu7 (cB7 d) ch 0 r.res).vp o2 fun ys o' l => KL ⟨aA7 t d (jA7 ys), o'⟩ (l1.1 ++ (L ++ l.1), l1.2 ++ (N ++ l.2))) : vdo G d (.call g xs) t o KL := by
 show dP7 G d (.call g xs) t o KL
 intro ch
 refine ac7 (ac7 (ha _ (ac7 (hl.out _ (af7 ?_)))))
 refine cX7 (a := r) hg (aU7 hw (a87 ?_))
 unfold tail
 refine ac7 (hb.out _ (ac7 (cb7 (hk ch) fun ys o' l h => af7 ?_)))
 simpa using h
section
variable {dd : Nat} {ch : Ch} {j : Nat} {cs : List T} {K : List AV → ah7 → a57 → Prop}
theorem BF7 (h : K [] o ([], [])) : (eI7 dd ch j []).vp o K := h
theorem L37 {x : Value} (h : (eI7 dd ch (j + 1) cs).vp o fun ys o' l => K (.v x :: ys) o' l) : (eI7 dd ch j (.v x :: cs)).vp o K :=
 ac7 (af7 (ac7 (cb7 h fun ys o' l hh => af7 (by simpa using hh))))
theorem Go7 {k : Nat} {row : List T} (h : (eI7 dd ch (j + 1) cs).vp (upd o (dd * 8 + j) (some ⟨(ch j).1, 1, k, true, [row]⟩)) fun ys o' l => K (.ptr (dd * 8 + j) (ch j).1 k 0 0 :: ys) o' (l.1, (dd * 8 + j) :: l.2)) : (eI7 dd ch j (.bx k row :: cs)).vp o K :=
 ac7 (a47 (af7 (ac7 (cb7 h fun ys o' l hh => af7 (by simpa using hh)))))
theorem Gp7 {k : Nat} {rows : Rows} (h : (eI7 dd ch (j + 1) cs).vp o fun ys o' l => K (.ro rows :: ys) o' l) : (eI7 dd ch j (.sl false k rows :: cs)).vp o K :=
 ac7 (af7 (ac7 (cb7 h fun ys o' l hh => af7 (by simpa using hh))))
theorem vm7 {k : Nat} {xs : List α} (h : (eI7 dd ch (j + 1) cs).vp (upd o (dd * 8 + j) (some (ent (ch j).1 (ch j).2 k (xs.map f)))) fun ys o' l => K (.ref (dd * 8 + j) (ch j).1 (ch j).2 0 xs.length k :: ys) o' (l.1, (dd * 8 + j) :: l.2)) : (eI7 dd ch j (.sl true k (xs.map f) :: cs)).vp o K := by
 refine ac7 (ac7 (a47 (af7 (af7 ?_))))
 refine ac7 (cb7 h fun ys o' l hh => af7 ?_)
 simpa using hh
variable {rs : List (Bool × List T)}
theorem w77 (h : K [] o ([], [])) : (bu7 dd ch j []).vp o K := h
theorem tF7 {r : aF7} (h : (eI7 dd ch (j + 1 + 1) []).vp (upd (upd o (dd * 8 + j) (some (ent (ch j).1 (ch j).2 115 (r.commits.map (am7 true))))) (dd * 8 + (j + 1)) (some (ent (ch (j + 1)).1 (ch (j + 1)).2 130 (r.heads.map aW7)))) fun ys o' l => K (.ref (dd * 8 + j) (ch j).1 (ch j).2 0 r.commits.length 115 :: .ref (dd * 8 + (j + 1)) (ch (j + 1)).1 (ch (j + 1)).2 0 r.heads.length 130 :: ys) o' (l.1, (dd * 8 + j) :: (dd * 8 + (j + 1)) :: l.2)) : (eI7 dd ch j (od7 true r)).vp o K :=
 vm7 (f := am7 true) (xs := r.commits) (k := 115) (cs := [T.sl true 130 (List.map aW7 r.heads)]) (vm7 (f := aW7) (xs := r.heads) (k := 130) (cs := []) h)
theorem tG7 {r : Feat} (h : (eI7 dd ch (j + 1 + 1 + 1 + 1) []).vp (upd (upd o (dd * 8 + (j + 1 + 1)) (some (ent (ch (j + 1 + 1)).1 (ch (j + 1 + 1)).2 66 (r.shape.pts.map ePt)))) (dd * 8 + (j + 1 + 1 + 1)) (some (ent (ch (j + 1 + 1 + 1)).1 (ch (j + 1 + 1 + 1)).2 82 (r.tags.map bb7)))) fun ys o' l => K (.v (.string r.id) :: .v (.int .i64 r.shape.kind) :: .ref (dd * 8 + (j + 1 + 1)) (ch (j + 1 + 1)).1 (ch (j + 1 + 1)).2 0 r.shape.pts.length 66 :: .ref (dd * 8 + (j + 1 + 1 + 1)) (ch (j + 1 + 1 + 1)).1 (ch (j + 1 + 1 + 1)).2 0 r.tags.length 82 :: ys) o' (l.1, (dd * 8 + (j + 1 + 1)) :: (dd * 8 + (j + 1 + 1 + 1)) :: l.2)) : (eI7 dd ch j (aj7 true r)).vp o K :=
 L37 (x := .string r.id) (cs := [.v (.int .i64 r.shape.kind), T.sl true 66 (r.shape.pts.map ePt), T.sl true 82 (r.tags.map bb7)]) (L37 (x := .int .i64 r.shape.kind) (cs := [T.sl true 66 (r.shape.pts.map ePt), T.sl true 82 (r.tags.map bb7)]) (vm7 (f := ePt) (xs := r.shape.pts) (k := 66) (cs := [T.sl true 82 (r.tags.map bb7)]) (vm7 (f := bb7) (xs := r.tags) (k := 82) (cs := []) h)))
theorem w87 {c : T} (h : (eI7 dd ch j [c]).vp o fun xs o' l1 => ∃ x, xs = [x] ∧ (bu7 dd ch (j + 1) rs).vp o' fun ys o'' l2 => K (x :: ys) o'' (l1.1 ++ l2.1, l1.2 ++ l2.2)) : (bu7 dd ch j ((false, [c]) :: rs)).vp o K := by
 refine ac7 (cb7 h fun xs o' l1 hh => ?_)
 obtain ⟨x, rfl, hh⟩ := hh
 refine ac7 (cX7 (a := x) rfl (af7 (ac7 (cb7 hh fun ys o'' l2 h3 => af7 ?_))))
 simpa using h3
theorem w97 {cs : List T} (h : (eI7 dd ch j cs).vp o fun xs o' l1 => (bu7 dd ch (j + cs.length) rs).vp o' fun ys o'' l2 => K (.agg xs :: ys) o'' (l1.1 ++ l2.1, l1.2 ++ l2.2)) : (bu7 dd ch j ((true, cs) :: rs)).vp o K := by
 refine ac7 (cb7 h fun xs o' l1 hh => ?_)
 refine ac7 (cX7 (a := .agg xs) rfl (af7 (ac7 (cb7 hh fun ys o'' l2 h3 => af7 ?_))))
 simpa using h3
end
theorem lf7 (hp : ∀ x, eZ7 [f x] = true) : ∀ xs : List α, eZ7 (xs.map f) = true
 | [] => rfl
 | x :: xs => by
  have h1 := hp x
  have h2 := lf7 hp xs
  simp only [eZ7, List.map_cons, List.all_cons, List.all_nil, Bool.and_true, Bool.and_eq_true] at h1 h2 ⊢
  exact ⟨h1, h2⟩
theorem di7 {xs : List α} : (xs.map f).take xs.length = xs.map f := by rw [← List.length_map (f := f), List.take_length]
theorem zy7 {xs : List α} {b : Option Nat} {c k : Nat} : List.take xs.length (ent b c k (xs.map f)).rows = xs.map f := di7
theorem hz7 {n : Nat} (h : aH7 n = true) : n ≤ uP7 := of_decide_eq_true h
def Src (k : Nat) (mv : Bool) (host : Option Nat) (y : AV) (o : ah7) (rows : Rows) (o' : ah7) (l : a57) : Prop := ∀ K : Rows → ah7 → a57 → Prop, K rows o' l → (jz7 k mv host y).vp o K
theorem CT7 {k : Nat} {mv : Bool} {host : Option Nat} : Src k mv host .nil o [] o ([], []) := fun K h => h
theorem h37 {k : Nat} {mv : Bool} {host : Option Nat} {xs : List α} (hp : ∀ x, eZ7 [f x] = true) (he : ∀ x, (f x).length = esz k) : Src k mv host (.ro (xs.map f)) o (xs.map f) o ([], []) := fun K h => by
 refine aU7 ?_ h
 rw [lf7 hp, Bool.true_and]
 cases xs with
 | nil => exact decide_eq_true rfl
 | cons x xs => exact decide_eq_true (by simp [he])
theorem eN7 {k n len : Nat} {b : Option Nat} {cap : Nat} {host : Option Nat} {rows : Rows} (ho : o n = some (ent b cap k rows)) (hh : decide (host ≠ some n) = true) (hl : len = rows.length) : Src k true host (.ref n b cap 0 len k) o rows (upd o n none) ([n], [n]) := fun K h => by
 refine bm7 ho (aU7 ?_ ?_)
 ·simp only [ent, hl, hh]; simp
 ·refine a47 (af7 ?_)
  simp only [ent, List.drop_zero, hl, List.take_length]
  exact h
theorem BG7 {k n len : Nat} {b : Option Nat} {cap : Nat} {host : Option Nat} {xs : List α} (ho : o n = some (ent b cap k (xs.map f))) (hl : len = xs.length) (hp : ∀ x, eZ7 [f x] = true) : Src k false host (.ref n b cap 0 len k) o (xs.map f) o ([n], []) := fun K h => by
 refine bm7 ho (aU7 ?_ ?_)
 ·simp only [ent, hl]; simp
 ·refine aU7 ?_ (af7 ?_)
  ·simp only [ent, List.drop_zero, hl, di7, lf7 hp]
  ·simp only [ent, List.drop_zero, hl, di7]
   exact h
theorem dX7 {k : Nat} {mv : Bool} {a b : Od} {n : Nat} {b' : Option Nat} {cap len : Nat} {xs ys : List α} {rows : Rows} {o' : ah7} {l : a57} (ha : ev t a = .ref n b' cap 0 len k) (hs : Src k mv (some n) (ev t b) o rows o' l) (hr : rows = ys.map f) (ho : o' n = some (ent b' cap k (xs.map f))) (hl : len = xs.length) (hf : aH7 (xs ++ ys).length = true) (hk : ∀ b2 cap2, KL ⟨aA7 t d (.ref n b2 cap2 0 (xs ++ ys).length k), upd o' n (some (ent b2 cap2 k ((xs ++ ys).map f)))⟩ (l.1 ++ [n], l.2 ++ [n])) : vdo G d (.app k mv a b) t o KL := by
 show dP7 G d (.app k mv a b) t o KL
 intro ch
 simp only [aq7, ha]
 have hf' := hz7 hf
 refine ac7 (hs _ (bm7 ho (aU7 ?_ (a47 (af7 ?_)))))
 ·simp only [ent, hl, hr, List.length_map] at hf' ⊢
  simp only [List.length_append] at hf'
  simp [hf']
 ·simp only [ent, hl, hr, di7, List.length_map]
  have := hk (ch 0).1 (ch 0).2
  rw [List.length_append, List.map_append] at this
  exact this
theorem Gq7 {k : Nat} {mv : Bool} {a b : Od} {ys : List α} {rows : Rows} {o' : ah7} {l : a57} (ha : ev t a = .nil) (hs : Src k mv none (ev t b) o rows o' l) (hr : rows = ys.map f) (hf : aH7 ys.length = true) (hk : ∀ b2 cap2, KL ⟨aA7 t d (.ref (cB7 d * 8) b2 cap2 0 ys.length k), upd o' (cB7 d * 8) (some (ent b2 cap2 k (ys.map f)))⟩ (l.1, l.2 ++ [cB7 d * 8])) : vdo G d (.app k mv a b) t o KL := by
 show dP7 G d (.app k mv a b) t o KL
 intro ch
 simp only [aq7, ha]
 have hf' := hz7 hf
 refine ac7 (hs _ (aU7 ?_ (a47 (af7 ?_))))
 ·simp only [hr, List.length_map]
  simp [hf']
 ·simp only [hr, List.length_map, List.append_nil]
  exact hk (ch 0).1 (ch 0).2
theorem CU7 {k : Nat} {z : List T} {n m : Od} {len : Int} {k1 k2 : IntKind} {x : α} (hn : ev t n = .v (.int k1 len)) (hm : ev t m = .v (.int k2 len)) (h0 : decide (0 ≤ len) = true) (hf : aH7 len.toNat = true) (hz : z = f x) (hk : ∀ b, KL ⟨aA7 t d (.ref (cB7 d * 8) (some b) len.toNat 0 (List.replicate len.toNat x).length k), upd o (cB7 d * 8) (some (ent (some b) len.toNat k ((List.replicate len.toNat x).map f)))⟩ ([], [cB7 d * 8])) : vdo G d (.mks k z n m) t o KL := by
 show dP7 G d (.mks k z n m) t o KL
 intro ch
 have hf' := hz7 hf
 have h0' := of_decide_eq_true h0
 simp only [aq7, hn, hm, asI]
 refine aU7 ?_ (a47 (af7 ?_))
 ·simp [h0', hf']
 ·have := hk ((ch 0).1.getD 0)
  rw [List.map_replicate, ← hz, List.length_replicate] at this
  exact this
theorem Gr7 {sz : Nat} {p : Od} {n c k cap : Nat} {b : Option Nat} {bx : Bool} {row : List T} {xs : List AV} (hp : ev t p = .ptr n b k 0 c) (ho : o n = some ⟨b, cap, k, bx, [row]⟩) (hc : decide (c + sz ≤ row.length) = true) (hv : n17 ((row.drop c).take sz) = some xs) (hk : KL ⟨aA7 t d (.agg xs), o⟩ ([n], [])) : vdo G d (.ldr sz p) t o KL := by
 show dP7 G d (.ldr sz p) t o KL
 intro ch
 simp only [aq7, hp]
 refine bm7 ho (a87 (aU7 ?_ (a87 (cX7 (a := .agg xs) ?_ (af7 hk)))))
 ·simpa using hc
 ·simp only [List.getD_cons_zero, hv]
  rfl
def Tot (box : Bool) (host j : Nat) (k : Option Nat) (x : AV) (o : ah7) (c : T) (o' : ah7) (l : a57) : Prop := ∀ K : T → ah7 → a57 → Prop, K c o' l → (toT box host j k x).vp o K
def Tos (box : Bool) (host j : Nat) (ks : List (Option Nat)) (xs : List AV) (o : ah7) (cs : List T) (o' : ah7) (l : a57) : Prop := ∀ K : List T → ah7 → a57 → Prop, K cs o' l → (s87 box host j ks xs).vp o K
section
variable {box : Bool} {host j : Nat} {o1 o2 : ah7}
theorem CV7 {v : Value} (h : v.oneCell' = true) : Tot box host j none (.v v) o (.v v) o ([], []) := fun K hK => ⟨h, hK⟩
theorem BH7 {k : Nat} {rows : Rows} : Tot box host j (some k) (.ro rows) o (.sl false (k % 16) rows) o ([], []) := fun K hK => hK
theorem CW7 {k : Nat} {A : Option Addr} {cap : Nat} {rows : Rows} : Tot true host j (some k) (.raw A cap rows) o (.rw A cap rows) o ([], []) := fun K hK => hK
theorem CX7 {k : Nat} {A : Option Addr} {cap : Nat} {rows : Rows} : Tot false host j (some k) (.raw A cap rows) o (.sl false (k % 16) rows) o ([], []) := fun K hK => hK
theorem xa7 {k : Nat} : Tot false host j (some k) .nil o (.sl true k []) o ([], []) := fun K hK => hK
theorem sl7 {kk n len : Nat} {b : Option Nat} {cap : Nat} {rows : Rows} (ho : o n = some (ent b cap kk rows)) (hl : len = rows.length) (hn : decide (n ≠ host) = true) : Tot false host j (some kk) (.ref n b cap 0 len kk) o (.sl true kk rows) (upd o n none) ([n], [n]) := fun K hK => by
 subst hl
 refine bm7 ho (a87 (aU7 ?_ (a87 (a47 (af7 ?_)))))
 ·simp only [ent, hn]; simp
 ·simp only [ent, List.take_length]
  exact hK
theorem ol7 : Tos box host j [] [] o [] o ([], []) := fun K hK => hK
theorem km7 {k : Option Nat} {ks : List (Option Nat)} {x : AV} {xs : List AV} {c : T} {cs : List T} {l1 l2 : a57} (h : Tot box host j k x o c o1 l1) (hs : Tos box host (j + 1) ks xs o1 cs o2 l2) : Tos box host j (k :: ks) (x :: xs) o (c :: cs) o2 (l1.1 ++ l2.1, l1.2 ++ l2.2) := fun K hK => ac7 (h _ (ac7 (hs _ (af7 (by simpa using hK)))))
end
theorem CY7 {ks : List (Option Nat)} {p y : Od} {n : Nat} {b : Option Nat} {cap k r c : Nat} {xs : List α} {x x' : α} {cs : List T} {o' : ah7} {l : a57} (hp : ev t p = .ptr n b k r c) (ho : o n = some (ent b cap k (xs.map f))) (hv : Tos false n c ks (g37 (ev t y)) o cs o' l) (ho' : o' n = some (ent b cap k (xs.map f))) (h : xs[r]? = some x) (hc : decide (c + ks.length ≤ (f x).length) = true) (hx : bL7 (f x) c cs = f x') (hk : KL ⟨aA7 t d .junk, upd o' n (some (ent b cap k ((xs.set r x').map f)))⟩ (n :: (l.1 ++ [n]), l.2 ++ [n])) : vdo G d (.store ks p y) t o KL := by
 show dP7 G d (.store ks p y) t o KL
 intro ch
 have hg : (xs.map f).getD r [] = f x := oh7 h
 have hr : r < (xs.map f).length := by rw [List.length_map]; exact (List.getElem?_eq_some_iff.1 h).1
 simp only [aq7, hp]
 refine bm7 ho (a87 (ac7 (hv _ (bm7 ho' (a87 (aU7 ?_ (a47 (af7 ?_))))))))
 ·simp only [ent, hg]
  have := of_decide_eq_true hc
  simp [this]
  simpa using hr
 ·simp only [ent, hg, hx]
  have : (xs.map f).set r (f x') = (xs.set r x').map f := by rw [List.map_set]
  rw [this]
  exact hk
theorem MW7 {ks : List (Option Nat)} {p y : Od} {n : Nat} {b : Option Nat} {cap k r c : Nat} {xs : List α} {x x' : α} {row cs : List T} {o' : ah7} {l : a57} (hp : ev t p = .ptr n b k r c) (ho : o n = some ⟨b, cap, k, false, (xs.map f).set r row⟩) (hv : Tos false n c ks (g37 (ev t y)) o cs o' l) (ho' : o' n = some ⟨b, cap, k, false, (xs.map f).set r row⟩) (h : xs[r]? = some x) (hc : decide (c + ks.length ≤ row.length) = true) (hx : bL7 row c cs = f x') (hk : KL ⟨aA7 t d .junk, upd o' n (some (ent b cap k ((xs.set r x').map f)))⟩ (n :: (l.1 ++ [n]), l.2 ++ [n])) : vdo G d (.store ks p y) t o KL := by
 show dP7 G d (.store ks p y) t o KL
 intro ch
 have hr : r < xs.length := (List.getElem?_eq_some_iff.1 h).1
 have hg : ((xs.map f).set r row).getD r [] = row := by
  rw [List.getD_eq_getElem?_getD, List.getElem?_set_self (by simpa using hr)]
  rfl
 simp only [aq7, hp]
 refine bm7 ho (a87 (ac7 (hv _ (bm7 ho' (a87 (aU7 ?_ (a47 (af7 ?_))))))))
 ·simp only [hg]
  have := of_decide_eq_true hc
  simp [this]
  simpa using hr
 ·simp only [hg, hx]
  have : ((xs.map f).set r row).set r (f x') = (xs.set r x').map f := by rw [List.set_set, List.map_set]
  rw [this]
  exact hk
section
variable {box : Bool} {host j : Nat} {o1 o2 : ah7}
theorem CZ7 {k : Nat} : Tot true host j (some k) .nil o (.al (cn host j) none 0 0 0 k) (upd o (cn host j) (some (ent none 0 k []))) ([], [cn host j]) := fun K hK => a47 (af7 hK)
theorem C07 {kk k n off len cap : Nat} {b : Option Nat} {rows : Rows} (ho : o n = some (ent b cap k rows)) (hn : decide (n ≠ host) = true) : Tot true host j (some kk) (.ref n b cap off len k) o (.al (cn host j) b cap off len k) (upd (upd o n none) (cn host j) (some (ent b cap k rows))) ([n], [n, cn host j]) := fun K hK => by
 refine bm7 ho (a87 (aU7 ?_ (a87 (a47 (a87 (a47 (af7 ?_)))))))
 ·simp only [ent, hn]; simp
 ·exact hK
def Zop (host j : Nat) (z : List T) (o : ah7) (cs : List T) (o' : ah7) (l : a57) : Prop := ∀ K : List T → ah7 → a57 → Prop, K cs o' l → (uN7 host j z).vp o K
theorem C17 : Zop host j [] o [] o ([], []) := fun K hK => hK
theorem MX7 {x : Value} {z cs : List T} {l : a57} (h : Zop host (j + 1) z o cs o1 l) : Zop host j (.v x :: z) o (.v x :: cs) o1 l := fun K hK => ac7 (af7 (ac7 (h _ (af7 (by simpa using hK)))))
theorem Gs7 {k : Nat} {z cs : List T} {l : a57} (h : Zop host (j + 1) z (upd o (cn host j) (some (ent none 0 k []))) cs o1 l) : Zop host j (.sl true k [] :: z) o (.al (cn host j) none 0 0 0 k :: cs) o1 (l.1, cn host j :: l.2) := fun K hK => by
 refine ac7 (a47 (af7 (ac7 (h _ (af7 ?_)))))
 simpa using hK
end
theorem Gt7 {k : Nat} {ks : List (Option Nat)} {y : Od} {cs : List T} {o' : ah7} {l : a57} (hv : Tos true (cB7 d * 8) 0 ks (g37 (ev t y)) o cs o' l) (hk : ∀ b, KL ⟨aA7 t d (.ptr (cB7 d * 8) (some b) k 0 0), upd o' (cB7 d * 8) (some ⟨some b, 1, k, true, [cs]⟩)⟩ (l.1, l.2 ++ [cB7 d * 8])) : vdo G d (.box k ks y) t o KL := by
 show dP7 G d (.box k ks y) t o KL
 intro ch
 have := hk ((ch 0).1.getD 0)
 exact ac7 (hv _ (a47 (af7 (by simpa using this))))
theorem Gu7 {k : Nat} {ks : List (Option Nat)} {z : List T} {y : Od} {cs : List T} {o' : ah7} {l : a57} (hv : Tos false (cB7 d * 8) 0 ks (g37 (ev t y)) o cs o' l) (hk : ∀ b, KL ⟨aA7 t d (.ref (cB7 d * 8) (some b) 1 0 1 k), upd o' (cB7 d * 8) (some ⟨some b, 1, k, false, [cs]⟩)⟩ (l.1, l.2 ++ [cB7 d * 8])) : vdo G d (.lit k ks z 1 [(0, y)]) t o KL := by
 show dP7 G d (.lit k ks z 1 [(0, y)]) t o KL
 intro ch
 have := hk ((ch 0).1.getD 0)
 simp only [aq7, n07, List.replicate]
 refine ac7 (ac7 ?_)
 refine aU7 (by rfl) ?_
 refine af7 ?_
 refine ac7 (hv _ ?_)
 refine af7 ?_
 refine a47 (af7 ?_)
 simpa using this
theorem Gv7 {k : Nat} {z cs : List T} {o' : ah7} {l : a57} (hv : Zop (cB7 d * 8) 0 z o cs o' l) (hk : ∀ b, KL ⟨aA7 t d (.ptr (cB7 d * 8) (some b) k 0 0), upd o' (cB7 d * 8) (some ⟨some b, 1, k, true, [cs]⟩)⟩ (l.1, l.2 ++ [cB7 d * 8])) : vdo G d (.alloc k z) t o KL := by
 show dP7 G d (.alloc k z) t o KL
 intro ch
 have := hk ((ch 0).1.getD 0)
 exact ac7 (hv _ (a47 (af7 (by simpa using this))))
def Fv7 (row : List T) (c : Nat) (cs row' : List T) : Prop := c + cs.length ≤ row.length ∧ bL7 row c cs = row'
theorem jc7 {x : T} : ∀ {cs row : List T} {c : Nat}, bL7 (x :: row) (c + 1) cs = x :: bL7 row c cs
 | [], row, c => rfl
 | y :: cs, row, c => by
  show bL7 (x :: row.set c y) (c + 1 + 1) cs = _
  rw [jc7]
  rfl
theorem Gw7 {row : List T} : Fv7 row 0 [] row := ⟨by simp, rfl⟩
theorem Gx7 {x y : T} {row cs row' : List T} (h : Fv7 row 0 cs row') : Fv7 (x :: row) 0 (y :: cs) (y :: row') := by
 obtain ⟨h1, h2⟩ := h
 refine ⟨by simp at h1 ⊢; omega, ?_⟩
 show bL7 (y :: row) (0 + 1) cs = _
 rw [jc7, h2]
theorem C27 {x : T} {row cs row' : List T} {c : Nat} (h : Fv7 row c cs row') : Fv7 (x :: row) (c + 1) cs (x :: row') := by
 obtain ⟨h1, h2⟩ := h
 refine ⟨by simp at h1 ⊢; omega, ?_⟩
 rw [jc7, h2]
theorem Gy7 {ks : List (Option Nat)} {p y : Od} {n : Nat} {b : Option Nat} {cap k c : Nat} {bx : Bool} {row row' cs : List T} {o' : ah7} {l : a57} (hp : ev t p = .ptr n b k 0 c) (ho : o n = some ⟨b, cap, k, bx, [row]⟩) (hv : Tos bx n c ks (g37 (ev t y)) o cs o' l) (ho' : o' n = some ⟨b, cap, k, bx, [row]⟩) (hx : Fv7 row c cs row') (hc : decide (ks.length = cs.length) = true) (hk : KL ⟨aA7 t d .junk, upd o' n (some ⟨b, cap, k, bx, [row']⟩)⟩ (n :: (l.1 ++ [n]), l.2 ++ [n])) : vdo G d (.store ks p y) t o KL := by
 show dP7 G d (.store ks p y) t o KL
 intro ch
 obtain ⟨h1, h2⟩ := hx
 have hc := of_decide_eq_true hc
 simp only [aq7, hp]
 refine bm7 ho (a87 (ac7 (hv _ (bm7 ho' (a87 (aU7 ?_ (a47 (af7 ?_))))))))
 ·simp
  omega
 ·simp only [List.getD_cons_zero, List.set_cons_zero, h2]
  exact hk
theorem pU7 {i : Nat} {x y : AV} : aA7 (aA7 t (some i) x) (some i) y = aA7 t (some i) y := by
 funext j
 simp only [aA7]
 split <;> rfl
theorem BI7 {dd : Nat} {ch : Ch} {op : Opx} {x : AV} (h : evp t op = some x) {K : AV → ah7 → a57 → Prop} (hK : K x o ([], [])) : (aq7 G dd ch t op).vp o K := by
 cases op with
 | load sz agg p =>
  simp only [evp] at h
  split at h
  ·rename_i cs hcs
   split at h
   ·rename_i hle
    simp only [aq7, hcs, hle, if_true]
    exact cX7 h (af7 hK)
   ·cases h
  ·cases h
 | _ => first | (cases h; done) | exact cX7 h (af7 hK)
theorem nh7 {i : Nat} {op : Opx} {f : AV → HM AV} {op' : Opx} (hw : hOp op' = true) (hs : ∀ ch, aq7 G i ch t op' = (aq7 G i ch t op).bind f) (h : vdo G (some i) op t o fun s l1 => (f (s.t i)).vp s.o fun y o' l2 => KL ⟨aA7 s.t (some i) y, o'⟩ (l1.1 ++ l2.1, l1.2 ++ l2.2)) : vdo G (some i) op' t o KL := by
 have hi : ∀ x, aA7 t (some i) x i = x := fun x => by simp [aA7]
 have key : dP7 G (some i) op' t o KL := by
  intro ch
  show (aq7 G i ch t op').vp o _
  rw [hs]
  have hv : ∀ {K : AV → Prop}, vop t op K → ∃ x, evp t op = some x ∧ K x := lb7
  have pur : (vop t op fun x => (f ((aA7 t (some i) x) i)).vp o fun y o' l2 => KL ⟨aA7 (aA7 t (some i) x) (some i) y, o'⟩ ((([], []) : a57).1 ++ l2.1, (([], []) : a57).2 ++ l2.2)) → ((aq7 G i ch t op).bind f).vp o fun x o' l => KL ⟨aA7 t (some i) x, o'⟩ l := fun h => by
   obtain ⟨x, h1, h2⟩ := hv h
   rw [hi] at h2
   simp only [pU7] at h2
   exact ac7 (BI7 (K := fun a o' l1 => (f a).vp o' fun b o'' l2 => KL ⟨aA7 t (some i) b, o''⟩ (l1.1 ++ l2.1, l1.2 ++ l2.2)) h1 h2)
  have hea : (dP7 G (some i) op t o fun s l1 => (f (s.t i)).vp s.o fun y o' l2 => KL ⟨aA7 s.t (some i) y, o'⟩ (l1.1 ++ l2.1, l1.2 ++ l2.2)) → ((aq7 G i ch t op).bind f).vp o fun x o' l => KL ⟨aA7 t (some i) x, o'⟩ l := fun h => by
   refine ac7 (cb7 (K' := fun x o' l1 => (f x).vp o' fun y o'' l2 => KL ⟨aA7 t (some i) y, o''⟩ (l1.1 ++ l2.1, l1.2 ++ l2.2)) (h ch) fun x o' l hh => ?_)
   simp only [hi] at hh
   simp only [pU7] at hh
   exact hh
  unfold vdo at h
  split at h
  ·split at h
   ·exact hea h
   ·exact pur h
  ·split at h
   ·exact hea h
   ·exact pur h
 unfold vdo
 split
 ·cases hw
 ·rw [hw]
  exact key
theorem dn7 {i : Nat} {op : Opx} (h : vdo G (some i) op t o fun s l1 => (e17 (s.t i)).vp s.o fun y o' l2 => KL ⟨aA7 s.t (some i) y, o'⟩ (l1.1 ++ l2.1, l1.2 ++ l2.2)) : vdo G (some i) (.frz op) t o KL := nh7 rfl (fun _ => rfl) h
theorem zz7 {i m k : Nat} {op : Opx} (h : vdo G (some i) op t o fun s l1 => (kj7 m k (s.t i)).vp s.o fun y o' l2 => KL ⟨aA7 s.t (some i) y, o'⟩ (l1.1 ++ l2.1, l1.2 ++ l2.2)) : vdo G (some i) (.ren m k op) t o KL := nh7 rfl (fun _ => rfl) h
def Frz (x : AV) (o : ah7) (y : AV) (o' : ah7) (l : a57) : Prop := ∀ K : AV → ah7 → a57 → Prop, K y o' l → (e17 x).vp o K
def Gz7 (x : List AV) (o : ah7) (y : List AV) (o' : ah7) (l : a57) : Prop := ∀ K : List AV → ah7 → a57 → Prop, K y o' l → (rZ7 x).vp o K
section
variable {o1 o2 : ah7} {l1 l2 : a57}
theorem MY7 {v : Value} : Frz (.v v) o (.v v) o ([], []) := fun K h => h
theorem MZ7 {rows : Rows} : Frz (.ro rows) o (.ro rows) o ([], []) := fun K h => h
theorem BJ7 : Frz .nil o (.ro []) o ([], []) := fun K h => h
theorem xb7 {n : Nat} {b : Option Nat} {cap k len : Nat} {xs : List α} {g : α → List T} (ho : o n = some (ent b cap k (xs.map f))) (he : ∀ x, erL (f x) = some (g x)) (hl : len = xs.length) : Frz (.ref n b cap 0 len k) o (.ro (xs.map g)) (upd o n none) ([n], [n]) := fun K h => by
 subst hl
 refine bm7 ho (a87 (aU7 ?_ (a87 (a47 (a87 (cX7 (a := xs.map g) ?_ (af7 h)))))))
 ·simp [ent]
 ·simp only [ent, List.drop_zero]
  rw [show (xs.map f).take xs.length = xs.map f by rw [← List.length_map (f := f), List.take_length], dR7 he]
theorem GA7 {n : Nat} {b : Option Nat} {cap k : Nat} (ho : o n = some (ent b cap k [])) : Frz (.ref n b cap 0 0 k) o (.ro []) (upd o n none) ([n], [n]) := xb7 (α := Nat) (f := fun _ => []) (g := fun _ => []) (xs := []) ho (fun _ => rfl) rfl
theorem BK7 {cs ys : List AV} (h : Gz7 cs o ys o1 l1) : Frz (.agg cs) o (.agg ys) o1 l1 := fun K hK => ac7 (h _ (af7 (by simpa using hK)))
theorem GB7 {cs ys : List AV} (h : Gz7 cs o ys o1 l1) : Frz (.tup cs) o (.tup ys) o1 l1 := fun K hK => ac7 (h _ (af7 (by simpa using hK)))
theorem xc7 : Gz7 [] o [] o ([], []) := fun K h => h
theorem h87 {x y : AV} {xs ys : List AV} (h : Frz x o y o1 l1) (hs : Gz7 xs o1 ys o2 l2) : Gz7 (x :: xs) o (y :: ys) o2 (l1.1 ++ l2.1, l1.2 ++ l2.2) := fun K hK => ac7 (h _ (ac7 (hs _ (af7 (by simpa using hK)))))
theorem L47 {m k0 n : Nat} {b : Option Nat} {cap off len k : Nat} {x : AV} {e : Ent} {K : AV → ah7 → a57 → Prop} (hx : x = .ref n b cap off len k) (ho : o n = some e) (hk : K (.ref m b cap off len k) (upd (upd o n none) m (some e)) ([n], [n, m])) : (kj7 m k0 x).vp o K := by
 subst hx
 exact bm7 ho (a87 (a47 (a87 (a47 (af7 hk)))))
theorem M07 {m k0 : Nat} {x : AV} {K : AV → ah7 → a57 → Prop} (hx : x = .nil) (hk : K (.ref m none 0 0 0 k0) (upd o m (some (ent none 0 k0 []))) ([], [m])) : (kj7 m k0 x).vp o K := by
 subst hx
 exact a47 (af7 hk)
end
theorem C37 {i j : Nat} {op : Opx} (h : vdo G (some i) op t o fun s l1 => (j47 j (s.t i)).vp s.o fun y o' l2 => KL ⟨aA7 s.t (some i) y, o'⟩ (l1.1 ++ l2.1, l1.2 ++ l2.2)) : vdo G (some i) (.pfz j op) t o KL := nh7 rfl (fun _ => rfl) h
theorem C47 {i : Nat} {op : Opx} (h : vdo G (some i) op t o fun s l1 => (mc7 (s.t i)).vp s.o fun y o' l2 => KL ⟨aA7 s.t (some i) y, o'⟩ (l1.1 ++ l2.1, l1.2 ++ l2.2)) : vdo G (some i) (.trn op) t o KL := nh7 rfl (fun _ => rfl) h
theorem M17 {i : Nat} {ns : List Nat} {op : Opx} (h : vdo G (some i) op t o fun s l1 => (mb7 ns (s.t i)).vp s.o fun y o' l2 => KL ⟨aA7 s.t (some i) y, o'⟩ (l1.1 ++ l2.1, l1.2 ++ l2.2)) : vdo G (some i) (.unr ns op) t o KL := nh7 rfl (fun _ => rfl) h
theorem GC7 {i : Nat} {op : Opx} (h : vdo G (some i) op t o fun s l1 => (HM.ret (r07 (s.t i))).vp s.o fun y o' l2 => KL ⟨aA7 s.t (some i) y, o'⟩ (l1.1 ++ l2.1, l1.2 ++ l2.2)) : vdo G (some i) (.rawl op) t o KL := nh7 (f := fun x => .ret (r07 x)) rfl (fun _ => rfl) h
theorem L57 {γ : Type} {f g : γ → List T} {n j k cap off len : Nat} {b : Option Nat} {xs : List γ} {x : AV} {rest : List AV} {K : AV → ah7 → a57 → Prop} (hp : dr7 j (xs.map f) = some (xs.map g)) (hx : g37 x = .ref n b cap off len k :: rest) (ho : o n = some (ent b cap k (xs.map f))) (hk : K x (upd o n (some (ent b cap k (xs.map g)))) ([n], [n])) : (j47 j x).vp o K := by
 unfold j47
 rw [hx]
 refine bm7 ho (a87 (aU7 (by simp [ent]) (a87 (ac7 (cX7 (a := xs.map g) (by simpa [ent] using hp) (af7 (a47 (af7 ?_))))))))
 simpa [ent] using hk
theorem P87 {γ : Type} {f : γ → List T} {n k cap len : Nat} {b : Option Nat} {xs ys : List γ} {j : Int} {x : AV} {K : AV → ah7 → a57 → Prop} (hs : slc xs 0 j = some ys) (hx : x = .ref n b cap 0 len k) (ho : o n = some (ent b cap k (xs.map f))) (hl : len = ys.length) (hk : K (.ref n b cap 0 len k) (upd o n (some (ent b cap k (ys.map f)))) ([n], [n])) : (mc7 x).vp o K := by
 subst hx
 subst hl
 unfold slc at hs
 split at hs
 ·rename_i hc
  cases hs
  have e : (xs.map f).take ((xs.take j.toNat).drop (0 : Int).toNat).length = ((xs.take j.toNat).drop (0 : Int).toNat).map f := by
   simp [List.map_take]
  refine bm7 ho (a87 (aU7 ?_ (a87 (a47 (af7 ?_)))))
  ·simp [ent]
   omega
  ·simp only [ent, e]
   exact hk
 ·cases hs
theorem GD7 {e : Nat} {x : Od} {lo hi : Option Od} {n len kk cap : Nat} {b : Option Nat} {xs ys : List α} {j : Int} (hs : slc xs 0 j = some ys) (hx : ev t x = .ref n b cap 0 len kk) (hl : ki7 (lo.map (ev t)) = some none) (hh : ki7 (hi.map (ev t)) = some (some j)) (he : e = esz kk) (hlen : len = xs.length) (hk : KL ⟨aA7 t d (.ref n b cap 0 ys.length kk), o⟩ ([], [])) : vdo G d (.sls e x lo hi) t o KL := by
 show ∃ y, evp t (.sls e x lo hi) = some y ∧ KL ⟨aA7 t d y, o⟩ ([], [])
 unfold slc at hs
 split at hs
 ·rename_i hc
  cases hs
  refine ⟨_, ?_, hk⟩
  simp only [evp, hx, hl, hh, Option.getD_none, Option.getD_some]
  rw [if_pos ⟨he, by simp, hc.2.1, by omega⟩]
  have e1 : ((xs.take j.toNat).drop (0 : Int).toNat).length = j.toNat := by
   simp
   omega
  rw [e1]
  simp
 ·cases hs
def UnL (ns : List Nat) (xs : List AV) (o : ah7) (ys : List AV) (L : List Nat) : Prop := ∀ K : List AV → ah7 → a57 → Prop, K ys o (L, []) → (Cf7 ns xs).vp o K
theorem BL7 {xs : List AV} : UnL [] xs o xs [] := fun K h => by
 cases xs <;> exact h
theorem BM7 {n m : Nat} {ns : List Nat} {xs ys : List AV} {b : Option Nat} {cap off len k : Nat} {L : List Nat} (h : UnL ns xs o ys L) : UnL (m :: ns) (.ref n b cap off len k :: xs) o (.ref n b cap off len k :: ys) L := fun K hK => ac7 (af7 (ac7 (h _ (af7 (by simpa using hK)))))
theorem BN7 {n : Nat} {ns : List Nat} {xs ys : List AV} {A : Option Addr} {b : Option Nat} {cap len k : Nat} {rows : Rows} {L : List Nat} (ho : o n = some (ent b cap k rows)) (hA : A = uM7 b) (hl : len = rows.length) (h : UnL ns xs o ys L) : UnL (n :: ns) (.v (.slice A len cap) :: xs) o (.ref n b cap 0 len k :: ys) (n :: L) := fun K hK => by
 subst hA
 subst hl
 refine ac7 ?_
 refine bm7 ho (a87 (aU7 (by simp [ent]) (a87 (af7 ?_))))
 refine ac7 (h _ (af7 ?_))
 simpa [ent] using hK
theorem P97 {ns : List Nat} {x : AV} {xs ys : List AV} {L : List Nat} {K : AV → ah7 → a57 → Prop} (hx : x = .agg xs) (h : UnL ns xs o ys L) (hk : K (.agg ys) o (L, [])) : (mb7 ns x).vp o K := by
 subst hx
 exact ac7 (h _ (af7 (by simpa using hk)))
theorem QF7 {x : AV} {xs ys : List AV} {K : AV → ah7 → a57 → Prop} (hx : x = .agg xs) (hy : xs.map uR7 = ys) (hk : K (.agg ys) o ([], [])) : (HM.ret (r07 x)).vp o K := by
 subst hx
 subst hy
 exact hk
def QG7 (p : AV) (o o' : ah7) (l : a57) : Prop := ∀ (x : AV) (K : AV → ah7 → a57 → Prop), K x o' l → (mg7 p x).vp o K
def fd7 (p : AV) (KL : St → a57 → Prop) (s : St) (l1 : a57) : Prop := ∃ o' l2, QG7 p s.o o' l2 ∧ KL ⟨s.t, o'⟩ (l1.1 ++ l2.1, l1.2 ++ l2.2)
theorem GE7 {p : Od} {op : Opx} (h : vdo G d op t o (fd7 (ev t p) KL)) : vdo G d (.shut p op) t o KL := by
 show dP7 G d (.shut p op) t o KL
 intro ch
 show ((aq7 G (cB7 d) ch t op).bind fun x => mg7 (ev t p) x).vp o _
 have hv : ∀ {K : AV → Prop}, vop t op K → ∃ x, evp t op = some x ∧ K x := lb7
 have pur : (vop t op fun x => fd7 (ev t p) KL ⟨aA7 t d x, o⟩ ([], [])) → ((aq7 G (cB7 d) ch t op).bind fun x => mg7 (ev t p) x).vp o fun x o' l => KL ⟨aA7 t d x, o'⟩ l := fun h => by
  obtain ⟨x, h1, o', l2, h2, h3⟩ := hv h
  exact ac7 (BI7 (K := fun a o' l1 => (mg7 (ev t p) a).vp o' fun b o'' l2 => KL ⟨aA7 t d b, o''⟩ (l1.1 ++ l2.1, l1.2 ++ l2.2)) h1 (h2 _ _ h3))
 have hea : dP7 G d op t o (fd7 (ev t p) KL) → ((aq7 G (cB7 d) ch t op).bind fun x => mg7 (ev t p) x).vp o fun x o' l => KL ⟨aA7 t d x, o'⟩ l := fun h =>
  ac7 (cb7 (h ch) fun x o' l ⟨o2, l2, h2, h3⟩ => h2 _ _ h3)
 unfold vdo at h
 split at h
 ·split at h
  ·exact hea h
  ·exact pur h
 ·split at h
  ·exact hea h
  ·exact pur h
theorem GF7 {β γ : Type} {f : γ → List T} {g : β → List T} {p : Od} {n r c k k2 cap : Nat} {b : Option Nat} {xs : List γ} {x : γ} {ys : List β} {rest : List T} (hx : xs[r]? = some x) (hp : ev t p = .ptr n b k r c) (ho : o n = some (ent b cap k (xs.map f))) (hf : (f x).drop c = .sl true k2 (ys.map g) :: rest) (hk : ∀ bb cc, KL ⟨aA7 t d (.ref (cB7 d * 8 + 0) bb cc 0 ys.length k2), upd (upd o (cB7 d * 8 + 0) (some (ent bb cc k2 (ys.map g)))) n (some ⟨b, cap, k, false, (xs.map f).set r ((f x).set c (.al (cB7 d * 8 + 0) bb cc 0 ys.length k2))⟩)⟩ ([n], [cB7 d * 8 + 0, n])) : vdo G d (.load 1 false p) t o KL := by
 have h : dP7 G d (.load 1 false p) t o KL := by
  intro ch
  have hr : r < xs.length := (List.getElem?_eq_some_iff.1 hx).1
  have e : (xs.map f).getD r [] = f x := oh7 hx
  have hlt : c + 1 ≤ (f x).length := by
   rcases Nat.lt_or_ge c (f x).length with h | h
   ·exact h
   ·rw [List.drop_eq_nil_of_le h] at hf
    cases hf
  simp only [aq7, hp]
  refine bm7 ho (a87 (aU7 ?_ (a87 ?_)))
  ·simp only [ent, e]
   simp
   exact ⟨hr, hlt⟩
  ·simp only [ent, e, hf, List.take_succ_cons, List.take_zero]
   have := hk (ch 0).1 (ch 0).2
   refine ac7 (ac7 (a47 (af7 (af7 ?_))))
   simp only [List.length_map]
   refine ac7 (cX7 (a := .ref (cB7 d * 8 + 0) (ch 0).1 (ch 0).2 0 ys.length k2) rfl (af7 (a47 (af7 ?_))))
   exact this
 unfold vdo
 simp only [hp]
 exact h
def Giv (k : Option Nat) (x : AV) (o : ah7) (c : T) (o' : ah7) : Prop := ∀ K : T → ah7 → a57 → Prop, (∀ l, K c o' l) → (pf7 k x).vp o K
def L67 (ks : List (Option Nat)) (xs : List AV) (o : ah7) (cs : List T) (o' : ah7) : Prop := ∀ K : List T → ah7 → a57 → Prop, (∀ l, K cs o' l) → (jB7 ks xs).vp o K
def Clo (c : T) (o : ah7) (c' : T) (o' : ah7) : Prop := ∀ K : T → ah7 → a57 → Prop, (∀ l, K c' o' l) → (pd7 c).vp o K
def C57 (cs : List T) (o : ah7) (cs' : List T) (o' : ah7) : Prop := ∀ K : List T → ah7 → a57 → Prop, (∀ l, K cs' o' l) → (ca7 cs).vp o K
def M27 (t : Tm) (r : Nat ⊕ Nat × Nat) (ks : List (Option Nat)) (o : ah7) (x : Bool × List T) (o' : ah7) : Prop := ∀ K : Bool × List T → ah7 → a57 → Prop, (∀ l, K x o' l) → (gI7 t r ks).vp o K
def Fw7 (t : Tm) (r : List (Nat ⊕ Nat × Nat)) (ks : List (List (Option Nat))) (o : ah7) (x : List (Bool × List T)) (o' : ah7) : Prop := ∀ K : List (Bool × List T) → ah7 → a57 → Prop, (∀ l, K x o' l) → (ds7 t r ks).vp o K
section
variable {k : Option Nat} {ks : List (Option Nat)} {o1 o2 o' : ah7}
theorem M37 {v : Value} (h : v.oneCell' = true) : Giv none (.v v) o (.v v) o := fun K hK => ⟨h, hK _⟩
theorem C67 {k : Nat} {A : Option Addr} {cap : Nat} {rows : Rows} : Giv (some k) (.raw A cap rows) o (.v (.slice A rows.length cap)) o := fun K hK => hK _
theorem C77 {k : Nat} : Giv (some k) .nil o (.sl true k []) o := fun K hK => hK _
theorem GG7 {k : Nat} {rows : Rows} : Giv (some k) (.ro rows) o (.sl false (k % 16) rows) o := fun K hK => hK _
theorem xd7 {kk n len : Nat} {b : Option Nat} {cap : Nat} {rows : Rows} (ho : o n = some (ent b cap kk rows)) (hl : len = rows.length) : Giv k (.ref n b cap 0 len kk) o (.sl true kk rows) (upd o n none) := fun K hK => by
 subst hl
 have h : (zg7 (.ref n b cap 0 rows.length kk)).vp o K := by
  refine bm7 ho (aU7 (by simp [ent]) (a47 (af7 ?_)))
  simp only [ent, List.take_length]
  exact hK _
 cases k <;> exact h
theorem GH7 {kk n : Nat} {b : Option Nat} {row row' : List T} {o1 : ah7} (ho : o n = some ⟨b, 1, kk, true, [row]⟩) (h : C57 row (upd o n none) row' o1) : Giv k (.ptr n b kk 0 0) o (.bx kk row') o1 := fun K hK => by
 have : pf7 k (.ptr n b kk 0 0) = zg7 (.ptr n b kk 0 0) := by cases k <;> rfl
 rw [this]
 refine bm7 ho (a87 (aU7 (by simp) (a87 (a47 (a87 ?_)))))
 exact ac7 (h _ fun l => af7 (hK _))
theorem tH7 : L67 [] [] o [] o := fun K hK => hK _
theorem pV7 {x : AV} {xs : List AV} {c : T} {cs : List T} (h : Giv k x o c o1) (hs : L67 ks xs o1 cs o2) : L67 (k :: ks) (x :: xs) o (c :: cs) o2 := fun K hK => ac7 (h _ fun l => ac7 (hs _ fun l2 => af7 (hK _)))
theorem C87 {v : Value} : Clo (.v v) o (.v v) o := fun K hK => hK _
theorem xe7 {A : Option Addr} {cap : Nat} {rows : Rows} : Clo (.rw A cap rows) o (.rw A cap rows) o := fun K hK => hK _
theorem xf7 {w : Bool} {k : Nat} {rows : Rows} : Clo (.sl w k rows) o (.sl w k rows) o := fun K hK => hK _
theorem tI7 {kk n len : Nat} {b : Option Nat} {cap : Nat} {rows : Rows} (ho : o n = some (ent b cap kk rows)) (hl : len = rows.length) : Clo (.al n b cap 0 len kk) o (.sl true kk rows) (upd o n none) := fun K hK => by
 subst hl
 refine bm7 ho (aU7 (by simp [ent]) (a47 (af7 ?_)))
 simp only [ent, List.take_length]
 exact hK _
theorem kn7 : C57 [] o [] o := fun K hK => hK _
theorem h97 {c c' : T} {cs cs' : List T} (h : Clo c o c' o1) (hs : C57 cs o1 cs' o2) : C57 (c :: cs) o (c' :: cs') o2 := fun K hK => ac7 (h _ fun l => ac7 (hs _ fun l2 => af7 (hK _)))
theorem GI7 {n : Nat} {x : AV} {cs : List T} {g : Bool} (hx : t n = x) (hg : hN7 x = g) (h : L67 ks (g37 x) o cs o') : M27 t (.inl n) ks o (g, cs) o' := fun K hK => by
 subst hx
 subst hg
 exact ac7 (h _ fun l => af7 (hK _))
theorem M47 {n m sz k : Nat} {b : Option Nat} {e : Ent} {row cs : List T} (hx : t n = .ptr m b k 0 0) (ho : o m = some e) (hb : e.b = b) (hk : e.k = k) (hr : e.rows = [row]) (hz : row.length = sz) (hbx : e.box = true) (h : C57 row (upd o m none) cs o') : M27 t (.inr (n, sz)) ks o (true, cs) o' := fun K hK => by
 simp only [gI7, hx]
 refine bm7 ho (aU7 ?_ (a47 (a87 ?_)))
 ·simp [hb, hk, hr, hz, hbx]
 ·rw [hr]
  exact ac7 (h _ fun l => af7 (hK _))
theorem tJ7 : Fw7 t [] [] o [] o := fun K hK => hK _
theorem pW7 {r : Nat ⊕ Nat × Nat} {rs : List (Nat ⊕ Nat × Nat)} {kss : List (List (Option Nat))} {x : Bool × List T} {xs : List (Bool × List T)} (h : M27 t r ks o x o1) (hs : Fw7 t rs kss o1 xs o2) : Fw7 t (r :: rs) (ks :: kss) o (x :: xs) o2 := fun K hK => ac7 (h _ fun l => ac7 (hs _ fun l2 => af7 (hK _)))
def zA7 (bs : Nat → Option Nat × Nat) (lc : Nat → Nat) (i : Nat) (ins : List (Bool × Nat × Rows)) (as : List (Option Rows)) (o o' : ah7) : Prop := ∀ K : List (Option Rows) → ah7 → a57 → Prop, (∀ l, K as o' l) → (kH7 bs lc i ins as).vp o K
section
variable {bs : Nat → Option Nat × Nat} {lc : Nat → Nat} {i j : Nat} {ins : List (Bool × Nat × Rows)} {as : List (Option Rows)}
theorem BO7 : zA7 bs lc i [] [] o o := fun K h => af7 (h _)
theorem C97 {x : Bool × Nat × Rows} (h : zA7 bs lc (i + 1) ins as o o') : zA7 bs lc i (x :: ins) (none :: as) o o' := fun K hK => ac7 (h _ fun l => af7 (hK _))
theorem Da7 {k : Nat} {rows0 rows : Rows} (hj : lc i = j) (ho : o j = some (ent (bs i).1 (bs i).2 k rows)) (h : zA7 bs lc (i + 1) ins as (upd o j none) o') : zA7 bs lc i ((false, k, rows0) :: ins) (some rows :: as) o o' := fun K hK => by
 subst hj
 refine bm7 ho (a87 (aU7 (by simp [ent]) (a87 (a47 (a87 ?_)))))
 exact ac7 (af7 (ac7 (h _ fun l => af7 (hK _))))
theorem GJ7 {k : Nat} {rows0 : Rows} {row row' row2 : List T} (hj : lc i = j) (ho : o j = some ⟨(bs i).1, (bs i).2, k, true, [row]⟩) (hc : C57 row (upd o j none) row' o1) (hs : row'.map wa7 = row2) (h : zA7 bs lc (i + 1) ins as o1 o') : zA7 bs lc i ((true, k, rows0) :: ins) (some [row2] :: as) o o' := fun K hK => by
 subst hj
 subst hs
 refine bm7 ho (a87 (aU7 (by simp) (a87 (a47 (a87 ?_)))))
 exact ac7 (ac7 (hc _ fun l => af7 (ac7 (h _ fun l => af7 (hK _)))))
end
theorem GK7 {fn : IFn} {kss : List (List (Option Nat))} {bs : Nat → Option Nat × Nat} {ins : List (Bool × Nat × Rows)} {an : Ans} {xs : List (Bool × List T)} (ho : zA7 bs fn.lc 0 ins an.outs o o1) (h : Fw7 t fn.res kss o1 xs o') (hx : xs = an.res) : jL7 fn kss bs ins an ⟨t, o⟩ := by
 refine ac7 (ho _ fun l => ac7 (h _ fun l => af7 ⟨hx, rfl⟩))
end
def ovr : List (Nat × AV) → Tm → Tm
 | [], t => t
 | (i, x) :: L, t => aA7 (ovr L t) (some i) x
def ovh : List (Nat × Ent) → ah7 → ah7
 | [], o => o
 | (i, x) :: L, o => upd (ovh L o) i (some x)
theorem ovn : t = ovr [] t := rfl
theorem ovc {i : Nat} {x : AV} {L : List (Nat × AV)} (h : t i = x) (hs : t = ovr L t) : t = ovr ((i, x) :: L) t := by
 simp only [ovr]
 rw [← hs]
 exact QC7 h
theorem Db7 {i n k l l' : Nat} {b : Option Nat} {cap : Nat} {L : List (Nat × AV)} (h : t i = .ref n b cap 0 l k) (hl : l = l') (hs : t = ovr L t) : t = ovr ((i, .ref n b cap 0 l' k) :: L) t := ovc (by rw [h, hl]) hs
theorem ohn : o = ovh [] o := rfl
theorem ohc {i : Nat} {x : Ent} {L : List (Nat × Ent)} (h : o i = some x) (hs : o = ovh L o) : o = ovh ((i, x) :: L) o := by
 simp only [ovh]
 rw [← hs]
 exact QD7 h
end
section
variable {G : Gam} {Q : Ex → St → Prop} {s : St} {a b : IC}
def vn7 (r r' : List T) : Prop := r = r'
theorem GL7 : vn7 [] [] := rfl
theorem Qa7 {c : T} {r r' : List T} (hr : vn7 r r') : vn7 (c :: r) (c :: r') := congrArg (c :: ·) hr
theorem GM7 {n k l l' : Nat} {b : Option Nat} {cap : Nat} {r r' : List T} (h : l = l') (hr : vn7 r r') : vn7 (.al n b cap 0 l k :: r) (.al n b cap 0 l' k :: r') := by
 subst h
 exact congrArg (_ :: ·) hr
theorem Dc7 {o : ah7} {i k : Nat} {b : Option Nat} {cap : Nat} {row row' : List T} {L : List (Nat × Ent)} (h : o i = some ⟨b, cap, k, true, [row]⟩) (hr : vn7 row row') (hs : o = ovh L o) : o = ovh ((i, ⟨b, cap, k, true, [row']⟩) :: L) o := by
 cases hr
 exact ohc h hs
def lg7 (P : Tm → ah7 → Prop) (Q : Ex → St → Prop) : Ex → St → Prop := fun e s' => match e with
 | .norm => P s'.t s'.o
 | .exit i => Q (.exit i) s'
 | .ret => Q .ret s'
theorem cL7 {P : Tm → ah7 → Prop} {t : Tm} {o : ah7} (h : P t o) : lg7 P Q .norm ⟨t, o⟩ := h
theorem Qb7 {P : Tm → ah7 → Prop} {i : Nat} (h : Q (.exit i) s) : lg7 P Q (.exit i) s := h
theorem Qc7 {P : Tm → ah7 → Prop} (h : Q .ret s) : lg7 P Q .ret s := h
def bO7 (I : Nat → Tm → ah7 → Prop) (n : Nat) (Q : Ex → St → Prop) : Ex → St → Prop := f47 (fun m s => I m s.t s.o) n Q
theorem fe7 {t : Tm} {o : ah7} (I : Nat → Tm → ah7 → Prop) (n : Nat) (h0 : I n t o) (h : ∀ n t o, I n t o → vwp G a (bO7 I n Q) ⟨t, o⟩) : vwp G (.loop a) Q ⟨t, o⟩ := FX7 (fun m s => I m s.t s.o) n h0 fun n s' hi => h n s'.t s'.o hi
theorem gl7 {I : Nat → Tm → ah7 → Prop} {n : Nat} {t : Tm} {o : ah7} (m : Nat) (hm : m < n) (h : I m t o) : bO7 I n Q .norm ⟨t, o⟩ := ⟨m, hm, h⟩
theorem GN7 {I : Nat → Tm → ah7 → Prop} {n i : Nat} (h : Q (.exit i) s) : bO7 I n Q (.exit i) s := h
theorem GO7 {I : Nat → Tm → ah7 → Prop} {n : Nat} (h : Q .ret s) : bO7 I n Q .ret s := h
def eH7 (a b : IC) : IC := .seq a b
def bU7 (id : Nat) (a : IC) : IC := .block id a
theorem lh7 {id : Nat} (P : Tm → ah7 → Prop) (h1 : vwp G a (j57 id (lg7 P Q)) s) (h2 : ∀ t o, P t o → Q .norm ⟨t, o⟩) : vwp G (bU7 id a) Q s := by
 refine ⟨fun s => P s.t s.o, ?_, fun s' h => h2 s'.t s'.o h⟩
 exact h1
theorem dv7 (P : Tm → ah7 → Prop) (h1 : vwp G a (lg7 P Q) s) (h2 : ∀ t o, P t o → vwp G b Q ⟨t, o⟩) : vwp G (eH7 a b) Q s := ⟨fun s => P s.t s.o, h1, fun s' h => h2 s'.t s'.o h⟩
end
end Go.Proofs.AM
