/- A part of the proof of 'FnExactPackSizeSaid' (R): lemmas on an abstract machine for the program's functions. Conditions: none. -/
import Derived.Test.YthimhbjbpeheoaaW
import Derived.Test.YthimhbjbpeheoaaE
set_option linter.unusedVariables false
namespace Go.Proofs.AM
theorem frcL_mk : ∀ {cs : List T} {K : List T → Prop}, K cs → frcL cs K
  | [], K, h => h
  | c :: cs, K, h => frcL_mk (cs := cs) h
theorem frcE_mk : ∀ {e : Option Ent} {K : Option Ent → Prop}, K e → frcE e K
  | none, K, h => h
  | some ⟨b, cap, k, true, []⟩, K, h => h
  | some ⟨b, cap, k, true, [row]⟩, K, h => frcL_mk (cs := row) h
  | some ⟨b, cap, k, true, _ :: _ :: _⟩, K, h => h
  | some ⟨b, cap, k, false, rows⟩, K, h => h
theorem vp_bind {α β : Type} {f : α → HM β} : ∀ {m : HM α} {o : Heap} {K : β → Heap → LogV → Prop}, (m.vp o fun a o' l1 => (f a).vp o' fun b o'' l2 => K b o'' (l1.1 ++ l2.1, l1.2 ++ l2.2)) → (m.bind f).vp o K
  | .ret a, o, K, h => h
  | .get n k, o, K, h => by
    simp only [HM.vp, HM.bind] at h ⊢
    split at h
    · exact vp_bind (m := k _) h
    · exact h.elim
  | .put n e k, o, K, h => frcE_mk (vp_bind (m := k) (frcE_sound h))
  | .need b k, o, K, h => ⟨h.1, vp_bind (m := k) h.2⟩
  | .opt x k, o, K, ⟨a, h1, h2⟩ => ⟨a, h1, vp_bind (m := k a) h2⟩
theorem vp_mono {α : Type} : ∀ {m : HM α} {o : Heap} {K K' : α → Heap → LogV → Prop}, m.vp o K → (∀ a o l, K a o l → K' a o l) → m.vp o K'
  | .ret a, o, K, K', h, hk => hk _ _ _ h
  | .get n k, o, K, K', h, hk => by
    simp only [HM.vp] at h ⊢
    split at h
    · exact vp_mono (m := k _) h fun a o l => hk _ _ _
    · exact h.elim
  | .put n e k, o, K, K', h, hk => frcE_mk (vp_mono (m := k) (frcE_sound h) fun a o l => hk _ _ _)
  | .need b k, o, K, K', h, hk => ⟨h.1, vp_mono (m := k) h.2 hk⟩
  | .opt x k, o, K, K', ⟨a, h1, h2⟩, hk => ⟨a, h1, vp_mono (m := k a) h2 hk⟩
theorem vp_ask {n : Nat} {e : Ent} {o : Heap} {K : Ent → Heap → LogV → Prop} (ho : o n = some e) (h : K e o ([n], [])) : (ask n).vp o K := by
  simp only [ask, HM.vp, ho]
  exact h
theorem vp_get {β : Type} {n : Nat} {e : Ent} {o : Heap} {k : Ent → HM β} {K : β → Heap → LogV → Prop} (ho : o n = some e) (h : (k e).vp o fun b o' l => K b o' (n :: l.1, l.2)) : (HM.get n k).vp o K := by
  simp only [HM.vp, ho]
  exact h
theorem vp_ret {β : Type} {a : β} {o : Heap} {K : β → Heap → LogV → Prop} (h : K a o ([], [])) : (HM.ret a).vp o K := h
theorem vp_rb {α β : Type} {a : α} {f : α → HM β} {o : Heap} {K : β → Heap → LogV → Prop} (h : (f a).vp o K) : ((HM.ret a).bind f).vp o K := h
theorem vp_need {β : Type} {b : Bool} {o : Heap} {k : HM β} {K : β → Heap → LogV → Prop} (hb : b = true) (h : k.vp o K) : (HM.need b k).vp o K := ⟨hb, h⟩
theorem vp_opt {α β : Type} {x : Option α} {a : α} {o : Heap} {k : α → HM β} {K : β → Heap → LogV → Prop} (hx : x = some a) (h : (k a).vp o K) : (HM.opt x k).vp o K := ⟨a, hx, h⟩
theorem vp_put {β : Type} {n : Nat} {e : Option Ent} {o : Heap} {k : HM β} {K : β → Heap → LogV → Prop} (h : k.vp (upd o n e) fun b o' l => K b o' (l.1, n :: l.2)) : (HM.put n e k).vp o K := frcE_mk h
section
variable {R : Type} {r : R}
theorem itt {p : Bool} {A B : Option R} (h : (if p = true then A else B) = some r) (c : p = true) : A = some r := by rwa [if_pos c] at h
theorem itf {p : Bool} {A B : Option R} (h : (if p = true then A else B) = some r) (c : p = false) : B = some r := by rwa [if_neg (by rw [c]; decide)] at h
theorem bnd {α : Type} {x : Option α} {f : α → Option R} (h : x.bind f = some r) : ∃ a, x = some a ∧ f a = some r := Option.bind_eq_some_iff.1 h
theorem nonee {P : Prop} (h : (none : Option R) = some r) : P := by cases h
end
def cat (a b : Str) : Option Str := if a.size + b.size ≤ 9223372036854775807 then some (a ++ b) else none
def idx {α : Type} (xs : List α) (i : Int) : Option α := if 0 ≤ i then xs[i.toNat]? else none
def bidx (s : Str) (i : Int) : Option UInt8 := if 0 ≤ i then s.data.toList[i.toNat]? else none
def seq (a b : Str) : Bool := a.toList == b.toList
def slt (a b : Str) : Bool := Op.bytesLess a.toList b.toList
def slc {α : Type} (xs : List α) (lo hi : Int) : Option (List α) := if 0 ≤ lo ∧ lo ≤ hi ∧ hi ≤ xs.length then some ((xs.take hi.toNat).drop lo.toNat) else none
def sslc (s : Str) (lo hi : Int) : Option Str := if 0 ≤ lo ∧ lo ≤ hi ∧ hi ≤ s.size then some (s.extract lo.toNat hi.toNat) else none
def fits (n : Nat) : Bool := decide (n ≤ 4294967296)
theorem idx_get {α : Type} {xs : List α} {i : Int} {x : α} (h : idx xs i = some x) : 0 ≤ i ∧ xs[i.toNat]? = some x := by
  unfold idx at h
  split at h
  · exact ⟨by assumption, h⟩
  · cases h
section
variable {G : Gam} {t : Tm} {o : Heap} {KL : St → LogV → Prop} {d : Option Nat} {α : Type} {f : α → List T}
theorem r_lenro {x : Od} {xs : List α} (hx : ev t x = .ro (xs.map f)) (hk : KL ⟨updT t d (.v (.int .i64 xs.length)), o⟩ ([], [])) : vdo G d (.len false x) t o KL := by
  show vop t (.len false x) (fun y => KL ⟨updT t d y, o⟩ ([], []))
  simp only [vop, hx]
  exact ⟨xs.length, by simp, hk⟩
theorem r_eq0 {agg : Bool} {ks : List Nat} {x y : Od} {p : Bool} (hp : eqAV agg ks (ev t x) (ev t y) = some p) (h : KL ⟨updT t d (.v (.bool p)), o⟩ ([], [])) : vdo G d (.eqs false agg ks x y) t o KL := ⟨p, p, hp, rfl, h⟩
theorem r_eq1 {agg : Bool} {ks : List Nat} {x y : Od} {p : Bool} (hp : eqAV agg ks (ev t x) (ev t y) = some p) (h : KL ⟨updT t d (.v (.bool !p)), o⟩ ([], [])) : vdo G d (.eqs true agg ks x y) t o KL := ⟨p, !p, hp, rfl, h⟩
theorem r_pt {c x y : Od} (hc : ev t c = .v (.bool true)) (h : vdo G d (.mv x) t o KL) : vdo G d (.pick c x y) t o KL := by
  have h' : frc (fun z => KL ⟨updT t d z, o⟩ ([], [])) (ev t x) := h
  exact ⟨_, by simp only [evp, hc]; rfl, frc_sound h'⟩
theorem r_pf {c x y : Od} (hc : ev t c = .v (.bool false)) (h : vdo G d (.mv y) t o KL) : vdo G d (.pick c x y) t o KL := by
  have h' : frc (fun z => KL ⟨updT t d z, o⟩ ([], [])) (ev t y) := h
  exact ⟨_, by simp only [evp, hc]; rfl, frc_sound h'⟩
theorem r_iro {e : Nat} {x i : Od} {xs : List α} {k : IntKind} {j : Int} {y : α} (hx : ev t x = .ro (xs.map f)) (hi : ev t i = .v (.int k j)) (h : idx xs j = some y) (he : (f y).length = e) (hk : KL ⟨updT t d (.rptr (f y)), o⟩ ([], [])) : vdo G d (.iaddr e x i) t o KL := by
  obtain ⟨h1, h2⟩ := idx_get h
  show vop t (.iaddr e x i) (fun y => KL ⟨updT t d y, o⟩ ([], []))
  simp only [vop, hx, hi]
  exact ⟨j.toNat, f y, by omega, getM h2, he, hk⟩
theorem r_ire {e : Nat} {x i : Od} {xs : List α} {k : IntKind} {j : Int} {y : α} {n : Nat} {b : Option Nat} {cap kk : Nat} {len : Nat} (hx : ev t x = .ref n b cap 0 len kk) (hi : ev t i = .v (.int k j)) (h : idx xs j = some y) (he : e = esz kk) (hk : KL ⟨updT t d (.ptr n b kk j.toNat 0), o⟩ ([], [])) (hl : len = xs.length := by first | rfl | simp) : vdo G d (.iaddr e x i) t o KL := by
  subst hl
  obtain ⟨h1, h2⟩ := idx_get h
  show vop t (.iaddr e x i) (fun y => KL ⟨updT t d y, o⟩ ([], []))
  simp only [vop, hx, hi]
  refine ⟨j.toNat, by omega, (List.getElem?_eq_some_iff.1 h2).1, he, ?_⟩
  rw [Nat.zero_add]
  exact hk
theorem r_sidx {x i : Od} {s : Str} {k : IntKind} {j : Int} {c : UInt8} (hx : ev t x = .v (.string s)) (hi : ev t i = .v (.int k j)) (h : bidx s j = some c) (hk : KL ⟨updT t d (.v (.int .u8 c.toNat)), o⟩ ([], [])) : vdo G d (.sidx x i) t o KL := by
  have hh : 0 ≤ j ∧ s.data.toList[j.toNat]? = some c := by
    unfold bidx at h
    split at h
    · exact ⟨by assumption, h⟩
    · cases h
  show vop t (.sidx x i) (fun y => KL ⟨updT t d y, o⟩ ([], []))
  simp only [vop, hx, hi]
  exact ⟨j.toNat, c, by omega, hh.2, hk⟩
theorem r_cat {x y : Od} {a b s : Str} (hx : ev t x = .v (.string a)) (hy : ev t y = .v (.string b)) (h : cat a b = some s) (hk : KL ⟨updT t d (.v (.string s)), o⟩ ([], [])) : vdo G d (.bin .add x y) t o KL := by
  show vop t (.bin .add x y) (fun y => KL ⟨updT t d y, o⟩ ([], []))
  simp only [vop, hx, hy]
  refine ⟨.string s, ?_, hk⟩
  unfold cat at h
  simp only [pbin]
  split at h
  · rename_i hh
    cases h
    rw [if_pos hh]
  · cases h
def asIo2 (t : Tm) (lo : Option Od) (l : Option Int) : Prop := asIo (lo.map (ev t)) = some l
theorem r_sls {e : Nat} {x : Od} {lo hi : Option Od} {xs ys : List α} {l h : Option Int} (hx : ev t x = .ro (xs.map f)) (hl : asIo (lo.map (ev t)) = some l) (hh : asIo (hi.map (ev t)) = some h) (hs : slc xs (l.getD 0) (h.getD xs.length) = some ys) (he : ∀ x, (f x).length = e) (hk : KL ⟨updT t d (.ro (ys.map f)), o⟩ ([], [])) : vdo G d (.sls e x lo hi) t o KL := by
  show ∃ y, evp t (.sls e x lo hi) = some y ∧ KL ⟨updT t d y, o⟩ ([], [])
  unfold slc at hs
  split at hs
  · rename_i hc
    cases hs
    have h2 : ((xs.map f).head?.map List.length).getD e = e := by
      cases xs with
      | nil => rfl
      | cons a as => simp [he]
    refine ⟨_, ?_, hk⟩
    simp only [evp, hx, hl, hh, List.length_map]
    rw [if_pos ⟨hc, h2⟩, List.map_drop, List.map_take]
  · cases hs
theorem r_ssl {x : Od} {lo hi : Option Od} {s s' : Str} {l h : Option Int} (hx : ev t x = .v (.string s)) (hl : asIo (lo.map (ev t)) = some l) (hh : asIo (hi.map (ev t)) = some h) (hs : sslc s (l.getD 0) (h.getD s.size) = some s') (hk : KL ⟨updT t d (.v (.string s')), o⟩ ([], [])) : vdo G d (.ssl x lo hi) t o KL := by
  show ∃ y, evp t (.ssl x lo hi) = some y ∧ KL ⟨updT t d y, o⟩ ([], [])
  unfold sslc at hs
  split at hs
  · rename_i hc
    cases hs
    refine ⟨_, ?_, hk⟩
    simp only [evp, hx, hl, hh]
    rw [if_pos hc]
  · cases hs
def ent (b : Option Nat) (cap k : Nat) (rows : Rows) : Ent := ⟨b, cap, k, false, rows⟩
theorem getD_map {xs : List α} {i : Nat} {x : α} (h : xs[i]? = some x) : (xs.map f).getD i [] = f x := by
  rw [List.getD_eq_getElem?_getD, getM h]
  rfl
theorem set_same {xs : List α} {i : Nat} {x : α} (h : xs[i]? = some x) : xs.set i x = xs := by
  apply List.ext_getElem?
  intro j
  rw [List.getElem?_set]
  split
  · rename_i e; subst e
    rw [if_pos (List.getElem?_eq_some_iff.1 h).1, h]
  · rfl
theorem upd_id {n : Nat} {e : Ent} (h : o n = some e) : upd o n (some e) = o := by
  funext m
  unfold upd
  split
  · rename_i hm; rw [hm, h]
  · rfl
theorem r_lde {sz : Nat} {agg : Bool} {p : Od} {n : Nat} {b : Option Nat} {cap k r c : Nat} {xs : List α} {x : α} {y : AV} (hp : ev t p = .ptr n b k r c) (ho : o n = some (ent b cap k (xs.map f))) (h : xs[r]? = some x) (hc : decide (c + sz ≤ (f x).length) = true) (hw : owns (((f x).drop c).take sz) = false) (hy : one agg ((((f x).drop c).take sz).map readC) = some y) (hk : KL ⟨updT t d y, o⟩ ([n], [])) : vdo G d (.load sz agg p) t o KL := by
  have hg : (xs.map f).getD r [] = f x := getD_map h
  have hr : r < (xs.map f).length := by rw [List.length_map]; exact (List.getElem?_eq_some_iff.1 h).1
  show (match ev t p with | .ptr .. => vheap G d (.load sz agg p) t o KL | _ => vop t (.load sz agg p) fun x => KL ⟨updT t d x, o⟩ ([], []))
  rw [hp]
  intro ch
  simp only [opSem, hp]
  refine vp_get ho (vp_rb (vp_need ?_ (vp_rb ?_)))
  · simp only [ent, hg, Bool.and_eq_true, decide_eq_true_eq]
    exact ⟨⟨⟨trivial, trivial⟩, decide_eq_true hr⟩, of_decide_eq_true hc⟩
  · simp only [ent, hg, hw]
    exact vp_opt hy (vp_ret hk)
def Lend (x : AV) (o : Heap) (y : AV) (L : List Nat) : Prop := ∀ K : AV → Heap → LogV → Prop, K y o (L, []) → (bor x).vp o K
def LendL (xs : List AV) (o : Heap) (ys : List AV) (L : List Nat) : Prop := ∀ K : List AV → Heap → LogV → Prop, K ys o (L, []) → (bors xs).vp o K
def LendT (x : T) (o : Heap) (y : T) (L : List Nat) : Prop := ∀ K : T → Heap → LogV → Prop, K y o (L, []) → (borT x).vp o K
def LendTs (xs : List T) (o : Heap) (ys : List T) (L : List Nat) : Prop := ∀ K : List T → Heap → LogV → Prop, K ys o (L, []) → (borTs xs).vp o K
theorem lend_v {v : Value} : Lend (.v v) o (.v v) [] := fun K h => h
theorem lend_ro {rows : Rows} : Lend (.ro rows) o (.ro rows) [] := fun K h => h
theorem lend_nil : Lend .nil o (.ro []) [] := fun K h => h
theorem lend_rp {cs : List T} : Lend (.rptr cs) o (.rptr cs) [] := fun K h => h
theorem lend_ref {n : Nat} {b : Option Nat} {cap k len : Nat} {xs : List α} {g : α → List T} (ho : o n = some (ent b cap k (xs.map f))) (he : ∀ x, erL (f x) = some (g x)) (hl : len = xs.length) : Lend (.ref n b cap 0 len k) o (.ro (xs.map g)) [n] := fun K h => by
  subst hl
  refine vp_get ho (vp_need ?_ ?_)
  · simp [ent]
  · refine vp_opt (a := .ro (xs.map g)) ?_ (vp_ret h)
    simp only [ent, List.drop_zero]
    rw [show (xs.map f).take xs.length = xs.map f by rw [← List.length_map (f := f), List.take_length], erR_map he]
    rfl
theorem lend_agg {cs ys : List AV} {L : List Nat} (h : LendL cs o ys L) : Lend (.agg cs) o (.agg ys) L := fun K hK => vp_bind (h _ (vp_ret (by simpa using hK)))
theorem lend_fn {g : Nat} {cs ys : List AV} {L : List Nat} (h : LendL cs o ys L) : Lend (.fn g cs) o (.fn g ys) L := fun K hK => vp_bind (h _ (vp_ret (by simpa using hK)))
theorem lends_nil : LendL [] o [] [] := fun K h => h
theorem lends_cons {x y : AV} {xs ys : List AV} {L1 L2 : List Nat} (h : Lend x o y L1) (hs : LendL xs o ys L2) : LendL (x :: xs) o (y :: ys) (L1 ++ L2) := fun K hK => vp_bind (h _ (vp_bind (hs _ (vp_ret (by simpa using hK)))))
theorem lendT_v {v : Value} : LendT (.v v) o (.v v) [] := fun K h => ⟨_, rfl, h⟩
theorem lendT_sl {w : Bool} {k : Nat} {xs : List α} {g : α → List T} (he : ∀ x, erL (f x) = some (g x)) : LendT (.sl w k (xs.map f)) o (.sl false (k % 16) (xs.map g)) [] := fun K h => vp_opt (a := .sl false (k % 16) (xs.map g)) (by simp only [erT, erR_map he]; rfl) (vp_ret h)
theorem lendT_al {n : Nat} {b : Option Nat} {cap k len : Nat} {xs : List α} {g : α → List T} (ho : o n = some (ent b cap k (xs.map f))) (he : ∀ x, erL (f x) = some (g x)) (hl : len = xs.length) : LendT (.al n b cap 0 len k) o (.sl false (k % 16) (xs.map g)) [n] := fun K h => by
  subst hl
  refine vp_get ho (vp_need ?_ ?_)
  · simp [ent]
  · refine vp_opt (a := .sl false (k % 16) (xs.map g)) ?_ (vp_ret h)
    simp only [ent, List.drop_zero]
    rw [show (xs.map f).take xs.length = xs.map f by rw [← List.length_map (f := f), List.take_length], erR_map he]
    rfl
theorem lendTs_nil : LendTs [] o [] [] := fun K h => h
theorem lendTs_cons {x y : T} {xs ys : List T} {L1 L2 : List Nat} (h : LendT x o y L1) (hs : LendTs xs o ys L2) : LendTs (x :: xs) o (y :: ys) (L1 ++ L2) := fun K hK => vp_bind (h _ (vp_bind (hs _ (vp_ret (by simpa using hK)))))
theorem lend_ptr {n : Nat} {b : Option Nat} {k c : Nat} {row : List T} {e : Ent} {ys : List T} {L : List Nat} (ho : o n = some e) (hb : e.b = b) (hk : e.k = k) (hr : e.rows = [row]) (h : LendTs (row.drop c) o ys L) : Lend (.ptr n b k 0 c) o (.rptr ys) (n :: L) := fun K hK => by
  refine vp_get ho (vp_need ?_ ?_)
  · simp [hb, hk, hr]
  · rw [hr]
    refine vp_rb (vp_bind (h _ (vp_ret ?_)))
    simpa using hK
def noGive (xs : List (Bool × Od)) : Bool := xs.all fun x => !x.1
theorem gives_none : ∀ {xs : List (Bool × Od)} {i : Nat} {K : List (Option AV) × List In → Heap → LogV → Prop}, noGive xs = true → K (xs.map fun _ => none, []) o ([], []) → (gives t i xs).vp o K
  | [], i, K, h, hK => hK
  | (m, x) :: xs, i, K, h, hK => by
    simp only [noGive, List.all_cons, Bool.and_eq_true, Bool.not_eq_true'] at h
    obtain ⟨rfl, h⟩ := h
    exact vp_bind (gives_none h (vp_ret hK))
theorem lends_none : ∀ {xs : List (Bool × Od)} {ys : List AV} {L : List Nat} {K : List AV → Heap → LogV → Prop}, LendL (xs.map fun x => ev t x.2) o ys L → K ys o (L, []) → (lends t xs (xs.map fun _ => none)).vp o K := by
  intro xs
  have key : ∀ xs : List (Bool × Od), lends t xs (xs.map fun _ => none) = bors (xs.map fun x => ev t x.2) := by
    intro xs
    induction xs with
    | nil => rfl
    | cons x xs ih =>
      obtain ⟨m, x⟩ := x
      show (do let z ← bor (ev t x); let zs ← lends t xs (xs.map fun _ => none); HM.ret (z :: zs) : HM (List AV)) = _
      rw [ih]
      rfl
  intro ys L K h hK
  rw [key]
  exact h _ hK
theorem args_none {xs : List (Bool × Od)} {ys : List AV} {L : List Nat} {K : List AV × List In → Heap → LogV → Prop} (hn : noGive xs = true) (h : LendL (xs.map fun x => ev t x.2) o ys L) (hK : K (ys, []) o (L, [])) : (args t xs).vp o K :=
  vp_bind (gives_none hn (vp_bind (lends_none h (vp_ret (by simpa using hK)))))
theorem r_call {g : Nat} {xs : List (Bool × Od)} {as : List AV} {L : List Nat} {r : Ans} (hg : G g as [] = some r) (hn : noGive xs = true) (ha : LendL (xs.map fun x => ev t x.2) o as L) (hw : (frzA t xs || (ownR (r.res.map (·.2)) && r.outs.all ownR)) = true) (ho : r.outs = []) (hk : ∀ ch : Ch, (delivs (dstN d) ch 0 r.res).vp o fun ys o' l => KL ⟨updT t d (tupA ys), o'⟩ (L ++ l.1, l.2)) : vdo G d (.call g xs) t o KL := by
  show vheap G d (.call g xs) t o KL
  intro ch
  refine vp_bind (args_none hn ha ?_)
  refine vp_opt (a := r) hg (vp_need hw (vp_rb ?_))
  unfold tail
  rw [ho]
  refine vp_bind (vp_ret (vp_bind (vp_mono (hk ch) fun ys o' l h => vp_ret ?_)))
  simpa using h
theorem r_calld {fv : Od} {g : Nat} {caps cs : List AV} {xs : List (Bool × Od)} {as : List AV} {L L2 : List Nat} {r : Ans} (hf : ev t fv = .fn g caps) (hg : G g (as ++ cs) [] = some r) (hn : noGive xs = true) (ha : LendL (xs.map fun x => ev t x.2) o as L) (hc : LendL caps o cs L2) (hw : ((frzA t xs && frzs caps) || (ownR (r.res.map (·.2)) && r.outs.all ownR)) = true) (ho : r.outs = []) (hk : ∀ ch : Ch, (delivs (dstN d) ch 0 r.res).vp o fun ys o' l => KL ⟨updT t d (tupA ys), o'⟩ (L ++ (L2 ++ l.1), l.2)) : vdo G d (.calld fv xs) t o KL := by
  show vheap G d (.calld fv xs) t o KL
  intro ch
  simp only [opSem, hf]
  refine vp_bind (args_none hn ha ?_)
  refine vp_bind (hc _ ?_)
  refine vp_opt (a := r) hg (vp_need hw (vp_rb ?_))
  unfold tail
  rw [ho]
  refine vp_bind (vp_ret (vp_bind (vp_mono (hk ch) fun ys o' l h => vp_ret ?_)))
  simpa using h
section
variable {dd : Nat} {ch : Ch} {j : Nat} {cs : List T} {K : List AV → Heap → LogV → Prop}
theorem dl_nil (h : K [] o ([], [])) : (deliv dd ch j []).vp o K := h
theorem dl_v {x : Value} (h : (deliv dd ch (j + 1) cs).vp o fun ys o' l => K (.v x :: ys) o' l) : (deliv dd ch j (.v x :: cs)).vp o K :=
  vp_bind (vp_ret (vp_bind (vp_mono h fun ys o' l hh => vp_ret (by simpa using hh))))
theorem dl_ro {k : Nat} {rows : Rows} (h : (deliv dd ch (j + 1) cs).vp o fun ys o' l => K (.ro rows :: ys) o' l) : (deliv dd ch j (.sl false k rows :: cs)).vp o K :=
  vp_bind (vp_ret (vp_bind (vp_mono h fun ys o' l hh => vp_ret (by simpa using hh))))
theorem dl_sl {k : Nat} {xs : List α} (h : (deliv dd ch (j + 1) cs).vp (upd o (dd * 8 + j) (some (ent (ch j).1 (ch j).2 k (xs.map f)))) fun ys o' l => K (.ref (dd * 8 + j) (ch j).1 (ch j).2 0 xs.length k :: ys) o' (l.1, (dd * 8 + j) :: l.2)) : (deliv dd ch j (.sl true k (xs.map f) :: cs)).vp o K := by
  refine vp_bind (vp_bind (vp_put (vp_ret (vp_ret ?_))))
  refine vp_bind (vp_mono h fun ys o' l hh => vp_ret ?_)
  simpa using hh
variable {rs : List (Bool × List T)}
theorem dls_nil (h : K [] o ([], [])) : (delivs dd ch j []).vp o K := h
theorem dls_one {c : T} (h : (deliv dd ch j [c]).vp o fun xs o' l1 => ∃ x, xs = [x] ∧ (delivs dd ch (j + 1) rs).vp o' fun ys o'' l2 => K (x :: ys) o'' (l1.1 ++ l2.1, l1.2 ++ l2.2)) : (delivs dd ch j ((false, [c]) :: rs)).vp o K := by
  refine vp_bind (vp_mono h fun xs o' l1 hh => ?_)
  obtain ⟨x, rfl, hh⟩ := hh
  refine vp_bind (vp_opt (a := x) rfl (vp_ret (vp_bind (vp_mono hh fun ys o'' l2 h3 => vp_ret ?_))))
  simpa using h3
theorem dls_agg {cs : List T} (h : (deliv dd ch j cs).vp o fun xs o' l1 => (delivs dd ch (j + cs.length) rs).vp o' fun ys o'' l2 => K (.agg xs :: ys) o'' (l1.1 ++ l2.1, l1.2 ++ l2.2)) : (delivs dd ch j ((true, cs) :: rs)).vp o K := by
  refine vp_bind (vp_mono h fun xs o' l1 hh => ?_)
  refine vp_bind (vp_opt (a := .agg xs) rfl (vp_ret (vp_bind (vp_mono hh fun ys o'' l2 h3 => vp_ret ?_))))
  simpa using h3
end
theorem plain_map (hp : ∀ x, plain [f x] = true) : ∀ xs : List α, plain (xs.map f) = true
  | [] => rfl
  | x :: xs => by
    have h1 := hp x
    have h2 := plain_map hp xs
    simp only [plain, List.map_cons, List.all_cons, List.all_nil, Bool.and_true, Bool.and_eq_true] at h1 h2 ⊢
    exact ⟨h1, h2⟩
theorem take_map_len {xs : List α} : (xs.map f).take xs.length = xs.map f := by rw [← List.length_map (f := f), List.take_length]
theorem take_ent {xs : List α} {b : Option Nat} {c k : Nat} : List.take xs.length (ent b c k (xs.map f)).rows = xs.map f := take_map_len
theorem fits_le {n : Nat} (h : fits n = true) : n ≤ most := of_decide_eq_true h
def Src (k : Nat) (mv : Bool) (host : Option Nat) (y : AV) (o : Heap) (rows : Rows) (o' : Heap) (l : LogV) : Prop := ∀ K : Rows → Heap → LogV → Prop, K rows o' l → (appSrc k mv host y).vp o K
theorem src_nil {k : Nat} {mv : Bool} {host : Option Nat} : Src k mv host .nil o [] o ([], []) := fun K h => h
theorem src_ro {k : Nat} {mv : Bool} {host : Option Nat} {xs : List α} (hp : ∀ x, plain [f x] = true) (he : ∀ x, (f x).length = esz k) : Src k mv host (.ro (xs.map f)) o (xs.map f) o ([], []) := fun K h => by
  refine vp_need ?_ h
  rw [plain_map hp, Bool.true_and]
  cases xs with
  | nil => exact decide_eq_true rfl
  | cons x xs => exact decide_eq_true (by simp [he])
theorem src_mv {k n len : Nat} {b : Option Nat} {cap : Nat} {host : Option Nat} {rows : Rows} (ho : o n = some (ent b cap k rows)) (hh : decide (host ≠ some n) = true) (hl : len = rows.length) : Src k true host (.ref n b cap 0 len k) o rows (upd o n none) ([n], [n]) := fun K h => by
  refine vp_get ho (vp_need ?_ ?_)
  · simp only [ent, hl, hh]; simp
  · refine vp_put (vp_ret ?_)
    simp only [ent, List.drop_zero, hl, List.take_length]
    exact h
theorem src_cp {k n len : Nat} {b : Option Nat} {cap : Nat} {host : Option Nat} {xs : List α} (ho : o n = some (ent b cap k (xs.map f))) (hh : decide (host ≠ some n) = true) (hl : len = xs.length) (hp : ∀ x, plain [f x] = true) : Src k false host (.ref n b cap 0 len k) o (xs.map f) o ([n], []) := fun K h => by
  refine vp_get ho (vp_need ?_ ?_)
  · simp only [ent, hl, hh]; simp
  · refine vp_need ?_ (vp_ret ?_)
    · simp only [ent, List.drop_zero, hl, take_map_len, plain_map hp]
    · simp only [ent, List.drop_zero, hl, take_map_len]
      exact h
theorem r_app {k : Nat} {mv : Bool} {a b : Od} {n : Nat} {b' : Option Nat} {cap len : Nat} {xs ys : List α} {rows : Rows} {o' : Heap} {l : LogV} (ha : ev t a = .ref n b' cap 0 len k) (hs : Src k mv (some n) (ev t b) o rows o' l) (hr : rows = ys.map f) (ho : o' n = some (ent b' cap k (xs.map f))) (hl : len = xs.length) (hf : fits (xs ++ ys).length = true) (hk : ∀ b2 cap2, KL ⟨updT t d (.ref n b2 cap2 0 (xs ++ ys).length k), upd o' n (some (ent b2 cap2 k ((xs ++ ys).map f)))⟩ (l.1 ++ [n], l.2 ++ [n])) : vdo G d (.app k mv a b) t o KL := by
  show vheap G d (.app k mv a b) t o KL
  intro ch
  simp only [opSem, ha]
  have hf' := fits_le hf
  refine vp_bind (hs _ (vp_get ho (vp_need ?_ (vp_put (vp_ret ?_)))))
  · simp only [ent, hl, hr, List.length_map] at hf' ⊢
    simp only [List.length_append] at hf'
    simp [hf']
  · simp only [ent, hl, hr, take_map_len, List.length_map]
    have := hk (ch 0).1 (ch 0).2
    rw [List.length_append, List.map_append] at this
    exact this
theorem r_appn {k : Nat} {mv : Bool} {a b : Od} {ys : List α} {rows : Rows} {o' : Heap} {l : LogV} (ha : ev t a = .nil) (hs : Src k mv none (ev t b) o rows o' l) (hr : rows = ys.map f) (hf : fits ys.length = true) (hk : ∀ b2 cap2, KL ⟨updT t d (.ref (dstN d * 8) b2 cap2 0 ys.length k), upd o' (dstN d * 8) (some (ent b2 cap2 k (ys.map f)))⟩ (l.1, l.2 ++ [dstN d * 8])) : vdo G d (.app k mv a b) t o KL := by
  show vheap G d (.app k mv a b) t o KL
  intro ch
  simp only [opSem, ha]
  have hf' := fits_le hf
  refine vp_bind (hs _ (vp_need ?_ (vp_put (vp_ret ?_))))
  · simp only [hr, List.length_map]
    simp [hf']
  · simp only [hr, List.length_map, List.append_nil]
    exact hk (ch 0).1 (ch 0).2
theorem r_mks {k : Nat} {z : List T} {n m : Od} {len : Int} {k1 k2 : IntKind} {x : α} (hn : ev t n = .v (.int k1 len)) (hm : ev t m = .v (.int k2 len)) (h0 : decide (0 ≤ len) = true) (hf : fits len.toNat = true) (hz : z = f x) (hk : ∀ b, KL ⟨updT t d (.ref (dstN d * 8) (some b) len.toNat 0 (List.replicate len.toNat x).length k), upd o (dstN d * 8) (some (ent (some b) len.toNat k ((List.replicate len.toNat x).map f)))⟩ ([], [dstN d * 8])) : vdo G d (.mks k z n m) t o KL := by
  show vheap G d (.mks k z n m) t o KL
  intro ch
  have hf' := fits_le hf
  have h0' := of_decide_eq_true h0
  simp only [opSem, hn, hm, asI]
  refine vp_need ?_ (vp_put (vp_ret ?_))
  · simp [h0', hf']
  · have := hk ((ch 0).1.getD 0)
    rw [List.map_replicate, ← hz, List.length_replicate] at this
    exact this
def Tot (box : Bool) (host j : Nat) (k : Option Nat) (x : AV) (o : Heap) (c : T) (o' : Heap) (l : LogV) : Prop := ∀ K : T → Heap → LogV → Prop, K c o' l → (toT box host j k x).vp o K
def Tos (box : Bool) (host j : Nat) (ks : List (Option Nat)) (xs : List AV) (o : Heap) (cs : List T) (o' : Heap) (l : LogV) : Prop := ∀ K : List T → Heap → LogV → Prop, K cs o' l → (toTs box host j ks xs).vp o K
section
variable {box : Bool} {host j : Nat} {o1 o2 : Heap}
theorem tot_v {v : Value} (h : v.oneCell' = true) : Tot box host j none (.v v) o (.v v) o ([], []) := fun K hK => ⟨h, hK⟩
theorem tot_ro {k : Nat} {rows : Rows} : Tot box host j (some k) (.ro rows) o (.sl false (k % 16) rows) o ([], []) := fun K hK => hK
theorem tot_nil {k : Nat} : Tot false host j (some k) .nil o (.sl true k []) o ([], []) := fun K hK => hK
theorem tot_ref {kk n len : Nat} {b : Option Nat} {cap : Nat} {rows : Rows} (ho : o n = some (ent b cap kk rows)) (hl : len = rows.length) (hn : decide (n ≠ host) = true) : Tot false host j (some kk) (.ref n b cap 0 len kk) o (.sl true kk rows) (upd o n none) ([n], [n]) := fun K hK => by
  subst hl
  refine vp_get ho (vp_rb (vp_need ?_ (vp_rb (vp_put (vp_ret ?_)))))
  · simp only [ent, hn]; simp
  · simp only [ent, List.take_length]
    exact hK
theorem tos_nil : Tos box host j [] [] o [] o ([], []) := fun K hK => hK
theorem tos_cons {k : Option Nat} {ks : List (Option Nat)} {x : AV} {xs : List AV} {c : T} {cs : List T} {l1 l2 : LogV} (h : Tot box host j k x o c o1 l1) (hs : Tos box host (j + 1) ks xs o1 cs o2 l2) : Tos box host j (k :: ks) (x :: xs) o (c :: cs) o2 (l1.1 ++ l2.1, l1.2 ++ l2.2) := fun K hK => vp_bind (h _ (vp_bind (hs _ (vp_ret (by simpa using hK)))))
end
theorem r_ste {ks : List (Option Nat)} {p y : Od} {n : Nat} {b : Option Nat} {cap k r c : Nat} {xs : List α} {x x' : α} {cs : List T} {o' : Heap} {l : LogV} (hp : ev t p = .ptr n b k r c) (ho : o n = some (ent b cap k (xs.map f))) (hv : Tos false n c ks (flat (ev t y)) o cs o' l) (ho' : o' n = some (ent b cap k (xs.map f))) (h : xs[r]? = some x) (hc : decide (c + ks.length ≤ (f x).length) = true) (hx : setAt (f x) c cs = f x') (hk : KL ⟨updT t d .junk, upd o' n (some (ent b cap k ((xs.set r x').map f)))⟩ (n :: (l.1 ++ [n]), l.2 ++ [n])) : vdo G d (.store ks p y) t o KL := by
  show vheap G d (.store ks p y) t o KL
  intro ch
  have hg : (xs.map f).getD r [] = f x := getD_map h
  have hr : r < (xs.map f).length := by rw [List.length_map]; exact (List.getElem?_eq_some_iff.1 h).1
  simp only [opSem, hp]
  refine vp_get ho (vp_rb (vp_bind (hv _ (vp_get ho' (vp_rb (vp_need ?_ (vp_put (vp_ret ?_))))))))
  · simp only [ent, hg]
    have := of_decide_eq_true hc
    simp [this]
    simpa using hr
  · simp only [ent, hg, hx]
    have : (xs.map f).set r (f x') = (xs.set r x').map f := by rw [List.map_set]
    rw [this]
    exact hk
section
variable {box : Bool} {host j : Nat} {o1 o2 : Heap}
theorem tob_nil {k : Nat} : Tot true host j (some k) .nil o (.al (cn host j) none 0 0 0 k) (upd o (cn host j) (some (ent none 0 k []))) ([], [cn host j]) := fun K hK => vp_put (vp_ret hK)
theorem tob_ref {kk k n off len cap : Nat} {b : Option Nat} {rows : Rows} (ho : o n = some (ent b cap k rows)) (hn : decide (n ≠ host) = true) : Tot true host j (some kk) (.ref n b cap off len k) o (.al (cn host j) b cap off len k) (upd (upd o n none) (cn host j) (some (ent b cap k rows))) ([n], [n, cn host j]) := fun K hK => by
  refine vp_get ho (vp_rb (vp_need ?_ (vp_rb (vp_put (vp_rb (vp_put (vp_ret ?_)))))))
  · simp only [ent, hn]; simp
  · exact hK
def Zop (host j : Nat) (z : List T) (o : Heap) (cs : List T) (o' : Heap) (l : LogV) : Prop := ∀ K : List T → Heap → LogV → Prop, K cs o' l → (zopen host j z).vp o K
theorem zop_nil : Zop host j [] o [] o ([], []) := fun K hK => hK
theorem zop_v {x : Value} {z cs : List T} {l : LogV} (h : Zop host (j + 1) z o cs o1 l) : Zop host j (.v x :: z) o (.v x :: cs) o1 l := fun K hK => vp_bind (vp_ret (vp_bind (h _ (vp_ret (by simpa using hK)))))
theorem zop_sl {k : Nat} {z cs : List T} {l : LogV} (h : Zop host (j + 1) z (upd o (cn host j) (some (ent none 0 k []))) cs o1 l) : Zop host j (.sl true k [] :: z) o (.al (cn host j) none 0 0 0 k :: cs) o1 (l.1, cn host j :: l.2) := fun K hK => by
  refine vp_bind (vp_put (vp_ret (vp_bind (h _ (vp_ret ?_)))))
  simpa using hK
end
theorem r_box {k : Nat} {ks : List (Option Nat)} {y : Od} {cs : List T} {o' : Heap} {l : LogV} (hv : Tos true (dstN d * 8) 0 ks (flat (ev t y)) o cs o' l) (hk : ∀ b, KL ⟨updT t d (.ptr (dstN d * 8) (some b) k 0 0), upd o' (dstN d * 8) (some ⟨some b, 1, k, true, [cs]⟩)⟩ (l.1, l.2 ++ [dstN d * 8])) : vdo G d (.box k ks y) t o KL := by
  show vheap G d (.box k ks y) t o KL
  intro ch
  have := hk ((ch 0).1.getD 0)
  exact vp_bind (hv _ (vp_put (vp_ret (by simpa using this))))
theorem r_all {k : Nat} {z cs : List T} {o' : Heap} {l : LogV} (hv : Zop (dstN d * 8) 0 z o cs o' l) (hk : ∀ b, KL ⟨updT t d (.ptr (dstN d * 8) (some b) k 0 0), upd o' (dstN d * 8) (some ⟨some b, 1, k, true, [cs]⟩)⟩ (l.1, l.2 ++ [dstN d * 8])) : vdo G d (.alloc k z) t o KL := by
  show vheap G d (.alloc k z) t o KL
  intro ch
  have := hk ((ch 0).1.getD 0)
  exact vp_bind (hv _ (vp_put (vp_ret (by simpa using this))))
def SetA (row : List T) (c : Nat) (cs row' : List T) : Prop := c + cs.length ≤ row.length ∧ setAt row c cs = row'
theorem setAt_succ {x : T} : ∀ {cs row : List T} {c : Nat}, setAt (x :: row) (c + 1) cs = x :: setAt row c cs
  | [], row, c => rfl
  | y :: cs, row, c => by
    show setAt (x :: row.set c y) (c + 1 + 1) cs = _
    rw [setAt_succ]
    rfl
theorem sa_nil {row : List T} : SetA row 0 [] row := ⟨by simp, rfl⟩
theorem sa_put {x y : T} {row cs row' : List T} (h : SetA row 0 cs row') : SetA (x :: row) 0 (y :: cs) (y :: row') := by
  obtain ⟨h1, h2⟩ := h
  refine ⟨by simp at h1 ⊢; omega, ?_⟩
  show setAt (y :: row) (0 + 1) cs = _
  rw [setAt_succ, h2]
theorem sa_skip {x : T} {row cs row' : List T} {c : Nat} (h : SetA row c cs row') : SetA (x :: row) (c + 1) cs (x :: row') := by
  obtain ⟨h1, h2⟩ := h
  refine ⟨by simp at h1 ⊢; omega, ?_⟩
  rw [setAt_succ, h2]
theorem r_stb {ks : List (Option Nat)} {p y : Od} {n : Nat} {b : Option Nat} {cap k c : Nat} {bx : Bool} {row row' cs : List T} {o' : Heap} {l : LogV} (hp : ev t p = .ptr n b k 0 c) (ho : o n = some ⟨b, cap, k, bx, [row]⟩) (hv : Tos bx n c ks (flat (ev t y)) o cs o' l) (ho' : o' n = some ⟨b, cap, k, bx, [row]⟩) (hx : SetA row c cs row') (hc : decide (ks.length = cs.length) = true) (hk : KL ⟨updT t d .junk, upd o' n (some ⟨b, cap, k, bx, [row']⟩)⟩ (n :: (l.1 ++ [n]), l.2 ++ [n])) : vdo G d (.store ks p y) t o KL := by
  show vheap G d (.store ks p y) t o KL
  intro ch
  obtain ⟨h1, h2⟩ := hx
  have hc := of_decide_eq_true hc
  simp only [opSem, hp]
  refine vp_get ho (vp_rb (vp_bind (hv _ (vp_get ho' (vp_rb (vp_need ?_ (vp_put (vp_ret ?_))))))))
  · simp
    omega
  · simp only [List.getD_cons_zero, List.set_cons_zero, h2]
    exact hk
theorem updT_updT {i : Nat} {x y : AV} : updT (updT t (some i) x) (some i) y = updT t (some i) y := by
  funext j
  simp only [updT]
  split <;> rfl
theorem evp_vp {dd : Nat} {ch : Ch} {op : Opx} {x : AV} (h : evp t op = some x) {K : AV → Heap → LogV → Prop} (hK : K x o ([], [])) : (opSem G dd ch t op).vp o K := by
  cases op with
  | load sz agg p =>
    simp only [evp] at h
    split at h
    · rename_i cs hcs
      split at h
      · rename_i hle
        simp only [opSem, hcs, hle, if_true]
        exact vp_opt h (vp_ret hK)
      · cases h
    · cases h
  | _ => first | (cases h; done) | exact vp_opt h (vp_ret hK)
theorem r_wrap {i : Nat} {op : Opx} {f : AV → HM AV} {op' : Opx} (hw : hOp op' = true) (hs : ∀ ch, opSem G i ch t op' = (opSem G i ch t op).bind f) (h : vdo G (some i) op t o fun s l1 => (f (s.t i)).vp s.o fun y o' l2 => KL ⟨updT s.t (some i) y, o'⟩ (l1.1 ++ l2.1, l1.2 ++ l2.2)) : vdo G (some i) op' t o KL := by
  have hi : ∀ x, updT t (some i) x i = x := fun x => by simp [updT]
  have key : vheap G (some i) op' t o KL := by
    intro ch
    show (opSem G i ch t op').vp o _
    rw [hs]
    have hv : ∀ {K : AV → Prop}, vop t op K → ∃ x, evp t op = some x ∧ K x := vop_sound
    have pur : (vop t op fun x => (f ((updT t (some i) x) i)).vp o fun y o' l2 => KL ⟨updT (updT t (some i) x) (some i) y, o'⟩ ((([], []) : LogV).1 ++ l2.1, (([], []) : LogV).2 ++ l2.2)) → ((opSem G i ch t op).bind f).vp o fun x o' l => KL ⟨updT t (some i) x, o'⟩ l := fun h => by
      obtain ⟨x, h1, h2⟩ := hv h
      rw [hi] at h2
      simp only [updT_updT] at h2
      exact vp_bind (evp_vp (K := fun a o' l1 => (f a).vp o' fun b o'' l2 => KL ⟨updT t (some i) b, o''⟩ (l1.1 ++ l2.1, l1.2 ++ l2.2)) h1 h2)
    have hea : (vheap G (some i) op t o fun s l1 => (f (s.t i)).vp s.o fun y o' l2 => KL ⟨updT s.t (some i) y, o'⟩ (l1.1 ++ l2.1, l1.2 ++ l2.2)) → ((opSem G i ch t op).bind f).vp o fun x o' l => KL ⟨updT t (some i) x, o'⟩ l := fun h => by
      refine vp_bind (vp_mono (K' := fun x o' l1 => (f x).vp o' fun y o'' l2 => KL ⟨updT t (some i) y, o''⟩ (l1.1 ++ l2.1, l1.2 ++ l2.2)) (h ch) fun x o' l hh => ?_)
      simp only [hi] at hh
      simp only [updT_updT] at hh
      exact hh
    unfold vdo at h
    split at h
    · split at h
      · exact hea h
      · exact pur h
    · split at h
      · exact hea h
      · exact pur h
  unfold vdo
  split
  · cases hw
  · rw [hw]
    exact key
theorem r_frz {i : Nat} {op : Opx} (h : vdo G (some i) op t o fun s l1 => (frzV (s.t i)).vp s.o fun y o' l2 => KL ⟨updT s.t (some i) y, o'⟩ (l1.1 ++ l2.1, l1.2 ++ l2.2)) : vdo G (some i) (.frz op) t o KL := r_wrap rfl (fun _ => rfl) h
theorem r_ren {i m k : Nat} {op : Opx} (h : vdo G (some i) op t o fun s l1 => (renV m k (s.t i)).vp s.o fun y o' l2 => KL ⟨updT s.t (some i) y, o'⟩ (l1.1 ++ l2.1, l1.2 ++ l2.2)) : vdo G (some i) (.ren m k op) t o KL := r_wrap rfl (fun _ => rfl) h
def Frz (x : AV) (o : Heap) (y : AV) (o' : Heap) (l : LogV) : Prop := ∀ K : AV → Heap → LogV → Prop, K y o' l → (frzV x).vp o K
def FrzL (x : List AV) (o : Heap) (y : List AV) (o' : Heap) (l : LogV) : Prop := ∀ K : List AV → Heap → LogV → Prop, K y o' l → (frzVs x).vp o K
section
variable {o1 o2 : Heap} {l1 l2 : LogV}
theorem fz_v {v : Value} : Frz (.v v) o (.v v) o ([], []) := fun K h => h
theorem fz_ro {rows : Rows} : Frz (.ro rows) o (.ro rows) o ([], []) := fun K h => h
theorem fz_nil : Frz .nil o (.ro []) o ([], []) := fun K h => h
theorem fz_ref {n : Nat} {b : Option Nat} {cap k len : Nat} {xs : List α} {g : α → List T} (ho : o n = some (ent b cap k (xs.map f))) (he : ∀ x, erL (f x) = some (g x)) (hl : len = xs.length) : Frz (.ref n b cap 0 len k) o (.ro (xs.map g)) (upd o n none) ([n], [n]) := fun K h => by
  subst hl
  refine vp_get ho (vp_rb (vp_need ?_ (vp_rb (vp_put (vp_rb (vp_opt (a := xs.map g) ?_ (vp_ret h)))))))
  · simp [ent]
  · simp only [ent, List.drop_zero]
    rw [show (xs.map f).take xs.length = xs.map f by rw [← List.length_map (f := f), List.take_length], erR_map he]
theorem fz_agg {cs ys : List AV} (h : FrzL cs o ys o1 l1) : Frz (.agg cs) o (.agg ys) o1 l1 := fun K hK => vp_bind (h _ (vp_ret (by simpa using hK)))
theorem fz_tup {cs ys : List AV} (h : FrzL cs o ys o1 l1) : Frz (.tup cs) o (.tup ys) o1 l1 := fun K hK => vp_bind (h _ (vp_ret (by simpa using hK)))
theorem fzs_nil : FrzL [] o [] o ([], []) := fun K h => h
theorem fzs_cons {x y : AV} {xs ys : List AV} (h : Frz x o y o1 l1) (hs : FrzL xs o1 ys o2 l2) : FrzL (x :: xs) o (y :: ys) o2 (l1.1 ++ l2.1, l1.2 ++ l2.2) := fun K hK => vp_bind (h _ (vp_bind (hs _ (vp_ret (by simpa using hK)))))
theorem r_fz {x y : AV} {K : AV → Heap → LogV → Prop} (h : Frz x o y o1 l1) (hk : K y o1 l1) : (frzV x).vp o K := h K hk
theorem r_rn {m k0 n : Nat} {b : Option Nat} {cap off len k : Nat} {x : AV} {e : Ent} {K : AV → Heap → LogV → Prop} (hx : x = .ref n b cap off len k) (ho : o n = some e) (hk : K (.ref m b cap off len k) (upd (upd o n none) m (some e)) ([n], [n, m])) : (renV m k0 x).vp o K := by
  subst hx
  exact vp_get ho (vp_rb (vp_put (vp_rb (vp_put (vp_ret hk)))))
theorem r_rnn {m k0 : Nat} {x : AV} {K : AV → Heap → LogV → Prop} (hx : x = .nil) (hk : K (.ref m none 0 0 0 k0) (upd o m (some (ent none 0 k0 []))) ([], [m])) : (renV m k0 x).vp o K := by
  subst hx
  exact vp_put (vp_ret hk)
end
def Giv (k : Option Nat) (x : AV) (o : Heap) (c : T) (o' : Heap) : Prop := ∀ K : T → Heap → LogV → Prop, (∀ l, K c o' l) → (giveTk k x).vp o K
def GivL (ks : List (Option Nat)) (xs : List AV) (o : Heap) (cs : List T) (o' : Heap) : Prop := ∀ K : List T → Heap → LogV → Prop, (∀ l, K cs o' l) → (giveTs ks xs).vp o K
def Clo (c : T) (o : Heap) (c' : T) (o' : Heap) : Prop := ∀ K : T → Heap → LogV → Prop, (∀ l, K c' o' l) → (closeT c).vp o K
def CloL (cs : List T) (o : Heap) (cs' : List T) (o' : Heap) : Prop := ∀ K : List T → Heap → LogV → Prop, (∀ l, K cs' o' l) → (closeTs cs).vp o K
def Res1 (t : Tm) (r : Nat ⊕ Nat × Nat) (ks : List (Option Nat)) (o : Heap) (x : Bool × List T) (o' : Heap) : Prop := ∀ K : Bool × List T → Heap → LogV → Prop, (∀ l, K x o' l) → (results1 t r ks).vp o K
def ResA (t : Tm) (r : List (Nat ⊕ Nat × Nat)) (ks : List (List (Option Nat))) (o : Heap) (x : List (Bool × List T)) (o' : Heap) : Prop := ∀ K : List (Bool × List T) → Heap → LogV → Prop, (∀ l, K x o' l) → (resultsA t r ks).vp o K
section
variable {k : Option Nat} {ks : List (Option Nat)} {o1 o2 o' : Heap}
theorem giv_v {v : Value} (h : v.oneCell' = true) : Giv none (.v v) o (.v v) o := fun K hK => ⟨h, hK _⟩
theorem giv_nil {k : Nat} : Giv (some k) .nil o (.sl true k []) o := fun K hK => hK _
theorem giv_ro {k : Nat} {rows : Rows} : Giv (some k) (.ro rows) o (.sl false (k % 16) rows) o := fun K hK => hK _
theorem giv_ref {kk n len : Nat} {b : Option Nat} {cap : Nat} {rows : Rows} (ho : o n = some (ent b cap kk rows)) (hl : len = rows.length) : Giv k (.ref n b cap 0 len kk) o (.sl true kk rows) (upd o n none) := fun K hK => by
  subst hl
  have h : (giveT (.ref n b cap 0 rows.length kk)).vp o K := by
    refine vp_get ho (vp_need (by simp [ent]) (vp_put (vp_ret ?_)))
    simp only [ent, List.take_length]
    exact hK _
  cases k <;> exact h
theorem givs_nil : GivL [] [] o [] o := fun K hK => hK _
theorem givs_cons {x : AV} {xs : List AV} {c : T} {cs : List T} (h : Giv k x o c o1) (hs : GivL ks xs o1 cs o2) : GivL (k :: ks) (x :: xs) o (c :: cs) o2 := fun K hK => vp_bind (h _ fun l => vp_bind (hs _ fun l2 => vp_ret (hK _)))
theorem clo_v {v : Value} : Clo (.v v) o (.v v) o := fun K hK => hK _
theorem clo_sl {w : Bool} {k : Nat} {rows : Rows} : Clo (.sl w k rows) o (.sl w k rows) o := fun K hK => hK _
theorem clo_al {kk n len : Nat} {b : Option Nat} {cap : Nat} {rows : Rows} (ho : o n = some (ent b cap kk rows)) (hl : len = rows.length) : Clo (.al n b cap 0 len kk) o (.sl true kk rows) (upd o n none) := fun K hK => by
  subst hl
  refine vp_get ho (vp_need (by simp [ent]) (vp_put (vp_ret ?_)))
  simp only [ent, List.take_length]
  exact hK _
theorem clos_nil : CloL [] o [] o := fun K hK => hK _
theorem clos_cons {c c' : T} {cs cs' : List T} (h : Clo c o c' o1) (hs : CloL cs o1 cs' o2) : CloL (c :: cs) o (c' :: cs') o2 := fun K hK => vp_bind (h _ fun l => vp_bind (hs _ fun l2 => vp_ret (hK _)))
theorem res_t {n : Nat} {x : AV} {cs : List T} {g : Bool} (hx : t n = x) (hg : isAgg' x = g) (h : GivL ks (flat x) o cs o') : Res1 t (.inl n) ks o (g, cs) o' := fun K hK => by
  subst hx
  subst hg
  exact vp_bind (h _ fun l => vp_ret (hK _))
theorem res_c {n m sz k : Nat} {b : Option Nat} {e : Ent} {row cs : List T} (hx : t n = .ptr m b k 0 0) (ho : o m = some e) (hb : e.b = b) (hk : e.k = k) (hr : e.rows = [row]) (hz : row.length = sz) (hbx : e.box = true) (h : CloL row (upd o m none) cs o') : Res1 t (.inr (n, sz)) ks o (true, cs) o' := fun K hK => by
  simp only [results1, hx]
  refine vp_get ho (vp_need ?_ (vp_put (vp_rb ?_)))
  · simp [hb, hk, hr, hz, hbx]
  · rw [hr]
    exact vp_bind (h _ fun l => vp_ret (hK _))
theorem ress_nil : ResA t [] [] o [] o := fun K hK => hK _
theorem ress_cons {r : Nat ⊕ Nat × Nat} {rs : List (Nat ⊕ Nat × Nat)} {kss : List (List (Option Nat))} {x : Bool × List T} {xs : List (Bool × List T)} (h : Res1 t r ks o x o1) (hs : ResA t rs kss o1 xs o2) : ResA t (r :: rs) (ks :: kss) o (x :: xs) o2 := fun K hK => vp_bind (h _ fun l => vp_bind (hs _ fun l2 => vp_ret (hK _)))
theorem r_ret {fn : IFn} {kss : List (List (Option Nat))} {bs : Nat → Option Nat × Nat} {an : Ans} {xs : List (Bool × List T)} (h : ResA t fn.res kss o xs o') (hx : xs = an.res) (ho : an.outs = []) : vret fn kss bs [] an ⟨t, o⟩ := by
  refine vp_bind (vp_ret (vp_bind (h _ fun l => vp_ret ⟨hx, ho.symm⟩)))
end
def ovr : List (Nat × AV) → Tm → Tm
  | [], t => t
  | (i, x) :: L, t => updT (ovr L t) (some i) x
def ovh : List (Nat × Ent) → Heap → Heap
  | [], o => o
  | (i, x) :: L, o => upd (ovh L o) i (some x)
theorem ovn : t = ovr [] t := rfl
theorem ovc {i : Nat} {x : AV} {L : List (Nat × AV)} (h : t i = x) (hs : t = ovr L t) : t = ovr ((i, x) :: L) t := by
  simp only [ovr]
  rw [← hs]
  exact pin1 h
theorem ovc_len {i n k l l' : Nat} {b : Option Nat} {cap : Nat} {L : List (Nat × AV)} (h : t i = .ref n b cap 0 l k) (hl : l = l') (hs : t = ovr L t) : t = ovr ((i, .ref n b cap 0 l' k) :: L) t := ovc (by rw [h, hl]) hs
theorem ohn : o = ovh [] o := rfl
theorem ohc {i : Nat} {x : Ent} {L : List (Nat × Ent)} (h : o i = some x) (hs : o = ovh L o) : o = ovh ((i, x) :: L) o := by
  simp only [ovh]
  rw [← hs]
  exact pinH h
end
section
variable {G : Gam} {Q : Ex → St → Prop} {s : St} {a b : IC}
def kcut (P : Tm → Heap → Prop) (Q : Ex → St → Prop) : Ex → St → Prop := fun e s' => match e with
  | .norm => P s'.t s'.o
  | .exit i => Q (.exit i) s'
  | .ret => Q .ret s'
theorem k_cn {P : Tm → Heap → Prop} {t : Tm} {o : Heap} (h : P t o) : kcut P Q .norm ⟨t, o⟩ := h
theorem k_ce {P : Tm → Heap → Prop} {i : Nat} (h : Q (.exit i) s) : kcut P Q (.exit i) s := h
theorem k_cr {P : Tm → Heap → Prop} (h : Q .ret s) : kcut P Q .ret s := h
def kloop2 (I : Nat → Tm → Heap → Prop) (n : Nat) (Q : Ex → St → Prop) : Ex → St → Prop := kloop (fun m s => I m s.t s.o) n Q
theorem w_loop2 {t : Tm} {o : Heap} (I : Nat → Tm → Heap → Prop) (n : Nat) (h0 : I n t o) (h : ∀ n t o, I n t o → vwp G a (kloop2 I n Q) ⟨t, o⟩) : vwp G (.loop a) Q ⟨t, o⟩ := w_loop (fun m s => I m s.t s.o) n h0 fun n s' hi => h n s'.t s'.o hi
theorem k_ln2 {I : Nat → Tm → Heap → Prop} {n : Nat} {t : Tm} {o : Heap} (m : Nat) (hm : m < n) (h : I m t o) : kloop2 I n Q .norm ⟨t, o⟩ := ⟨m, hm, h⟩
theorem k_le2 {I : Nat → Tm → Heap → Prop} {n i : Nat} (h : Q (.exit i) s) : kloop2 I n Q (.exit i) s := h
theorem k_lr2 {I : Nat → Tm → Heap → Prop} {n : Nat} (h : Q .ret s) : kloop2 I n Q .ret s := h
def seqC (a b : IC) : IC := .seq a b
def blkC (id : Nat) (a : IC) : IC := .block id a
theorem w_last {id : Nat} (P : Tm → Heap → Prop) (h1 : vwp G a (kblk id (kcut P Q)) s) (h2 : ∀ t o, P t o → Q .norm ⟨t, o⟩) : vwp G (blkC id a) Q s := by
  refine ⟨fun s => P s.t s.o, ?_, fun s' h => h2 s'.t s'.o h⟩
  exact h1
theorem w_cut (P : Tm → Heap → Prop) (h1 : vwp G a (kcut P Q) s) (h2 : ∀ t o, P t o → vwp G b Q ⟨t, o⟩) : vwp G (seqC a b) Q s := ⟨fun s => P s.t s.o, h1, fun s' h => h2 s'.t s'.o h⟩
end
end Go.Proofs.AM
