/- Lemmas of the proof (G2), on an abstract machine. Conditions: none. -/
import Derived.Test.YtodmjmkakgamlaaGreatDoorG
set_option linter.unusedVariables false
namespace Go.Proofs.AM
def rounds : Nat := 4194304
theorem does_pn {G : Gam} {f : IFn} {ks : List (List (Option Nat))} {xs : List AV} {an : Ans} {L : List (Nat × AV)} (hL : ∀ bs, Pin (parT bs xs) (ovr L (parT bs xs))) (h : ∀ bs t o, vwp G f.body (kend f ks bs [] an) ⟨ovr L t, o⟩) : Does G f ks xs [] an := does_mk fun bs => by
 have := h bs (parT bs xs) (parH bs [])
 rw [show ovr L (parT bs xs) = parT bs xs from (hL bs).symm] at this
 exact this
theorem does_pg {G : Gam} {f : IFn} {ks : List (List (Option Nat))} {xs : List AV} {ins : List (Bool × Nat × Rows)} {an : Ans} {L : (Nat → Option Nat × Nat) → List (Nat × AV)} {H : (Nat → Option Nat × Nat) → List (Nat × Ent)} (hL : ∀ bs, Pin (parT bs xs) (ovr (L bs) (parT bs xs))) (hH : ∀ bs, PinH (parH bs ins) (ovh (H bs) (parH bs ins))) (h : ∀ bs t o, vwp G f.body (kend f ks bs ins an) ⟨ovr (L bs) t, ovh (H bs) o⟩) : Does G f ks xs ins an := does_mk fun bs => by
 have := h bs (parT bs xs) (parH bs ins)
 rw [show ovr (L bs) (parT bs xs) = parT bs xs from (hL bs).symm, show ovh (H bs) (parH bs ins) = parH bs ins from (hH bs).symm] at this
 exact this
theorem gd {R : Type} {p : Bool} {A : Option R} {r : R} (h : (if p = true then A else none) = some r) : p = true ∧ A = some r := by
 split at h
 ·exact ⟨by assumption, h⟩
 ·cases h
theorem band1 {a b : Bool} (h : (a && b) = true) : a = true := by simp at h; exact h.1
theorem band2 {a b : Bool} (h : (a && b) = true) : b = true := by simp at h; exact h.2
section
variable {α : Type} {xs l : List α} {x : α} {k : Nat} {s : Str} {bs : List UInt8} {b : UInt8}
theorem drop_ge (h : xs.drop k = []) : decide ((k : Int) < (xs.length : Int)) = false := by
 have := List.drop_eq_nil_iff.1 h
 exact decide_eq_false (by omega)
theorem drop_len (h : xs.drop k = x :: l) : k < xs.length := by
 rcases Nat.lt_or_ge k xs.length with h1 | h1
 ·exact h1
 ·rw [List.drop_eq_nil_of_le h1] at h
  cases h
theorem drop_lt (h : xs.drop k = x :: l) : decide ((k : Int) < (xs.length : Int)) = true := decide_eq_true (by have := drop_len h; omega)
theorem drop_get (h : xs.drop k = x :: l) : xs[k]? = some x := by
 have h1 : (xs.drop k)[0]? = some x := by rw [h]; rfl
 simpa using h1
theorem drop_ix (h : xs.drop k = x :: l) : idx xs (k : Int) = some x := by
 unfold idx
 rw [if_pos (by omega)]
 simpa using drop_get h
theorem drop_next (h : xs.drop k = x :: l) : xs.drop (k + 1) = l := by
 rw [← List.drop_drop, h]
 rfl
theorem drop_wr (h : xs.drop k = x :: l) (hf : fits xs.length = true) : IntKind.i64.wrap ((k : Int) + 1) = ((k + 1 : Nat) : Int) := by
 have h1 := drop_len h
 have h2 := fits_le hf
 unfold most at h2
 rw [wrap_id (by omega) (by omega)]
 omega
theorem drop_geB (h : s.data.toList.drop k = []) : decide ((k : Int) < (s.size : Int)) = false := by
 have := List.drop_eq_nil_iff.1 h
 have e : s.data.toList.length = s.size := by simp
 exact decide_eq_false (by omega)
theorem drop_lenB (h : s.data.toList.drop k = b :: bs) : k < s.size := by
 have := drop_len h
 have e : s.data.toList.length = s.size := by simp
 omega
theorem drop_ltB (h : s.data.toList.drop k = b :: bs) : decide ((k : Int) < (s.size : Int)) = true := decide_eq_true (by have := drop_lenB h; omega)
theorem drop_ixB (h : s.data.toList.drop k = b :: bs) : bidx s (k : Int) = some b := by
 unfold bidx
 rw [if_pos (by omega)]
 simpa using drop_get h
theorem drop_wrB (h : s.data.toList.drop k = b :: bs) (hf : fits s.size = true) : IntKind.i64.wrap ((k : Int) + 1) = ((k + 1 : Nat) : Int) := by
 have h1 := drop_lenB h
 have h2 := fits_le hf
 unfold most at h2
 rw [wrap_id (by omega) (by omega)]
 omega
end
section
variable {G : Gam} {Q : Ex → St → Prop} {s : St} {a b : IC} {t t' : Tm} {o o' : Heap}
theorem pinned {c : IC} (h1 : Pin t t') (h2 : PinH o o') (h : vwp G c Q ⟨t', o'⟩) : vwp G c Q ⟨t, o⟩ := by
 cases h1
 cases h2
 exact h
theorem pinnedQ {Q : St → Prop} (h1 : Pin t t') (h2 : PinH o o') (h : Q ⟨t', o'⟩) : Q ⟨t, o⟩ := by
 cases h1
 cases h2
 exact h
end
/-- A loop that writes elements keeps the length. -/
theorem fuelLen {α : Type} {gl : Nat → Int → Int → List α → Option (Int × List α)} (h0 : ∀ k i a, gl 0 k i a = none) (h1 : ∀ n k i a q, gl (n + 1) k i a = some q → (∃ k' i' a', List.length a' = a.length ∧ gl n k' i' a' = some q) ∨ q.2.length = a.length) : ∀ n k i a q, gl n k i a = some q → q.2.length = a.length
 | 0, k, i, a, q, h => by rw [h0] at h; cases h
 | n + 1, k, i, a, q, h => by
  rcases h1 n k i a q h with ⟨k', i', a', h2, h3⟩ | h2
  ·rw [fuelLen h0 h1 n k' i' a' q h3, h2]
  ·exact h2
/-! ### A list is written over in place (slices.Delete) -/
section
variable {G : Gam} {t : Tm} {o : Heap} {KL : St → LogV → Prop} {d : Option Nat} {α : Type} {f : α → List T}
theorem r_sl3 {e : Nat} {x lo hi mx : Od} {n cap len k : Nat} {b : Option Nat} {l h : Int} {xs : List α} {q : List α} {k1 k2 k3 : IntKind} (hx : ev t x = .ref n b cap 0 len k) (hl : ev t lo = .v (.int k1 l)) (hh : ev t hi = .v (.int k2 h)) (hm : ev t mx = .v (.int k3 (len : Int))) (hlen : len = xs.length) (hs : slc xs l h = some q) (he : e = esz k) (hk : KL ⟨updT t d .junk, o⟩ ([], [])) : vdo G d (.sl3 e x lo hi mx) t o KL := by
 show ∃ y, evp t (.sl3 e x lo hi mx) = some y ∧ KL ⟨updT t d y, o⟩ ([], [])
 unfold slc at hs
 split at hs
 ·rename_i hc
  refine ⟨_, ?_, hk⟩
  simp only [evp, hx, hl, hh, hm, asI]
  rw [if_pos ⟨he, hc.1, hc.2.1, by omega, Int.le_refl _⟩]
 ·cases hs
theorem r_slv {e : Nat} {x : Od} {lo hi : Option Od} {n cap len k : Nat} {b : Option Nat} {l h : Option Int} (hx : ev t x = .ref n b cap 0 len k) (hl : asIo (lo.map (ev t)) = some l) (hh : asIo (hi.map (ev t)) = some h) (he : e = esz k) (h0 : 0 ≤ l.getD 0) (h1 : l.getD 0 ≤ h.getD len) (h2 : h.getD len ≤ len) (hk : KL ⟨updT t d (.ref n b cap (l.getD 0).toNat ((h.getD len).toNat - (l.getD 0).toNat) k), o⟩ ([], [])) : vdo G d (.sls e x lo hi) t o KL := by
 show ∃ y, evp t (.sls e x lo hi) = some y ∧ KL ⟨updT t d y, o⟩ ([], [])
 refine ⟨_, ?_, hk⟩
 simp only [evp, hx, hl, hh]
 rw [if_pos ⟨he, h0, h1, h2⟩]
 simp
theorem r_slx {e : Nat} {x : Od} {lo hi : Option Od} {n cap len k : Nat} {b : Option Nat} {l h : Option Int} {rows : Rows} (hx : ev t x = .ref n b cap 0 len k) (hl : asIo (lo.map (ev t)) = some l) (hh : asIo (hi.map (ev t)) = some h) (ho : o n = some (ent b cap k rows)) (he : e = esz k) (h0 : 0 ≤ l.getD 0) (h1 : l.getD 0 ≤ h.getD len) (h2 : (h.getD len).toNat ≤ rows.length) (hk : KL ⟨updT t d (.ref n b cap (l.getD 0).toNat ((h.getD len).toNat - (l.getD 0).toNat) k), o⟩ ([n], [])) : vdo G d (.slx e x lo hi) t o KL := by
 show vheap G d (.slx e x lo hi) t o KL
 intro ch
 simp only [opSem, hx, hl, hh]
 refine vp_get ho (vp_need ?_ (vp_ret ?_))
 ·simp [ent, he, h0, h1, h2]
 ·simpa using hk
theorem r_ain {k n cap i j m : Nat} {b : Option Nat} {xs ys : List α} {a bo : Od} (ha : ev t a = .ref n b cap 0 i k) (hb : ev t bo = .ref n b cap j m k) (ho : o n = some (ent b cap k (xs.map f))) (hy : ys = (xs.drop j).take m) (hm : j + m ≤ xs.length) (hi : i + m ≤ xs.length) (hp : ∀ x, plain [f x] = true) (hk : KL ⟨updT t d (.ref n b cap 0 (i + m) k), upd o n (some (ent b cap k ((xs.take i ++ ys ++ xs.drop (i + m)).map f)))⟩ ([n] ++ [n], [] ++ [n])) : vdo G d (.ain k a bo) t o KL := by
 show vheap G d (.ain k a bo) t o KL
 intro ch
 have hyl : ys.length = m := by rw [hy, List.length_take, List.length_drop]; omega
 have hs : Src k false (some n) (.ref n b cap j m k) o (ys.map f) o ([n], []) := fun K h => by
  refine vp_get ho (vp_need ?_ (vp_need ?_ (vp_ret ?_)))
  ·simp [ent]; omega
  ·simp only [ent]
   rw [← List.map_drop, ← List.map_take, plain_map hp]
  ·simp only [ent]
   rw [← List.map_drop, ← List.map_take, ← hy]
   exact h
 simp only [opSem, ha, hb]
 refine vp_bind (hs _ (vp_get ho (vp_need ?_ (vp_put (vp_ret ?_)))))
 ·simp only [ent, List.length_map, hyl, plain_map hp]
  simp
  omega
 ·simp only [ent, List.length_map, hyl]
  have e : (xs.map f).take i ++ ys.map f ++ (xs.map f).drop (i + m) = (xs.take i ++ ys ++ xs.drop (i + m)).map f := by simp [List.map_take, List.map_drop]
  rw [e]
  exact hk
theorem r_clr {k n cap off len : Nat} {b : Option Nat} {xs : List α} {z : List T} {z0 : α} {x : Od} (hx : ev t x = .ref n b cap off len k) (ho : o n = some (ent b cap k (xs.map f))) (hz : z = f z0) (hl : off + len ≤ xs.length) (hp : ∀ x, plain [f x] = true) (hk : KL ⟨updT t d .junk, upd o n (some (ent b cap k ((xs.take off ++ List.replicate len z0 ++ xs.drop (off + len)).map f)))⟩ ([n], [n])) : vdo G d (.clr k z x) t o KL := by
 show vheap G d (.clr k z x) t o KL
 intro ch
 simp only [opSem, hx]
 refine vp_get ho (vp_need ?_ (vp_put (vp_ret ?_)))
 ·simp only [ent, List.length_map, plain_map hp, hz, hp]
  simp [hl]
 ·have e : (xs.map f).take off ++ List.replicate len z ++ (xs.map f).drop (off + len) = (xs.take off ++ List.replicate len z0 ++ xs.drop (off + len)).map f := by simp [List.map_take, List.map_drop, hz]
  simp only [ent]
  rw [e]
  exact hk
theorem r_trv {n k cap len : Nat} {b : Option Nat} {xs ys : List α} {x : AV} {K : AV → Heap → LogV → Prop} (hx : x = .ref n b cap 0 len k) (ho : o n = some (ent b cap k (xs.map f))) (hy : ys = xs.take len) (hl : len ≤ xs.length) (hk : K (.ref n b cap 0 len k) (upd o n (some (ent b cap k (ys.map f)))) ([n], [n])) : (trnV x).vp o K := by
 subst hx
 subst hy
 refine vp_get ho (vp_rb (vp_need ?_ (vp_rb (vp_put (vp_ret ?_)))))
 ·simp [ent, hl]
 ·simp only [ent]
  rw [← List.map_take]
  exact hk
end
section
variable {G : Gam} {t : Tm} {o : Heap} {KL : St → LogV → Prop} {d : Option Nat} {α : Type} {f : α → List T}
theorem slc_le {xs q : List α} {i j : Int} (h : slc xs i j = some q) : 0 ≤ i ∧ i ≤ j ∧ j ≤ xs.length := by
 unfold slc at h
 split at h
 ·assumption
 ·cases h
theorem r_slv0 {e : Nat} {x : Od} {lo hi : Option Od} {n cap len k : Nat} {b : Option Nat} {j : Int} (hx : ev t x = .ref n b cap 0 len k) (hl : asIo (lo.map (ev t)) = some none) (hh : asIo (hi.map (ev t)) = some (some j)) (he : e = esz k) (h0 : 0 ≤ j) (h1 : j ≤ len) (hk : KL ⟨updT t d (.ref n b cap 0 j.toNat k), o⟩ ([], [])) : vdo G d (.sls e x lo hi) t o KL := r_slv hx hl hh he (by simp) (by simpa using h0) (by simpa using h1) (by simpa using hk)
theorem r_slv1 {e : Nat} {x : Od} {lo hi : Option Od} {n cap len k : Nat} {b : Option Nat} {j : Int} (hx : ev t x = .ref n b cap 0 len k) (hl : asIo (lo.map (ev t)) = some (some j)) (hh : asIo (hi.map (ev t)) = some none) (he : e = esz k) (h0 : 0 ≤ j) (h1 : j ≤ len) (hk : KL ⟨updT t d (.ref n b cap j.toNat (len - j.toNat) k), o⟩ ([], [])) : vdo G d (.sls e x lo hi) t o KL := r_slv hx hl hh he (by simpa using h0) (by simpa using h1) (by simp) (by simpa using hk)
theorem r_slx2 {e : Nat} {x : Od} {lo hi : Option Od} {n cap len k : Nat} {b : Option Nat} {i j : Int} {rows : Rows} (hx : ev t x = .ref n b cap 0 len k) (hl : asIo (lo.map (ev t)) = some (some i)) (hh : asIo (hi.map (ev t)) = some (some j)) (ho : o n = some (ent b cap k rows)) (he : e = esz k) (h0 : 0 ≤ i) (h1 : i ≤ j) (h2 : j.toNat ≤ rows.length) (hk : KL ⟨updT t d (.ref n b cap i.toNat (j.toNat - i.toNat) k), o⟩ ([n], [])) : vdo G d (.slx e x lo hi) t o KL := r_slx hx hl hh ho he (by simpa using h0) (by simpa using h1) (by simpa using h2) (by simpa using hk)
theorem del_ys (a : List α) {j : Nat} : a.drop j = (a.drop j).take (a.length - j) := by rw [List.take_of_length_le (by simp)]
def del_xs (a : List α) (i j : Int) (z : α) : List α := (a.take i.toNat ++ a.drop j.toNat ++ a.drop (i.toNat + (a.length - j.toNat))).take ((i.toNat + (a.length - j.toNat) : Nat) : Int).toNat ++ List.replicate ((a.length : Int).toNat - ((i.toNat + (a.length - j.toNat) : Nat) : Int).toNat) z ++ (a.take i.toNat ++ a.drop j.toNat ++ a.drop (i.toNat + (a.length - j.toNat))).drop (((i.toNat + (a.length - j.toNat) : Nat) : Int).toNat + ((a.length : Int).toNat - ((i.toNat + (a.length - j.toNat) : Nat) : Int).toNat))
section
variable {a : List α} {i j : Int} {z : α} (s0 : 0 ≤ i) (s1 : i ≤ j) (s2 : j ≤ a.length)
include s0 s1 s2
theorem del_len : i.toNat + (a.length - j.toNat) = (a.take i.toNat ++ a.drop j.toNat).length := by
 rw [List.length_append, List.length_take, List.length_drop]
 omega
theorem del_eq : a.take i.toNat ++ a.drop j.toNat = (del_xs a i j z).take (i.toNat + (a.length - j.toNat)) := by
 have h := del_len s0 s1 s2
 unfold del_xs
 simp only [Int.toNat_natCast]
 rw [h, List.append_assoc, List.take_append_of_le_length (by simp), List.take_take, Nat.min_self, List.take_left]
theorem del_le : i.toNat + (a.length - j.toNat) ≤ (del_xs a i j z).length := by
 have h := del_len s0 s1 s2
 unfold del_xs
 simp only [Int.toNat_natCast, List.length_append, List.length_take, List.length_drop, List.length_replicate]
 simp only [List.length_append, List.length_take, List.length_drop] at h
 omega
end
end
section
variable {G : Gam} {t : Tm} {o : Heap} {KL : St → LogV → Prop} {d : Option Nat} {α : Type} {f : α → List T}
theorem slc_hi {xs q : List α} {j : Int} (h : slc xs j (xs.length : Int) = some q) : 0 ≤ j ∧ j ≤ xs.length ∧ q = xs.drop j.toNat := by
 unfold slc at h
 split at h
 ·rename_i hc
  cases h
  exact ⟨hc.1, hc.2.1, by simp⟩
 ·cases h
theorem slc_lo {xs q : List α} {j : Int} (h : slc xs 0 j = some q) : 0 ≤ j ∧ j ≤ xs.length ∧ q = xs.take j.toNat := by
 unfold slc at h
 split at h
 ·rename_i hc
  cases h
  exact ⟨hc.2.1, hc.2.2, by simp⟩
 ·cases h
theorem r_slw {e : Nat} {x : Od} {lo hi : Option Od} {n len kk cap : Nat} {b : Option Nat} {xs ys : List α} {j : Int} (hs : slc xs j (xs.length : Int) = some ys) (hx : ev t x = .ref n b cap 0 len kk) (hl : asIo (lo.map (ev t)) = some (some j)) (hh : asIo (hi.map (ev t)) = some none) (he : e = esz kk) (hlen : len = xs.length) (hk : KL ⟨updT t d (.ref n b cap (j).toNat ys.length kk), o⟩ ([], [])) : vdo G d (.sls e x lo hi) t o KL := by
 obtain ⟨h1, h2, h3⟩ := slc_hi hs
 refine r_slv1 hx hl hh he h1 (by omega) ?_
 rw [h3, List.length_drop] at hk
 rw [hlen]
 exact hk
theorem r_ainv {k n cap : Nat} {b : Option Nat} {xs x1 x2 : List α} {i j : Int} {a bo : Od} (h1 : slc xs 0 i = some x1) (h2 : slc xs j (xs.length : Int) = some x2) (hg : decide (x1.length + x2.length ≤ xs.length) = true) (ha : ev t a = .ref n b cap 0 x1.length k) (hb : ev t bo = .ref n b cap (j).toNat x2.length k) (ho : o n = some (ent b cap k (xs.map f))) (hp : ∀ x, plain [f x] = true) (hk : KL ⟨updT t d (.ref n b cap 0 (x1 ++ x2).length k), upd o n (some (ent b cap k ((x1 ++ x2 ++ xs.drop (x1.length + x2.length)).map f)))⟩ ([n] ++ [n], [] ++ [n])) : vdo G d (.ain k a bo) t o KL := by
 obtain ⟨p1, p2, p3⟩ := slc_lo h1
 obtain ⟨q1, q2, q3⟩ := slc_hi h2
 have hg := of_decide_eq_true hg
 have e1 : x1 = xs.take x1.length := by rw [p3, List.length_take, Nat.min_eq_left (by omega)]
 have l2 : x2.length = xs.length - j.toNat := by rw [q3, List.length_drop]
 refine r_ain (ys := x2) ha hb ho (by rw [q3, List.take_of_length_le (Nat.le_refl _)]) (by omega) hg hp ?_
 rw [← e1, ← List.length_append]
 rw [← List.length_append] at hk
 exact hk
def RnL (m : Nat) (xs : List AV) (o : Heap) (ys : List AV) (o' : Heap) (l : LogV) : Prop := ∀ K : List AV → Heap → LogV → Prop, K ys o' l → (renL m xs).vp o K
theorem rn_nil {m : Nat} : RnL m [] o [] o ([], []) := fun K h => h
theorem rn_ref {m m2 n : Nat} {b : Option Nat} {cap off len k : Nat} {cs ys : List AV} {e : Ent} {o' : Heap} {l : LogV} (hm : m2 = m + 1) (ho : o n = some e) (h : RnL m2 cs (upd (upd o n none) m (some e)) ys o' l) : RnL m (.ref n b cap off len k :: cs) o (.ref m b cap off len k :: ys) o' (n :: l.1, n :: m :: l.2) := fun K hK => by
 subst hm
 refine vp_get ho (vp_rb (vp_put (vp_rb (vp_put (vp_rb (vp_bind (h _ (vp_ret ?_))))))))
 simpa using hK
theorem r_rna {m k0 : Nat} {x : AV} {cs ys : List AV} {o' : Heap} {l : LogV} {K : AV → Heap → LogV → Prop} (hx : x = .agg cs) (h : RnL m cs o ys o' l) (hk : K (.agg ys) o' l) : (renV m k0 x).vp o K := by
 subst hx
 refine vp_bind (h _ (vp_ret ?_))
 simpa using hk
end
theorem tk_eq {α : Type} {a b c : List α} : a ++ b = (a ++ b ++ c).take (a ++ b).length := by rw [List.take_left]
theorem tk_le {α : Type} {a b c : List α} : (a ++ b).length ≤ (a ++ b ++ c).length := by rw [List.length_append (bs := c)]; exact Nat.le_add_right _ _
/-! ### Maps of ours -/
section
variable {G : Gam} {t : Tm} {o : Heap} {KL : St → LogV → Prop} {d : Option Nat}
def mapent (g : Nat) (es : List (Int × Int)) : Ent := { b := none, cap := 0, k := 0, box := true, rows := mapRows g es }
theorem rowEs_map : ∀ es : List (Int × Int), rowEs (es.map mapRow) = some es
 | [] => rfl
 | p :: es => by simp [rowEs, mapRow, rowEs_map es]
theorem mapEs_rows (g : Nat) (es : List (Int × Int)) : mapEs g (mapRows g es) = some es := by simp [mapEs, mapRows, rowEs_map]
theorem r_mnew (hk : ∀ g, KL ⟨updT t d (.v (.map (some g))), upd o (dstN d * 8) (some (mapent g []))⟩ ([], [dstN d * 8])) : vdo G d .mnew t o KL := by
 show vheap G d .mnew t o KL
 intro ch
 simp only [opSem]
 exact vp_put (vp_ret (hk ((ch 0).1.getD 0)))
theorem r_mset {n g : Nat} {x k v : Od} {es : List (Int × Int)} {a c : Int} (hx : ev t x = .v (.map (some g))) (ha : ev t k = .v (.int .i64 a)) (hc : ev t v = .v (.int .i64 c)) (ho : o n = some (mapent g es)) (hk : KL ⟨updT t d .junk, upd o n (some (mapent g (mput es a c)))⟩ ([n], [n])) : vdo G d (.mset n x k v) t o KL := by
 show vheap G d (.mset n x k v) t o KL
 intro ch
 simp only [opSem, hx, ha, hc, asMap, asK]
 refine vp_get ho (vp_rb (vp_need rfl (vp_rb (vp_opt (mapEs_rows g es) (vp_rb (vp_put (vp_ret ?_)))))))
 exact hk
theorem r_mget {n g : Nat} {x k : Od} {es : List (Int × Int)} {a : Int} (hx : ev t x = .v (.map (some g))) (ha : ev t k = .v (.int .i64 a)) (ho : o n = some (mapent g es)) (hk : KL ⟨updT t d (.v (.int .i64 (mget es a))), o⟩ ([n], [])) : vdo G d (.mget n x k) t o KL := by
 show vheap G d (.mget n x k) t o KL
 intro ch
 simp only [opSem, hx, ha, asMap, asK]
 refine vp_get ho (vp_rb (vp_need rfl (vp_rb (vp_opt (mapEs_rows g es) (vp_ret hk)))))
end
/-! ### Short words for the text of a function -/
section
def Io (x : IO') (d : Nat) : IOp := ⟨some d, x, none⟩
def Iz (x : IO') : IOp := ⟨none, x, none⟩
def Gt (g : Nat) (x : IOp) : IOp := ⟨x.dst, x.op, some (g, true)⟩
def Gf (g : Nat) (x : IOp) : IOp := ⟨x.dst, x.op, some (g, false)⟩
def Mv (n d : Nat) : IOp := ⟨some d, .mv (.t n), none⟩
def Fa (k n d : Nat) : IOp := ⟨some d, .faddr k (.t n), none⟩
def Ld (k n d : Nat) : IOp := ⟨some d, .load k false (.t n), none⟩
def La (k n d : Nat) : IOp := ⟨some d, .load k true (.t n), none⟩
def Ln (n d : Nat) : IOp := ⟨some d, .len false (.t n), none⟩
def Ls (n d : Nat) : IOp := ⟨some d, .len true (.t n), none⟩
def Bb (op : BinOp) (a b d : Nat) : IOp := ⟨some d, .bin op (.t a) (.t b), none⟩
def Bk (op : BinOp) (a : Nat) (b : Int) (d : Nat) : IOp := ⟨some d, .bin op (.t a) (.c (.int .i64 b)), none⟩
def Nt (n d : Nat) : IOp := ⟨some d, .un .not (.t n), none⟩
def Pk (a b d : Nat) : IOp := ⟨some d, .pick (.t a) (.c (.bool true)) (.t b), none⟩
def Pf (a b d : Nat) : IOp := ⟨some d, .pick (.t a) (.t b) (.c (.bool false)), none⟩
def Ia (k a b d : Nat) : IOp := ⟨some d, .iaddr k (.t a) (.t b), none⟩
def Ik (k a : Nat) (b : Int) (d : Nat) : IOp := ⟨some d, .iaddr k (.t a) (.c (.int .i64 b)), none⟩
def Si (a b d : Nat) : IOp := ⟨some d, .sidx (.t a) (.t b), none⟩
def Ki (k : Int) (d : Nat) : IOp := ⟨some d, .mv (.c (.int .i64 k)), none⟩
def Kb (b : Bool) (d : Nat) : IOp := ⟨some d, .mv (.c (.bool b)), none⟩
def Sv (ks : List (Option Nat)) (a b : Nat) : IOp := ⟨none, .store ks (.t a) (.t b), none⟩
def Xt (n k d : Nat) : IOp := ⟨some d, .ext (.t n) k, none⟩
def cm : List Nat → List (Bool × Od)
 | [] => []
 | n :: l => (false, .t n) :: cm l
def cw : List Nat → List (Bool × Od)
 | [] => []
 | n :: l => (false, .w n) :: cw l
def Ca (f : Nat) (l : List Nat) (d : Nat) : IOp := ⟨some d, .call f (cm l), none⟩
def Cw (f : Nat) (l : List Nat) (d : Nat) : IOp := ⟨some d, .call f (cw l), none⟩
/-- One behind the other, each into the next place. -/
def sq : Nat → List (Nat → IOp) → List IOp → List IOp
 | _, [], r => r
 | d, f :: l, r => f d :: sq (d + 1) l r
def Sg (g : Nat) : Nat → List (Nat → IOp) → List IOp → List IOp
 | _, [], r => r
 | d, f :: l, r => Gt g (f d) :: Sg g (d + 1) l r
def Sf (g : Nat) : Nat → List (Nat → IOp) → List IOp → List IOp
 | _, [], r => r
 | d, f :: l, r => Gf g (f d) :: Sf g (d + 1) l r
def Rs (l : List IOp) (x : IC) : IC := .seq (.reg l) x
def Ct (n : Nat) (a b : IC) : IC := .cond (.t n) a b
theorem w_ir {G : Gam} {a b : IC} {Q : Ex → St → Prop} {s : St} (h : vwp G b Q s) (e : a = b := by (dsimp only [Io, Iz, Gt, Gf, Mv, Fa, Ld, La, Ln, Ls, Bb, Bk, Nt, Pk, Pf, Ia, Ik, Si, Ki, Kb, Sv, Xt, cm, cw, Ca, Cw, sq, Sg, Sf, Rs, Ct, Nat.reduceAdd])) : vwp G a Q s := e ▸ h
end
end Go.Proofs.AM
