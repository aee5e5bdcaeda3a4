/- Lemmas of the proof (G2), on an abstract machine. Conditions: none. -/
import Derived.Test.YtknajiljcemblaaGreatG
set_option linter.unusedVariables false
namespace Go.Proofs.AM
def rounds : Nat := 4194304
theorem does_pn {G : Gam} {f : IFn} {ks : List (List (Option Nat))} {xs : List AV} {an : Ans} {L : List (Nat × AV)} (hL : ∀ bs, Pin (parT bs xs) (ovr L (parT bs xs))) (h : ∀ bs t o, vwp G f.body (kend f ks bs [] an) ⟨ovr L t, o⟩) : Does G f ks xs [] an := does_mk fun bs => by
 have := h bs (parT bs xs) (parH bs [])
 rw [show ovr L (parT bs xs) = parT bs xs from (hL bs).symm] at this
 exact this
theorem does_pg {G : Gam} {f : IFn} {ks : List (List (Option Nat))} {xs : List AV} {ins : List (Bool × Nat × Rows)} {an : Ans} {L : (Nat → Option Nat × Nat) → List (Nat × AV)} {H : (Nat → Option Nat × Nat) → List (Nat × Ent)} (hL : ∀ bs, Pin (parT bs xs) (ovr (L bs) (parT bs xs))) (hH : ∀ bs, PinH (parH bs ins) (ovh (H bs) (parH bs ins))) (h : ∀ bs t o, vwp G f.body (kend f ks bs ins an) ⟨ovr (L bs) t, ovh (H bs) o⟩) : Does G f ks xs ins an := does_mk fun bs => by
 have := h bs (parT bs xs) (parH bs ins)
 rw [show ovr (L bs) (parT bs xs) = parT bs xs from (hL bs).symm, show ovh (H bs) (parH bs ins) = parH bs ins from (hH bs).symm] at this
 exact this
theorem gd {R : Type} {p : Bool} {A : Option R} {r : R} (h : (if p = true then A else none) = some r) : p = true ∧ A = some r := by
 split at h
 ·exact ⟨by assumption, h⟩
 ·cases h
theorem band1 {a b : Bool} (h : (a && b) = true) : a = true := by simp at h; exact h.1
theorem band2 {a b : Bool} (h : (a && b) = true) : b = true := by simp at h; exact h.2
section
variable {α : Type} {xs l : List α} {x : α} {k : Nat} {s : Str} {bs : List UInt8} {b : UInt8}
theorem drop_ge (h : xs.drop k = []) : decide ((k : Int) < (xs.length : Int)) = false := by
 have := List.drop_eq_nil_iff.1 h
 exact decide_eq_false (by omega)
theorem drop_len (h : xs.drop k = x :: l) : k < xs.length := by
 rcases Nat.lt_or_ge k xs.length with h1 | h1
 ·exact h1
 ·rw [List.drop_eq_nil_of_le h1] at h
  cases h
theorem drop_lt (h : xs.drop k = x :: l) : decide ((k : Int) < (xs.length : Int)) = true := decide_eq_true (by have := drop_len h; omega)
theorem drop_get (h : xs.drop k = x :: l) : xs[k]? = some x := by
 have h1 : (xs.drop k)[0]? = some x := by rw [h]; rfl
 simpa using h1
theorem drop_ix (h : xs.drop k = x :: l) : idx xs (k : Int) = some x := by
 unfold idx
 rw [if_pos (by omega)]
 simpa using drop_get h
theorem drop_next (h : xs.drop k = x :: l) : xs.drop (k + 1) = l := by
 rw [← List.drop_drop, h]
 rfl
theorem drop_wr (h : xs.drop k = x :: l) (hf : fits xs.length = true) : IntKind.i64.wrap ((k : Int) + 1) = ((k + 1 : Nat) : Int) := by
 have h1 := drop_len h
 have h2 := fits_le hf
 unfold most at h2
 rw [wrap_id (by omega) (by omega)]
 omega
theorem drop_geB (h : s.data.toList.drop k = []) : decide ((k : Int) < (s.size : Int)) = false := by
 have := List.drop_eq_nil_iff.1 h
 have e : s.data.toList.length = s.size := by simp
 exact decide_eq_false (by omega)
theorem drop_lenB (h : s.data.toList.drop k = b :: bs) : k < s.size := by
 have := drop_len h
 have e : s.data.toList.length = s.size := by simp
 omega
theorem drop_ltB (h : s.data.toList.drop k = b :: bs) : decide ((k : Int) < (s.size : Int)) = true := decide_eq_true (by have := drop_lenB h; omega)
theorem drop_ixB (h : s.data.toList.drop k = b :: bs) : bidx s (k : Int) = some b := by
 unfold bidx
 rw [if_pos (by omega)]
 simpa using drop_get h
theorem drop_wrB (h : s.data.toList.drop k = b :: bs) (hf : fits s.size = true) : IntKind.i64.wrap ((k : Int) + 1) = ((k + 1 : Nat) : Int) := by
 have h1 := drop_lenB h
 have h2 := fits_le hf
 unfold most at h2
 rw [wrap_id (by omega) (by omega)]
 omega
end
section
variable {G : Gam} {Q : Ex → St → Prop} {s : St} {a b : IC} {t t' : Tm} {o o' : Heap}
theorem pinned {c : IC} (h1 : Pin t t') (h2 : PinH o o') (h : vwp G c Q ⟨t', o'⟩) : vwp G c Q ⟨t, o⟩ := by
 cases h1
 cases h2
 exact h
theorem pinnedQ {Q : St → Prop} (h1 : Pin t t') (h2 : PinH o o') (h : Q ⟨t', o'⟩) : Q ⟨t, o⟩ := by
 cases h1
 cases h2
 exact h
end
section
variable {G : Gam} {t : Tm} {o : Heap} {KL : St → LogV → Prop} {d : Option Nat} {α : Type} {f : α → List T}
end
section
variable {G : Gam} {t : Tm} {o : Heap} {KL : St → LogV → Prop} {d : Option Nat} {α : Type} {f : α → List T}
section
variable {a : List α} {i j : Int} {z : α} (s0 : 0 ≤ i) (s1 : i ≤ j) (s2 : j ≤ a.length)
include s0 s1 s2
end
end
section
variable {G : Gam} {t : Tm} {o : Heap} {KL : St → LogV → Prop} {d : Option Nat} {α : Type} {f : α → List T}
def RnL (m : Nat) (xs : List AV) (o : Heap) (ys : List AV) (o' : Heap) (l : LogV) : Prop := ∀ K : List AV → Heap → LogV → Prop, K ys o' l → (renL m xs).vp o K
theorem rn_nil {m : Nat} : RnL m [] o [] o ([], []) := fun K h => h
theorem rn_ref {m m2 n : Nat} {b : Option Nat} {cap off len k : Nat} {cs ys : List AV} {e : Ent} {o' : Heap} {l : LogV} (hm : m2 = m + 1) (ho : o n = some e) (h : RnL m2 cs (upd (upd o n none) m (some e)) ys o' l) : RnL m (.ref n b cap off len k :: cs) o (.ref m b cap off len k :: ys) o' (n :: l.1, n :: m :: l.2) := fun K hK => by
 subst hm
 refine vp_get ho (vp_rb (vp_put (vp_rb (vp_put (vp_rb (vp_bind (h _ (vp_ret ?_))))))))
 simpa using hK
theorem r_rna {m k0 : Nat} {x : AV} {cs ys : List AV} {o' : Heap} {l : LogV} {K : AV → Heap → LogV → Prop} (hx : x = .agg cs) (h : RnL m cs o ys o' l) (hk : K (.agg ys) o' l) : (renV m k0 x).vp o K := by
 subst hx
 refine vp_bind (h _ (vp_ret ?_))
 simpa using hk
end
section
variable {G : Gam} {t : Tm} {o : Heap} {KL : St → LogV → Prop} {d : Option Nat}
def mapent (g : Nat) (es : List (Int × Int)) : Ent := { b := none, cap := 0, k := 0, box := true, rows := mapRows g es }
theorem rowEs_map : ∀ es : List (Int × Int), rowEs (es.map mapRow) = some es
 | [] => rfl
 | p :: es => by simp [rowEs, mapRow, rowEs_map es]
theorem mapEs_rows (g : Nat) (es : List (Int × Int)) : mapEs g (mapRows g es) = some es := by simp [mapEs, mapRows, rowEs_map]
theorem r_mnew (hk : ∀ g, KL ⟨updT t d (.v (.map (some g))), upd o (dstN d * 8) (some (mapent g []))⟩ ([], [dstN d * 8])) : vdo G d .mnew t o KL := by
 show vheap G d .mnew t o KL
 intro ch
 simp only [opSem]
 exact vp_put (vp_ret (hk ((ch 0).1.getD 0)))
theorem r_mset {n g : Nat} {x k v : Od} {es : List (Int × Int)} {a c : Int} (hx : ev t x = .v (.map (some g))) (ha : ev t k = .v (.int .i64 a)) (hc : ev t v = .v (.int .i64 c)) (ho : o n = some (mapent g es)) (hk : KL ⟨updT t d .junk, upd o n (some (mapent g (mput es a c)))⟩ ([n], [n])) : vdo G d (.mset n x k v) t o KL := by
 show vheap G d (.mset n x k v) t o KL
 intro ch
 simp only [opSem, hx, ha, hc, asMap, asK]
 refine vp_get ho (vp_rb (vp_need rfl (vp_rb (vp_opt (mapEs_rows g es) (vp_rb (vp_put (vp_ret ?_)))))))
 exact hk
theorem r_mget {n g : Nat} {x k : Od} {es : List (Int × Int)} {a : Int} (hx : ev t x = .v (.map (some g))) (ha : ev t k = .v (.int .i64 a)) (ho : o n = some (mapent g es)) (hk : KL ⟨updT t d (.v (.int .i64 (mget es a))), o⟩ ([n], [])) : vdo G d (.mget n x k) t o KL := by
 show vheap G d (.mget n x k) t o KL
 intro ch
 simp only [opSem, hx, ha, asMap, asK]
 refine vp_get ho (vp_rb (vp_need rfl (vp_rb (vp_opt (mapEs_rows g es) (vp_ret hk)))))
end
section
def Io (d : Nat) (x : IO') : IOp := ⟨some d, x, none⟩
def Iz (x : IO') : IOp := ⟨none, x, none⟩
def Gt (g : Nat) (x : IOp) : IOp := ⟨x.dst, x.op, some (g, true)⟩
def Gf (g : Nat) (x : IOp) : IOp := ⟨x.dst, x.op, some (g, false)⟩
def Mv (d n : Nat) : IOp := ⟨some d, .mv (.t n), none⟩
def Fa (d k n : Nat) : IOp := ⟨some d, .faddr k (.t n), none⟩
def Ld (d k n : Nat) : IOp := ⟨some d, .load k false (.t n), none⟩
def La (d k n : Nat) : IOp := ⟨some d, .load k true (.t n), none⟩
def Ln (d n : Nat) : IOp := ⟨some d, .len false (.t n), none⟩
def Bb (d : Nat) (op : BinOp) (a b : Nat) : IOp := ⟨some d, .bin op (.t a) (.t b), none⟩
def Bk (d : Nat) (op : BinOp) (a : Nat) (b : Int) : IOp := ⟨some d, .bin op (.t a) (.c (.int .i64 b)), none⟩
def Nt (d n : Nat) : IOp := ⟨some d, .un .not (.t n), none⟩
def Pk (d a b : Nat) : IOp := ⟨some d, .pick (.t a) (.c (.bool true)) (.t b), none⟩
def Ia (d k a b : Nat) : IOp := ⟨some d, .iaddr k (.t a) (.t b), none⟩
def Ki (d : Nat) (k : Int) : IOp := ⟨some d, .mv (.c (.int .i64 k)), none⟩
def Kb (d : Nat) (b : Bool) : IOp := ⟨some d, .mv (.c (.bool b)), none⟩
def Sv (ks : List (Option Nat)) (a b : Nat) : IOp := ⟨none, .store ks (.t a) (.t b), none⟩
def Xt (d n k : Nat) : IOp := ⟨some d, .ext (.t n) k, none⟩
def cm : List Nat → List (Bool × Od)
 | [] => []
 | n :: l => (false, .t n) :: cm l
def Ca (d f : Nat) (l : List Nat) : IOp := ⟨some d, .call f (cm l), none⟩
def Rs (l : List IOp) (x : IC) : IC := .seq (.reg l) x
def Ct (n : Nat) (a b : IC) : IC := .cond (.t n) a b
theorem w_ir {G : Gam} {a b : IC} {Q : Ex → St → Prop} {s : St} (h : vwp G b Q s) (e : a = b := by (dsimp only [Io, Iz, Gt, Gf, Mv, Fa, Ld, La, Ln, Bb, Bk, Nt, Pk, Ia, Ki, Kb, Sv, Xt, cm, Ca, Rs, Ct])) : vwp G a Q s := e ▸ h
end
end Go.Proofs.AM
