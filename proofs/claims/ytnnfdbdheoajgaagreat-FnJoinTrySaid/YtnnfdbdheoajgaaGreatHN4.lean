/- Lemmas of the proof (HN4), on an abstract machine. Conditions: none. -/
import Derived.Test.YtnnfdbdheoajgaaGreatHN3
set_option linter.unusedVariables false
set_option linter.unusedSimpArgs false
set_option maxRecDepth 100000
set_option maxHeartbeats 1000000
namespace Go.Proofs.AM
def jg7 (n1 nb k : Nat) : List (List Int) := List.replicate k (ih7 nb) ++ List.replicate (n1 - k) []
theorem zU7 {n1 nb k : Nat} (h : k < n1) : (jg7 n1 nb k).set k (ih7 nb) = jg7 n1 nb (k + 1) := by
 unfold jg7
 rw [show n1 - k = (n1 - (k + 1)) + 1 by omega, List.replicate_succ, List.set_append_right _ _ (by simp), List.replicate_succ', List.append_assoc]
 simp
theorem zV7 {n1 nb k : Nat} (h : k < n1) : (jg7 n1 nb k)[k]? = some [] := by
 unfold jg7
 rw [List.getElem?_append_right (by simp), List.length_replicate, Nat.sub_self, List.getElem?_replicate, if_pos (by omega)]
def alL (ch : Ch) : Nat → List (List Int) → List T
 | _, [] => []
 | j, l :: ls => .al (800000 + j) (ch j).1 (ch j).2 0 (l.map bz7).length 17 :: alL ch (j + 1) ls
def opH (ch : Ch) : Nat → List (List Int) → ah7 → ah7
 | _, [], o => o
 | j, l :: ls, o => opH ch (j + 1) ls (upd o (800000 + j) (some (ent (ch j).1 (ch j).2 17 (l.map bz7))))
theorem qh7 {ch : Ch} : ∀ {RL : List (List Int)} {j : Nat} {o : ah7} {K : List AV × List T → ah7 → a57 → Prop}, (∀ xs l, K (xs, alL ch j RL) (opH ch j RL o) l) → (hM7 100000 ch j (RL.map fun l => T.sl true 17 (l.map bz7))).vp o K
 | [], j, o, K, h => af7 (h [] _)
 | l :: ls, j, o, K, h => by
  refine ac7 (a47 (af7 (ac7 (qh7 fun xs l' => af7 (h _ _)))))
theorem xI7 {ch : Ch} : ∀ {RL : List (List Int)} {j i : Nat}, (alL ch j RL)[i]? = RL[i]?.map fun l => T.al (800000 + (j + i)) (ch (j + i)).1 (ch (j + i)).2 0 l.length 17
 | [], j, i => by simp [alL]
 | l :: ls, j, 0 => by simp [alL]
 | l :: ls, j, i + 1 => by
  simp only [alL, List.getElem?_cons_succ]
  rw [xI7, show j + 1 + i = j + (i + 1) by omega]
theorem BX7 {ch : Ch} : ∀ {RL : List (List Int)} {j n : Nat} {o : ah7}, n < 800000 + j → opH ch j RL o n = o n
 | [], j, n, o, h => rfl
 | l :: ls, j, n, o, h => by
  simp only [opH]
  rw [BX7 (by omega), cm7 _ _ (by omega)]
theorem xJ7 {ch : Ch} : ∀ {RL : List (List Int)} {j i : Nat} {o : ah7} {l : List Int}, RL[i]? = some l → opH ch j RL o (800000 + (j + i)) = some (ent (ch (j + i)).1 (ch (j + i)).2 17 (l.map bz7))
 | [], j, i, o, l, h => by simp at h
 | x :: ls, j, 0, o, l, h => by
  simp only [List.getElem?_cons_zero, Option.some.injEq] at h
  subst h
  simp only [opH]
  rw [BX7 (by omega), Nat.add_zero, c97]
 | x :: ls, j, i + 1, o, l, h => by
  simp only [List.getElem?_cons_succ] at h
  simp only [opH]
  rw [show j + (i + 1) = (j + 1) + i by omega]
  exact xJ7 h
theorem tU7 {bb : Nat → Option Nat} {cc : Nat → Nat} {nb : Nat} {RL : Nat → List Int} : ∀ {rs : List Nat} {o : ah7}, rs.Nodup → (∀ r, r ∈ rs → o (800000 + r) = some (ent (bb r) (cc r) 17 ((RL r).map bz7)) ∧ (RL r).length = nb + 1) → ∃ o', C57 (rs.map (lnC bb cc nb)) o (rs.map fun r => T.sl true 17 ((RL r).map bz7)) o'
 | [], o, hn, h => ⟨o, kn7⟩
 | r :: rs, o, hn, h => by
  rw [List.nodup_cons] at hn
  have h1 := h r (by simp)
  obtain ⟨o', ho⟩ := tU7 (o := upd o (800000 + r) none) hn.2 (fun q hq => by
   have hne : q ≠ r := fun e => hn.1 (e ▸ hq)
   rw [cm7 _ _ (by omega)]
   exact h q (by simp [hq]))
  exact ⟨o', h97 (tI7 h1.1 (by rw [List.length_map, h1.2])) ho⟩
section
variable {G : Gam} {t : Tm} {o : ah7} {g : Nat} {a b : List Pt} {Q : Ex → St → Prop}
theorem Hg7 (h1 : t 1 = .ro (b.map ePt)) (h5 : t 5 = .ref 96 (some g) (a.length + 1) 0 (a.length + 1) 273) (h14 : t 14 = .v (.int .i64 ((a.length + 1 : Nat) : Int))) (h15 : t 15 = .v (.int .i64 ((0 : Nat) : Int)))
  (H : o 96 = some (ent (some g) (a.length + 1) 273 ((jg7 (a.length + 1) b.length 0).map (eSl true 17 bz7)))) (ha : a.length ≤ 1000) (hb : b.length ≤ 1000)
  (hk : ∀ t' o', Kp 6 t t' → o' 96 = some (ent (some g) (a.length + 1) 273 ((jg7 (a.length + 1) b.length (a.length + 1)).map (eSl true 17 bz7))) → Q .norm ⟨t', o'⟩) : awp G (.block 0 (.loop Me7)) Q ⟨t, o⟩ := by
 refine ⟨fun n s => ∃ k, k ≤ a.length + 1 ∧ a.length + 1 - k = n ∧ Kp 6 t s.t ∧ s.t 14 = .v (.int .i64 ((a.length + 1 : Nat) : Int)) ∧ s.t 15 = .v (.int .i64 (k : Int)) ∧ s.o 96 = some (ent (some g) (a.length + 1) 273 ((jg7 (a.length + 1) b.length k).map (eSl true 17 bz7))), ⟨a.length + 1, 0, by omega, by omega, DM7, h14, h15, H⟩, ?_⟩
 rintro n ⟨t1, o1⟩ ⟨k, hkk, hn, hKp, q14, q15, HH⟩
 simp only at hKp q14 q15 HH
 have g1 := (hKp 1 (by omega)).trans h1
 have g5 := (hKp 5 (by omega)).trans h5
 dsimp only [Me7, Bb, Mv, Bk]
 refine cM7 (d27 (a_p (QN7 q15 q14) (a_n ?_)))
 show awp G (.seq (.cond (.t 16) .skip (.exit 0)) _) _ _
 refine cM7 (oy7 rfl (fun hp => ?_) (fun hp => ?_))
 ·have hp := of_decide_eq_true hp
  have hlt : k < a.length + 1 := by omega
  show awp G (.seq (.block 1 Md7) _) _ _
  refine cM7 ?_
  show awp G Md7 _ _
  dsimp only [Md7, sq, Mv, Ln, Bk, Io, Ia, Sv, Nat.reduceAdd]
  refine cM7 (d27 (a_p rfl (a_p rfl (a_n ?_))))
  show awp G (.reg _) _ _
  have e21 : ∀ t', t' 20 = t1 1 → evp t' (.len false (.t 20)) = some (.v (.int .i64 (b.length : Int))) := fun t' h => Mh7 (t := t') (x := .t 20) (rows := b.map ePt) (h.trans g1) (by simp)
  have ew : IntKind.i64.wrap ((b.length : Int) + 1) = ((b.length + 1 : Nat) : Int) := by rw [wr (by omega) (by omega)]; omega
  refine d27 (a_p rfl (a_p rfl (a_p rfl (a_p (e21 _ rfl) (a_p (BV7 rfl rfl ew) (a_v (CU7 (f := bz7) (x := (0 : Int)) (len := ((b.length + 1 : Nat) : Int)) rfl rfl (decide_eq_true (by omega)) (by unfold aH7; exact decide_eq_true (by omega)) rfl fun bq => ?_)))))))
  refine a_p (xF7 g5 q15 hlt rfl) (a_v (CY7 (f := eSl true 17 bz7) (xs := jg7 (a.length + 1) b.length k) (x := []) (x' := ih7 b.length) (b := some g) (cap := a.length + 1) (n := 96) (k := 273) (r := k) (c := 0) rfl ?_ (km7 (sl7 (c97 _ _ _) (by simp) rfl) ol7) ?_ (zV7 hlt) rfl rfl (a_n ?_)))
  ·rw [cm7 _ _ (by decide)]
   exact HH
  ·rw [cm7 _ _ (by decide), cm7 _ _ (by decide)]
   exact HH
  ·show awp G (.reg _) _ _
   have ew2 : IntKind.i64.wrap ((k : Int) + 1) = ((k + 1 : Nat) : Int) := by rw [wr (by omega) (by omega)]; omega
   refine d27 (a_p (BV7 q15 rfl ew2) (a_p rfl (a_n ?_)))
   refine ⟨a.length + 1 - (k + 1), by omega, k + 1, by omega, rfl, fun i hi => ?_, q14, rfl, ?_⟩
   ·have hh : Kp 6 t1 t1 := DM7
    rw [← hKp i hi]
    simp only [aA7]
    repeat rw [if_neg (by omega)]
   ·dsimp only
    rw [c97, zU7 hlt]
 ·have hp := of_decide_eq_false hp
  have hk2 : k = a.length + 1 := by omega
  subst hk2
  show Q .norm _
  exact hk _ _ (fun i hi => by
   simp only [aA7]
   rw [if_neg (by omega), hKp i hi]) HH
end
theorem Hh7 {f : Nat} : OkC [] (sp7 f) if_lens xE7 := by
 intro G _ (p : List Pt × List Pt) (r : List (List Int)) hv bs
 obtain ⟨a, b⟩ := p
 have hv : vp7 a b = some r := hv
 unfold vp7 at hv
 split at hv
 case isFalse => cases hv
 rename_i hn
 cases hv
 have ha := of_decide_eq_true (Dg7 hn)
 have hb := of_decide_eq_true (Dh7 hn)
 show awp G if_lens.body _ ⟨uS7 bs [.ro (a.map ePt), .ro (b.map ePt)], vN7 bs []⟩
 generalize ho0 : vN7 bs [] = o0
 have q0 : uS7 bs [.ro (a.map ePt), .ro (b.map ePt)] 0 = .ro (a.map ePt) := rfl
 have q1 : uS7 bs [.ro (a.map ePt), .ro (b.map ePt)] 1 = .ro (b.map ePt) := rfl
 generalize uS7 bs [.ro (a.map ePt), .ro (b.map ePt)] = t0 at q0 q1
 have ew : IntKind.i64.wrap ((a.length : Int) + 1) = ((a.length + 1 : Nat) : Int) := by rw [wr (by omega) (by omega)]; omega
 dsimp only [if_lens, Qi7, Qj7, Qk7, Ql7, Qm7, sq, Mv, Ln, Bk, Io, Ki, Nat.reduceAdd]
 refine cM7 (d27 (a_p rfl (a_n ?_)))
 show awp G (.seq (.reg _) _) _ _
 have e10 : ∀ t', t' 9 = t0 0 → evp t' (.len false (.t 9)) = some (.v (.int .i64 (a.length : Int))) := fun t' h => Mh7 (t := t') (x := .t 9) (rows := a.map ePt) (h.trans q0) (by simp)
 refine cM7 (d27 (a_p rfl (a_p (e10 _ rfl) (a_p (BV7 rfl rfl ew) (a_v (CU7 (f := eSl true 17 bz7) (x := ([] : List Int)) (len := ((a.length + 1 : Nat) : Int)) rfl rfl (decide_eq_true (by omega)) (by unfold aH7; exact decide_eq_true (by omega)) rfl fun bq => a_p rfl (a_n ?_)))))))
 show awp G (.seq (.seq (.reg _) _) _) _ _
 refine cM7 (cM7 (d27 (a_p rfl (a_p (QP7 (len := a.length + 1) (n := 96) (cap := a.length + 1) (off := 0) (k := 273) (b := some bq) (by simp [ev, aA7, cB7])) (a_p rfl (a_n ?_))))))
 show awp G (.block 0 (.loop Me7)) _ _
 refine Hg7 (a := a) (b := b) (g := bq) q1 (by simp [aA7, cB7, ev]) rfl rfl ?_ ha hb fun t2 o2 hK2 H2 => ?_
 ·show upd o0 96 _ 96 = _
  rw [c97]
  unfold jg7
  simp
 have k2 : ∀ k, k < 4 → t2 k = t0 k := fun k hk => by
  rw [hK2 k (by omega)]
  simp only [aA7]
  repeat rw [if_neg (by omega)]
 have k5 : t2 5 = .ref 96 (some bq) (a.length + 1) 0 (a.length + 1) 273 := by
  rw [hK2 5 (by omega)]
  simp [aA7, ev, cB7]
 show awp G (.seq (.seq (.reg _) _) _) _ _
 have e27 : ∀ t', t' 26 = t2 0 → evp t' (.len false (.t 26)) = some (.v (.int .i64 (a.length : Int))) := fun t' h => Mh7 (t := t') (x := .t 26) (rows := a.map ePt) (h.trans ((k2 0 (by omega)).trans q0)) (by simp)
 have hfill : ((jg7 (a.length + 1) b.length (a.length + 1)).map (eSl true 17 bz7)).flatten = (List.replicate (a.length + 1) (ih7 b.length)).map fun l => T.sl true 17 (l.map bz7) := by
  unfold jg7
  simp only [Nat.sub_self, List.replicate_zero, List.append_nil]
  generalize List.replicate (a.length + 1) (ih7 b.length) = LL
  induction LL with
  | nil => rfl
  | cons x l ih => rw [List.map_cons, List.flatten_cons, ih]; rfl
 refine cM7 (cM7 (d27 (Qn7 (fun ch => ?_) rfl)))
 show (Fr7 96 100000 ch (t2 0)).vp o2 _
 refine bm7 H2 (a87 (aU7 (by simp [ent, esz]) (a87 (a47 (a87 (ac7 ?_))))))
 show (hM7 100000 ch 0 ((jg7 (a.length + 1) b.length (a.length + 1)).map (eSl true 17 bz7)).flatten).vp _ _
 rw [hfill]
 refine qh7 fun xs l => a47 (af7 ?_)
 refine a_p (e27 _ rfl) (a_p (Mg7 rfl rfl (wr (by omega) (by omega))) (a_p rfl (a_n ?_)))
 show awp G (.block 2 (.loop Mf7)) _ _
 refine Hf7 (a := a) (b := b) (g := bq) (C := a.length + 1) (bb := fun r => (ch r).1) (cc := fun r => (ch r).2) ((k2 0 (by omega)).trans q0) ((k2 1 (by omega)).trans q1) k5 rfl ⟨?_, fun r hr => ?_, fun r hr => by simp [ih7]⟩ ha hb fun t3 o3 hK3 H3 => ?_
 ·rw [c97]
  have e : alL ch 0 (List.replicate (a.length + 1) (ih7 b.length)) = (List.range (a.length + 1)).map (lnC (fun r => (ch r).1) (fun r => (ch r).2) b.length) := by
   apply List.ext_getElem?
   intro i
   rw [xI7]
   by_cases hi : i < a.length + 1
   ·rw [List.getElem?_map, List.getElem?_range hi, List.getElem?_replicate, if_pos hi]
    simp [lnC, ih7]
   ·rw [List.getElem?_eq_none (by simp; omega), List.getElem?_eq_none (by simp; omega)]
    rfl
  rw [← e]
  rfl
 ·rw [cm7 _ _ (by omega)]
  have := xJ7 (ch := ch) (RL := List.replicate (a.length + 1) (ih7 b.length)) (j := 0) (i := r) (o := upd o2 96 none) (l := ih7 b.length) (by rw [List.getElem?_replicate, if_pos hr])
  rw [Nat.zero_add] at this
  exact this
 have j5 : t3 5 = .ref 96 (some bq) (a.length + 1) 0 (a.length + 1) 273 := (hK3 5 (by omega)).trans k5
 show awp G (.seq (.reg _) .ret) _ _
 refine cM7 (d27 (Qn7 (fun ch2 => ?_) rfl))
 refine ac7 (cX7 (a := t3 5) rfl (af7 ?_))
 show (FC7 96 (t3 5)).vp o3 _
 obtain ⟨o4, hclo⟩ := tU7 (bb := fun r => (ch r).1) (cc := fun r => (ch r).2) (nb := b.length) (RL := bc7 a b) (rs := List.range (a.length + 1)) (o := upd o3 96 none) List.nodup_range (fun r hr => by
  have hr := List.mem_range.1 hr
  rw [cm7 _ _ (by omega)]
  exact ⟨H3.hr r hr, H3.hl r hr⟩)
 refine bm7 H3.h96 (a87 (aU7 (by simp [ent, esz]) (a87 (a47 (a87 (ac7 ?_))))))
 show (ca7 (((List.range (a.length + 1)).map (lnC (fun r => (ch r).1) (fun r => (ch r).2) b.length)).map fun c => [c]).flatten).vp _ _
 rw [show ∀ L : List T, (L.map fun c => [c]).flatten = L from fun L => by induction L with
  | nil => rfl
  | cons x l ih => rw [List.map_cons, List.flatten_cons, ih]; rfl]
 refine hclo _ fun l => a47 (af7 ?_)
 refine a_p rfl (a_n ?_)
 show uT7 _ _ _ _ _ _
 refine i87 (bB7 (o' := upd (upd o4 96 (some (ent (some bq) (a.length + 1) 273 (((List.range (a.length + 1)).map fun r => T.sl true 17 ((bc7 a b r).map bz7)).map fun c => [c])))) 96 none) (pW7 (GI7 (x := .ref 96 (some bq) (a.length + 1) 0 (a.length + 1) 273) j5 rfl (pV7 (xd7 (c97 _ _ _) (by simp)) tH7)) tJ7) ?_ rfl)
 show [(false, [T.sl true 273 _])] = [(false, [T.sl true 273 (List.map (eSl true 17 bz7) (vO7 a b))])]
 rw [lr7, List.map_map, List.map_map]
 rfl
theorem xK7 {P : Program} {tb : Tab} (hmix : P.follows .mixedOrders = true) {f : Nat} (hk : ve7 P tb f if_lens = true) : ai7 P tb (sp7 f) :=
 Dz7 hmix [] all_nil (ir := if_lens) (kss := xE7) hk Hh7 rfl (fun _ => Nat.le_of_ble_eq_true rfl) fun (a a' : List Pt × List Pt) h _ => by
  have h : [AV.ro (List.map ePt a.1), AV.ro (List.map ePt a.2)] = [AV.ro (List.map ePt a'.1), AV.ro (List.map ePt a'.2)] := h
  simp only [List.cons.injEq, and_true, AV.ro.injEq, ad7 ib7] at h
  exact Prod.ext h.1 h.2
end Go.Proofs.AM
