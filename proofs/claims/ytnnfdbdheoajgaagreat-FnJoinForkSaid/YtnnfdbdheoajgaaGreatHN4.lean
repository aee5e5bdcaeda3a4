/- Lemmas of the proof (HN4), on an abstract machine. Conditions: none. -/
import Derived.Test.YtnnfdbdheoajgaaGreatHN3
set_option linter.unusedVariables false
set_option linter.unusedSimpArgs false
set_option maxRecDepth 100000
set_option maxHeartbeats 1000000
namespace Go.Proofs.AM
def ju7 (n1 nb k : Nat) : List (List Int) := List.replicate k (iq7 nb) ++ List.replicate (n1 - k) []
theorem zP7 {n1 nb k : Nat} (h : k < n1) : (ju7 n1 nb k).set k (iq7 nb) = ju7 n1 nb (k + 1) := by
 unfold ju7
 rw [show n1 - k = (n1 - (k + 1)) + 1 by omega, List.replicate_succ, List.set_append_right _ _ (by simp), List.replicate_succ', List.append_assoc]
 simp
theorem zQ7 {n1 nb k : Nat} (h : k < n1) : (ju7 n1 nb k)[k]? = some [] := by
 unfold ju7
 rw [List.getElem?_append_right (by simp), List.length_replicate, Nat.sub_self, List.getElem?_replicate, if_pos (by omega)]
def alL (ch : Ch) : Nat → List (List Int) → List T
 | _, [] => []
 | j, l :: ls => .al (800000 + j) (ch j).1 (ch j).2 0 (l.map br7).length 17 :: alL ch (j + 1) ls
def opH (ch : Ch) : Nat → List (List Int) → ak7 → ak7
 | _, [], o => o
 | j, l :: ls, o => opH ch (j + 1) ls (upd o (800000 + j) (some (ent (ch j).1 (ch j).2 17 (l.map br7))))
theorem qj7 {ch : Ch} : ∀ {RL : List (List Int)} {j : Nat} {o : ak7} {K : List AV × List T → ak7 → bd7 → Prop}, (∀ xs l, K (xs, alL ch j RL) (opH ch j RL o) l) → (hW7 100000 ch j (RL.map fun l => T.sl true 17 (l.map br7))).vp o K
 | [], j, o, K, h => ai7 (h [] _)
 | l :: ls, j, o, K, h => by
  refine ac7 (a97 (ai7 (ac7 (qj7 fun xs l' => ai7 (h _ _)))))
theorem xj7 {ch : Ch} : ∀ {RL : List (List Int)} {j i : Nat}, (alL ch j RL)[i]? = RL[i]?.map fun l => T.al (800000 + (j + i)) (ch (j + i)).1 (ch (j + i)).2 0 l.length 17
 | [], j, i => by simp [alL]
 | l :: ls, j, 0 => by simp [alL]
 | l :: ls, j, i + 1 => by
  simp only [alL, List.getElem?_cons_succ]
  rw [xj7, show j + 1 + i = j + (i + 1) by omega]
theorem BT7 {ch : Ch} : ∀ {RL : List (List Int)} {j n : Nat} {o : ak7}, n < 800000 + j → opH ch j RL o n = o n
 | [], j, n, o, h => rfl
 | l :: ls, j, n, o, h => by
  simp only [opH]
  rw [BT7 (by omega), cs7 _ _ (by omega)]
theorem xk7 {ch : Ch} : ∀ {RL : List (List Int)} {j i : Nat} {o : ak7} {l : List Int}, RL[i]? = some l → opH ch j RL o (800000 + (j + i)) = some (ent (ch (j + i)).1 (ch (j + i)).2 17 (l.map br7))
 | [], j, i, o, l, h => by simp at h
 | x :: ls, j, 0, o, l, h => by
  simp only [List.getElem?_cons_zero, Option.some.injEq] at h
  subst h
  simp only [opH]
  rw [BT7 (by omega), Nat.add_zero, di7]
 | x :: ls, j, i + 1, o, l, h => by
  simp only [List.getElem?_cons_succ] at h
  simp only [opH]
  rw [show j + (i + 1) = (j + 1) + i by omega]
  exact xk7 h
theorem tE7 {bb : Nat → Option Nat} {cc : Nat → Nat} {nb : Nat} {RL : Nat → List Int} : ∀ {rs : List Nat} {o : ak7}, rs.Nodup → (∀ r, r ∈ rs → o (800000 + r) = some (ent (bb r) (cc r) 17 ((RL r).map br7)) ∧ (RL r).length = nb + 1) → ∃ o', CY7 (rs.map (lnC bb cc nb)) o (rs.map fun r => T.sl true 17 ((RL r).map br7)) o'
 | [], o, hn, h => ⟨o, kC7⟩
 | r :: rs, o, hn, h => by
  rw [List.nodup_cons] at hn
  have h1 := h r (by simp)
  obtain ⟨o', ho⟩ := tE7 (o := upd o (800000 + r) none) hn.2 (fun q hq => by
   have hne : q ≠ r := fun e => hn.1 (e ▸ hq)
   rw [cs7 _ _ (by omega)]
   exact h q (by simp [hq]))
  exact ⟨o', ih7 (tp7 h1.1 (by rw [List.length_map, h1.2])) ho⟩
section
variable {G : Gam} {t : Tm} {o : ak7} {g : Nat} {a b : List Pt} {Q : Ex → St → Prop}
theorem G07 (h1 : t 1 = .ro (b.map ePt)) (h5 : t 5 = .ref 96 (some g) (a.length + 1) 0 (a.length + 1) 273) (h14 : t 14 = .v (.int .i64 ((a.length + 1 : Nat) : Int))) (h15 : t 15 = .v (.int .i64 ((0 : Nat) : Int)))
  (H : o 96 = some (ent (some g) (a.length + 1) 273 ((ju7 (a.length + 1) b.length 0).map (eSl true 17 br7)))) (ha : a.length ≤ 1000) (hb : b.length ≤ 1000)
  (hk : ∀ t' o', Kp 6 t t' → o' 96 = some (ent (some g) (a.length + 1) 273 ((ju7 (a.length + 1) b.length (a.length + 1)).map (eSl true 17 br7))) → Q .norm ⟨t', o'⟩) : awp G (.block 0 (.loop Mr7)) Q ⟨t, o⟩ := by
 refine ⟨fun n s => ∃ k, k ≤ a.length + 1 ∧ a.length + 1 - k = n ∧ Kp 6 t s.t ∧ s.t 14 = .v (.int .i64 ((a.length + 1 : Nat) : Int)) ∧ s.t 15 = .v (.int .i64 (k : Int)) ∧ s.o 96 = some (ent (some g) (a.length + 1) 273 ((ju7 (a.length + 1) b.length k).map (eSl true 17 br7))), ⟨a.length + 1, 0, by omega, by omega, DI7, h14, h15, H⟩, ?_⟩
 rintro n ⟨t1, o1⟩ ⟨k, hkk, hn, hKp, q14, q15, HH⟩
 simp only at hKp q14 q15 HH
 have g1 := (hKp 1 (by omega)).trans h1
 have g5 := (hKp 5 (by omega)).trans h5
 dsimp only [Mr7, Bb, Mv, Bk]
 refine cO7 (ef7 (a_p (Q77 q15 q14) (a_n ?_)))
 show awp G (.seq (.cond (.t 16) .skip (.exit 0)) _) _ _
 refine cO7 (oz7 rfl (fun hp => ?_) (fun hp => ?_))
 ·have hp := of_decide_eq_true hp
  have hlt : k < a.length + 1 := by omega
  show awp G (.seq (.block 1 Mq7) _) _ _
  refine cO7 ?_
  show awp G Mq7 _ _
  dsimp only [Mq7, sq, Mv, Ln, Bk, Io, Ia, Sv, Nat.reduceAdd]
  refine cO7 (ef7 (a_p rfl (a_p rfl (a_n ?_))))
  show awp G (.reg _) _ _
  have e21 : ∀ t', t' 20 = t1 1 → evp t' (.len false (.t 20)) = some (.v (.int .i64 (b.length : Int))) := fun t' h => Mu7 (t := t') (x := .t 20) (rows := b.map ePt) (h.trans g1) (by simp)
  have ew : IntKind.i64.wrap ((b.length : Int) + 1) = ((b.length + 1 : Nat) : Int) := by rw [wr (by omega) (by omega)]; omega
  refine ef7 (a_p rfl (a_p rfl (a_p rfl (a_p (e21 _ rfl) (a_p (BR7 rfl rfl ew) (a_v (CO7 (f := br7) (x := (0 : Int)) (len := ((b.length + 1 : Nat) : Int)) rfl rfl (decide_eq_true (by omega)) (by unfold aI7; exact decide_eq_true (by omega)) rfl fun bq => ?_)))))))
  refine a_p (xf7 g5 q15 hlt rfl) (a_v (CS7 (f := eSl true 17 br7) (xs := ju7 (a.length + 1) b.length k) (x := []) (x' := iq7 b.length) (b := some g) (cap := a.length + 1) (n := 96) (k := 273) (r := k) (c := 0) rfl ?_ (kB7 (r77 (di7 _ _ _) (by simp) rfl) ol7) ?_ (zQ7 hlt) rfl rfl (a_n ?_)))
  ·rw [cs7 _ _ (by decide)]
   exact HH
  ·rw [cs7 _ _ (by decide), cs7 _ _ (by decide)]
   exact HH
  ·show awp G (.reg _) _ _
   have ew2 : IntKind.i64.wrap ((k : Int) + 1) = ((k + 1 : Nat) : Int) := by rw [wr (by omega) (by omega)]; omega
   refine ef7 (a_p (BR7 q15 rfl ew2) (a_p rfl (a_n ?_)))
   refine ⟨a.length + 1 - (k + 1), by omega, k + 1, by omega, rfl, fun i hi => ?_, q14, rfl, ?_⟩
   ·have hh : Kp 6 t1 t1 := DI7
    rw [← hKp i hi]
    simp only [aE7]
    repeat rw [if_neg (by omega)]
   ·dsimp only
    rw [di7, zP7 hlt]
 ·have hp := of_decide_eq_false hp
  have hk2 : k = a.length + 1 := by omega
  subst hk2
  show Q .norm _
  exact hk _ _ (fun i hi => by
   simp only [aE7]
   rw [if_neg (by omega), hKp i hi]) HH
end
theorem G17 {f : Nat} : OkC [] (se7 f) if_lens xe7 := by
 intro G _ (p : List Pt × List Pt) (r : List (List Int)) hv bs
 obtain ⟨a, b⟩ := p
 have hv : zH7 a b = some r := hv
 unfold zH7 at hv
 split at hv
 case isFalse => cases hv
 rename_i hn
 cases hv
 have ha := of_decide_eq_true (zq7 hn)
 have hb := of_decide_eq_true (zr7 hn)
 show awp G if_lens.body _ ⟨uw7 bs [.ro (a.map ePt), .ro (b.map ePt)], vt7 bs []⟩
 generalize ho0 : vt7 bs [] = o0
 have q0 : uw7 bs [.ro (a.map ePt), .ro (b.map ePt)] 0 = .ro (a.map ePt) := rfl
 have q1 : uw7 bs [.ro (a.map ePt), .ro (b.map ePt)] 1 = .ro (b.map ePt) := rfl
 generalize uw7 bs [.ro (a.map ePt), .ro (b.map ePt)] = t0 at q0 q1
 have ew : IntKind.i64.wrap ((a.length : Int) + 1) = ((a.length + 1 : Nat) : Int) := by rw [wr (by omega) (by omega)]; omega
 dsimp only [if_lens, QD7, QE7, QF7, QG7, QH7, sq, Mv, Ln, Bk, Io, Ki, Nat.reduceAdd]
 refine cO7 (ef7 (a_p rfl (a_n ?_)))
 show awp G (.seq (.reg _) _) _ _
 have e10 : ∀ t', t' 9 = t0 0 → evp t' (.len false (.t 9)) = some (.v (.int .i64 (a.length : Int))) := fun t' h => Mu7 (t := t') (x := .t 9) (rows := a.map ePt) (h.trans q0) (by simp)
 refine cO7 (ef7 (a_p rfl (a_p (e10 _ rfl) (a_p (BR7 rfl rfl ew) (a_v (CO7 (f := eSl true 17 br7) (x := ([] : List Int)) (len := ((a.length + 1 : Nat) : Int)) rfl rfl (decide_eq_true (by omega)) (by unfold aI7; exact decide_eq_true (by omega)) rfl fun bq => a_p rfl (a_n ?_)))))))
 show awp G (.seq (.seq (.reg _) _) _) _ _
 refine cO7 (cO7 (ef7 (a_p rfl (a_p (Q97 (len := a.length + 1) (n := 96) (cap := a.length + 1) (off := 0) (k := 273) (b := some bq) (by simp [ev, aE7, cE7])) (a_p rfl (a_n ?_))))))
 show awp G (.block 0 (.loop Mr7)) _ _
 refine G07 (a := a) (b := b) (g := bq) q1 (by simp [aE7, cE7, ev]) rfl rfl ?_ ha hb fun t2 o2 hK2 H2 => ?_
 ·show upd o0 96 _ 96 = _
  rw [di7]
  unfold ju7
  simp
 have k2 : ∀ k, k < 4 → t2 k = t0 k := fun k hk => by
  rw [hK2 k (by omega)]
  simp only [aE7]
  repeat rw [if_neg (by omega)]
 have k5 : t2 5 = .ref 96 (some bq) (a.length + 1) 0 (a.length + 1) 273 := by
  rw [hK2 5 (by omega)]
  simp [aE7, ev, cE7]
 show awp G (.seq (.seq (.reg _) _) _) _ _
 have e27 : ∀ t', t' 26 = t2 0 → evp t' (.len false (.t 26)) = some (.v (.int .i64 (a.length : Int))) := fun t' h => Mu7 (t := t') (x := .t 26) (rows := a.map ePt) (h.trans ((k2 0 (by omega)).trans q0)) (by simp)
 have hfill : ((ju7 (a.length + 1) b.length (a.length + 1)).map (eSl true 17 br7)).flatten = (List.replicate (a.length + 1) (iq7 b.length)).map fun l => T.sl true 17 (l.map br7) := by
  unfold ju7
  simp only [Nat.sub_self, List.replicate_zero, List.append_nil]
  generalize List.replicate (a.length + 1) (iq7 b.length) = LL
  induction LL with
  | nil => rfl
  | cons x l ih => rw [List.map_cons, List.flatten_cons, ih]; rfl
 refine cO7 (cO7 (ef7 (QI7 (fun ch => ?_) rfl)))
 show (Ff7 96 100000 ch (t2 0)).vp o2 _
 refine bn7 H2 (bf7 (aX7 (by simp [ent, esz]) (bf7 (a97 (bf7 (ac7 ?_))))))
 show (hW7 100000 ch 0 ((ju7 (a.length + 1) b.length (a.length + 1)).map (eSl true 17 br7)).flatten).vp _ _
 rw [hfill]
 refine qj7 fun xs l => a97 (ai7 ?_)
 refine a_p (e27 _ rfl) (a_p (Mt7 rfl rfl (wr (by omega) (by omega))) (a_p rfl (a_n ?_)))
 show awp G (.block 2 (.loop Ms7)) _ _
 refine GZ7 (a := a) (b := b) (g := bq) (C := a.length + 1) (bb := fun r => (ch r).1) (cc := fun r => (ch r).2) ((k2 0 (by omega)).trans q0) ((k2 1 (by omega)).trans q1) k5 rfl ⟨?_, fun r hr => ?_, fun r hr => by simp [iq7]⟩ ha hb fun t3 o3 hK3 H3 => ?_
 ·rw [di7]
  have e : alL ch 0 (List.replicate (a.length + 1) (iq7 b.length)) = (List.range (a.length + 1)).map (lnC (fun r => (ch r).1) (fun r => (ch r).2) b.length) := by
   apply List.ext_getElem?
   intro i
   rw [xj7]
   by_cases hi : i < a.length + 1
   ·rw [List.getElem?_map, List.getElem?_range hi, List.getElem?_replicate, if_pos hi]
    simp [lnC, iq7]
   ·rw [List.getElem?_eq_none (by simp; omega), List.getElem?_eq_none (by simp; omega)]
    rfl
  rw [← e]
  rfl
 ·rw [cs7 _ _ (by omega)]
  have := xk7 (ch := ch) (RL := List.replicate (a.length + 1) (iq7 b.length)) (j := 0) (i := r) (o := upd o2 96 none) (l := iq7 b.length) (by rw [List.getElem?_replicate, if_pos hr])
  rw [Nat.zero_add] at this
  exact this
 have j5 : t3 5 = .ref 96 (some bq) (a.length + 1) 0 (a.length + 1) 273 := (hK3 5 (by omega)).trans k5
 show awp G (.seq (.reg _) .ret) _ _
 refine cO7 (ef7 (QI7 (fun ch2 => ?_) rfl))
 refine ac7 (c87 (a := t3 5) rfl (ai7 ?_))
 show (Fo7 96 (t3 5)).vp o3 _
 obtain ⟨o4, hclo⟩ := tE7 (bb := fun r => (ch r).1) (cc := fun r => (ch r).2) (nb := b.length) (RL := du7 a b) (rs := List.range (a.length + 1)) (o := upd o3 96 none) List.nodup_range (fun r hr => by
  have hr := List.mem_range.1 hr
  rw [cs7 _ _ (by omega)]
  exact ⟨H3.hr r hr, H3.hl r hr⟩)
 refine bn7 H3.h96 (bf7 (aX7 (by simp [ent, esz]) (bf7 (a97 (bf7 (ac7 ?_))))))
 show (b07 (((List.range (a.length + 1)).map (lnC (fun r => (ch r).1) (fun r => (ch r).2) b.length)).map fun c => [c]).flatten).vp _ _
 rw [show ∀ L : List T, (L.map fun c => [c]).flatten = L from fun L => by induction L with
  | nil => rfl
  | cons x l ih => rw [List.map_cons, List.flatten_cons, ih]; rfl]
 refine hclo _ fun l => a97 (ai7 ?_)
 refine a_p rfl (a_n ?_)
 show ux7 _ _ _ _ _ _
 refine jn7 (a27 (o' := upd (upd o4 96 (some (ent (some bq) (a.length + 1) 273 (((List.range (a.length + 1)).map fun r => T.sl true 17 ((du7 a b r).map br7)).map fun c => [c])))) 96 none) (pY7 (Gr7 (x := .ref 96 (some bq) (a.length + 1) 0 (a.length + 1) 273) j5 rfl (pX7 (wN7 (di7 _ _ _) (by simp)) to7)) tq7) ?_ rfl)
 show [(false, [T.sl true 273 _])] = [(false, [T.sl true 273 (List.map (eSl true 17 br7) (zG7 a b))])]
 rw [qi7, List.map_map, List.map_map]
 rfl
theorem xl7 {P : Program} {tb : Tab} (hmix : P.follows .mixedOrders = true) {f : Nat} (hk : uQ7 P tb f if_lens = true) : ah7 P tb (se7 f) :=
 Dq7 hmix [] all_nil (ir := if_lens) (kss := xe7) hk G17 rfl (fun _ => Nat.le_of_ble_eq_true rfl) fun (a a' : List Pt × List Pt) h _ => by
  have h : [AV.ro (List.map ePt a.1), AV.ro (List.map ePt a.2)] = [AV.ro (List.map ePt a'.1), AV.ro (List.map ePt a'.2)] := h
  simp only [List.cons.injEq, and_true, AV.ro.injEq, ad7 ij7] at h
  exact Prod.ext h.1 h.2
end Go.Proofs.AM
