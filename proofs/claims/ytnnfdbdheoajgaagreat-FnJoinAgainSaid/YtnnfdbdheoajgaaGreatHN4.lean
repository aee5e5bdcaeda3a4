/- Lemmas of the proof (HN4), on an abstract machine. Conditions: none. -/
import Derived.Test.YtnnfdbdheoajgaaGreatHN3
set_option linter.unusedVariables false
set_option linter.unusedSimpArgs false
set_option maxRecDepth 100000
set_option maxHeartbeats 1000000
namespace Go.Proofs.AM
def ji7 (n1 nb k : Nat) : List (List Int) := List.replicate k (ik7 nb) ++ List.replicate (n1 - k) []
theorem zS7 {n1 nb k : Nat} (h : k < n1) : (ji7 n1 nb k).set k (ik7 nb) = ji7 n1 nb (k + 1) := by
 unfold ji7
 rw [show n1 - k = (n1 - (k + 1)) + 1 by omega, List.replicate_succ, List.set_append_right _ _ (by simp), List.replicate_succ', List.append_assoc]
 simp
theorem zT7 {n1 nb k : Nat} (h : k < n1) : (ji7 n1 nb k)[k]? = some [] := by
 unfold ji7
 rw [List.getElem?_append_right (by simp), List.length_replicate, Nat.sub_self, List.getElem?_replicate, if_pos (by omega)]
def alL (ch : Ch) : Nat → List (List Int) → List T
 | _, [] => []
 | j, l :: ls => .al (800000 + j) (ch j).1 (ch j).2 0 (l.map bn7).length 17 :: alL ch (j + 1) ls
def opH (ch : Ch) : Nat → List (List Int) → aj7 → aj7
 | _, [], o => o
 | j, l :: ls, o => opH ch (j + 1) ls (upd o (800000 + j) (some (ent (ch j).1 (ch j).2 17 (l.map bn7))))
theorem qz7 {ch : Ch} : ∀ {RL : List (List Int)} {j : Nat} {o : aj7} {K : List AV × List T → aj7 → a67 → Prop}, (∀ xs l, K (xs, alL ch j RL) (opH ch j RL o) l) → (hU7 100000 ch j (RL.map fun l => T.sl true 17 (l.map bn7))).vp o K
 | [], j, o, K, h => ag7 (h [] _)
 | l :: ls, j, o, K, h => by
  refine ac7 (a47 (ag7 (ac7 (qz7 fun xs l' => ag7 (h _ _)))))
theorem xF7 {ch : Ch} : ∀ {RL : List (List Int)} {j i : Nat}, (alL ch j RL)[i]? = RL[i]?.map fun l => T.al (800000 + (j + i)) (ch (j + i)).1 (ch (j + i)).2 0 l.length 17
 | [], j, i => by simp [alL]
 | l :: ls, j, 0 => by simp [alL]
 | l :: ls, j, i + 1 => by
  simp only [alL, List.getElem?_cons_succ]
  rw [xF7, show j + 1 + i = j + (i + 1) by omega]
theorem BU7 {ch : Ch} : ∀ {RL : List (List Int)} {j n : Nat} {o : aj7}, n < 800000 + j → opH ch j RL o n = o n
 | [], j, n, o, h => rfl
 | l :: ls, j, n, o, h => by
  simp only [opH]
  rw [BU7 (by omega), cr7 _ _ (by omega)]
theorem xG7 {ch : Ch} : ∀ {RL : List (List Int)} {j i : Nat} {o : aj7} {l : List Int}, RL[i]? = some l → opH ch j RL o (800000 + (j + i)) = some (ent (ch (j + i)).1 (ch (j + i)).2 17 (l.map bn7))
 | [], j, i, o, l, h => by simp at h
 | x :: ls, j, 0, o, l, h => by
  simp only [List.getElem?_cons_zero, Option.some.injEq] at h
  subst h
  simp only [opH]
  rw [BU7 (by omega), Nat.add_zero, dd7]
 | x :: ls, j, i + 1, o, l, h => by
  simp only [List.getElem?_cons_succ] at h
  simp only [opH]
  rw [show j + (i + 1) = (j + 1) + i by omega]
  exact xG7 h
theorem t37 {bb : Nat → Option Nat} {cc : Nat → Nat} {nb : Nat} {RL : Nat → List Int} : ∀ {rs : List Nat} {o : aj7}, rs.Nodup → (∀ r, r ∈ rs → o (800000 + r) = some (ent (bb r) (cc r) 17 ((RL r).map bn7)) ∧ (RL r).length = nb + 1) → ∃ o', C07 (rs.map (lnC bb cc nb)) o (rs.map fun r => T.sl true 17 ((RL r).map bn7)) o'
 | [], o, hn, h => ⟨o, kw7⟩
 | r :: rs, o, hn, h => by
  rw [List.nodup_cons] at hn
  have h1 := h r (by simp)
  obtain ⟨o', ho⟩ := t37 (o := upd o (800000 + r) none) hn.2 (fun q hq => by
   have hne : q ≠ r := fun e => hn.1 (e ▸ hq)
   rw [cr7 _ _ (by omega)]
   exact h q (by simp [hq]))
  exact ⟨o', ie7 (tR7 h1.1 (by rw [List.length_map, h1.2])) ho⟩
section
variable {G : Gam} {t : Tm} {o : aj7} {g : Nat} {a b : List Pt} {Q : Ex → St → Prop}
theorem G57 (h1 : t 1 = .ro (b.map ePt)) (h5 : t 5 = .ref 96 (some g) (a.length + 1) 0 (a.length + 1) 273) (h14 : t 14 = .v (.int .i64 ((a.length + 1 : Nat) : Int))) (h15 : t 15 = .v (.int .i64 ((0 : Nat) : Int)))
  (H : o 96 = some (ent (some g) (a.length + 1) 273 ((ji7 (a.length + 1) b.length 0).map (eSl true 17 bn7)))) (ha : a.length ≤ 1000) (hb : b.length ≤ 1000)
  (hk : ∀ t' o', Kp 6 t t' → o' 96 = some (ent (some g) (a.length + 1) 273 ((ji7 (a.length + 1) b.length (a.length + 1)).map (eSl true 17 bn7))) → Q .norm ⟨t', o'⟩) : awp G (.block 0 (.loop Mf7)) Q ⟨t, o⟩ := by
 refine ⟨fun n s => ∃ k, k ≤ a.length + 1 ∧ a.length + 1 - k = n ∧ Kp 6 t s.t ∧ s.t 14 = .v (.int .i64 ((a.length + 1 : Nat) : Int)) ∧ s.t 15 = .v (.int .i64 (k : Int)) ∧ s.o 96 = some (ent (some g) (a.length + 1) 273 ((ji7 (a.length + 1) b.length k).map (eSl true 17 bn7))), ⟨a.length + 1, 0, by omega, by omega, DH7, h14, h15, H⟩, ?_⟩
 rintro n ⟨t1, o1⟩ ⟨k, hkk, hn, hKp, q14, q15, HH⟩
 simp only at hKp q14 q15 HH
 have g1 := (hKp 1 (by omega)).trans h1
 have g5 := (hKp 5 (by omega)).trans h5
 dsimp only [Mf7, Bb, Mv, Bk]
 refine cN7 (d57 (a_p (QS7 q15 q14) (a_n ?_)))
 show awp G (.seq (.cond (.t 16) .skip (.exit 0)) _) _ _
 refine cN7 (oL7 rfl (fun hp => ?_) (fun hp => ?_))
 ·have hp := of_decide_eq_true hp
  have hlt : k < a.length + 1 := by omega
  show awp G (.seq (.block 1 Me7) _) _ _
  refine cN7 ?_
  show awp G Me7 _ _
  dsimp only [Me7, sq, Mv, Ln, Bk, Io, Ia, Sv, Nat.reduceAdd]
  refine cN7 (d57 (a_p rfl (a_p rfl (a_n ?_))))
  show awp G (.reg _) _ _
  have e21 : ∀ t', t' 20 = t1 1 → evp t' (.len false (.t 20)) = some (.v (.int .i64 (b.length : Int))) := fun t' h => Mi7 (t := t') (x := .t 20) (rows := b.map ePt) (h.trans g1) (by simp)
  have ew : IntKind.i64.wrap ((b.length : Int) + 1) = ((b.length + 1 : Nat) : Int) := by rw [wr (by omega) (by omega)]; omega
  refine d57 (a_p rfl (a_p rfl (a_p rfl (a_p (e21 _ rfl) (a_p (BS7 rfl rfl ew) (a_v (CP7 (f := bn7) (x := (0 : Int)) (len := ((b.length + 1 : Nat) : Int)) rfl rfl (decide_eq_true (by omega)) (by unfold aG7; exact decide_eq_true (by omega)) rfl fun bq => ?_)))))))
  refine a_p (xC7 g5 q15 hlt rfl) (a_v (CT7 (f := eSl true 17 bn7) (xs := ji7 (a.length + 1) b.length k) (x := []) (x' := ik7 b.length) (b := some g) (cap := a.length + 1) (n := 96) (k := 273) (r := k) (c := 0) rfl ?_ (kv7 (sz7 (dd7 _ _ _) (by simp) rfl) oz7) ?_ (zT7 hlt) rfl rfl (a_n ?_)))
  ·rw [cr7 _ _ (by decide)]
   exact HH
  ·rw [cr7 _ _ (by decide), cr7 _ _ (by decide)]
   exact HH
  ·show awp G (.reg _) _ _
   have ew2 : IntKind.i64.wrap ((k : Int) + 1) = ((k + 1 : Nat) : Int) := by rw [wr (by omega) (by omega)]; omega
   refine d57 (a_p (BS7 q15 rfl ew2) (a_p rfl (a_n ?_)))
   refine ⟨a.length + 1 - (k + 1), by omega, k + 1, by omega, rfl, fun i hi => ?_, q14, rfl, ?_⟩
   ·have hh : Kp 6 t1 t1 := DH7
    rw [← hKp i hi]
    simp only [aD7]
    repeat rw [if_neg (by omega)]
   ·dsimp only
    rw [dd7, zS7 hlt]
 ·have hp := of_decide_eq_false hp
  have hk2 : k = a.length + 1 := by omega
  subst hk2
  show Q .norm _
  exact hk _ _ (fun i hi => by
   simp only [aD7]
   rw [if_neg (by omega), hKp i hi]) HH
end
theorem G67 {f : Nat} : OkC [] (sD7 f) if_lens xB7 := by
 intro G _ (p : List Pt × List Pt) (r : List (List Int)) hv bs
 obtain ⟨a, b⟩ := p
 have hv : vr7 a b = some r := hv
 unfold vr7 at hv
 split at hv
 case isFalse => cases hv
 rename_i hn
 cases hv
 have ha := of_decide_eq_true (Db7 hn)
 have hb := of_decide_eq_true (Dc7 hn)
 show awp G if_lens.body _ ⟨uW7 bs [.ro (a.map ePt), .ro (b.map ePt)], vO7 bs []⟩
 generalize ho0 : vO7 bs [] = o0
 have q0 : uW7 bs [.ro (a.map ePt), .ro (b.map ePt)] 0 = .ro (a.map ePt) := rfl
 have q1 : uW7 bs [.ro (a.map ePt), .ro (b.map ePt)] 1 = .ro (b.map ePt) := rfl
 generalize uW7 bs [.ro (a.map ePt), .ro (b.map ePt)] = t0 at q0 q1
 have ew : IntKind.i64.wrap ((a.length : Int) + 1) = ((a.length + 1 : Nat) : Int) := by rw [wr (by omega) (by omega)]; omega
 dsimp only [if_lens, Qo7, Qp7, Qq7, Qr7, Qs7, sq, Mv, Ln, Bk, Io, Ki, Nat.reduceAdd]
 refine cN7 (d57 (a_p rfl (a_n ?_)))
 show awp G (.seq (.reg _) _) _ _
 have e10 : ∀ t', t' 9 = t0 0 → evp t' (.len false (.t 9)) = some (.v (.int .i64 (a.length : Int))) := fun t' h => Mi7 (t := t') (x := .t 9) (rows := a.map ePt) (h.trans q0) (by simp)
 refine cN7 (d57 (a_p rfl (a_p (e10 _ rfl) (a_p (BS7 rfl rfl ew) (a_v (CP7 (f := eSl true 17 bn7) (x := ([] : List Int)) (len := ((a.length + 1 : Nat) : Int)) rfl rfl (decide_eq_true (by omega)) (by unfold aG7; exact decide_eq_true (by omega)) rfl fun bq => a_p rfl (a_n ?_)))))))
 show awp G (.seq (.seq (.reg _) _) _) _ _
 refine cN7 (cN7 (d57 (a_p rfl (a_p (QU7 (len := a.length + 1) (n := 96) (cap := a.length + 1) (off := 0) (k := 273) (b := some bq) (by simp [ev, aD7, cA7])) (a_p rfl (a_n ?_))))))
 show awp G (.block 0 (.loop Mf7)) _ _
 refine G57 (a := a) (b := b) (g := bq) q1 (by simp [aD7, cA7, ev]) rfl rfl ?_ ha hb fun t2 o2 hK2 H2 => ?_
 ·show upd o0 96 _ 96 = _
  rw [dd7]
  unfold ji7
  simp
 have k2 : ∀ k, k < 4 → t2 k = t0 k := fun k hk => by
  rw [hK2 k (by omega)]
  simp only [aD7]
  repeat rw [if_neg (by omega)]
 have k5 : t2 5 = .ref 96 (some bq) (a.length + 1) 0 (a.length + 1) 273 := by
  rw [hK2 5 (by omega)]
  simp [aD7, ev, cA7]
 show awp G (.seq (.seq (.reg _) _) _) _ _
 have e27 : ∀ t', t' 26 = t2 0 → evp t' (.len false (.t 26)) = some (.v (.int .i64 (a.length : Int))) := fun t' h => Mi7 (t := t') (x := .t 26) (rows := a.map ePt) (h.trans ((k2 0 (by omega)).trans q0)) (by simp)
 have hfill : ((ji7 (a.length + 1) b.length (a.length + 1)).map (eSl true 17 bn7)).flatten = (List.replicate (a.length + 1) (ik7 b.length)).map fun l => T.sl true 17 (l.map bn7) := by
  unfold ji7
  simp only [Nat.sub_self, List.replicate_zero, List.append_nil]
  generalize List.replicate (a.length + 1) (ik7 b.length) = LL
  induction LL with
  | nil => rfl
  | cons x l ih => rw [List.map_cons, List.flatten_cons, ih]; rfl
 refine cN7 (cN7 (d57 (Qt7 (fun ch => ?_) rfl)))
 show (Fk7 96 100000 ch (t2 0)).vp o2 _
 refine bk7 H2 (a87 (aW7 (by simp [ent, esz]) (a87 (a47 (a87 (ac7 ?_))))))
 show (hU7 100000 ch 0 ((ji7 (a.length + 1) b.length (a.length + 1)).map (eSl true 17 bn7)).flatten).vp _ _
 rw [hfill]
 refine qz7 fun xs l => a47 (ag7 ?_)
 refine a_p (e27 _ rfl) (a_p (Mh7 rfl rfl (wr (by omega) (by omega))) (a_p rfl (a_n ?_)))
 show awp G (.block 2 (.loop Mg7)) _ _
 refine G47 (a := a) (b := b) (g := bq) (C := a.length + 1) (bb := fun r => (ch r).1) (cc := fun r => (ch r).2) ((k2 0 (by omega)).trans q0) ((k2 1 (by omega)).trans q1) k5 rfl ⟨?_, fun r hr => ?_, fun r hr => by simp [ik7]⟩ ha hb fun t3 o3 hK3 H3 => ?_
 ·rw [dd7]
  have e : alL ch 0 (List.replicate (a.length + 1) (ik7 b.length)) = (List.range (a.length + 1)).map (lnC (fun r => (ch r).1) (fun r => (ch r).2) b.length) := by
   apply List.ext_getElem?
   intro i
   rw [xF7]
   by_cases hi : i < a.length + 1
   ·rw [List.getElem?_map, List.getElem?_range hi, List.getElem?_replicate, if_pos hi]
    simp [lnC, ik7]
   ·rw [List.getElem?_eq_none (by simp; omega), List.getElem?_eq_none (by simp; omega)]
    rfl
  rw [← e]
  rfl
 ·rw [cr7 _ _ (by omega)]
  have := xG7 (ch := ch) (RL := List.replicate (a.length + 1) (ik7 b.length)) (j := 0) (i := r) (o := upd o2 96 none) (l := ik7 b.length) (by rw [List.getElem?_replicate, if_pos hr])
  rw [Nat.zero_add] at this
  exact this
 have j5 : t3 5 = .ref 96 (some bq) (a.length + 1) 0 (a.length + 1) 273 := (hK3 5 (by omega)).trans k5
 show awp G (.seq (.reg _) .ret) _ _
 refine cN7 (d57 (Qt7 (fun ch2 => ?_) rfl))
 refine ac7 (c07 (a := t3 5) rfl (ag7 ?_))
 show (Fu7 96 (t3 5)).vp o3 _
 obtain ⟨o4, hclo⟩ := t37 (bb := fun r => (ch r).1) (cc := fun r => (ch r).2) (nb := b.length) (RL := bd7 a b) (rs := List.range (a.length + 1)) (o := upd o3 96 none) List.nodup_range (fun r hr => by
  have hr := List.mem_range.1 hr
  rw [cr7 _ _ (by omega)]
  exact ⟨H3.hr r hr, H3.hl r hr⟩)
 refine bk7 H3.h96 (a87 (aW7 (by simp [ent, esz]) (a87 (a47 (a87 (ac7 ?_))))))
 show (b07 (((List.range (a.length + 1)).map (lnC (fun r => (ch r).1) (fun r => (ch r).2) b.length)).map fun c => [c]).flatten).vp _ _
 rw [show ∀ L : List T, (L.map fun c => [c]).flatten = L from fun L => by induction L with
  | nil => rfl
  | cons x l ih => rw [List.map_cons, List.flatten_cons, ih]; rfl]
 refine hclo _ fun l => a47 (ag7 ?_)
 refine a_p rfl (a_n ?_)
 show uX7 _ _ _ _ _ _
 refine i97 (bp7 (o' := upd (upd o4 96 (some (ent (some bq) (a.length + 1) 273 (((List.range (a.length + 1)).map fun r => T.sl true 17 ((bd7 a b r).map bn7)).map fun c => [c])))) 96 none) (qe7 (Gx7 (x := .ref 96 (some bq) (a.length + 1) 0 (a.length + 1) 273) j5 rfl (qd7 (xa7 (dd7 _ _ _) (by simp)) tQ7)) tS7) ?_ rfl)
 show [(false, [T.sl true 273 _])] = [(false, [T.sl true 273 (List.map (eSl true 17 bn7) (vQ7 a b))])]
 rw [lu7, List.map_map, List.map_map]
 rfl
theorem xH7 {P : Program} {tb : Tab} (hmix : P.follows .mixedOrders = true) {f : Nat} (hk : vg7 P tb f if_lens = true) : ah7 P tb (sD7 f) :=
 Du7 hmix [] all_nil (ir := if_lens) (kss := xB7) hk G67 rfl (fun _ => Nat.le_of_ble_eq_true rfl) fun (a a' : List Pt × List Pt) h _ => by
  have h : [AV.ro (List.map ePt a.1), AV.ro (List.map ePt a.2)] = [AV.ro (List.map ePt a'.1), AV.ro (List.map ePt a'.2)] := h
  simp only [List.cons.injEq, and_true, AV.ro.injEq, ad7 ig7] at h
  exact Prod.ext h.1 h.2
end Go.Proofs.AM
