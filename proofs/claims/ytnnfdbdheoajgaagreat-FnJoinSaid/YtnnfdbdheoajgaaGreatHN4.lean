/- Lemmas of the proof (HN4), on an abstract machine. Conditions: none. -/
import Derived.Test.YtnnfdbdheoajgaaGreatHN3
set_option linter.unusedVariables false
set_option linter.unusedSimpArgs false
set_option maxRecDepth 100000
set_option maxHeartbeats 1000000
namespace Go.Proofs.AM
def jx7 (n1 nb k : Nat) : List (List Int) := List.replicate k (iv7 nb) ++ List.replicate (n1 - k) []
theorem Ac7 {n1 nb k : Nat} (h : k < n1) : (jx7 n1 nb k).set k (iv7 nb) = jx7 n1 nb (k + 1) := by
 unfold jx7
 rw [show n1 - k = (n1 - (k + 1)) + 1 by omega, List.replicate_succ, List.set_append_right _ _ (by simp), List.replicate_succ', List.append_assoc]
 simp
theorem Ad7 {n1 nb k : Nat} (h : k < n1) : (jx7 n1 nb k)[k]? = some [] := by
 unfold jx7
 rw [List.getElem?_append_right (by simp), List.length_replicate, Nat.sub_self, List.getElem?_replicate, if_pos (by omega)]
def alL (ch : Ch) : Nat → List (List Int) → List T
 | _, [] => []
 | j, l :: ls => .al (800000 + j) (ch j).1 (ch j).2 0 (l.map bo7).length 17 :: alL ch (j + 1) ls
def opH (ch : Ch) : Nat → List (List Int) → aj7 → aj7
 | _, [], o => o
 | j, l :: ls, o => opH ch (j + 1) ls (upd o (800000 + j) (some (ent (ch j).1 (ch j).2 17 (l.map bo7))))
theorem qK7 {ch : Ch} : ∀ {RL : List (List Int)} {j : Nat} {o : aj7} {K : List AV × List T → aj7 → a47 → Prop}, (∀ xs l, K (xs, alL ch j RL) (opH ch j RL o) l) → (h87 100000 ch j (RL.map fun l => T.sl true 17 (l.map bo7))).vp o K
 | [], j, o, K, h => ai7 (h [] _)
 | l :: ls, j, o, K, h => by
  refine ac7 (a37 (ai7 (ac7 (qK7 fun xs l' => ai7 (h _ _)))))
theorem xX7 {ch : Ch} : ∀ {RL : List (List Int)} {j i : Nat}, (alL ch j RL)[i]? = RL[i]?.map fun l => T.al (800000 + (j + i)) (ch (j + i)).1 (ch (j + i)).2 0 l.length 17
 | [], j, i => by simp [alL]
 | l :: ls, j, 0 => by simp [alL]
 | l :: ls, j, i + 1 => by
  simp only [alL, List.getElem?_cons_succ]
  rw [xX7, show j + 1 + i = j + (i + 1) by omega]
theorem Cn7 {ch : Ch} : ∀ {RL : List (List Int)} {j n : Nat} {o : aj7}, n < 800000 + j → opH ch j RL o n = o n
 | [], j, n, o, h => rfl
 | l :: ls, j, n, o, h => by
  simp only [opH]
  rw [Cn7 (by omega), cp7 _ _ (by omega)]
theorem xY7 {ch : Ch} : ∀ {RL : List (List Int)} {j i : Nat} {o : aj7} {l : List Int}, RL[i]? = some l → opH ch j RL o (800000 + (j + i)) = some (ent (ch (j + i)).1 (ch (j + i)).2 17 (l.map bo7))
 | [], j, i, o, l, h => by simp at h
 | x :: ls, j, 0, o, l, h => by
  simp only [List.getElem?_cons_zero, Option.some.injEq] at h
  subst h
  simp only [opH]
  rw [Cn7 (by omega), Nat.add_zero, dg7]
 | x :: ls, j, i + 1, o, l, h => by
  simp only [List.getElem?_cons_succ] at h
  simp only [opH]
  rw [show j + (i + 1) = (j + 1) + i by omega]
  exact xY7 h
theorem ud7 {bb : Nat → Option Nat} {cc : Nat → Nat} {nb : Nat} {RL : Nat → List Int} : ∀ {rs : List Nat} {o : aj7}, rs.Nodup → (∀ r, r ∈ rs → o (800000 + r) = some (ent (bb r) (cc r) 17 ((RL r).map bo7)) ∧ (RL r).length = nb + 1) → ∃ o', Dt7 (rs.map (lnC bb cc nb)) o (rs.map fun r => T.sl true 17 ((RL r).map bo7)) o'
 | [], o, hn, h => ⟨o, kL7⟩
 | r :: rs, o, hn, h => by
  rw [List.nodup_cons] at hn
  have h1 := h r (by simp)
  obtain ⟨o', ho⟩ := ud7 (o := upd o (800000 + r) none) hn.2 (fun q hq => by
   have hne : q ≠ r := fun e => hn.1 (e ▸ hq)
   rw [cp7 _ _ (by omega)]
   exact h q (by simp [hq]))
  exact ⟨o', ip7 (t17 h1.1 (by rw [List.length_map, h1.2])) ho⟩
section
variable {G : Gam} {t : Tm} {o : aj7} {g : Nat} {a b : List Pt} {Q : Ex → St → Prop}
theorem Hu7 (h1 : t 1 = .ro (b.map ePt)) (h5 : t 5 = .ref 96 (some g) (a.length + 1) 0 (a.length + 1) 273) (h14 : t 14 = .v (.int .i64 ((a.length + 1 : Nat) : Int))) (h15 : t 15 = .v (.int .i64 ((0 : Nat) : Int)))
  (H : o 96 = some (ent (some g) (a.length + 1) 273 ((jx7 (a.length + 1) b.length 0).map (eSl true 17 bo7)))) (ha : a.length ≤ 1000) (hb : b.length ≤ 1000)
  (hk : ∀ t' o', Kp 6 t t' → o' 96 = some (ent (some g) (a.length + 1) 273 ((jx7 (a.length + 1) b.length (a.length + 1)).map (eSl true 17 bo7))) → Q .norm ⟨t', o'⟩) : awp G (.block 0 (.loop MJ7)) Q ⟨t, o⟩ := by
 refine ⟨fun n s => ∃ k, k ≤ a.length + 1 ∧ a.length + 1 - k = n ∧ Kp 6 t s.t ∧ s.t 14 = .v (.int .i64 ((a.length + 1 : Nat) : Int)) ∧ s.t 15 = .v (.int .i64 (k : Int)) ∧ s.o 96 = some (ent (some g) (a.length + 1) 273 ((jx7 (a.length + 1) b.length k).map (eSl true 17 bo7))), ⟨a.length + 1, 0, by omega, by omega, Ea7, h14, h15, H⟩, ?_⟩
 rintro n ⟨t1, o1⟩ ⟨k, hkk, hn, hKp, q14, q15, HH⟩
 simp only at hKp q14 q15 HH
 have g1 := (hKp 1 (by omega)).trans h1
 have g5 := (hKp 5 (by omega)).trans h5
 dsimp only [MJ7, Bb, Mv, Bk]
 refine cP7 (d97 (a_p (Rs7 q15 q14) (a_n ?_)))
 show awp G (.seq (.cond (.t 16) .skip (.exit 0)) _) _ _
 refine cP7 (o07 rfl (fun hp => ?_) (fun hp => ?_))
 ·have hp := of_decide_eq_true hp
  have hlt : k < a.length + 1 := by omega
  show awp G (.seq (.block 1 MI7) _) _ _
  refine cP7 ?_
  show awp G MI7 _ _
  dsimp only [MI7, sq, Mv, Ln, Bk, Io, Ia, Sv, Nat.reduceAdd]
  refine cP7 (d97 (a_p rfl (a_p rfl (a_n ?_))))
  show awp G (.reg _) _ _
  have e21 : ∀ t', t' 20 = t1 1 → evp t' (.len false (.t 20)) = some (.v (.int .i64 (b.length : Int))) := fun t' h => MM7 (t := t') (x := .t 20) (rows := b.map ePt) (h.trans g1) (by simp)
  have ew : IntKind.i64.wrap ((b.length : Int) + 1) = ((b.length + 1 : Nat) : Int) := by rw [wr (by omega) (by omega)]; omega
  refine d97 (a_p rfl (a_p rfl (a_p rfl (a_p (e21 _ rfl) (a_p (Cl7 rfl rfl ew) (a_v (Di7 (f := bo7) (x := (0 : Int)) (len := ((b.length + 1 : Nat) : Int)) rfl rfl (decide_eq_true (by omega)) (by unfold aH7; exact decide_eq_true (by omega)) rfl fun bq => ?_)))))))
  refine a_p (xU7 g5 q15 hlt rfl) (a_v (Dm7 (f := eSl true 17 bo7) (xs := jx7 (a.length + 1) b.length k) (x := []) (x' := iv7 b.length) (b := some g) (cap := a.length + 1) (n := 96) (k := 273) (r := k) (c := 0) rfl ?_ (kK7 (sI7 (dg7 _ _ _) (by simp) rfl) oO7) ?_ (Ad7 hlt) rfl rfl (a_n ?_)))
  ·rw [cp7 _ _ (by decide)]
   exact HH
  ·rw [cp7 _ _ (by decide), cp7 _ _ (by decide)]
   exact HH
  ·show awp G (.reg _) _ _
   have ew2 : IntKind.i64.wrap ((k : Int) + 1) = ((k + 1 : Nat) : Int) := by rw [wr (by omega) (by omega)]; omega
   refine d97 (a_p (Cl7 q15 rfl ew2) (a_p rfl (a_n ?_)))
   refine ⟨a.length + 1 - (k + 1), by omega, k + 1, by omega, rfl, fun i hi => ?_, q14, rfl, ?_⟩
   ·have hh : Kp 6 t1 t1 := Ea7
    rw [← hKp i hi]
    simp only [aG7]
    repeat rw [if_neg (by omega)]
   ·dsimp only
    rw [dg7, Ac7 hlt]
 ·have hp := of_decide_eq_false hp
  have hk2 : k = a.length + 1 := by omega
  subst hk2
  show Q .norm _
  exact hk _ _ (fun i hi => by
   simp only [aG7]
   rw [if_neg (by omega), hKp i hi]) HH
end
theorem Hv7 {f : Nat} : OkC [] (sM7 f) if_lens xT7 := by
 intro G _ (p : List Pt × List Pt) (r : List (List Int)) hv bs
 obtain ⟨a, b⟩ := p
 have hv : vD7 a b = some r := hv
 unfold vD7 at hv
 split at hv
 case isFalse => cases hv
 rename_i hn
 cases hv
 have ha := of_decide_eq_true (DE7 hn)
 have hb := of_decide_eq_true (DF7 hn)
 show awp G if_lens.body _ ⟨u77 bs [.ro (a.map ePt), .ro (b.map ePt)], v17 bs []⟩
 generalize ho0 : v17 bs [] = o0
 have q0 : u77 bs [.ro (a.map ePt), .ro (b.map ePt)] 0 = .ro (a.map ePt) := rfl
 have q1 : u77 bs [.ro (a.map ePt), .ro (b.map ePt)] 1 = .ro (b.map ePt) := rfl
 generalize u77 bs [.ro (a.map ePt), .ro (b.map ePt)] = t0 at q0 q1
 have ew : IntKind.i64.wrap ((a.length : Int) + 1) = ((a.length + 1 : Nat) : Int) := by rw [wr (by omega) (by omega)]; omega
 dsimp only [if_lens, QX7, QY7, QZ7, Q07, Q17, sq, Mv, Ln, Bk, Io, Ki, Nat.reduceAdd]
 refine cP7 (d97 (a_p rfl (a_n ?_)))
 show awp G (.seq (.reg _) _) _ _
 have e10 : ∀ t', t' 9 = t0 0 → evp t' (.len false (.t 9)) = some (.v (.int .i64 (a.length : Int))) := fun t' h => MM7 (t := t') (x := .t 9) (rows := a.map ePt) (h.trans q0) (by simp)
 refine cP7 (d97 (a_p rfl (a_p (e10 _ rfl) (a_p (Cl7 rfl rfl ew) (a_v (Di7 (f := eSl true 17 bo7) (x := ([] : List Int)) (len := ((a.length + 1 : Nat) : Int)) rfl rfl (decide_eq_true (by omega)) (by unfold aH7; exact decide_eq_true (by omega)) rfl fun bq => a_p rfl (a_n ?_)))))))
 show awp G (.seq (.seq (.reg _) _) _) _ _
 refine cP7 (cP7 (d97 (a_p rfl (a_p (Ru7 (len := a.length + 1) (n := 96) (cap := a.length + 1) (off := 0) (k := 273) (b := some bq) (by simp [ev, aG7, cB7])) (a_p rfl (a_n ?_))))))
 show awp G (.block 0 (.loop MJ7)) _ _
 refine Hu7 (a := a) (b := b) (g := bq) q1 (by simp [aG7, cB7, ev]) rfl rfl ?_ ha hb fun t2 o2 hK2 H2 => ?_
 ·show upd o0 96 _ 96 = _
  rw [dg7]
  unfold jx7
  simp
 have k2 : ∀ k, k < 4 → t2 k = t0 k := fun k hk => by
  rw [hK2 k (by omega)]
  simp only [aG7]
  repeat rw [if_neg (by omega)]
 have k5 : t2 5 = .ref 96 (some bq) (a.length + 1) 0 (a.length + 1) 273 := by
  rw [hK2 5 (by omega)]
  simp [aG7, ev, cB7]
 show awp G (.seq (.seq (.reg _) _) _) _ _
 have e27 : ∀ t', t' 26 = t2 0 → evp t' (.len false (.t 26)) = some (.v (.int .i64 (a.length : Int))) := fun t' h => MM7 (t := t') (x := .t 26) (rows := a.map ePt) (h.trans ((k2 0 (by omega)).trans q0)) (by simp)
 have hfill : ((jx7 (a.length + 1) b.length (a.length + 1)).map (eSl true 17 bo7)).flatten = (List.replicate (a.length + 1) (iv7 b.length)).map fun l => T.sl true 17 (l.map bo7) := by
  unfold jx7
  simp only [Nat.sub_self, List.replicate_zero, List.append_nil]
  generalize List.replicate (a.length + 1) (iv7 b.length) = LL
  induction LL with
  | nil => rfl
  | cons x l ih => rw [List.map_cons, List.flatten_cons, ih]; rfl
 refine cP7 (cP7 (d97 (Q27 (fun ch => ?_) rfl)))
 show (FL7 96 100000 ch (t2 0)).vp o2 _
 refine bj7 H2 (a77 (aU7 (by simp [ent, esz]) (a77 (a37 (a77 (ac7 ?_))))))
 show (h87 100000 ch 0 ((jx7 (a.length + 1) b.length (a.length + 1)).map (eSl true 17 bo7)).flatten).vp _ _
 rw [hfill]
 refine qK7 fun xs l => a37 (ai7 ?_)
 refine a_p (e27 _ rfl) (a_p (ML7 rfl rfl (wr (by omega) (by omega))) (a_p rfl (a_n ?_)))
 show awp G (.block 2 (.loop MK7)) _ _
 refine Ht7 (a := a) (b := b) (g := bq) (C := a.length + 1) (bb := fun r => (ch r).1) (cc := fun r => (ch r).2) ((k2 0 (by omega)).trans q0) ((k2 1 (by omega)).trans q1) k5 rfl ⟨?_, fun r hr => ?_, fun r hr => by simp [iv7]⟩ ha hb fun t3 o3 hK3 H3 => ?_
 ·rw [dg7]
  have e : alL ch 0 (List.replicate (a.length + 1) (iv7 b.length)) = (List.range (a.length + 1)).map (lnC (fun r => (ch r).1) (fun r => (ch r).2) b.length) := by
   apply List.ext_getElem?
   intro i
   rw [xX7]
   by_cases hi : i < a.length + 1
   ·rw [List.getElem?_map, List.getElem?_range hi, List.getElem?_replicate, if_pos hi]
    simp [lnC, iv7]
   ·rw [List.getElem?_eq_none (by simp; omega), List.getElem?_eq_none (by simp; omega)]
    rfl
  rw [← e]
  rfl
 ·rw [cp7 _ _ (by omega)]
  have := xY7 (ch := ch) (RL := List.replicate (a.length + 1) (iv7 b.length)) (j := 0) (i := r) (o := upd o2 96 none) (l := iv7 b.length) (by rw [List.getElem?_replicate, if_pos hr])
  rw [Nat.zero_add] at this
  exact this
 have j5 : t3 5 = .ref 96 (some bq) (a.length + 1) 0 (a.length + 1) 273 := (hK3 5 (by omega)).trans k5
 show awp G (.seq (.reg _) .ret) _ _
 refine cP7 (d97 (Q27 (fun ch2 => ?_) rfl))
 refine ac7 (c77 (a := t3 5) rfl (ai7 ?_))
 show (FV7 96 (t3 5)).vp o3 _
 obtain ⟨o4, hclo⟩ := ud7 (bb := fun r => (ch r).1) (cc := fun r => (ch r).2) (nb := b.length) (RL := bf7 a b) (rs := List.range (a.length + 1)) (o := upd o3 96 none) List.nodup_range (fun r hr => by
  have hr := List.mem_range.1 hr
  rw [cp7 _ _ (by omega)]
  exact ⟨H3.hr r hr, H3.hl r hr⟩)
 refine bj7 H3.h96 (a77 (aU7 (by simp [ent, esz]) (a77 (a37 (a77 (ac7 ?_))))))
 show (bW7 (((List.range (a.length + 1)).map (lnC (fun r => (ch r).1) (fun r => (ch r).2) b.length)).map fun c => [c]).flatten).vp _ _
 rw [show ∀ L : List T, (L.map fun c => [c]).flatten = L from fun L => by induction L with
  | nil => rfl
  | cons x l ih => rw [List.map_cons, List.flatten_cons, ih]; rfl]
 refine hclo _ fun l => a37 (ai7 ?_)
 refine a_p rfl (a_n ?_)
 show u87 _ _ _ _ _ _
 refine jo7 (aX7 (o' := upd (upd o4 96 (some (ent (some bq) (a.length + 1) 273 (((List.range (a.length + 1)).map fun r => T.sl true 17 ((bf7 a b r).map bo7)).map fun c => [c])))) 96 none) (qp7 (GV7 (x := .ref 96 (some bq) (a.length + 1) 0 (a.length + 1) 273) j5 rfl (qo7 (xs7 (dg7 _ _ _) (by simp)) t07)) t27) ?_ rfl)
 show [(false, [T.sl true 273 _])] = [(false, [T.sl true 273 (List.map (eSl true 17 bo7) (v37 a b))])]
 rw [lJ7, List.map_map, List.map_map]
 rfl
theorem xZ7 {P : Program} {tb : Tab} (hmix : P.follows .mixedOrders = true) {f : Nat} (hk : vr7 P tb f if_lens = true) : ah7 P tb (sM7 f) :=
 DX7 hmix [] all_nil (ir := if_lens) (kss := xT7) hk Hv7 rfl (fun _ => Nat.le_of_ble_eq_true rfl) fun (a a' : List Pt × List Pt) h _ => by
  have h : [AV.ro (List.map ePt a.1), AV.ro (List.map ePt a.2)] = [AV.ro (List.map ePt a'.1), AV.ro (List.map ePt a'.2)] := h
  simp only [List.cons.injEq, and_true, AV.ro.injEq, ad7 ir7] at h
  exact Prod.ext h.1 h.2
end Go.Proofs.AM
