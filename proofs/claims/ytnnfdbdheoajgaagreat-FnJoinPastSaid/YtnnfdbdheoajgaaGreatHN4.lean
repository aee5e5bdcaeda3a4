/- Lemmas of the proof (HN4), on an abstract machine. Conditions: none. -/
import Derived.Test.YtnnfdbdheoajgaaGreatHN3
set_option linter.unusedVariables false
set_option linter.unusedSimpArgs false
set_option maxRecDepth 100000
set_option maxHeartbeats 1000000
namespace Go.Proofs.AM
def jk7 (n1 nb k : Nat) : List (List Int) := List.replicate k (ip7 nb) ++ List.replicate (n1 - k) []
theorem z17 {n1 nb k : Nat} (h : k < n1) : (jk7 n1 nb k).set k (ip7 nb) = jk7 n1 nb (k + 1) := by
 unfold jk7
 rw [show n1 - k = (n1 - (k + 1)) + 1 by omega, List.replicate_succ, List.set_append_right _ _ (by simp), List.replicate_succ', List.append_assoc]
 simp
theorem z27 {n1 nb k : Nat} (h : k < n1) : (jk7 n1 nb k)[k]? = some [] := by
 unfold jk7
 rw [List.getElem?_append_right (by simp), List.length_replicate, Nat.sub_self, List.getElem?_replicate, if_pos (by omega)]
def alL (ch : Ch) : Nat → List (List Int) → List T
 | _, [] => []
 | j, l :: ls => .al (800000 + j) (ch j).1 (ch j).2 0 (l.map bm7).length 17 :: alL ch (j + 1) ls
def opH (ch : Ch) : Nat → List (List Int) → aj7 → aj7
 | _, [], o => o
 | j, l :: ls, o => opH ch (j + 1) ls (upd o (800000 + j) (some (ent (ch j).1 (ch j).2 17 (l.map bm7))))
theorem qC7 {ch : Ch} : ∀ {RL : List (List Int)} {j : Nat} {o : aj7} {K : List AV × List T → aj7 → a67 → Prop}, (∀ xs l, K (xs, alL ch j RL) (opH ch j RL o) l) → (hX7 100000 ch j (RL.map fun l => T.sl true 17 (l.map bm7))).vp o K
 | [], j, o, K, h => ai7 (h [] _)
 | l :: ls, j, o, K, h => by
  refine ac7 (a47 (ai7 (ac7 (qC7 fun xs l' => ai7 (h _ _)))))
theorem xP7 {ch : Ch} : ∀ {RL : List (List Int)} {j i : Nat}, (alL ch j RL)[i]? = RL[i]?.map fun l => T.al (800000 + (j + i)) (ch (j + i)).1 (ch (j + i)).2 0 l.length 17
 | [], j, i => by simp [alL]
 | l :: ls, j, 0 => by simp [alL]
 | l :: ls, j, i + 1 => by
  simp only [alL, List.getElem?_cons_succ]
  rw [xP7, show j + 1 + i = j + (i + 1) by omega]
theorem B47 {ch : Ch} : ∀ {RL : List (List Int)} {j n : Nat} {o : aj7}, n < 800000 + j → opH ch j RL o n = o n
 | [], j, n, o, h => rfl
 | l :: ls, j, n, o, h => by
  simp only [opH]
  rw [B47 (by omega), cp7 _ _ (by omega)]
theorem xQ7 {ch : Ch} : ∀ {RL : List (List Int)} {j i : Nat} {o : aj7} {l : List Int}, RL[i]? = some l → opH ch j RL o (800000 + (j + i)) = some (ent (ch (j + i)).1 (ch (j + i)).2 17 (l.map bm7))
 | [], j, i, o, l, h => by simp at h
 | x :: ls, j, 0, o, l, h => by
  simp only [List.getElem?_cons_zero, Option.some.injEq] at h
  subst h
  simp only [opH]
  rw [B47 (by omega), Nat.add_zero, dg7]
 | x :: ls, j, i + 1, o, l, h => by
  simp only [List.getElem?_cons_succ] at h
  simp only [opH]
  rw [show j + (i + 1) = (j + 1) + i by omega]
  exact xQ7 h
theorem t77 {bb : Nat → Option Nat} {cc : Nat → Nat} {nb : Nat} {RL : Nat → List Int} : ∀ {rs : List Nat} {o : aj7}, rs.Nodup → (∀ r, r ∈ rs → o (800000 + r) = some (ent (bb r) (cc r) 17 ((RL r).map bm7)) ∧ (RL r).length = nb + 1) → ∃ o', Da7 (rs.map (lnC bb cc nb)) o (rs.map fun r => T.sl true 17 ((RL r).map bm7)) o'
 | [], o, hn, h => ⟨o, kB7⟩
 | r :: rs, o, hn, h => by
  rw [List.nodup_cons] at hn
  have h1 := h r (by simp)
  obtain ⟨o', ho⟩ := t77 (o := upd o (800000 + r) none) hn.2 (fun q hq => by
   have hne : q ≠ r := fun e => hn.1 (e ▸ hq)
   rw [cp7 _ _ (by omega)]
   exact h q (by simp [hq]))
  exact ⟨o', ij7 (tV7 h1.1 (by rw [List.length_map, h1.2])) ho⟩
section
variable {G : Gam} {t : Tm} {o : aj7} {g : Nat} {a b : List Pt} {Q : Ex → St → Prop}
theorem Hd7 (h1 : t 1 = .ro (b.map ePt)) (h5 : t 5 = .ref 96 (some g) (a.length + 1) 0 (a.length + 1) 273) (h14 : t 14 = .v (.int .i64 ((a.length + 1 : Nat) : Int))) (h15 : t 15 = .v (.int .i64 ((0 : Nat) : Int)))
  (H : o 96 = some (ent (some g) (a.length + 1) 273 ((jk7 (a.length + 1) b.length 0).map (eSl true 17 bm7)))) (ha : a.length ≤ 1000) (hb : b.length ≤ 1000)
  (hk : ∀ t' o', Kp 6 t t' → o' 96 = some (ent (some g) (a.length + 1) 273 ((jk7 (a.length + 1) b.length (a.length + 1)).map (eSl true 17 bm7))) → Q .norm ⟨t', o'⟩) : awp G (.block 0 (.loop Mp7)) Q ⟨t, o⟩ := by
 refine ⟨fun n s => ∃ k, k ≤ a.length + 1 ∧ a.length + 1 - k = n ∧ Kp 6 t s.t ∧ s.t 14 = .v (.int .i64 ((a.length + 1 : Nat) : Int)) ∧ s.t 15 = .v (.int .i64 (k : Int)) ∧ s.o 96 = some (ent (some g) (a.length + 1) 273 ((jk7 (a.length + 1) b.length k).map (eSl true 17 bm7))), ⟨a.length + 1, 0, by omega, by omega, DP7, h14, h15, H⟩, ?_⟩
 rintro n ⟨t1, o1⟩ ⟨k, hkk, hn, hKp, q14, q15, HH⟩
 simp only at hKp q14 q15 HH
 have g1 := (hKp 1 (by omega)).trans h1
 have g5 := (hKp 5 (by omega)).trans h5
 dsimp only [Mp7, Bb, Mv, Bk]
 refine cP7 (d97 (a_p (Q47 q15 q14) (a_n ?_)))
 show awp G (.seq (.cond (.t 16) .skip (.exit 0)) _) _ _
 refine cP7 (oQ7 rfl (fun hp => ?_) (fun hp => ?_))
 ·have hp := of_decide_eq_true hp
  have hlt : k < a.length + 1 := by omega
  show awp G (.seq (.block 1 Mo7) _) _ _
  refine cP7 ?_
  show awp G Mo7 _ _
  dsimp only [Mo7, sq, Mv, Ln, Bk, Io, Ia, Sv, Nat.reduceAdd]
  refine cP7 (d97 (a_p rfl (a_p rfl (a_n ?_))))
  show awp G (.reg _) _ _
  have e21 : ∀ t', t' 20 = t1 1 → evp t' (.len false (.t 20)) = some (.v (.int .i64 (b.length : Int))) := fun t' h => Ms7 (t := t') (x := .t 20) (rows := b.map ePt) (h.trans g1) (by simp)
  have ew : IntKind.i64.wrap ((b.length : Int) + 1) = ((b.length + 1 : Nat) : Int) := by rw [wr (by omega) (by omega)]; omega
  refine d97 (a_p rfl (a_p rfl (a_p rfl (a_p (e21 _ rfl) (a_p (B27 rfl rfl ew) (a_v (CZ7 (f := bm7) (x := (0 : Int)) (len := ((b.length + 1 : Nat) : Int)) rfl rfl (decide_eq_true (by omega)) (by unfold aG7; exact decide_eq_true (by omega)) rfl fun bq => ?_)))))))
  refine a_p (xM7 g5 q15 hlt rfl) (a_v (C37 (f := eSl true 17 bm7) (xs := jk7 (a.length + 1) b.length k) (x := []) (x' := ip7 b.length) (b := some g) (cap := a.length + 1) (n := 96) (k := 273) (r := k) (c := 0) rfl ?_ (kA7 (sE7 (dg7 _ _ _) (by simp) rfl) oE7) ?_ (z27 hlt) rfl rfl (a_n ?_)))
  ·rw [cp7 _ _ (by decide)]
   exact HH
  ·rw [cp7 _ _ (by decide), cp7 _ _ (by decide)]
   exact HH
  ·show awp G (.reg _) _ _
   have ew2 : IntKind.i64.wrap ((k : Int) + 1) = ((k + 1 : Nat) : Int) := by rw [wr (by omega) (by omega)]; omega
   refine d97 (a_p (B27 q15 rfl ew2) (a_p rfl (a_n ?_)))
   refine ⟨a.length + 1 - (k + 1), by omega, k + 1, by omega, rfl, fun i hi => ?_, q14, rfl, ?_⟩
   ·have hh : Kp 6 t1 t1 := DP7
    rw [← hKp i hi]
    simp only [aD7]
    repeat rw [if_neg (by omega)]
   ·dsimp only
    rw [dg7, z17 hlt]
 ·have hp := of_decide_eq_false hp
  have hk2 : k = a.length + 1 := by omega
  subst hk2
  show Q .norm _
  exact hk _ _ (fun i hi => by
   simp only [aD7]
   rw [if_neg (by omega), hKp i hi]) HH
end
theorem He7 {f : Nat} : OkC [] (sI7 f) if_lens xL7 := by
 intro G _ (p : List Pt × List Pt) (r : List (List Int)) hv bs
 obtain ⟨a, b⟩ := p
 have hv : vu7 a b = some r := hv
 unfold vu7 at hv
 split at hv
 case isFalse => cases hv
 rename_i hn
 cases hv
 have ha := of_decide_eq_true (Dl7 hn)
 have hb := of_decide_eq_true (Dm7 hn)
 show awp G if_lens.body _ ⟨uZ7 bs [.ro (a.map ePt), .ro (b.map ePt)], vX7 bs []⟩
 generalize ho0 : vX7 bs [] = o0
 have q0 : uZ7 bs [.ro (a.map ePt), .ro (b.map ePt)] 0 = .ro (a.map ePt) := rfl
 have q1 : uZ7 bs [.ro (a.map ePt), .ro (b.map ePt)] 1 = .ro (b.map ePt) := rfl
 generalize uZ7 bs [.ro (a.map ePt), .ro (b.map ePt)] = t0 at q0 q1
 have ew : IntKind.i64.wrap ((a.length : Int) + 1) = ((a.length + 1 : Nat) : Int) := by rw [wr (by omega) (by omega)]; omega
 dsimp only [if_lens, QA7, QB7, QC7, QD7, QE7, sq, Mv, Ln, Bk, Io, Ki, Nat.reduceAdd]
 refine cP7 (d97 (a_p rfl (a_n ?_)))
 show awp G (.seq (.reg _) _) _ _
 have e10 : ∀ t', t' 9 = t0 0 → evp t' (.len false (.t 9)) = some (.v (.int .i64 (a.length : Int))) := fun t' h => Ms7 (t := t') (x := .t 9) (rows := a.map ePt) (h.trans q0) (by simp)
 refine cP7 (d97 (a_p rfl (a_p (e10 _ rfl) (a_p (B27 rfl rfl ew) (a_v (CZ7 (f := eSl true 17 bm7) (x := ([] : List Int)) (len := ((a.length + 1 : Nat) : Int)) rfl rfl (decide_eq_true (by omega)) (by unfold aG7; exact decide_eq_true (by omega)) rfl fun bq => a_p rfl (a_n ?_)))))))
 show awp G (.seq (.seq (.reg _) _) _) _ _
 refine cP7 (cP7 (d97 (a_p rfl (a_p (Q67 (len := a.length + 1) (n := 96) (cap := a.length + 1) (off := 0) (k := 273) (b := some bq) (by simp [ev, aD7, cB7])) (a_p rfl (a_n ?_))))))
 show awp G (.block 0 (.loop Mp7)) _ _
 refine Hd7 (a := a) (b := b) (g := bq) q1 (by simp [aD7, cB7, ev]) rfl rfl ?_ ha hb fun t2 o2 hK2 H2 => ?_
 ·show upd o0 96 _ 96 = _
  rw [dg7]
  unfold jk7
  simp
 have k2 : ∀ k, k < 4 → t2 k = t0 k := fun k hk => by
  rw [hK2 k (by omega)]
  simp only [aD7]
  repeat rw [if_neg (by omega)]
 have k5 : t2 5 = .ref 96 (some bq) (a.length + 1) 0 (a.length + 1) 273 := by
  rw [hK2 5 (by omega)]
  simp [aD7, ev, cB7]
 show awp G (.seq (.seq (.reg _) _) _) _ _
 have e27 : ∀ t', t' 26 = t2 0 → evp t' (.len false (.t 26)) = some (.v (.int .i64 (a.length : Int))) := fun t' h => Ms7 (t := t') (x := .t 26) (rows := a.map ePt) (h.trans ((k2 0 (by omega)).trans q0)) (by simp)
 have hfill : ((jk7 (a.length + 1) b.length (a.length + 1)).map (eSl true 17 bm7)).flatten = (List.replicate (a.length + 1) (ip7 b.length)).map fun l => T.sl true 17 (l.map bm7) := by
  unfold jk7
  simp only [Nat.sub_self, List.replicate_zero, List.append_nil]
  generalize List.replicate (a.length + 1) (ip7 b.length) = LL
  induction LL with
  | nil => rfl
  | cons x l ih => rw [List.map_cons, List.flatten_cons, ih]; rfl
 refine cP7 (cP7 (d97 (QF7 (fun ch => ?_) rfl)))
 show (Fs7 96 100000 ch (t2 0)).vp o2 _
 refine bj7 H2 (a87 (aW7 (by simp [ent, esz]) (a87 (a47 (a87 (ac7 ?_))))))
 show (hX7 100000 ch 0 ((jk7 (a.length + 1) b.length (a.length + 1)).map (eSl true 17 bm7)).flatten).vp _ _
 rw [hfill]
 refine qC7 fun xs l => a47 (ai7 ?_)
 refine a_p (e27 _ rfl) (a_p (Mr7 rfl rfl (wr (by omega) (by omega))) (a_p rfl (a_n ?_)))
 show awp G (.block 2 (.loop Mq7)) _ _
 refine Hc7 (a := a) (b := b) (g := bq) (C := a.length + 1) (bb := fun r => (ch r).1) (cc := fun r => (ch r).2) ((k2 0 (by omega)).trans q0) ((k2 1 (by omega)).trans q1) k5 rfl ⟨?_, fun r hr => ?_, fun r hr => by simp [ip7]⟩ ha hb fun t3 o3 hK3 H3 => ?_
 ·rw [dg7]
  have e : alL ch 0 (List.replicate (a.length + 1) (ip7 b.length)) = (List.range (a.length + 1)).map (lnC (fun r => (ch r).1) (fun r => (ch r).2) b.length) := by
   apply List.ext_getElem?
   intro i
   rw [xP7]
   by_cases hi : i < a.length + 1
   ·rw [List.getElem?_map, List.getElem?_range hi, List.getElem?_replicate, if_pos hi]
    simp [lnC, ip7]
   ·rw [List.getElem?_eq_none (by simp; omega), List.getElem?_eq_none (by simp; omega)]
    rfl
  rw [← e]
  rfl
 ·rw [cp7 _ _ (by omega)]
  have := xQ7 (ch := ch) (RL := List.replicate (a.length + 1) (ip7 b.length)) (j := 0) (i := r) (o := upd o2 96 none) (l := ip7 b.length) (by rw [List.getElem?_replicate, if_pos hr])
  rw [Nat.zero_add] at this
  exact this
 have j5 : t3 5 = .ref 96 (some bq) (a.length + 1) 0 (a.length + 1) 273 := (hK3 5 (by omega)).trans k5
 show awp G (.seq (.reg _) .ret) _ _
 refine cP7 (d97 (QF7 (fun ch2 => ?_) rfl))
 refine ac7 (c67 (a := t3 5) rfl (ai7 ?_))
 show (FC7 96 (t3 5)).vp o3 _
 obtain ⟨o4, hclo⟩ := t77 (bb := fun r => (ch r).1) (cc := fun r => (ch r).2) (nb := b.length) (RL := bd7 a b) (rs := List.range (a.length + 1)) (o := upd o3 96 none) List.nodup_range (fun r hr => by
  have hr := List.mem_range.1 hr
  rw [cp7 _ _ (by omega)]
  exact ⟨H3.hr r hr, H3.hl r hr⟩)
 refine bj7 H3.h96 (a87 (aW7 (by simp [ent, esz]) (a87 (a47 (a87 (ac7 ?_))))))
 show (b07 (((List.range (a.length + 1)).map (lnC (fun r => (ch r).1) (fun r => (ch r).2) b.length)).map fun c => [c]).flatten).vp _ _
 rw [show ∀ L : List T, (L.map fun c => [c]).flatten = L from fun L => by induction L with
  | nil => rfl
  | cons x l ih => rw [List.map_cons, List.flatten_cons, ih]; rfl]
 refine hclo _ fun l => a47 (ai7 ?_)
 refine a_p rfl (a_n ?_)
 show u07 _ _ _ _ _ _
 refine jb7 (bs7 (o' := upd (upd o4 96 (some (ent (some bq) (a.length + 1) 273 (((List.range (a.length + 1)).map fun r => T.sl true 17 ((bd7 a b r).map bm7)).map fun c => [c])))) 96 none) (qh7 (GF7 (x := .ref 96 (some bq) (a.length + 1) 0 (a.length + 1) 273) j5 rfl (qg7 (xk7 (dg7 _ _ _) (by simp)) tU7)) tW7) ?_ rfl)
 show [(false, [T.sl true 273 _])] = [(false, [T.sl true 273 (List.map (eSl true 17 bm7) (vZ7 a b))])]
 rw [lB7, List.map_map, List.map_map]
 rfl
theorem xR7 {P : Program} {tb : Tab} (hmix : P.follows .mixedOrders = true) {f : Nat} (hk : vj7 P tb f if_lens = true) : ah7 P tb (sI7 f) :=
 DC7 hmix [] all_nil (ir := if_lens) (kss := xL7) hk He7 rfl (fun _ => Nat.le_of_ble_eq_true rfl) fun (a a' : List Pt × List Pt) h _ => by
  have h : [AV.ro (List.map ePt a.1), AV.ro (List.map ePt a.2)] = [AV.ro (List.map ePt a'.1), AV.ro (List.map ePt a'.2)] := h
  simp only [List.cons.injEq, and_true, AV.ro.injEq, ad7 il7] at h
  exact Prod.ext h.1 h.2
end Go.Proofs.AM
