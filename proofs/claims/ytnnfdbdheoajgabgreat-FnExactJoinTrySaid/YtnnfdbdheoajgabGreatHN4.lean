/- Lemmas of the proof (HN4), on an abstract machine. Conditions: none. -/
import Derived.Test.YtnnfdbdheoajgabGreatHN3
set_option linter.unusedVariables false
set_option linter.unusedSimpArgs false
set_option maxRecDepth 100000
set_option maxHeartbeats 1000000
namespace Go.Proofs.AM
def fillL (n1 nb k : Nat) : List (List Int) := List.replicate k (zeros nb) ++ List.replicate (n1 - k) []
theorem fill_set {n1 nb k : Nat} (h : k < n1) : (fillL n1 nb k).set k (zeros nb) = fillL n1 nb (k + 1) := by
 unfold fillL
 rw [show n1 - k = (n1 - (k + 1)) + 1 by omega, List.replicate_succ, List.set_append_right _ _ (by simp), List.replicate_succ', List.append_assoc]
 simp
theorem fill_get {n1 nb k : Nat} (h : k < n1) : (fillL n1 nb k)[k]? = some [] := by
 unfold fillL
 rw [List.getElem?_append_right (by simp), List.length_replicate, Nat.sub_self, List.getElem?_replicate, if_pos (by omega)]
def alL (ch : Ch) : Nat → List (List Int) → List T
 | _, [] => []
 | j, l :: ls => .al (800000 + j) (ch j).1 (ch j).2 0 (l.map eInt).length 17 :: alL ch (j + 1) ls
def opH (ch : Ch) : Nat → List (List Int) → Heap → Heap
 | _, [], o => o
 | j, l :: ls, o => opH ch (j + 1) ls (upd o (800000 + j) (some (ent (ch j).1 (ch j).2 17 (l.map eInt))))
theorem opens_all {ch : Ch} : ∀ {RL : List (List Int)} {j : Nat} {o : Heap} {K : List AV × List T → Heap → LogV → Prop}, (∀ xs l, K (xs, alL ch j RL) (opH ch j RL o) l) → (opens 100000 ch j (RL.map fun l => T.sl true 17 (l.map eInt))).vp o K
 | [], j, o, K, h => vp_ret (h [] _)
 | l :: ls, j, o, K, h => by
  refine vp_bind (vp_put (vp_ret (vp_bind (opens_all fun xs l' => vp_ret (h _ _)))))
theorem alL_get {ch : Ch} : ∀ {RL : List (List Int)} {j i : Nat}, (alL ch j RL)[i]? = RL[i]?.map fun l => T.al (800000 + (j + i)) (ch (j + i)).1 (ch (j + i)).2 0 l.length 17
 | [], j, i => by simp [alL]
 | l :: ls, j, 0 => by simp [alL]
 | l :: ls, j, i + 1 => by
  simp only [alL, List.getElem?_cons_succ]
  rw [alL_get, show j + 1 + i = j + (i + 1) by omega]
theorem opH_lt {ch : Ch} : ∀ {RL : List (List Int)} {j n : Nat} {o : Heap}, n < 800000 + j → opH ch j RL o n = o n
 | [], j, n, o, h => rfl
 | l :: ls, j, n, o, h => by
  simp only [opH]
  rw [opH_lt (by omega), upd_ne _ _ (by omega)]
theorem opH_get {ch : Ch} : ∀ {RL : List (List Int)} {j i : Nat} {o : Heap} {l : List Int}, RL[i]? = some l → opH ch j RL o (800000 + (j + i)) = some (ent (ch (j + i)).1 (ch (j + i)).2 17 (l.map eInt))
 | [], j, i, o, l, h => by simp at h
 | x :: ls, j, 0, o, l, h => by
  simp only [List.getElem?_cons_zero, Option.some.injEq] at h
  subst h
  simp only [opH]
  rw [opH_lt (by omega), Nat.add_zero, upd_same]
 | x :: ls, j, i + 1, o, l, h => by
  simp only [List.getElem?_cons_succ] at h
  simp only [opH]
  rw [show j + (i + 1) = (j + 1) + i by omega]
  exact opH_get h
theorem clos_all {bb : Nat → Option Nat} {cc : Nat → Nat} {nb : Nat} {RL : Nat → List Int} : ∀ {rs : List Nat} {o : Heap}, rs.Nodup → (∀ r, r ∈ rs → o (800000 + r) = some (ent (bb r) (cc r) 17 ((RL r).map eInt)) ∧ (RL r).length = nb + 1) → ∃ o', CloL (rs.map (lnC bb cc nb)) o (rs.map fun r => T.sl true 17 ((RL r).map eInt)) o'
 | [], o, hn, h => ⟨o, clos_nil⟩
 | r :: rs, o, hn, h => by
  rw [List.nodup_cons] at hn
  have h1 := h r (by simp)
  obtain ⟨o', ho⟩ := clos_all (o := upd o (800000 + r) none) hn.2 (fun q hq => by
   have hne : q ≠ r := fun e => hn.1 (e ▸ hq)
   rw [upd_ne _ _ (by omega)]
   exact h q (by simp [hq]))
  exact ⟨o', clos_cons (clo_al h1.1 (by rw [List.length_map, h1.2])) ho⟩
section
variable {G : Gam} {t : Tm} {o : Heap} {g : Nat} {a b : List Pt} {Q : Ex → St → Prop}
theorem lnL1_w (h1 : t 1 = .ro (b.map ePt)) (h5 : t 5 = .ref 96 (some g) (a.length + 1) 0 (a.length + 1) 273) (h14 : t 14 = .v (.int .i64 ((a.length + 1 : Nat) : Int))) (h15 : t 15 = .v (.int .i64 ((0 : Nat) : Int)))
  (H : o 96 = some (ent (some g) (a.length + 1) 273 ((fillL (a.length + 1) b.length 0).map (eSl true 17 eInt)))) (ha : a.length ≤ 1000) (hb : b.length ≤ 1000)
  (hk : ∀ t' o', Kp 6 t t' → o' 96 = some (ent (some g) (a.length + 1) 273 ((fillL (a.length + 1) b.length (a.length + 1)).map (eSl true 17 eInt))) → Q .norm ⟨t', o'⟩) : awp G (.block 0 (.loop lnL1)) Q ⟨t, o⟩ := by
 refine ⟨fun n s => ∃ k, k ≤ a.length + 1 ∧ a.length + 1 - k = n ∧ Kp 6 t s.t ∧ s.t 14 = .v (.int .i64 ((a.length + 1 : Nat) : Int)) ∧ s.t 15 = .v (.int .i64 (k : Int)) ∧ s.o 96 = some (ent (some g) (a.length + 1) 273 ((fillL (a.length + 1) b.length k).map (eSl true 17 eInt))), ⟨a.length + 1, 0, by omega, by omega, kp_r, h14, h15, H⟩, ?_⟩
 rintro n ⟨t1, o1⟩ ⟨k, hkk, hn, hKp, q14, q15, HH⟩
 simp only at hKp q14 q15 HH
 have g1 := (hKp 1 (by omega)).trans h1
 have g5 := (hKp 5 (by omega)).trans h5
 dsimp only [lnL1, Bb, Mv, Bk]
 refine aw_seq (aw_reg (a_p (e_lt q15 q14) (a_n ?_)))
 show awp G (.seq (.cond (.t 16) .skip (.exit 0)) _) _ _
 refine aw_seq (aw_cond rfl (fun hp => ?_) (fun hp => ?_))
 ·have hp := of_decide_eq_true hp
  have hlt : k < a.length + 1 := by omega
  show awp G (.seq (.block 1 lnB1) _) _ _
  refine aw_seq ?_
  show awp G lnB1 _ _
  dsimp only [lnB1, sq, Mv, Ln, Bk, Io, Ia, Sv, Nat.reduceAdd]
  refine aw_seq (aw_reg (a_p rfl (a_p rfl (a_n ?_))))
  show awp G (.reg _) _ _
  have e21 : ∀ t', t' 20 = t1 1 → evp t' (.len false (.t 20)) = some (.v (.int .i64 (b.length : Int))) := fun t' h => e_lr (t := t') (x := .t 20) (rows := b.map ePt) (h.trans g1) (by simp)
  have ew : IntKind.i64.wrap ((b.length : Int) + 1) = ((b.length + 1 : Nat) : Int) := by rw [wr (by omega) (by omega)]; omega
  refine aw_reg (a_p rfl (a_p rfl (a_p rfl (a_p (e21 _ rfl) (a_p (e_ad rfl rfl ew) (a_v (r_mks (f := eInt) (x := (0 : Int)) (len := ((b.length + 1 : Nat) : Int)) rfl rfl (decide_eq_true (by omega)) (by unfold fits; exact decide_eq_true (by omega)) rfl fun bq => ?_)))))))
  refine a_p (e_ir g5 q15 hlt rfl) (a_v (r_ste (f := eSl true 17 eInt) (xs := fillL (a.length + 1) b.length k) (x := []) (x' := zeros b.length) (b := some g) (cap := a.length + 1) (n := 96) (k := 273) (r := k) (c := 0) rfl ?_ (tos_cons (tot_ref (upd_same _ _ _) (by simp) rfl) tos_nil) ?_ (fill_get hlt) rfl rfl (a_n ?_)))
  ·rw [upd_ne _ _ (by decide)]
   exact HH
  ·rw [upd_ne _ _ (by decide), upd_ne _ _ (by decide)]
   exact HH
  ·show awp G (.reg _) _ _
   have ew2 : IntKind.i64.wrap ((k : Int) + 1) = ((k + 1 : Nat) : Int) := by rw [wr (by omega) (by omega)]; omega
   refine aw_reg (a_p (e_ad q15 rfl ew2) (a_p rfl (a_n ?_)))
   refine ⟨a.length + 1 - (k + 1), by omega, k + 1, by omega, rfl, fun i hi => ?_, q14, rfl, ?_⟩
   ·have hh : Kp 6 t1 t1 := kp_r
    rw [← hKp i hi]
    simp only [updT]
    repeat rw [if_neg (by omega)]
   ·dsimp only
    rw [upd_same, fill_set hlt]
 ·have hp := of_decide_eq_false hp
  have hk2 : k = a.length + 1 := by omega
  subst hk2
  show Q .norm _
  exact hk _ _ (fun i hi => by
   simp only [updT]
   rw [if_neg (by omega), hKp i hi]) HH
end
theorem d_lens {f : Nat} : OkC [] (lensCon f) if_lens ks_lens := by
 intro G _ (p : List Pt × List Pt) (r : List (List Int)) hv bs
 obtain ⟨a, b⟩ := p
 have hv : lensF a b = some r := hv
 unfold lensF at hv
 split at hv
 case isFalse => cases hv
 rename_i hn
 cases hv
 have ha := of_decide_eq_true (band1 hn)
 have hb := of_decide_eq_true (band2 hn)
 show awp G if_lens.body _ ⟨parT bs [.ro (a.map ePt), .ro (b.map ePt)], parH bs []⟩
 generalize ho0 : parH bs [] = o0
 have q0 : parT bs [.ro (a.map ePt), .ro (b.map ePt)] 0 = .ro (a.map ePt) := rfl
 have q1 : parT bs [.ro (a.map ePt), .ro (b.map ePt)] 1 = .ro (b.map ePt) := rfl
 generalize parT bs [.ro (a.map ePt), .ro (b.map ePt)] = t0 at q0 q1
 have ew : IntKind.i64.wrap ((a.length : Int) + 1) = ((a.length + 1 : Nat) : Int) := by rw [wr (by omega) (by omega)]; omega
 dsimp only [if_lens, lnR0, lnR1, lnR2, lnR3, lnR4, sq, Mv, Ln, Bk, Io, Ki, Nat.reduceAdd]
 refine aw_seq (aw_reg (a_p rfl (a_n ?_)))
 show awp G (.seq (.reg _) _) _ _
 have e10 : ∀ t', t' 9 = t0 0 → evp t' (.len false (.t 9)) = some (.v (.int .i64 (a.length : Int))) := fun t' h => e_lr (t := t') (x := .t 9) (rows := a.map ePt) (h.trans q0) (by simp)
 refine aw_seq (aw_reg (a_p rfl (a_p (e10 _ rfl) (a_p (e_ad rfl rfl ew) (a_v (r_mks (f := eSl true 17 eInt) (x := ([] : List Int)) (len := ((a.length + 1 : Nat) : Int)) rfl rfl (decide_eq_true (by omega)) (by unfold fits; exact decide_eq_true (by omega)) rfl fun bq => a_p rfl (a_n ?_)))))))
 show awp G (.seq (.seq (.reg _) _) _) _ _
 refine aw_seq (aw_seq (aw_reg (a_p rfl (a_p (e_ll (len := a.length + 1) (n := 96) (cap := a.length + 1) (off := 0) (k := 273) (b := some bq) (by simp [ev, updT, dstN])) (a_p rfl (a_n ?_))))))
 show awp G (.block 0 (.loop lnL1)) _ _
 refine lnL1_w (a := a) (b := b) (g := bq) q1 (by simp [updT, dstN, ev]) rfl rfl ?_ ha hb fun t2 o2 hK2 H2 => ?_
 ·show upd o0 96 _ 96 = _
  rw [upd_same]
  unfold fillL
  simp
 have k2 : ∀ k, k < 4 → t2 k = t0 k := fun k hk => by
  rw [hK2 k (by omega)]
  simp only [updT]
  repeat rw [if_neg (by omega)]
 have k5 : t2 5 = .ref 96 (some bq) (a.length + 1) 0 (a.length + 1) 273 := by
  rw [hK2 5 (by omega)]
  simp [updT, ev, dstN]
 show awp G (.seq (.seq (.reg _) _) _) _ _
 have e27 : ∀ t', t' 26 = t2 0 → evp t' (.len false (.t 26)) = some (.v (.int .i64 (a.length : Int))) := fun t' h => e_lr (t := t') (x := .t 26) (rows := a.map ePt) (h.trans ((k2 0 (by omega)).trans q0)) (by simp)
 have hfill : ((fillL (a.length + 1) b.length (a.length + 1)).map (eSl true 17 eInt)).flatten = (List.replicate (a.length + 1) (zeros b.length)).map fun l => T.sl true 17 (l.map eInt) := by
  unfold fillL
  simp only [Nat.sub_self, List.replicate_zero, List.append_nil]
  generalize List.replicate (a.length + 1) (zeros b.length) = LL
  induction LL with
  | nil => rfl
  | cons x l ih => rw [List.map_cons, List.flatten_cons, ih]; rfl
 refine aw_seq (aw_seq (aw_reg (a_hv (fun ch => ?_) rfl)))
 show (opaV 96 100000 ch (t2 0)).vp o2 _
 refine vp_get H2 (vp_rb (vp_need (by simp [ent, esz]) (vp_rb (vp_put (vp_rb (vp_bind ?_))))))
 show (opens 100000 ch 0 ((fillL (a.length + 1) b.length (a.length + 1)).map (eSl true 17 eInt)).flatten).vp _ _
 rw [hfill]
 refine opens_all fun xs l => vp_put (vp_ret ?_)
 refine a_p (e27 _ rfl) (a_p (e_sb rfl rfl (wr (by omega) (by omega))) (a_p rfl (a_n ?_)))
 show awp G (.block 2 (.loop lnL2)) _ _
 refine lnL2_w (a := a) (b := b) (g := bq) (C := a.length + 1) (bb := fun r => (ch r).1) (cc := fun r => (ch r).2) ((k2 0 (by omega)).trans q0) ((k2 1 (by omega)).trans q1) k5 rfl ⟨?_, fun r hr => ?_, fun r hr => by simp [zeros]⟩ ha hb fun t3 o3 hK3 H3 => ?_
 ·rw [upd_same]
  have e : alL ch 0 (List.replicate (a.length + 1) (zeros b.length)) = (List.range (a.length + 1)).map (lnC (fun r => (ch r).1) (fun r => (ch r).2) b.length) := by
   apply List.ext_getElem?
   intro i
   rw [alL_get]
   by_cases hi : i < a.length + 1
   ·rw [List.getElem?_map, List.getElem?_range hi, List.getElem?_replicate, if_pos hi]
    simp [lnC, zeros]
   ·rw [List.getElem?_eq_none (by simp; omega), List.getElem?_eq_none (by simp; omega)]
    rfl
  rw [← e]
  rfl
 ·rw [upd_ne _ _ (by omega)]
  have := opH_get (ch := ch) (RL := List.replicate (a.length + 1) (zeros b.length)) (j := 0) (i := r) (o := upd o2 96 none) (l := zeros b.length) (by rw [List.getElem?_replicate, if_pos hr])
  rw [Nat.zero_add] at this
  exact this
 have j5 : t3 5 = .ref 96 (some bq) (a.length + 1) 0 (a.length + 1) 273 := (hK3 5 (by omega)).trans k5
 show awp G (.seq (.reg _) .ret) _ _
 refine aw_seq (aw_reg (a_hv (fun ch2 => ?_) rfl))
 refine vp_bind (vp_opt (a := t3 5) rfl (vp_ret ?_))
 show (claV 96 (t3 5)).vp o3 _
 obtain ⟨o4, hclo⟩ := clos_all (bb := fun r => (ch r).1) (cc := fun r => (ch r).2) (nb := b.length) (RL := lnRow a b) (rs := List.range (a.length + 1)) (o := upd o3 96 none) List.nodup_range (fun r hr => by
  have hr := List.mem_range.1 hr
  rw [upd_ne _ _ (by omega)]
  exact ⟨H3.hr r hr, H3.hl r hr⟩)
 refine vp_get H3.h96 (vp_rb (vp_need (by simp [ent, esz]) (vp_rb (vp_put (vp_rb (vp_bind ?_))))))
 show (closeTs (((List.range (a.length + 1)).map (lnC (fun r => (ch r).1) (fun r => (ch r).2) b.length)).map fun c => [c]).flatten).vp _ _
 rw [show ∀ L : List T, (L.map fun c => [c]).flatten = L from fun L => by induction L with
  | nil => rfl
  | cons x l ih => rw [List.map_cons, List.flatten_cons, ih]; rfl]
 refine hclo _ fun l => vp_put (vp_ret ?_)
 refine a_p rfl (a_n ?_)
 show retOk _ _ _ _ _ _
 refine vret_sound (r_end (o' := upd (upd o4 96 (some (ent (some bq) (a.length + 1) 273 (((List.range (a.length + 1)).map fun r => T.sl true 17 ((lnRow a b r).map eInt)).map fun c => [c])))) 96 none) (ress_cons (res_t (x := .ref 96 (some bq) (a.length + 1) 0 (a.length + 1) 273) j5 rfl (givs_cons (giv_ref (upd_same _ _ _) (by simp)) givs_nil)) ress_nil) ?_ rfl)
 show [(false, [T.sl true 273 _])] = [(false, [T.sl true 273 (List.map (eSl true 17 eInt) (lens a b))])]
 rw [lens_rows, List.map_map, List.map_map]
 rfl
theorem lens_good {P : Program} {tb : Tab} (hmix : P.follows .mixedOrders = true) {f : Nat} (hk : chkFn P tb f if_lens = true) : GoodC P tb (lensCon f) :=
 goodC hmix [] all_nil (ir := if_lens) (kss := ks_lens) hk d_lens rfl (fun _ => Nat.le_of_ble_eq_true rfl) fun (a a' : List Pt × List Pt) h _ => by
  have h : [AV.ro (List.map ePt a.1), AV.ro (List.map ePt a.2)] = [AV.ro (List.map ePt a'.1), AV.ro (List.map ePt a'.2)] := h
  simp only [List.cons.injEq, and_true, AV.ro.injEq, map_iff ij_Pt] at h
  exact Prod.ext h.1 h.2
end Go.Proofs.AM
