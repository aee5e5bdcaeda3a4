/- Lemmas of the proof (HN3), on an abstract machine. Conditions: none. -/
import Derived.Test.YtnnfdbdheoajgaaGreatHN2
set_option linter.unusedVariables false
set_option linter.unusedSimpArgs false
set_option maxRecDepth 100000
set_option maxHeartbeats 1000000
namespace Go.Proofs.AM
def iv7 (n : Nat) : List Int := List.replicate (n + 1) 0
def uc7 (a b : List Pt) (i q r : Nat) : List Int := if r = i then List.replicate q 0 ++ (bf7 a b i).drop q else if i < r then bf7 a b r else iv7 b.length
def Ed7 (a b : List Pt) (m r : Nat) : List Int := if m ≤ r then bf7 a b r else iv7 b.length
theorem Ee7 {L : List Int} {j : Nat} {v : Int} (h : L[j]? = some v) : (List.replicate (j + 1) 0 ++ L.drop (j + 1)).set j v = List.replicate j 0 ++ L.drop j := by
 have hj := (List.getElem?_eq_some_iff.1 h)
 obtain ⟨h1, h2⟩ := hj
 rw [List.drop_eq_getElem_cons h1, h2, List.replicate_succ', List.append_assoc, List.set_append_right _ _ (by simp)]
 simp
theorem wr {z : Int} (h0 : -100000 ≤ z) (h1 : z ≤ 100000) : IntKind.i64.wrap z = z := aN7 (by omega) (by omega)
theorem sT7 {x : Option Int} {v : Int} (h : x = some v) : x.getD 0 = v := by rw [h]; rfl
section
variable {G : Gam} {t : Tm} {o : aj7} {g C : Nat} {bb : Nat → Option Nat} {cc : Nat → Nat} {a b : List Pt} {Q : Ex → St → Prop}
theorem Hs7 {i : Nat} (h0 : t 0 = .ro (a.map ePt)) (h1 : t 1 = .ro (b.map ePt)) (h5 : t 5 = .ref 96 (some g) C 0 (a.length + 1) 273) (h7 : t 7 = .v (.int .i64 (i : Int))) (h8 : t 8 = .v (.int .i64 ((b.length : Int) - 1)))
  (H : HpI o g C bb cc (a.length + 1) b.length (Ed7 a b (i + 1))) (hi : i < a.length) (ha : a.length ≤ 1000) (hb : b.length ≤ 1000)
  (hk : ∀ t' o', Kp 8 t t' → HpI o' g C bb cc (a.length + 1) b.length (Ed7 a b i) → Q .norm ⟨t', o'⟩) : awp G (.block 4 (.loop Hq7)) Q ⟨t, o⟩ := by
 have hx := List.getElem?_eq_getElem hi
 have hst := e07 (b := b) hx
 have hB := sS7 a b _ (i + 1) (by omega) rfl
 have hLi := e17 a b (show i ≤ a.length by omega)
 have hLj := e17 a b (show i + 1 ≤ a.length by omega)
 refine ⟨fun n s => ∃ q, q ≤ b.length ∧ q = n ∧ Kp 8 t s.t ∧ s.t 8 = .v (.int .i64 ((q : Int) - 1)) ∧ HpI s.o g C bb cc (a.length + 1) b.length (uc7 a b i q), ⟨b.length, b.length, Nat.le_refl _, rfl, Ea7, h8, H.congr fun r hr => ?_⟩, ?_⟩
 ·unfold Ed7 uc7
  by_cases e : r = i
  ·subst e
   rw [if_neg (by omega), if_pos rfl]
   have hl := nM7 a b (show r ≤ a.length by omega)
   obtain ⟨h1, h2⟩ := List.getElem?_eq_some_iff.1 hl
   rw [List.drop_eq_getElem_cons h1, h2, List.drop_eq_nil_of_le (by omega)]
   unfold iv7
   rw [List.replicate_succ']
  ·rw [if_neg e]
   by_cases e2 : i < r
   ·rw [if_pos e2, if_pos (by omega)]
   ·rw [if_neg e2, if_neg (by omega)]
 ·rintro n ⟨t1, o1⟩ ⟨q, hq, rfl, hKp, hq8, HH⟩
  simp only at hKp hq8 HH
  have g0 := (hKp 0 (by omega)).trans h0
  have g1 := (hKp 1 (by omega)).trans h1
  have g5 := (hKp 5 (by omega)).trans h5
  have g7 := (hKp 7 (by omega)).trans h7
  dsimp only [Hq7, sq, Mv, Bk, Nat.reduceAdd]
  refine cP7 (cP7 (d97 (a_p rfl (a_p (Q47 hq8 rfl) (a_n ?_)))))
  show awp G (.cond (.t 37) .skip (.exit 4)) _ _
  refine o07 rfl (fun hp => ?_) (fun hp => ?_)
  ·have hp := of_decide_eq_true hp
   obtain ⟨j, rfl⟩ : ∃ j, q = j + 1 := ⟨q - 1, by omega⟩
   have hj : j < b.length := by omega
   have hy := List.getElem?_eq_getElem hj
   rw [show (((j + 1 : Nat) : Int) - 1) = (j : Int) by omega] at hq8
   have hget := oZ7 a[i] b (bf7 a b (i + 1)) j b[j] hy
   rw [← hst] at hget
   have hv1 := List.getElem?_eq_getElem (show j + 1 < (bf7 a b (i + 1)).length by omega)
   have hv0 := List.getElem?_eq_getElem (show j < (bf7 a b (i + 1)).length by omega)
   have hv2 := List.getElem?_eq_getElem (show j + 1 < (bf7 a b i).length by omega)
   have hb1 := hB _ _ hv1
   rw [sT7 hv1, sT7 hv0, sT7 hv2] at hget
   have hRi : uc7 a b i (j + 1) i = List.replicate (j + 1) 0 ++ (bf7 a b i).drop (j + 1) := if_pos rfl
   have hRj : uc7 a b i (j + 1) (i + 1) = bf7 a b (i + 1) := by
    unfold uc7
    rw [if_neg (by omega), if_pos (by omega)]
   have hu : (uc7 a b i (j + 1) i)[j]? = some 0 := by
    rw [hRi, List.getElem?_append_left (by simp), List.getElem?_replicate, if_pos (by omega)]
   have hu2 : (uc7 a b i (j + 1) i)[j + 1]? = some (bf7 a b i)[j + 1] := by
    rw [hRi, List.getElem?_append_right (by simp)]
    simp
   have hnew : ∀ v, (bf7 a b i)[j]? = some v → ∀ r, r < a.length + 1 → (if r = i then (uc7 a b i (j + 1) i).set j v else uc7 a b i (j + 1) r) = uc7 a b i j r := fun v hv r hr => by
    by_cases e : r = i
    ·subst e
     rw [if_pos rfl, hRi, Ee7 hv]
     exact (if_pos rfl).symm
    ·rw [if_neg e]
     unfold uc7
     rw [if_neg e, if_neg e]
   show awp G (.seq _ _) _ _
   refine cP7 ?_
   show awp G (.seq lnE _) _ _
   refine cP7 (NT7 (a := a) (b := b) (i := i) (j := j) g0 g1 g7 hq8 hx hy fun t2 q1 q2 => ?_)
   have q2' : Kp 36 t1 t2 := fun k hk => by rw [q2 k (by omega)]; simp only [aG7]; rw [if_neg (by omega), if_neg (by omega)]
   have m5 := (q2' 5 (by omega)).trans g5
   have m7 := (q2' 7 (by omega)).trans g7
   have m8 := (q2' 8 (by omega)).trans hq8
   have fin : ∀ t3 v, Kp 40 t2 t3 → (bf7 a b i)[j]? = some v → awp G (.reg [⟨some 38, .mv (.t 8), none⟩, ⟨some 39, .bin .sub (.t 38) (.c (.int .i64 1)), none⟩, ⟨some 8, .mv (.t 39), none⟩]) (fun e s'' => match e with | .norm => ∃ m, m < j + 1 ∧ ∃ q, q ≤ b.length ∧ q = m ∧ Kp 8 t s''.t ∧ s''.t 8 = .v (.int .i64 ((q : Int) - 1)) ∧ HpI s''.o g C bb cc (a.length + 1) b.length (uc7 a b i q) | e => (fun e s' => match e with | .exit i => if i = 4 then Q .norm s' else Q (.exit i) s' | e => Q e s') e s'') ⟨t3, upd o1 (800000 + i) (some (ent (bb i) (cc i) 17 (((uc7 a b i (j + 1) i).set j v).map bo7)))⟩ := fun t3 v hK3 hv => by
    have n8 := (hK3 8 (by omega)).trans m8
    refine d97 (a_p rfl (a_p (ML7 n8 rfl (wr (by omega) (by omega))) (a_p rfl (a_n ?_))))
    refine ⟨j, by omega, j, by omega, rfl, fun k hk => ?_, rfl, (HH.put (i := i) (by omega) j v).congr (hnew v hv)⟩
    simp only [aG7]
    rw [if_neg (by omega), if_neg (by omega), if_neg (by omega), hK3 k (by omega), q2' k (by omega), hKp k (by omega)]
   show awp G (.cond (.t 48) lnT lnF) _ _
   refine o07 q1 (fun hp => ?_) (fun hp => ?_)
   ·refine NU7 m5 m7 m8 HH (by omega) hj hu (by rw [hRj]; exact hv1) (fun z hz0 hz1 => wr (z := z) (by omega) (by omega)) (by omega) (by omega) (by omega) (by omega) fun t3 hK3 => ?_
    exact fin t3 _ hK3 (by rw [hget, if_pos hp])
   ·refine NV7 m5 m7 m8 HH (by omega) hj hu (by rw [hRj]; exact hv0) hu2 (fun z hz0 hz1 => wr (z := z) (by omega) (by omega)) (by omega) (by omega) fun t3 hK3 => ?_
    exact fin t3 _ hK3 (by rw [hget, if_neg (by rw [hp]; decide)])
  ·have hp := of_decide_eq_false hp
   have hq0 : q = 0 := by omega
   subst hq0
   show Q .norm _
   refine hk _ _ (fun k hk => ?_) (HH.congr fun r hr => ?_)
   ·simp only [aG7]
    rw [if_neg (by omega), if_neg (by omega), hKp k hk]
   ·unfold uc7 Ed7
    by_cases e : r = i
    ·subst e
     rw [if_pos rfl, if_pos (Nat.le_refl _)]
     simp
    ·rw [if_neg e]
     by_cases e2 : i < r
     ·rw [if_pos e2, if_pos (by omega)]
     ·rw [if_neg e2, if_neg (by omega)]
theorem Ht7 (h0 : t 0 = .ro (a.map ePt)) (h1 : t 1 = .ro (b.map ePt)) (h5 : t 5 = .ref 96 (some g) C 0 (a.length + 1) 273) (h7 : t 7 = .v (.int .i64 ((a.length : Int) - 1)))
  (H : HpI o g C bb cc (a.length + 1) b.length (fun _ => iv7 b.length)) (ha : a.length ≤ 1000) (hb : b.length ≤ 1000)
  (hk : ∀ t' o', Kp 7 t t' → HpI o' g C bb cc (a.length + 1) b.length (bf7 a b) → Q .norm ⟨t', o'⟩) : awp G (.block 2 (.loop MK7)) Q ⟨t, o⟩ := by
 refine ⟨fun n s => ∃ m, m ≤ a.length ∧ m = n ∧ Kp 7 t s.t ∧ s.t 7 = .v (.int .i64 ((m : Int) - 1)) ∧ HpI s.o g C bb cc (a.length + 1) b.length (Ed7 a b m), ⟨a.length, a.length, Nat.le_refl _, rfl, Ea7, h7, H.congr fun r hr => ?_⟩, ?_⟩
 ·unfold Ed7
  split
  ·rw [show r = a.length by omega, gA7]
   rfl
  ·rfl
 ·rintro n ⟨t1, o1⟩ ⟨m, hm, rfl, hKp, hm7, HH⟩
  simp only at hKp hm7 HH
  have g0 := (hKp 0 (by omega)).trans h0
  have g1 := (hKp 1 (by omega)).trans h1
  have g5 := (hKp 5 (by omega)).trans h5
  dsimp only [MK7, sq, Mv, Bk, Ln, Nat.reduceAdd]
  refine cP7 (cP7 (d97 (a_p rfl (a_p (Q47 hm7 rfl) (a_n ?_)))))
  show awp G (.cond (.t 30) .skip (.exit 2)) _ _
  refine o07 rfl (fun hp => ?_) (fun hp => ?_)
  ·have hp := of_decide_eq_true hp
   obtain ⟨i, rfl⟩ : ∃ i, m = i + 1 := ⟨m - 1, by omega⟩
   rw [show (((i + 1 : Nat) : Int) - 1) = (i : Int) by omega] at hm7
   show awp G (.seq _ _) _ _
   refine cP7 ?_
   show awp G (.seq (.reg _) (.block 4 (.loop Hq7))) _ _
   have e33 : ∀ t', t' 33 = t1 1 → evp t' (.len false (.t 33)) = some (.v (.int .i64 (b.length : Int))) := fun t' h => MM7 (t := t') (x := .t 33) (rows := b.map ePt) (h.trans g1) (by simp)
   refine cP7 (d97 (a_p rfl (a_p (e33 _ rfl) (a_p (ML7 rfl rfl (wr (by omega) (by omega))) (a_p rfl (a_n ?_))))))
   show awp G (.block 4 (.loop Hq7)) _ _
   refine Hs7 (i := i) g0 g1 g5 hm7 rfl HH (by omega) ha hb fun t2 o2 hK2 H2 => ?_
   have n7 : t2 7 = .v (.int .i64 (i : Int)) := (hK2 7 (by omega)).trans hm7
   show awp G (.reg _) _ _
   refine d97 (a_p rfl (a_p (ML7 n7 rfl (wr (by omega) (by omega))) (a_p rfl (a_n ?_))))
   refine ⟨i, by omega, i, by omega, rfl, fun k hk => ?_, rfl, H2⟩
   simp only [aG7]
   rw [if_neg (by omega), if_neg (by omega), if_neg (by omega), hK2 k (by omega)]
   simp only [aG7]
   rw [if_neg (by omega), if_neg (by omega), if_neg (by omega), if_neg (by omega), if_neg (by omega), if_neg (by omega), hKp k hk]
  ·have hp := of_decide_eq_false hp
   have hq0 : m = 0 := by omega
   subst hq0
   show Q .norm _
   refine hk _ _ (fun k hk => ?_) (HH.congr fun r hr => ?_)
   ·simp only [aG7]
    rw [if_neg (by omega), if_neg (by omega), hKp k hk]
   ·unfold Ed7
    rw [if_pos (Nat.zero_le _)]
end
end Go.Proofs.AM
