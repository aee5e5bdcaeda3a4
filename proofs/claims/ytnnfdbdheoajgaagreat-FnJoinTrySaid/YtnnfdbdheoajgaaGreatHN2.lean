/- Lemmas of the proof (HN2), on an abstract machine. Conditions: none. -/
import Derived.Test.YtnnfdbdheoajgaaGreatHN
set_option linter.unusedVariables false
set_option linter.unusedSimpArgs false
set_option maxRecDepth 100000
set_option maxHeartbeats 2000000
namespace Go.Proofs.AM
def Kp (n : Nat) (t t' : Tm) : Prop := ∀ k, k < n → t' k = t k
theorem DM7 {n : Nat} {t : Tm} : Kp n t t := fun _ _ => rfl
theorem DN7 {n d : Nat} {t t' : Tm} {x : AV} (h : Kp n t t') (hd : n ≤ d) : Kp n t (aA7 t' (some d) x) := fun k hk => by
 simp only [aA7]
 rw [if_neg (by omega)]
 exact h k hk
theorem Mi7 {n : Nat} {t t' : Tm} {x : AV} (h : Kp n t t') : Kp n t (aA7 t' none x) := h
section
variable {G : Gam} {Q : Ex → St → Prop} {s : St} {a b : IC} {t : Tm} {o : ah7} {ops : List IOp}
theorem cM7 (h : awp G a (fun e s' => match e with | .norm => awp G b Q s' | e => Q e s') s) : awp G (.seq a b) Q s := h
theorem d27 (h : pa7 G ops (Q .norm) s) : awp G (.reg ops) Q s := h
theorem xG7 {inc : List (Nat × Nat)} (h : f27 G inc ops [] (Q .norm) s) : awp G (.drw ops inc) Q s := h
theorem oy7 {c : Od} {p : Bool} (hc : ev t c = .v (.bool p)) (h1 : p = true → awp G a Q ⟨t, o⟩) (h2 : p = false → awp G b Q ⟨t, o⟩) : awp G (.cond c a b) Q ⟨t, o⟩ := by
 show (match ev t c with | .v (.bool p) => if p then awp G a Q ⟨t, o⟩ else awp G b Q ⟨t, o⟩ | _ => False)
 rw [hc]
 cases p
 ·exact h2 rfl
 ·exact h1 rfl
end
def lnC (bb : Nat → Option Nat) (cc : Nat → Nat) (nb r : Nat) : T := .al (800000 + r) (bb r) (cc r) 0 (nb + 1) 17
structure HpI (o : ah7) (g C : Nat) (bb : Nat → Option Nat) (cc : Nat → Nat) (n1 nb : Nat) (RL : Nat → List Int) : Prop where
 h96 : o 96 = some (ent (some g) C 273 (((List.range n1).map (lnC bb cc nb)).map fun c => [c]))
 hr : ∀ r, r < n1 → o (800000 + r) = some (ent (bb r) (cc r) 17 ((RL r).map bz7))
 hl : ∀ r, r < n1 → (RL r).length = nb + 1
theorem HpI.congr {o : ah7} {g C : Nat} {bb : Nat → Option Nat} {cc : Nat → Nat} {n1 nb : Nat} {RL RL' : Nat → List Int} (h : HpI o g C bb cc n1 nb RL) (e : ∀ r, r < n1 → RL r = RL' r) : HpI o g C bb cc n1 nb RL' :=
 ⟨h.h96, fun r hr => e r hr ▸ h.hr r hr, fun r hr => e r hr ▸ h.hl r hr⟩
theorem HpI.put {o : ah7} {g C : Nat} {bb : Nat → Option Nat} {cc : Nat → Nat} {n1 nb : Nat} {RL : Nat → List Int} (h : HpI o g C bb cc n1 nb RL) {i : Nat} (hi : i < n1) (j : Nat) (v : Int) : HpI (upd o (800000 + i) (some (ent (bb i) (cc i) 17 (((RL i).set j v).map bz7)))) g C bb cc n1 nb (fun r => if r = i then (RL i).set j v else RL r) := by
 refine ⟨?_, fun r hr => ?_, fun r hr => ?_⟩
 ·rw [cm7 _ _ (by omega)]
  exact h.h96
 ·by_cases e : r = i
  ·subst e
   rw [c97, if_pos rfl]
  ·rw [cm7 _ _ (by omega), if_neg e]
   exact h.hr r hr
 ·by_cases e : r = i
  ·subst e
   rw [if_pos rfl, List.length_set]
   exact h.hl r hr
  ·rw [if_neg e]
   exact h.hl r hr
section
variable {G : Gam} {d : Option Nat} {t : Tm} {o : ah7} {KL : St → a57 → Prop} {g C : Nat} {bb : Nat → Option Nat} {cc : Nat → Nat} {n1 nb : Nat} {RL : Nat → List Int}
theorem xH7 {p : Od} {r : Nat} (hp : ev t p = .ptr 96 (some g) 273 r 0) (H : HpI o g C bb cc n1 nb RL) (hr : r < n1) (hk : KL ⟨aA7 t d (.ref (800000 + r) (bb r) (cc r) 0 (nb + 1) 17), o⟩ ([96], [])) : vdo G d (.load 1 false p) t o KL :=
 oi7 (f := fun c => [c]) hp H.h96 (x := lnC bb cc nb r) (by simp [hr]) rfl rfl rfl hk
theorem DO7 {p : Od} {r j : Nat} {v : Int} {bq : Option Nat} (hp : ev t p = .ptr (800000 + r) (bb r) 17 j 0) (H : HpI o g C bb cc n1 nb RL) (hr : r < n1) (hv : (RL r)[j]? = some v) (hk : KL ⟨aA7 t d (.v (.int .i64 v)), o⟩ ([800000 + r], [])) : vdo G d (.load 1 false p) t o KL :=
 oi7 (f := bz7) hp (H.hr r hr) (x := v) hv rfl rfl rfl hk
theorem Hd7 {p y : Od} {r j : Nat} {u v : Int} (hp : ev t p = .ptr (800000 + r) (bb r) 17 j 0) (hy : ev t y = .v (.int .i64 v)) (H : HpI o g C bb cc n1 nb RL) (hr : r < n1) (hv : (RL r)[j]? = some u) (hk : ∀ l, KL ⟨aA7 t d .junk, upd o (800000 + r) (some (ent (bb r) (cc r) 17 (((RL r).set j v).map bz7)))⟩ l) : vdo G d (.store [none] p y) t o KL :=
 CY7 (f := bz7) (x := u) (x' := v) hp (H.hr r hr) (by rw [hy]; exact km7 (CV7 rfl) ol7) (H.hr r hr) hv rfl rfl (hk _)
theorem Nr7 {Q : Ex → St → Prop} {a b : List Pt} {i j : Nat} {x y : Pt} (h0 : t 0 = .ro (a.map ePt)) (h1 : t 1 = .ro (b.map ePt)) (h7 : t 7 = .v (.int .i64 (i : Int))) (h8 : t 8 = .v (.int .i64 (j : Int))) (hi : a[i]? = some x) (hj : b[j]? = some y)
  (hk : ∀ t', t' 48 = .v (.bool ((x.x == y.x) && ((x.y == y.y) && true))) → Kp 40 t t' → Q .norm ⟨t', o⟩) : awp G lnE Q ⟨t, o⟩ := by
 dsimp only [lnE, sq, Mv, Ia, La, Io, Nat.reduceAdd]
 refine xG7 ?_
 refine d_p rfl (d_p rfl (d_p (Qo7 (f := ePt) (xs := a) h0 h7 hi rfl) (d_p rfl (d_p rfl (d_p rfl (d_p (Qo7 (f := ePt) (xs := b) h1 h8 hj rfl) (d_p rfl (d_p rfl (d_n rfl ?_)))))))))
 refine hk _ rfl ?_
 repeat (first | exact DM7 | refine DN7 ?_ (by omega))
theorem Ns7 {Q : Ex → St → Prop} {i j : Nat} {v u : Int} (h5 : t 5 = .ref 96 (some g) C 0 n1 273) (h7 : t 7 = .v (.int .i64 (i : Int))) (h8 : t 8 = .v (.int .i64 (j : Int))) (H : HpI o g C bb cc n1 nb RL) (hi : i + 1 < n1) (hj : j < nb)
  (hu : (RL i)[j]? = some u) (hv : (RL (i + 1))[j + 1]? = some v) (hw : ∀ z : Int, 0 ≤ z → z ≤ 100000 → IntKind.i64.wrap z = z) (hn : n1 ≤ 2000) (hb : nb ≤ 2000) (hv0 : 0 ≤ v) (hv1 : v ≤ 2000)
  (hk : ∀ t', Kp 40 t t' → Q .norm ⟨t', upd o (800000 + i) (some (ent (bb i) (cc i) 17 (((RL i).set j (v + 1)).map bz7)))⟩) : awp G lnT Q ⟨t, o⟩ := by
 dsimp only [lnT, sq, Mv, Ia, Ld, Bk, Sv, Nat.reduceAdd]
 have e1 : IntKind.i64.wrap ((i : Int) + 1) = ((i + 1 : Nat) : Int) := by rw [hw _ (by omega) (by omega)]; omega
 have e2 : IntKind.i64.wrap ((j : Int) + 1) = ((j + 1 : Nat) : Int) := by rw [hw _ (by omega) (by omega)]; omega
 have fin : ∀ t', t' 52 = .ref (800000 + i) (bb i) (cc i) 0 (nb + 1) 17 → t' 53 = .v (.int .i64 (j : Int)) → t' 62 = .v (.int .i64 v) → Kp 40 t t' → f27 G [(3, 9), (3, 13)] [⟨some 63, .bin .add (.t 62) (.c (.int .i64 1)), none⟩, ⟨some 64, .iaddr 1 (.t 52) (.t 53), none⟩, ⟨none, .store [none] (.t 64) (.t 63), none⟩] [([], []), ([], []), ([], []), ([96], []), ([], []), ([], []), ([], []), ([], []), ([], []), ([96], []), ([], []), ([], []), ([], []), ([800000 + (i + 1)], [])] (Q .norm) ⟨t', o⟩ := fun t' q1 q2 q3 q4 => by
  refine d_p (BV7 q3 rfl (hw _ (by omega) (by omega))) (d_p (xF7 q1 q2 (by omega) rfl) (d_v (Hd7 rfl rfl H (by omega) hu fun l => d_n rfl ?_)))
  exact hk _ (Mi7 (DN7 (DN7 q4 (by omega)) (by omega)))
 refine xG7 ?_
 refine d_p rfl (d_p rfl (d_p (xF7 h5 h7 (by omega) rfl) (d_v (xH7 rfl H (by omega) ?_))))
 refine d_p rfl (d_p rfl (d_p rfl (d_p (BV7 h7 rfl e1) (d_p (xF7 h5 rfl hi rfl) (d_v (xH7 rfl H hi ?_))))))
 refine d_p rfl (d_p (BV7 h8 rfl e2) (d_p (xF7 rfl rfl (by omega) rfl) (d_v (DO7 (r := i + 1) (j := j + 1) (bq := none) rfl H hi hv ?_))))
 refine fin _ rfl h8 rfl ?_
 repeat (first | exact DM7 | refine Mi7 ?_ | refine DN7 ?_ (by omega))
theorem Nt7 {Q : Ex → St → Prop} {i j : Nat} {v v2 u : Int} (h5 : t 5 = .ref 96 (some g) C 0 n1 273) (h7 : t 7 = .v (.int .i64 (i : Int))) (h8 : t 8 = .v (.int .i64 (j : Int))) (H : HpI o g C bb cc n1 nb RL) (hi : i + 1 < n1) (hj : j < nb)
  (hu : (RL i)[j]? = some u) (hv : (RL (i + 1))[j]? = some v) (hv2 : (RL i)[j + 1]? = some v2) (hw : ∀ z : Int, 0 ≤ z → z ≤ 100000 → IntKind.i64.wrap z = z) (hn : n1 ≤ 2000) (hb : nb ≤ 2000)
  (hk : ∀ t', Kp 40 t t' → Q .norm ⟨t', upd o (800000 + i) (some (ent (bb i) (cc i) 17 (((RL i).set j (max v v2)).map bz7)))⟩) : awp G lnF Q ⟨t, o⟩ := by
 dsimp only [lnF, sq, Mv, Ia, Ld, Bk, Sv, Io, Nat.reduceAdd]
 have e1 : IntKind.i64.wrap ((i : Int) + 1) = ((i + 1 : Nat) : Int) := by rw [hw _ (by omega) (by omega)]; omega
 have e2 : IntKind.i64.wrap ((j : Int) + 1) = ((j + 1 : Nat) : Int) := by rw [hw _ (by omega) (by omega)]; omega
 have fin : ∀ t', t' 68 = .ref (800000 + i) (bb i) (cc i) 0 (nb + 1) 17 → t' 69 = .v (.int .i64 (j : Int)) → t' 77 = .v (.int .i64 v) → t' 85 = .v (.int .i64 v2) → Kp 40 t t' → f27 G [(3, 9), (3, 12), (3, 16), (9, 16), (12, 16), (3, 20), (9, 20), (12, 20)] [⟨some 86, .mxi (.t 77) (.t 85), none⟩, ⟨some 87, .iaddr 1 (.t 68) (.t 69), none⟩, ⟨none, .store [none] (.t 87) (.t 86), none⟩] [([], []), ([], []), ([], []), ([96], []), ([], []), ([], []), ([], []), ([], []), ([], []), ([96], []), ([], []), ([], []), ([800000 + (i + 1)], []), ([], []), ([], []), ([], []), ([96], []), ([], []), ([], []), ([], []), ([800000 + i], [])] (Q .norm) ⟨t', o⟩ := fun t' q1 q2 q3 q4 q5 => by
  refine d_p (QO7 q3 q4) (d_p (xF7 q1 q2 (by omega) rfl) (d_v (Hd7 rfl rfl H (by omega) hu fun l => d_n rfl ?_)))
  exact hk _ (Mi7 (DN7 (DN7 q5 (by omega)) (by omega)))
 refine xG7 ?_
 refine d_p rfl (d_p rfl (d_p (xF7 h5 h7 (by omega) rfl) (d_v (xH7 rfl H (by omega) ?_))))
 refine d_p rfl (d_p rfl (d_p rfl (d_p (BV7 h7 rfl e1) (d_p (xF7 h5 rfl hi rfl) (d_v (xH7 rfl H hi ?_))))))
 refine d_p rfl (d_p (xF7 rfl h8 (by omega) rfl) (d_v (DO7 (r := i + 1) (j := j) (bq := none) rfl H hi hv ?_)))
 refine d_p rfl (d_p rfl (d_p (xF7 h5 h7 (by omega) rfl) (d_v (xH7 rfl H (by omega) ?_))))
 refine d_p rfl (d_p (BV7 h8 rfl e2) (d_p (xF7 rfl rfl (by omega) rfl) (d_v (DO7 (r := i) (j := j + 1) (bq := none) rfl H (by omega) hv2 ?_))))
 refine fin _ rfl h8 rfl rfl ?_
 repeat (first | exact DM7 | refine Mi7 ?_ | refine DN7 ?_ (by omega))
end
end Go.Proofs.AM
