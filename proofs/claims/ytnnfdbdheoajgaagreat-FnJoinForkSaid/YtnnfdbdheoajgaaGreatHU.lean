/- Lemmas of the proof (HU), on an abstract machine. Conditions: none. -/
import Derived.Test.YtnnfdbdheoajgaaGreatHT
set_option linter.unusedVariables false
namespace Go.Proofs.AM
open Go.RowKit
variable {P : Program} {tb : Tab}
theorem tA7 (c : C4) : (oy7 c).length = 4 := rfl
theorem zO7 (c : C4) : ∀ v ∈ oy7 c, v.oneCell' = true := by
 obtain ⟨⟨s, a, b, d⟩, h1, h2, h3⟩ := c
 intro v hv
 simp only [oy7, List.mem_cons, List.not_mem_nil, or_false] at hv
 rcases hv with rfl | rfl | rfl | rfl
 ·rfl
 ·exact h1
 ·exact h2
 ·exact h3
theorem xa7 {D : Array C4} {j c : Nat} (hj : j < D.size) (hc : c < 4) : (Go.Sort.flatK oy7 4 D)[j * 4 + c]! = (oy7 D[j]!)[c]! := by
 rw [Go.Sort.get_flatK oy7 4 D _ (by omega), show (j * 4 + c) / 4 = j by omega, show (j * 4 + c) % 4 = c by omega]
theorem sj7 {F : Nat → Prop} {w' : World} {cur : Array Value} {k : Nat} {zs : List (Feat × C4)} {D : Array C4} (hk : esz k = 4) (hD : D.toList = zs.map (·.2)) (hc : zs.length * 4 ≤ cur.size) (hz : ∀ z, z ∈ zs → ∀ (c : Nat) t, (ag7 false z.1)[c]? = some t → ∃ u, (oy7 z.2)[c]? = some u ∧ OWc tb F w' t u []) : as7 tb F w' (Go.Sort.putCells id 0 (Go.Sort.flatK oy7 4 D) cur) k 0 (List.map (ag7 false) (zs.map (·.1))) [] := by
 have hs : D.size = zs.length := by rw [← Array.length_toList, hD, List.length_map]
 refine lA7 fun j r hr => ?_
 rw [List.getElem?_map, List.getElem?_map] at hr
 cases hzj : zs[j]? with
 | none => rw [hzj] at hr; cases hr
 | some z =>
  rw [hzj] at hr
  simp only [Option.map_some, Option.some.injEq] at hr
  subst hr
  have hj : j < zs.length := (List.getElem?_eq_some_iff.1 hzj).1
  have hDj : D[j]! = z.2 := by
   have : D.toList[j]? = some z.2 := by rw [hD, List.getElem?_map, hzj]; rfl
   rw [getElem!_pos D j (by omega)]
   have h2 := (List.getElem?_eq_some_iff.1 this).2
   simpa using h2
  refine ⟨hk.symm, fun c t ht => ?_⟩
  have hc4 : c < 4 := (List.getElem?_eq_some_iff.1 ht).1
  obtain ⟨u, h1, h2⟩ := hz z (List.mem_of_getElem? hzj) c t ht
  refine ⟨u, ?_, h2⟩
  rw [hk, Nat.zero_add, sg7 (by omega), if_pos (by rw [Go.Sort.size_flatK]; omega), id, xa7 (by omega) hc4, hDj]
  rw [getElem!_pos (oy7 z.2) c hc4]
  exact (List.getElem?_eq_some_iff.1 h1).2 ▸ rfl
theorem u67 {ρ : Go.Shelf.Ren} (L : Go.Proofs.SlLaysF0.n6 P ρ) {f g : Nat} (hf : tb.fn f = ρ.f 6) (hok : kW7 P (tb.fn f) = true) (aE : ∀ w, (isAgg (ρ.t 24)).run P w = .ok true w) (zE : ∀ w, (Go.sizeOf (ρ.t 24)).run P w = .ok 4 w) (cf : Str → Str → Int) (hcf : ∀ a b, decide (cf a b < 0) = slt a b) (eg : ∀ args w, (callFunc (tb.fn g) args).run P w = .ok (.enter (tb.fn g) args) w)
  (hnone : ∀ (p : Option Addr) (cap : Nat) (fv : Value) (w : World), Calls P (ρ.f 6) #[.slice p 0 cap, fv] w fun e w' => e = .returned (.tuple #[]) ∧ w' = w)
  (hcmp : ∀ (a b : Str) (u1 u2 u3 v1 v2 v3 : Value) (W : World), Calls P (tb.fn g) #[.agg #[.string a, u1, u2, u3], .agg #[.string b, v1, v2, v3]] W fun e w' => e = .returned (.int .i64 (cf a b)) ∧ ∃ q os', w' = Go.Sort.grow (W.drewN q) os') : ah7 P tb (sb7 f g) := by
 refine ⟨fun (a a' : List Feat) h h2 => ?_, fun (xs r : List Feat) hv => ⟨hok, fun F w us es fp bs he hbs hx hes hnd hfp hF hgl => ?_⟩⟩
 ·have h2 : [(false, 100, List.map (ag7 false) a)] = [(false, 100, List.map (ag7 false) a')] := h2
  simp only [List.cons.injEq, Prod.mk.injEq, true_and, and_true] at h2
  exact (ad7 d07).1 h2
 ·have hv : p47 xs = some r := hv
  unfold p47 at hv
  split at hv
  case isFalse => cases hv
  rename_i hn
  cases hv
  have hfit := gw7 (zq7 hn)
  have hn := of_decide_eq_true (zr7 hn)
  have he : es.map (fun e => (e.box, e.k, e.rows)) = [(false, 100, List.map (ag7 false) xs)] := he
  have hl := congrArg List.length he
  simp only [List.length_map, List.length_cons, List.length_nil] at hl
  obtain ⟨e, rfl⟩ := List.length_eq_one_iff.1 hl
  simp only [List.map_cons, List.map_nil, List.cons.injEq, Prod.mk.injEq, and_true] at he
  obtain ⟨e1, e2, e3⟩ := he
  have hb0 := hbs 0 e rfl
  simp only [eb7] at hes
  obtain ⟨fp1, fp2, rfl, ho, rfl⟩ := hes
  have hx : aW7 tb F w [.ref 0 (bs 0).1 (bs 0).2 0 xs.length 100, .fn g []] us := hx
  simp only [aW7, ay7] at hx
  obtain ⟨u0, us1, rfl, hh, u1, us2, rfl, ⟨us3, rfl, rfl⟩, rfl⟩ := hx
  rw [hb0] at hh
  show Calls P (tb.fn f) #[u0, .func (.func (tb.fn g)) #[] #[]] w _
  rw [hf]
  unfold OWe at ho
  split at ho
  ·
   rename_i hb
   rw [hb] at hh
   rcases ho with ⟨o1, o2, o3, rfl⟩ | ho
   case inr => obtain ⟨_, _, _, _, _, _, hbx, _⟩ := ho; rw [e1] at hbx; cases hbx
   rw [e3] at o1
   have hx0 : xs = [] := by simpa using o1
   subst hx0
   obtain ⟨A, rfl, h1, h2, h3⟩ := hh
   refine (hnone A _ _ w).mono fun e' w' ⟨h4, h5⟩ => ?_
   subst h4 h5
   refine ⟨rfl, ⟨F, [], [], [], [], fun _ h => h, fun _ h => .inl h, hF, ?_, ⟨rfl, rfl, rfl⟩, rfl, List.nodup_nil, fun b hb => by cases hb⟩, rfl, rfl, rfl, Nat.le_refl _, fun _ _ _ => rfl⟩
   refine ⟨[], [], rfl, ?_, rfl⟩
   unfold OWe
   rw [hb]
   exact .inl ⟨by simp, o2, o3, rfl⟩
  ·rename_i blk hb
   obtain ⟨cur, fp', h1, h2, h3, h4, rfl, h5⟩ := ho
   rw [hb] at hh
   obtain ⟨A, rfl, h6, _, h7⟩ := hh
   rw [e3, e2] at h5
   rw [e2] at h1 h2
   obtain ⟨rfl, hrows⟩ := gX7 (by
    intro r hr
    obtain ⟨x, _, rfl⟩ := List.mem_map.1 hr
    exact u27 x) h5
   have hk4 : esz 100 = 4 := rfl
   obtain ⟨zs, hz1, hz2⟩ := qb7 (xs := xs) hk4 hrows
   have hA : A = some ⟨blk, 0, none⟩ := by
    rcases h7 with h7 | ⟨_, h7⟩
    ·rw [h7]; simp
    ·exact absurd rfl h7
   subst hA
   rw [e3, List.length_map] at h3
   let D : Array C4 := (zs.map (·.2)).toArray
   have hDs : D.size = xs.length := by simp [D, ← hz1]
   have hzl : zs.length = xs.length := by rw [← hz1, List.length_map]
   have hblk : blk < w.heap.size := (hfp blk (by simp)).1
   have hDz : ∀ (j : Nat) z, zs[j]? = some z → D[j]! = z.2 := fun j z hz => by
    have hj : j < D.size := by have := (List.getElem?_eq_some_iff.1 hz).1; omega
    rw [getElem!_pos D j hj]
    simp [D, (List.getElem?_eq_some_iff.1 hz).2]
   have hH : Go.Sort.HoldsK oy7 4 w blk 0 D := by
    intro i hi
    rw [Go.Sort.size_flatK, hDs] at hi
    have hj : i / 4 < zs.length := by omega
    obtain ⟨z, hz⟩ : ∃ z, zs[i / 4]? = some z := ⟨_, List.getElem?_eq_getElem hj⟩
    obtain ⟨g1, g2, g3⟩ := hz2 _ z hz
    have g2 := g2 (i % 4) (by omega)
    rw [Nat.zero_add, show i / 4 * 4 + i % 4 = i by omega] at g2
    have hc : i % 4 < (oy7 z.2).length := by rw [tA7]; omega
    rw [List.getElem?_eq_getElem hc] at g2
    have hfl : (Go.Sort.flatK oy7 4 D)[i]! = (oy7 z.2)[i % 4] := by
     have := xa7 (D := D) (j := i / 4) (c := i % 4) (by omega) (by omega)
     rw [show i / 4 * 4 + i % 4 = i by omega] at this
     rw [this, hDz _ z hz, getElem!_pos (oy7 z.2) _ hc]
    refine ⟨?_, ?_⟩
    ·rw [Nat.zero_add, hfl]
     simp only [World.cell?, h1]
     exact g2
    ·simp [World.frozen?, h1]
   have hsz : D.size < 4611686018427387904 := by
    unfold sR7 at hfit
    omega
   have hcall := Go.Proofs.AnyQ.slices_SortFunc L 4 aE zE oy7 tA7 zO7 (fun x y => cf x.1.1 y.1.1) ?_ (tb.fn g) #[] blk 0 (e.cap - 0) D w eg ?_ hH hblk hsz
   ·rw [hDs] at hcall
    refine hcall.mono fun e' w' ⟨q1, D', n, os, q2, q3, q4⟩ => ?_
    subst q1 q4
    obtain ⟨p1, p2, p3⟩ := q2
    have hDl : D.toList = zs.map (·.2) := by simp [D]
    have hperm : D'.toList.Perm (zs.map (·.2)) := by
     rw [← hDl]
     have hD'x : D'.size = xs.length := by rw [p1, hDs]
     rw [← hDs] at p3
     simpa [Array.extract_eq_self_of_le, hDs, hD'x] using p3
    obtain ⟨zs', g1, g2⟩ := zM7 (f := fun z : Feat × C4 => z.2) hperm rfl
    have hzs : ∀ z, z ∈ zs' → z.2.1.1 = z.1.id ∧ ∀ (c : Nat) t, (ag7 false z.1)[c]? = some t → ∃ u, (oy7 z.2)[c]? = some u ∧ OWc tb F w t u [] := fun z hz => by
     obtain ⟨j, hj⟩ := List.mem_iff_getElem?.1 (g1.mem_iff.1 hz)
     have := hz2 j z hj
     exact ⟨this.1, this.2.2⟩
    have hD's : D'.size = zs'.length := by rw [← Array.length_toList, ← g2, List.length_map]
    have hr : xs.mergeSort leF = zs'.map (·.1) := by
     refine ty7 hn ?_ ?_
     ·rw [← hz1]
      exact g1.map _
     ·rw [List.pairwise_iff_getElem]
      intro i j hi hj hij
      rw [List.length_map] at hi hj
      have hk := q3 i j (Nat.zero_le _) hij (by rw [← hzl, ← g1.length_eq]; exact hj)
      have gt : ∀ (m : Nat) (hm : m < zs'.length), (D'[m]!).1.1 = (zs'[m]).1.id := fun m hm => by
       rw [getElem!_pos D' m (by omega), ← (hzs _ (List.getElem_mem hm)).1]
       have : D'.toList[m]? = some (zs'[m]).2 := by rw [← g2, List.getElem?_map, List.getElem?_eq_getElem hm]; rfl
       have h2 := (List.getElem?_eq_some_iff.1 this).2
       rw [← h2]
       simp
      have hk : decide (cf (D'[j]!).1.1 (D'[i]!).1.1 < 0) = false := hk
      rw [gt i hi, gt j hj, hcf] at hk
      unfold leF
      rw [List.getElem_map, List.getElem_map, hk]
      rfl
    refine ⟨rfl, ⟨F, [], [], [blk], [], fun _ h => h, fun _ h => .inl h, fun k hk => Nat.lt_of_lt_of_le (hF k hk) fk7, ?_, ⟨rfl, rfl, rfl⟩, rfl, by simp, fun b hb => ?_⟩, rfl, rfl, rfl, fk7, fun k hk hkn => kI7 hk (by simpa using hkn)⟩
    ·refine ⟨[blk], [], rfl, ?_, rfl⟩
     unfold OWe
     rw [hb]
     refine ⟨_, [], (Dv7 h1).trans (by rw [e2]), by rw [lB7, e2]; exact h2, ?_, h4, rfl, ?_⟩
     ·show (List.map (ag7 false) (xs.mergeSort leF)).length ≤ e.cap
      rw [List.length_map, List.length_mergeSort]
      exact h3
     ·show as7 tb F _ _ e.k 0 (List.map (ag7 false) (xs.mergeSort leF)) []
      rw [hr, e2]
      refine sj7 hk4 g2.symm (by rw [g1.length_eq, hzl, h2, hk4]; omega) fun z hz c t ht => ?_
      obtain ⟨u, a1, a2⟩ := (hzs z hz).2 c t ht
      refine ⟨u, a1, kx7 (fun k hk => ?_) (fun _ h => h) t u [] (fun k hk => by cases hk) a2⟩
      exact kI7 (hF k hk) fun e => (hfp blk (by simp)).2 (e ▸ hk)
    ·simp only [List.append_nil, List.mem_singleton] at hb
     subst hb
     exact ⟨Nat.lt_of_lt_of_le hblk fk7, (hfp _ (by simp)).2, .inl (by simp)⟩
   ·exact ⟨fun x => (hcf _ _).trans (slt_sw.irrefl _), fun x y z h1 h2 => (hcf _ _).trans (slt_sw.trans _ _ _ ((hcf _ _).symm.trans h1) ((hcf _ _).symm.trans h2)), fun x y z h1 h2 => (hcf _ _).trans (slt_sw.ntrans _ _ _ ((hcf _ _).symm.trans h1) ((hcf _ _).symm.trans h2))⟩
   ·intro m os dk hd x y
    exact hcmp x.1.1 y.1.1 _ _ _ _ _ _ _
end Go.Proofs.AM
