/- Lemmas of the proof (HV), on an abstract machine. Conditions: none. -/
import Derived.Test.YtnnfdbdheoajgaaGreatHS
import Derived.Test.YtnnfdbdheoajgaaGreatHT
import Derived.Test.YtnnfdbdheoajgaaGreatSF
import Derived.Shelf.Sort.Plain
import Derived.Shelf.Slices.In.SortNone
import Derived.Shelf.SlicesE.Compact
set_option linter.unusedVariables false
namespace Go.Proofs.AM
open Go.RowKit
variable {P : Program} {tb : Tab}
theorem qc7 (x : Str) : (cv7 x).all vr7 = true := rfl
theorem qd7 {F : Nat → Prop} {w : World} {cur : Array Value} {k : Nat} {xs : List Str} (hk : esz k = 1) (h : ∀ (j : Nat) r, (xs.map cv7)[j]? = some r → r.length = esz k ∧ ∃ us : List Value, us.length = esz k ∧ ∀ (c : Nat) t, r[c]? = some t → ∃ u, us[c]? = some u ∧ cur[(0 + j) * esz k + c]? = some u ∧ OWc tb F w t u []) : ∀ (j : Nat) x, xs[j]? = some x → cur[j]? = some (.string x) := by
 intro j x hx
 obtain ⟨_, us, _, h3⟩ := h j (cv7 x) (by rw [List.getElem?_map, hx]; rfl)
 obtain ⟨u, _, h4, h5⟩ := h3 0 _ rfl
 simp only [OWc] at h5
 rw [h5.1, hk] at h4
 simpa using h4
theorem tR7 {F : Nat → Prop} {w : World} {cur : Array Value} {k : Nat} {xs : List Str} (hk : esz k = 1) (h : ∀ (j : Nat) x, xs[j]? = some x → cur[j]? = some (.string x)) : ap7 tb F w cur k 0 (xs.map cv7) [] := p97 fun j r hr => by
 rw [List.getElem?_map] at hr
 cases hx : xs[j]? with
 | none => rw [hx] at hr; cases hr
 | some x =>
  rw [hx] at hr
  simp only [Option.map_some, Option.some.injEq] at hr
  subst hr
  refine ⟨hk.symm, fun c t ht => ?_⟩
  match c, ht with
  | 0, ht =>
   simp only [cv7, List.getElem?_cons_zero, Option.some.injEq] at ht
   subst ht
   refine ⟨.string x, ?_, ?_⟩
   ·rw [hk]
    simpa using h j x hx
   ·simp only [OWc, true_and, and_true]
    rfl
def bs (x : Str) : List UInt8 := x.data.toList
theorem Hb7 (x : Str) : Go.Proofs.encStr (bs x) = Value.string x := rfl
theorem No7 (a b : Str) : leS a b = decide (bs a ≤ bs b) := by
 unfold leS
 rw [lq7]
 have e : ∀ x : Str, x.toList = bs x := fun x => by
  unfold bs
  exact Go.Lib.toList_data x
 rw [e, e]
 by_cases h : bs b < bs a
 ·rw [decide_eq_true h, decide_eq_false (List.not_le.2 h)]; rfl
 ·rw [decide_eq_false h, decide_eq_true (List.not_lt.1 h)]; rfl
theorem DI7 (xs : List Str) : (xs.map bs).mergeSort (fun x y => decide (x ≤ y)) = (xs.mergeSort leS).map bs := (List.map_mergeSort (fun a _ b _ => No7 a b)).symm
theorem qe7 {w : World} {blk : Nat} {cur : Array Value} {ty : TypeId} {α : Type} [Inhabited α] {enc : α → Value} {f : Str → α} (he : ∀ x, enc (f x) = .string x) {xs : List Str} (h1 : w.heap[blk]? = some (.cells cur ty)) (h : ∀ (j : Nat) x, xs[j]? = some x → cur[j]? = some (.string x)) : Go.Sort.Holds enc w blk 0 (xs.map f).toArray := by
 intro j hj
 simp only [List.size_toArray, List.length_map] at hj
 have hx : xs[j]? = some xs[j] := List.getElem?_eq_getElem hj
 have e : (xs.map f).toArray[j]! = f xs[j] := by
  rw [getElem!_pos _ j (by simpa using hj)]
  simp
 refine ⟨?_, ?_⟩
 ·rw [Nat.zero_add, e, he]
  simp only [World.cell?, h1]
  exact h j _ hx
 ·simp [World.frozen?, h1]
theorem vt7 {ρ : Go.Shelf.Ren} (L : Go.Proofs.Lays.n190 P ρ) {f : Nat} (hf : tb.fn f = ρ.f 190) (hok : mh7 P (tb.fn f) = true) : ai7 P tb (op7 f) := by
 refine ⟨fun (a a' : List Str) h h2 => ?_, fun (xs r : List Str) hv => ⟨hok, fun F w us es fp bks he hbs hx hes hnd hfp hF hgl => ?_⟩⟩
 ·have h2 : [(false, 49, List.map cv7 a)] = [(false, 49, List.map cv7 a')] := h2
  simp only [List.cons.injEq, Prod.mk.injEq, true_and, and_true] at h2
  exact (ad7 jP7).1 h2
 ·have hv : p27 xs = some r := hv
  unfold p27 at hv
  split at hv
  case isFalse => cases hv
  rename_i hn
  cases hv
  have hfit := hz7 hn
  have he : es.map (fun e => (e.box, e.k, e.rows)) = [(false, 49, List.map cv7 xs)] := he
  have hl := congrArg List.length he
  simp only [List.length_map, List.length_cons, List.length_nil] at hl
  obtain ⟨e, rfl⟩ := List.length_eq_one_iff.1 hl
  simp only [List.map_cons, List.map_nil, List.cons.injEq, Prod.mk.injEq, and_true] at he
  obtain ⟨e1, e2, e3⟩ := he
  have hb0 := hbs 0 e rfl
  simp only [ey7] at hes
  obtain ⟨fp1, fp2, rfl, ho, rfl⟩ := hes
  have hx : aS7 tb F w [.ref 0 (bks 0).1 (bks 0).2 0 xs.length 49] us := hx
  simp only [aS7, at7] at hx
  obtain ⟨u0, us1, rfl, hh, rfl⟩ := hx
  rw [hb0] at hh
  show Calls P (tb.fn f) #[u0] w _
  rw [hf]
  unfold OWe at ho
  split at ho
  ·
   rename_i hb
   rw [hb] at hh
   rcases ho with ⟨o1, o2, o3, rfl⟩ | ho
   case inr => obtain ⟨_, _, _, _, _, _, hbx, _⟩ := ho; rw [e1] at hbx; cases hbx
   rw [e3] at o1
   have hx0 : xs = [] := by simpa using o1
   subst hx0
   obtain ⟨A, rfl, h1, h2, h3⟩ := hh
   refine (Go.Proofs.Any.slices_Sort_string_none L A _ w).mono fun e' w' ⟨h4, h5⟩ => ?_
   subst h4 h5
   refine ⟨rfl, ⟨F, [], [], [], [], fun _ h => h, fun _ h => .inl h, hF, ?_, ⟨rfl, rfl, rfl⟩, rfl, List.nodup_nil, fun b hb => by cases hb⟩, rfl, rfl, rfl, Nat.le_refl _, fun _ _ _ => rfl⟩
   refine ⟨[], [], rfl, ?_, rfl⟩
   unfold OWe
   rw [hb]
   exact .inl ⟨by simp, o2, o3, rfl⟩
  ·rename_i blk hb
   obtain ⟨cur, fp', h1, h2, h3, h4, rfl, h5⟩ := ho
   rw [hb] at hh
   obtain ⟨A, rfl, h6, _, h7⟩ := hh
   rw [e3, e2] at h5
   rw [e2] at h1 h2
   obtain ⟨rfl, hrows⟩ := je7 (by
    intro r hr
    obtain ⟨x, _, rfl⟩ := List.mem_map.1 hr
    exact qc7 x) h5
   have hk1 : esz 49 = 1 := rfl
   have hcur := qd7 (tb := tb) (F := F) (w := w) (xs := xs) hk1 hrows
   have hA : A = some ⟨blk, 0, none⟩ := by
    rcases h7 with h7 | ⟨_, h7⟩
    ·rw [h7]; simp
    ·exact absurd rfl h7
   subst hA
   rw [e3, List.length_map] at h3
   have hblk : blk < w.heap.size := (hfp blk (by simp)).1
   have hH := qe7 (enc := Go.Proofs.encStr) Hb7 h1 hcur
   have hsz : (xs.map bs).length < 4611686018427387904 := by
    unfold uP7 at hfit
    rw [List.length_map]
    omega
   have hcall := Go.Proofs.Any.slices_Sort_string L blk 0 (e.cap - 0) (xs.map bs) w hH hblk hsz
   rw [List.length_map] at hcall
   refine hcall.mono fun e' w' ⟨q1, n, os, q4⟩ => ?_
   subst q1 q4
   rw [DI7]
   refine ⟨rfl, ⟨F, [], [], [blk], [], fun _ h => h, fun _ h => .inl h, fun k hk => Nat.lt_of_lt_of_le (hF k hk) jf7, ?_, ⟨rfl, rfl, rfl⟩, rfl, by simp, fun b hb => ?_⟩, rfl, rfl, rfl, jf7, fun k hk hkn => tP7 hk (by simpa using hkn)⟩
   ·refine ⟨[blk], [], rfl, ?_, rfl⟩
    unfold OWe
    rw [hb]
    refine ⟨_, [], (Ha7 h1).trans (by rw [e2]), by rw [qa7, e2]; exact h2, ?_, h4, rfl, ?_⟩
    ·show (List.map cv7 (xs.mergeSort leS)).length ≤ e.cap
     rw [List.length_map, List.length_mergeSort]
     exact h3
    ·show ap7 tb F _ _ e.k 0 (List.map cv7 (xs.mergeSort leS)) []
     rw [e2]
     refine tR7 hk1 fun j x hj => ?_
     have hjl : j < (xs.mergeSort leS).length := (List.getElem?_eq_some_iff.1 hj).1
     have hjc : j < cur.size := by rw [List.length_mergeSort] at hjl; rw [h2, hk1]; omega
     rw [xu7 hjc, if_pos (by simpa using hjl)]
     congr 1
     rw [getElem!_pos _ j (by simpa using hjl)]
     have := (List.getElem?_eq_some_iff.1 hj).2
     simp only [List.getElem_toArray, List.getElem_map, this]
     rfl
   ·simp only [List.append_nil, List.mem_singleton] at hb
    subst hb
    exact ⟨Nat.lt_of_lt_of_le hblk jf7, (hfp _ (by simp)).2, .inl (by simp)⟩
theorem BU7 : (fun x y : Str => x.toList == y.toList) = fun x y => decide (x = y) := by
 funext x y
 exact bS7 x y
theorem zT7 (w : World) : Go.Sort.grow w #[] = w := by simp [Go.Sort.grow]
set_option maxHeartbeats 1000000 in
theorem xz7 {ρ : Go.Shelf.Ren} (L : Go.Proofs.SlLaysE.n43 P ρ) (w : World) : Calls P (ρ.f 43) #[.slice none 0 0] w fun e w' => e = .returned (.slice none 0 0) ∧ w' = w := by
 have mixed := L.mixed; have t0 := L.t0; have a0 := L.a0; have z0 := L.z0; have v0 := L.v0; have t3 := L.t3; have a3 := L.a3; have z3 := L.z3; have v3 := L.v3; have t4 := L.t4; have a4 := L.a4; have z4 := L.z4; have v4 := L.v4; have t22 := L.t22; have a22 := L.a22; have z22 := L.z22; have v22 := L.v22; have a23 := L.a23; have z23 := L.z23
 obtain ⟨_, _, FG⟩ := L.f43
 go_enter FG, SlBodyN.n43_ntmps ρ
 go_wp2
 go_ret
 exact ⟨rfl, rfl⟩
theorem vu7 {ρ : Go.Shelf.Ren} (L : Go.Proofs.SlLaysE.n43 P ρ) (v23 : ∀ w, (zeroValue (ρ.t 23)).run P w = .ok (.string ⟨#[]⟩) w) {f : Nat} (hf : tb.fn f = ρ.f 43) (hok : mh7 P (tb.fn f) = true) : ai7 P tb (oq7 f) := by
 refine ⟨fun (a a' : List Str) h h2 => ?_, fun (xs r : List Str) hv => ⟨hok, fun F w us es fp bks he hbs hx hes hnd hfp hF hgl => ?_⟩⟩
 ·have h2 : [(false, 49, List.map cv7 a)] = [(false, 49, List.map cv7 a')] := h2
  simp only [List.cons.injEq, Prod.mk.injEq, true_and, and_true] at h2
  exact (ad7 jP7).1 h2
 ·have hv : vo7 xs = some r := hv
  unfold vo7 at hv
  split at hv
  case isFalse => cases hv
  rename_i hn
  cases hv
  have hfit := hz7 hn
  have he : es.map (fun e => (e.box, e.k, e.rows)) = [(false, 49, List.map cv7 xs)] := he
  have hl := congrArg List.length he
  simp only [List.length_map, List.length_cons, List.length_nil] at hl
  obtain ⟨e, rfl⟩ := List.length_eq_one_iff.1 hl
  simp only [List.map_cons, List.map_nil, List.cons.injEq, Prod.mk.injEq, and_true] at he
  obtain ⟨e1, e2, e3⟩ := he
  have hb0 := hbs 0 e rfl
  simp only [ey7] at hes
  obtain ⟨fp1, fp2, rfl, ho, rfl⟩ := hes
  have hx : aS7 tb F w [.ref 0 (bks 0).1 (bks 0).2 0 xs.length 49] us := hx
  simp only [aS7, at7] at hx
  obtain ⟨u0, us1, rfl, hh, rfl⟩ := hx
  rw [hb0] at hh
  show Calls P (tb.fn f) #[u0] w _
  rw [hf]
  unfold OWe at ho
  have hgone : ∀ W : World, ey7 tb F W (bf7 [e] [none]) [] := fun W => by
   refine ⟨[], [], rfl, ?_, rfl⟩
   unfold OWe
   exact .inl ⟨rfl, rfl, rfl, rfl⟩
  split at ho
  ·
   rename_i hb
   rw [hb] at hh
   rcases ho with ⟨o1, o2, o3, rfl⟩ | ho
   case inr => obtain ⟨_, _, _, _, _, _, hbx, _⟩ := ho; rw [e1] at hbx; cases hbx
   rw [e3] at o1
   have hx0 : xs = [] := by simpa using o1
   subst hx0
   obtain ⟨A, rfl, h1, h2, h3⟩ := hh
   have hA : A = none := by
    rcases h3 with h3 | ⟨_, h3⟩
    ·exact h3
    ·exact absurd rfl h3
   subst hA
   rw [o2]
   refine (xz7 L w).mono fun e' w' ⟨h4, h5⟩ => ?_
   subst h4 h5
   refine ⟨rfl, ⟨F, [.slice none 0 0], [.slice none 0 0], [], [], fun _ h => h, fun _ h => .inl h, hF, hgone _, ?_, rfl, List.nodup_nil, fun b hb => by cases hb⟩, rfl, rfl, rfl, Nat.le_refl _, fun _ _ _ => rfl⟩
   refine ⟨_, [], [_], [], [], [], rfl, rfl, rfl, ⟨⟨_, [], [], [], rfl, rfl, ?_, rfl, rfl⟩, rfl⟩, rfl, rfl, rfl⟩
   show OWc tb F _ (.sl true 49 (List.map cv7 (Go.Lib.compact []))) _ _
   simp only [OWc]
   exact .inl (by simp [Go.Lib.compact, Go.Lib.compactUpTo])
  ·rename_i blk hb
   obtain ⟨cur, fp', h1, h2, h3, h4, rfl, h5⟩ := ho
   rw [hb] at hh
   obtain ⟨A, rfl, h6, _, h7⟩ := hh
   rw [e3, e2] at h5
   rw [e2] at h1 h2
   obtain ⟨rfl, hrows⟩ := je7 (by
    intro r hr
    obtain ⟨x, _, rfl⟩ := List.mem_map.1 hr
    exact qc7 x) h5
   have hk1 : esz 49 = 1 := rfl
   have hcur := qd7 (tb := tb) (F := F) (w := w) (xs := xs) hk1 hrows
   have hA : A = some ⟨blk, 0, none⟩ := by
    rcases h7 with h7 | ⟨_, h7⟩
    ·rw [h7]; simp
    ·exact absurd rfl h7
   subst hA
   rw [e3, List.length_map] at h3
   have hblk : blk < w.heap.size := (hfp blk (by simp)).1
   have hH := qe7 (enc := Value.string) (f := fun x : Str => x) (fun _ => rfl) h1 hcur
   rw [List.map_id'] at hH
   have hcall := Go.Proofs.AnyE.slices_Compact L Value.string (fun _ => rfl) (BU7 ▸ EqlAt.string P _) (BU7 ▸ NeqAt.string P _) (⟨#[]⟩ : Str) v23 blk 0 (e.cap - 0) xs.toArray w hH (by unfold uP7 at hfit; simp only [List.size_toArray]; omega) (by simpa using h3)
   simp only [List.size_toArray] at hcall
   refine hcall.mono fun e' w' ⟨q1, n, q4⟩ => ?_
   rw [← zT7 (Go.Sort.putRow _ _ _ _ _)] at q4
   subst q1 q4
   have hcl : (Go.Lib.compactUpTo xs.toArray xs.length).length ≤ xs.length := by
    unfold Go.Lib.compactUpTo
    rw [List.length_map]
    exact Nat.le_trans (List.length_filter_le _ _) (by simp)
   refine ⟨rfl, ⟨F, [.slice (some ⟨blk, 0, none⟩) (Go.Lib.compactUpTo xs.toArray xs.length).length (e.cap - 0)], [.slice (some ⟨blk, 0, none⟩) (Go.Lib.compactUpTo xs.toArray xs.length).length (e.cap - 0)], [], [blk], fun _ h => h, fun _ h => .inl h, fun k hk => Nat.lt_of_lt_of_le (hF k hk) jf7, hgone _, ?_, rfl, by simp, fun b hb => ?_⟩, rfl, rfl, rfl, jf7, fun k hk hkn => tP7 hk (by simpa using hkn)⟩
   ·refine ⟨_, [], [_], [], [blk], [], rfl, rfl, rfl, ⟨⟨_, [], [blk], [], rfl, rfl, ?_, rfl, rfl⟩, rfl⟩, rfl, rfl, rfl⟩
    show OWc tb F _ (.sl true 49 (List.map cv7 (Go.Lib.compactUpTo xs.toArray xs.length))) _ _
    simp only [OWc]
    refine .inr ⟨blk, e.cap, _, [], ?_, Ha7 h1, by rw [qa7]; exact h2, ?_, h4, rfl, ?_⟩
    ·rw [List.length_map]; rfl
    ·rw [List.length_map]
     exact Nat.le_trans hcl h3
    ·refine tR7 hk1 fun j x hj => ?_
     have hjl : j < (Go.Lib.compactUpTo xs.toArray xs.length).length := (List.getElem?_eq_some_iff.1 hj).1
     have hjc : j < cur.size := by rw [h2, hk1]; omega
     rw [xu7 hjc, if_pos (by simp; omega)]
     congr 1
     rw [getElem!_pos _ j (by simp; omega)]
     have := (List.getElem?_eq_some_iff.1 hj).2
     simp only [List.getElem_toArray]
     rw [List.getElem_append_left hjl, this]
   ·simp only [List.nil_append, List.mem_singleton] at hb
    subst hb
    exact ⟨Nat.lt_of_lt_of_le hblk jf7, (hfp _ (by simp)).2, .inl (by simp)⟩
end Go.Proofs.AM
