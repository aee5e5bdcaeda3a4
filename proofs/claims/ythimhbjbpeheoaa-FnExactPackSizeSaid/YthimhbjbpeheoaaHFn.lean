/- A part of the proof of 'FnExactPackSizeSaid' (HFn): lemmas on an abstract machine for the program's functions. Conditions: none. -/
import Derived.Test.YthimhbjbpeheoaaHCode
set_option linter.unusedVariables false
set_option linter.unusedSimpArgs false
namespace Go.Proofs.AM
open Go.RowKit
def chkFn (P : Program) (tb : Tab) (f : Nat) (ir : IFn) : Bool := match P.funcs[tb.fn f]? with
  | some fn => fn.name != "runtime.NumGoroutine" && fn.ntmps == ir.ntmps && chkRs P fn.results.toList ir.res && (match fn.body with | some c => chkC P tb ir.ntmps c ir.body | none => false)
  | none => false
section
variable {P : Program} {tb : Tab} {F K : Nat → Prop} {N : Nat} {w0 : World} {G : Gam} {w : World}
def putAll : Heap → Nat → List Ent → Heap
  | o, _, [] => o
  | o, i, e :: es => putAll (upd o (i * 8) (some e)) (i + 1) es
theorem putAll_get : ∀ {es : List Ent} {o : Heap} {i n : Nat}, putAll o i es n = if n % 8 = 0 ∧ i ≤ n / 8 ∧ n / 8 < i + es.length then es[n / 8 - i]? else o n
  | [], o, i, n => by
    simp only [putAll, List.length_nil]
    rw [if_neg (by omega)]
  | e :: es, o, i, n => by
    simp only [putAll]
    rw [putAll_get]
    by_cases h1 : n % 8 = 0 ∧ i + 1 ≤ n / 8 ∧ n / 8 < i + 1 + es.length
    · rw [if_pos h1, if_pos (by simp; omega), show n / 8 - i = (n / 8 - (i + 1)) + 1 by omega]
      simp
    · rw [if_neg h1]
      by_cases h2 : n = i * 8
      · subst h2
        rw [if_pos (by simp)]
        simp [upd]
      · rw [if_neg (by simp; omega)]
        simp [upd, h2]
theorem putAll_rel : ∀ {es : List Ent} {o : Heap} {i : Nat} {fps : Nat → List Nat} {f fl : List Nat}, HRel tb F K o fps (f ++ fl) w → OWes tb F w es f → ∃ fps', HRel tb F K (putAll o i es) fps' fl w
  | [], o, i, fps, f, fl, hr, h => by
    simp only [OWes] at h
    subst h
    exact ⟨fps, by simpa [putAll] using hr⟩
  | e :: es, o, i, fps, f, fl, hr, h => by
    simp only [OWes] at h
    obtain ⟨f1, f2, rfl, h1, h2⟩ := h
    simp only [putAll]
    exact putAll_rel (o := upd o (i * 8) (some e)) (i := i + 1) (HRel.put (fl := f2 ++ fl) (by rwa [List.append_assoc] at hr) (i * 8) h1) h2
theorem parH_putAll {bs : Nat → Option Nat × Nat} {es : List Ent} {ins : List (Bool × Nat × Rows)} (he : es.map (fun e => (e.box, e.k, e.rows)) = ins) (hb : ∀ (j : Nat) (e : Ent), es[j]? = some e → bs j = (e.b, e.cap)) : parH bs ins = putAll (fun _ => none) 0 es := by
  subst he
  funext n
  rw [putAll_get]
  unfold parH
  by_cases h : n % 8 = 0
  · rw [if_pos h]
    by_cases h2 : n / 8 < es.length
    · rw [if_pos ⟨h, Nat.zero_le _, by omega⟩, List.getElem?_map, Nat.sub_zero, List.getElem?_eq_getElem h2]
      simp only [Option.map_some]
      rw [hb (n / 8) es[n / 8] (List.getElem?_eq_getElem h2)]
    · rw [if_neg (by omega), List.getElem?_map, List.getElem?_eq_none (by omega)]
      rfl
  · rw [if_neg h, if_neg (by omega)]
theorem empty_rel (hFK : ∀ k, F k → K k) {fl : List Nat} (hn : fl.Nodup) (hl : ∀ b, b ∈ fl → b < w.heap.size ∧ ¬ K b) : HRel tb F K (fun _ => none) (fun _ => []) fl w :=
  ⟨hFK, fun n e h => (by cases h), fun _ _ => rfl, fun _ => List.nodup_nil, fun _ _ _ _ h => (by cases h), fun _ _ h => (by cases h), hn, fun _ _ _ h => (by cases h), hl⟩
theorem RelL_getD : ∀ {xs : List AV} {us : List Value} (i : Nat), RelL tb F w xs us → i < xs.length → RelV tb F w (xs.getD i .junk) (us.getD i undef)
  | x :: xs, us, i, h, hi => by
    simp only [RelL] at h
    obtain ⟨u, us', rfl, h1, h2⟩ := h
    cases i with
    | zero => simpa using h1
    | succ i => simpa using RelL_getD i h2 (by simpa using hi)
  | [], us, i, h, hi => by simp at hi
theorem fn_good (hmix : P.follows .mixedOrders = true) (hG : AllGood P tb G) {f : Nat} {ir : IFn} (hc : chkFn P tb f ir = true) {ks : List (List (Option Nat))} {xs : List AV} {ins : List (Bool × Nat × Rows)} {ans : Ans} (hlen : xs.length ≤ ir.ntmps) (hd : Does G ir ks xs ins ans) : Good P tb f xs ins ans := by
  unfold chkFn at hc
  split at hc
  · rename_i fn hfn
    simp only [Bool.and_eq_true, beq_iff_eq] at hc
    obtain ⟨⟨⟨hname, hnt⟩, hrs⟩, hbody⟩ := hc
    split at hbody
    · rename_i c hb
      refine ⟨by unfold funOk; rw [hfn]; simp [hb, hname], fun F w us es fp bs he hbs hx hes hnd hfp hF => ?_⟩
      have hlu : us.length = xs.length := by rw [RelL_length hx]; simp
      refine calls_of_wp hfn hb ?_
      let K : Nat → Prop := fun k => k < w.heap.size ∧ k ∉ fp
      have hFK : ∀ k, F k → K k := fun k hk => ⟨hF k hk, fun hc => (hfp k hc).2 hk⟩
      obtain ⟨fps, hr⟩ := putAll_rel (i := 0) (o := fun _ => none) (fl := []) (empty_rel (K := K) (fl := fp ++ []) hFK (by simpa using hnd) (fun b hb => by
        simp only [List.append_nil] at hb
        exact ⟨(hfp b hb).1, fun hk => hk.2 hb⟩)) hes
      rw [← parH_putAll he hbs] at hr
      have hsr : SR tb F K K ir.ntmps w ⟨parT bs xs, parH bs ins⟩ { tmps := us.toArray ++ Array.replicate (fn.ntmps - us.toArray.size) undef, defers := [] } w := by
        refine ⟨fun i => ?_, ⟨fps, hr⟩, fun k hk => hk.1, by simp; omega, rfl, rfl, rfl, rfl, Nat.le_refl _, fun _ hk => hk, fun _ _ => rfl⟩
        unfold parT
        by_cases hi : i < xs.length
        · have := RelL_getD i hx (by simpa using hi)
          have e1 : (xs.map (parA bs)).getD i .junk = parA bs (xs.getD i .junk) := by simp [List.getD_eq_getElem?_getD, hi]
          rw [e1] at this
          have e2 : (us.toArray ++ Array.replicate (fn.ntmps - us.toArray.size) undef).getD i undef = us.getD i undef := by
            simp only [Array.getD_eq_getD_getElem?, List.getD_eq_getElem?_getD]
            rw [Array.getElem?_append_left (by simp; omega)]
            simp
          rw [e2]
          exact this
        · have e1 : xs.getD i .junk = .junk := by simp [List.getD_eq_getElem?_getD, List.getElem?_eq_none (Nat.not_lt.1 hi)]
          show RelV tb F w (parA bs (xs.getD i .junk)) _
          rw [e1]
          simp [parA, parC, RelV]
      refine code_sound (tb := tb) (F := F) (K := K) (w0 := w) hmix hG ir.body c _ _ _ _ w hbody (hd bs) ⟨F, K, ⟨fun _ h => h, fun _ h => .inl h⟩, hsr⟩ fun e s' a' w' hq hs' => ?_
      obtain ⟨F1, K1, hg, hs'⟩ := hs'
      have fin : retOk ir ks bs ins ans s' → ∃ v, (results fn a'.tmps).run P w' = .ok v w' ∧ Post tb F w es fp ans v w' := fun hq => by
        unfold retOk at hq
        split at hq
        · rename_i r os o' hrun
          obtain ⟨rfl, rfl⟩ := hq
          obtain ⟨os1, o1, h1, h2⟩ := run_bind.1 hrun
          obtain ⟨r1, o2, h3, h4⟩ := run_bind.1 h2
          simp only [run_ret2] at h4
          obtain ⟨h4, rfl⟩ := h4
          cases h4
          obtain ⟨fps1, hr1⟩ := hs'.hr
          obtain ⟨g1, f1, fps2, g2, g3⟩ := outsA_sound he (by simpa using hbs) h1 hr1
          obtain ⟨vs, us2, f2, fps3, k1, k2, k3⟩ := resultsA_sound hs'.rt hrs h3 g3
          refine ⟨tupV vs, results_run k1, g1, ⟨F1, vs, us2, f1, f2, hg.1, hg.2, fun k hk => hs'.hK k (hr1.kp k hk), g2, k2, rfl, ?_, fun b hb => ?_⟩, hs'.os, hs'.tape, hs'.output, hs'.size, fun k hk hn => hs'.blk k ⟨hk, hn⟩⟩
          · have := k3.fnd
            simp only [List.append_nil] at this
            exact (List.perm_append_comm.nodup_iff).1 this
          · have hb' : b ∈ f2 ++ (f1 ++ []) := by
              simp only [List.append_nil]
              exact List.perm_append_comm.mem_iff.1 hb
            have := k3.flv b hb'
            refine ⟨this.1, fun hf => this.2 (hr1.kp b hf), ?_⟩
            by_cases hm : b ∈ fp
            · exact .inl hm
            · exact .inr (Nat.not_lt.1 fun hlt => this.2 (hs'.k0 b ⟨hlt, hm⟩))
        · exact hq.elim
      cases e with
      | norm => exact ⟨hs'.df, fin hq⟩
      | ret => exact ⟨hs'.df, fin hq⟩
      | exit i => exact hq.elim
    · cases hbody
  · cases hc
end
structure Fam where
  A : Type
  args : A → List AV
  ins : A → List (Bool × Nat × Rows)
  ans : A → Ans
  inj : ∀ a b, args a = args b → ins a = ins b → ans a = ans b
  rank : A → Nat × Nat
open Classical in
noncomputable def gamOf (fams : Nat → Option Fam) (p : Nat × Nat → Prop) : Gam := fun f xs ins => match fams f with
  | some m => if h : ∃ a, m.args a = xs ∧ m.ins a = ins ∧ p (m.rank a) then some (m.ans (Classical.choose h)) else none
  | none => none
theorem gamOf_get {fams : Nat → Option Fam} {p : Nat × Nat → Prop} {f : Nat} {m : Fam} (hf : fams f = some m) (a : m.A) (hp : p (m.rank a)) : gamOf fams p f (m.args a) (m.ins a) = some (m.ans a) := by
  unfold gamOf
  rw [hf]
  simp only
  have h : ∃ b, m.args b = m.args a ∧ m.ins b = m.ins a ∧ p (m.rank b) := ⟨a, rfl, rfl, hp⟩
  rw [dif_pos h]
  have := Classical.choose_spec h
  rw [m.inj _ a this.1 this.2.1]
theorem gamOf_spec {fams : Nat → Option Fam} {p : Nat × Nat → Prop} {f : Nat} {xs : List AV} {ins : List (Bool × Nat × Rows)} {ans : Ans} (h : gamOf fams p f xs ins = some ans) : ∃ m a, fams f = some m ∧ m.args a = xs ∧ m.ins a = ins ∧ m.ans a = ans ∧ p (m.rank a) := by
  unfold gamOf at h
  split at h
  · rename_i m hm
    split at h
    · rename_i hex
      have := Classical.choose_spec hex
      cases h
      exact ⟨m, _, hm, this.1, this.2.1, rfl, this.2.2⟩
    · cases h
  · cases h
def below (r q : Nat × Nat) : Prop := q.1 < r.1 ∨ (q.1 = r.1 ∧ q.2 < r.2)
theorem fams_good {P : Program} {tb : Tab} {fams : Nat → Option Fam} (h : ∀ f m, fams f = some m → ∀ a, (AllGood P tb (gamOf fams (below (m.rank a)))) → Good P tb f (m.args a) (m.ins a) (m.ans a)) : ∀ f m, fams f = some m → ∀ a, Good P tb f (m.args a) (m.ins a) (m.ans a) := by
  have key : ∀ n k, ∀ f m, fams f = some m → ∀ a, m.rank a = (n, k) → Good P tb f (m.args a) (m.ins a) (m.ans a) := by
    intro n
    induction n using Nat.strongRecOn with
    | _ n ihn =>
      intro k
      induction k using Nat.strongRecOn with
      | _ k ihk =>
        intro f m hm a ha
        refine h f m hm a fun g xs ins ans hg => ?_
        obtain ⟨m', a', h1, h2, h3, h4, h5⟩ := gamOf_spec hg
        subst h2
        subst h3
        subst h4
        rw [ha] at h5
        rcases h5 with h5 | ⟨h5, h6⟩
        · exact ihn _ h5 _ g m' h1 a' rfl
        · exact ihk _ h6 g m' h1 a' (Prod.ext h5 rfl)
  exact fun f m hm a => key (m.rank a).1 (m.rank a).2 f m hm a rfl
end Go.Proofs.AM
