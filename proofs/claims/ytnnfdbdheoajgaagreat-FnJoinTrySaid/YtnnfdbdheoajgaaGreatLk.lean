/- Lemmas of the proof (Lk), on an abstract machine. Conditions: none. -/
import Derived.Test.YtnnfdbdheoajgaaGreatG3
import Derived.Test.YtnnfdbdheoajgaaGreatHFn
set_option linter.unusedVariables false
namespace Go.Proofs.AM
variable {P : Program} {tb : Tab}
def lk : List (Nat × Nat) → Nat → Nat
 | [], _ => 0
 | (a, b) :: r, k => if a = k then b else lk r k
def ai7 (P : Program) (tb : Tab) (c : Con) : Prop := (∀ a a', c.args a = c.args a' → c.ins a = c.ins a' → a = a') ∧ ∀ a b, c.val a = some b → FQ7 P tb c.f (c.args a) (c.ins a) (c.ans a b)
open Classical in
noncomputable def Fx7 : List Con → Gam
 | [], _, _, _ => none
 | c :: cs, f, xs, ins => if h : c.f = f ∧ ∃ p : c.A × c.B, c.args p.1 = xs ∧ c.ins p.1 = ins ∧ c.val p.1 = some p.2 then some (c.ans (Classical.choose h.2).1 (Classical.choose h.2).2) else Fx7 cs f xs ins
theorem p37 : ∀ {cs : List Con}, (∀ c, c ∈ cs → ai7 P tb c) → dO7 P tb (Fx7 cs)
 | [], h, f, xs, ins, ans, hg => by cases hg
 | c :: cs, h, f, xs, ins, ans, hg => by
  simp only [Fx7] at hg
  split at hg
  ·rename_i hh
   obtain ⟨rfl, hex⟩ := hh
   have h1 := Classical.choose_spec hex
   simp only [Option.some.injEq] at hg
   subst hg
   generalize Classical.choose hex = p at h1
   obtain ⟨a, b⟩ := p
   obtain ⟨rfl, rfl, h2⟩ := h1
   exact (h c (by simp)).2 _ _ h2
  ·exact p37 (fun c hc => h c (by simp [hc])) f xs ins ans hg
def G17 (cs : List Con) : List Nat := cs.map (·.f)
def vq7 : List Nat → Bool
 | [] => true
 | x :: xs => !xs.contains x && vq7 xs
theorem tK7 : ∀ {cs : List Con}, vq7 (G17 cs) = true → (∀ c, c ∈ cs → ∀ a a', c.args a = c.args a' → c.ins a = c.ins a' → a = a') → ∀ c, c ∈ cs → Has (Fx7 cs) c
 | [], hn, hi, c, hc => by cases hc
 | c0 :: cs, hn, hi, c, hc => by
  intro a b hv
  simp only [G17, List.map_cons, vq7, Bool.and_eq_true, Bool.not_eq_true'] at hn
  rcases List.mem_cons.1 hc with rfl | hc
  ·have hex : ∃ p : c.A × c.B, c.args p.1 = c.args a ∧ c.ins p.1 = c.ins a ∧ c.val p.1 = some p.2 := ⟨(a, b), rfl, rfl, hv⟩
   simp only [Fx7]
   rw [dif_pos ⟨rfl, hex⟩]
   have h1 := Classical.choose_spec hex
   generalize Classical.choose hex = p at h1
   obtain ⟨a', b'⟩ := p
   have h2 := hi c (by simp) _ _ h1.1 h1.2.1
   have h3 := h1.2.2
   simp only at h2 h3
   subst h2
   rw [hv] at h3
   cases Option.some.inj h3
   rfl
  ·simp only [Fx7]
   rw [dif_neg]
   ·exact tK7 hn.2 (fun c hc => hi c (by simp [hc])) c hc a b hv
   ·rintro ⟨h1, _⟩
    have : (cs.map (·.f)).contains c0.f = true := by
     rw [List.contains_iff_mem, List.mem_map]
     exact ⟨c, hc, h1.symm⟩
    rw [this] at hn
    exact absurd hn.1 (by simp)
theorem all_nil : ∀ c, c ∈ ([] : List Con) → ai7 P tb c := fun c hc => by cases hc
theorem all_cons {c0 : Con} {cs : List Con} (h : ai7 P tb c0) (hs : ∀ c, c ∈ cs → ai7 P tb c) : ∀ c, c ∈ c0 :: cs → ai7 P tb c := fun c hc => by
 rcases List.mem_cons.1 hc with rfl | hc
 ·exact h
 ·exact hs c hc
section
variable {α : Type} {f : α → List T}
theorem ad7 (hf : ∀ a b, f a = f b → a = b) {xs ys : List α} : xs.map f = ys.map f ↔ xs = ys := ⟨wR7 hf, fun h => by rw [h]⟩
theorem p47 {m : Bool} {k : Nat} {a b : Rows} : sl m k a = sl m k b ↔ a = b := ⟨F57, fun h => by rw [h]⟩
theorem eO7 (a b : Int) (h : bz7 a = bz7 b) : a = b := by simpa [bz7] using h
theorem eC7 (a b : Bool) (h : bI7 a = bI7 b) : a = b := by simpa [bI7] using h
theorem jP7 (a b : Str) (h : cv7 a = cv7 b) : a = b := by simpa [cv7] using h
theorem G27 (a b : UInt8) (h : eU8 a = eU8 b) : a = b := by
 have : (a.toNat : Int) = b.toNat := by simpa [eU8] using h
 exact UInt8.toNat_inj.1 (by omega)
theorem ib7 (a b : Pt) (h : ePt a = ePt b) : a = b := by cases a; cases b; simpa [ePt] using h
theorem eP7 (a b : Tag) (h : bb7 a = bb7 b) : a = b := by cases a; cases b; simpa [bb7] using h
theorem gm7 (a b : Head) (h : aW7 a = aW7 b) : a = b := by cases a; cases b; simpa [aW7] using h
theorem gP7 (a b : aL7) (h : bh7 a = bh7 b) : a = b := by cases a; cases b; simpa [bh7] using h
theorem jd7 (a b : cI7) (h : fb7 a = fb7 b) : a = b := by cases a; cases b; simpa [fb7] using h
theorem sq7 {m : Bool} {k : Nat} (hf : ∀ a b, f a = f b → a = b) (a b : List α) (h : eSl m k f a = eSl m k f b) : a = b := by
 simp only [eSl, List.cons.injEq, and_true, p47, ad7 hf] at h
 exact h
theorem eD7 {m : Bool} (a b : Feat) (h : aj7 m a = aj7 m b) : a = b := by
 obtain ⟨i, ⟨k, p⟩, t⟩ := a; obtain ⟨i', ⟨k', p'⟩, t'⟩ := b
 simp only [aj7, List.cons.injEq, T.v.injEq, Value.string.injEq, Value.int.injEq, p47, ad7 ib7, ad7 eP7, true_and, and_true] at h
 obtain ⟨rfl, rfl, rfl, rfl⟩ := h
 rfl
theorem dj7 {m : Bool} (a b : jM7) (h : cC7 m a = cC7 m b) : a = b := by
 obtain ⟨i, h1, ⟨a1, ⟨k1, p1⟩, t1⟩, h2, ⟨a2, ⟨k2, p2⟩, t2⟩⟩ := a; obtain ⟨i', h1', ⟨a1', ⟨k1', p1'⟩, t1'⟩, h2', ⟨a2', ⟨k2', p2'⟩, t2'⟩⟩ := b
 simp only [cC7, List.cons.injEq, T.v.injEq, Value.string.injEq, Value.int.injEq, Value.bool.injEq, p47, ad7 ib7, ad7 eP7, true_and, and_true] at h
 obtain ⟨rfl, rfl, rfl, rfl, rfl, rfl, rfl, rfl, rfl, rfl, rfl⟩ := h
 rfl
theorem gQ7 {m : Bool} (a b : mo7) (h : fT7 m a = fT7 m b) : a = b := by
 cases a; cases b
 simp only [fT7, List.cons.injEq, T.v.injEq, Value.string.injEq, p47, ad7 eO7, ad7 dj7, and_true] at h
 obtain ⟨rfl, rfl, rfl⟩ := h
 rfl
theorem dk7 {m : Bool} (a b : Commit) (h : am7 m a = am7 m b) : a = b := by
 cases a; cases b
 simp only [am7, List.cons.injEq, T.v.injEq, Value.string.injEq, p47, ad7 eO7, ad7 eD7, and_true] at h
 obtain ⟨rfl, rfl, rfl⟩ := h
 rfl
theorem zP7 {a b : Pt} : AV.agg [.v (.int .i64 a.x), .v (.int .i64 a.y)] = AV.agg [.v (.int .i64 b.x), .v (.int .i64 b.y)] ↔ a = b := by
 cases a; cases b; simp
theorem tL7 {a b : Tag} : AV.agg [.v (.string a.key), .v (.string a.val)] = AV.agg [.v (.string b.key), .v (.string b.val)] ↔ a = b := by
 cases a; cases b; simp
theorem or7 {a b : Head} : AV.agg [.v (.string a.name), .v (.int .i64 a.at_)] = AV.agg [.v (.string b.name), .v (.int .i64 b.at_)] ↔ a = b := by
 cases a; cases b; simp
theorem kp7 {a b : aL7} : AV.agg [.v (.string a.id), .v (.string a.what)] = AV.agg [.v (.string b.id), .v (.string b.what)] ↔ a = b := by
 cases a; cases b; simp
theorem os7 {a b : cI7} : AV.agg [.v (.int .i64 a.a), .v (.int .i64 a.b)] = AV.agg [.v (.int .i64 b.a), .v (.int .i64 b.b)] ↔ a = b := by
 cases a; cases b; simp
theorem tM7 {a b : Val} : AV.agg [.v (.bool a.has), .v (.string a.val)] = AV.agg [.v (.bool b.has), .v (.string b.val)] ↔ a = b := by
 cases a; cases b; simp
theorem kq7 {a b : aD7} : AV.agg [.v (.int .i64 a.kind), .ro (List.map ePt a.pts)] = AV.agg [.v (.int .i64 b.kind), .ro (List.map ePt b.pts)] ↔ a = b := by
 cases a; cases b; simp [ad7 ib7]
theorem ot7 {a b : Feat} : AV.agg [.v (.string a.id), .v (.int .i64 a.shape.kind), .ro (List.map ePt a.shape.pts), .ro (List.map bb7 a.tags)] = AV.agg [.v (.string b.id), .v (.int .i64 b.shape.kind), .ro (List.map ePt b.shape.pts), .ro (List.map bb7 b.tags)] ↔ a = b := by
 obtain ⟨i, ⟨k, p⟩, t⟩ := a; obtain ⟨i', ⟨k', p'⟩, t'⟩ := b
 simp [ad7 ib7, ad7 eP7, and_assoc]
theorem kr7 {a b : dh7} : AV.agg [.v (.bool a.has), .v (.string a.f.id), .v (.int .i64 a.f.shape.kind), .ro (List.map ePt a.f.shape.pts), .ro (List.map bb7 a.f.tags)] = AV.agg [.v (.bool b.has), .v (.string b.f.id), .v (.int .i64 b.f.shape.kind), .ro (List.map ePt b.f.shape.pts), .ro (List.map bb7 b.f.tags)] ↔ a = b := by
 obtain ⟨h, i, ⟨k, p⟩, t⟩ := a; obtain ⟨h', i', ⟨k', p'⟩, t'⟩ := b
 simp [ad7 ib7, ad7 eP7, and_assoc]
theorem ic7 {a b : jM7} : AV.agg [.v (.string a.id), .v (.bool a.had), .v (.string a.was.id), .v (.int .i64 a.was.shape.kind), .ro (List.map ePt a.was.shape.pts), .ro (List.map bb7 a.was.tags), .v (.bool a.has), .v (.string a.now.id), .v (.int .i64 a.now.shape.kind), .ro (List.map ePt a.now.shape.pts), .ro (List.map bb7 a.now.tags)] = AV.agg [.v (.string b.id), .v (.bool b.had), .v (.string b.was.id), .v (.int .i64 b.was.shape.kind), .ro (List.map ePt b.was.shape.pts), .ro (List.map bb7 b.was.tags), .v (.bool b.has), .v (.string b.now.id), .v (.int .i64 b.now.shape.kind), .ro (List.map ePt b.now.shape.pts), .ro (List.map bb7 b.now.tags)] ↔ a = b := by
 obtain ⟨i, h1, ⟨a1, ⟨k1, p1⟩, t1⟩, h2, ⟨a2, ⟨k2, p2⟩, t2⟩⟩ := a; obtain ⟨i', h1', ⟨a1', ⟨k1', p1'⟩, t1'⟩, h2', ⟨a2', ⟨k2', p2'⟩, t2'⟩⟩ := b
 simp [ad7 ib7, ad7 eP7, and_assoc]
theorem ks7 {a b : mo7} : AV.agg [.ro (List.map bz7 a.up), .v (.string a.note), .ro (List.map (cC7 false) a.diff)] = AV.agg [.ro (List.map bz7 b.up), .v (.string b.note), .ro (List.map (cC7 false) b.diff)] ↔ a = b := by
 cases a; cases b; simp [ad7 eO7, ad7 dj7]
theorem id7 {a b : Commit} : AV.agg [.ro (List.map bz7 a.up), .ro (List.map (aj7 false) a.sheet), .v (.string a.note)] = AV.agg [.ro (List.map bz7 b.up), .ro (List.map (aj7 false) b.sheet), .v (.string b.note)] ↔ a = b := by
 cases a; cases b; simp [ad7 eO7, ad7 eD7]
theorem p57 {a b : Commit} : AV.rptr [.sl false 1 (List.map bz7 a.up), .sl false 4 (List.map (aj7 false) a.sheet), .v (.string a.note)] = AV.rptr [.sl false 1 (List.map bz7 b.up), .sl false 4 (List.map (aj7 false) b.sheet), .v (.string b.note)] ↔ a = b := by
 cases a; cases b; simp [ad7 eO7, ad7 eD7]
theorem xk7 {a b : aF7} : AV.rptr [.sl false 3 (List.map (am7 false) a.commits), .sl false 2 (List.map aW7 a.heads)] = AV.rptr [.sl false 3 (List.map (am7 false) b.commits), .sl false 2 (List.map aW7 b.heads)] ↔ a = b := by
 cases a; cases b; simp [ad7 dk7, ad7 gm7]
theorem xl7 {a b : Feat} : AV.rptr [.v (.string a.id), .v (.int .i64 a.shape.kind), .sl false 2 (List.map ePt a.shape.pts), .sl false 2 (List.map bb7 a.tags)] = AV.rptr [.v (.string b.id), .v (.int .i64 b.shape.kind), .sl false 2 (List.map ePt b.shape.pts), .sl false 2 (List.map bb7 b.tags)] ↔ a = b := by
 obtain ⟨i, ⟨k, p⟩, t⟩ := a; obtain ⟨i', ⟨k', p'⟩, t'⟩ := b
 simp [ad7 ib7, ad7 eP7, and_assoc]
theorem ou7 {a b : aF7} : AV.agg [.ro (List.map (am7 false) a.commits), .ro (List.map aW7 a.heads)] = AV.agg [.ro (List.map (am7 false) b.commits), .ro (List.map aW7 b.heads)] ↔ a = b := by
 cases a; cases b; simp [ad7 dk7, ad7 gm7]
end
theorem Dz7 (hmix : P.follows .mixedOrders = true) {c : Con} (cs : List Con) {ir : IFn} {kss : List (List (Option Nat))} (hcs : ∀ c, c ∈ cs → ai7 P tb c) (hk : ve7 P tb c.f ir = true)
  (hd : ∀ G, (∀ c, c ∈ cs → Has G c) → ∀ a b, c.val a = some b → Bn7 G ir kss (c.args a) (c.ins a) (c.ans a b)) (hn : vq7 (G17 cs) = true := by exact rfl) (hl : ∀ a, (c.args a).length ≤ ir.ntmps := by exact fun _ => Nat.le_of_ble_eq_true rfl)
  (hi : ∀ a a', c.args a = c.args a' → c.ins a = c.ins a' → a = a' := by (intro a a' h _; (conv at h => lhs; whnf); (conv at h => rhs; whnf); (try simp only [List.cons.injEq, and_true, AV.v.injEq, AV.ro.injEq, Value.int.injEq, Value.string.injEq, Value.bool.injEq, true_and, ad7 eO7, ad7 jP7, ad7 eC7, ad7 ib7, ad7 eP7, ad7 gm7, ad7 gP7, ad7 jd7, ad7 eD7, ad7 dj7, ad7 gQ7, ad7 dk7, ad7 (sq7 eC7), ad7 (sq7 eO7), zP7, tL7, or7, kp7, os7, tM7, kq7, ot7, kr7, ic7, ks7, id7, ou7, AV.fn.injEq, p57, xk7, xl7] at h); (try simp only [AV.rptr.injEq, T.v.injEq, List.cons.injEq, and_true, Value.int.injEq, Value.string.injEq, Value.bool.injEq, true_and] at h); first | exact h | exact rfl | exact (Value.int.inj h).2 | exact Value.string.inj h | exact Value.bool.inj h | exact (ad7 eO7).1 h | exact (ad7 jP7).1 h | exact (ad7 eC7).1 h | exact (ad7 ib7).1 h | exact (ad7 eP7).1 h | exact (ad7 gm7).1 h | exact (ad7 gP7).1 h | exact (ad7 jd7).1 h | exact (ad7 eD7).1 h | exact (ad7 dj7).1 h | exact (ad7 gQ7).1 h | exact (ad7 dk7).1 h | exact (ad7 (sq7 eC7)).1 h | exact zP7.1 h | exact tL7.1 h | exact or7.1 h | exact kp7.1 h | exact os7.1 h | exact tM7.1 h | exact kq7.1 h | exact ot7.1 h | exact kr7.1 h | exact ic7.1 h | exact ks7.1 h | exact id7.1 h | exact ou7.1 h | exact Prod.ext h.1 h.2 | exact Prod.ext h.1 (Prod.ext h.2.1 h.2.2) | exact Prod.ext h.1 (Prod.ext h.2.1 (Prod.ext h.2.2.1 h.2.2.2)) | exact Prod.ext h.1 (Prod.ext h.2.1 (Prod.ext h.2.2.1 (Prod.ext h.2.2.2.1 h.2.2.2.2))))) : ai7 P tb c :=
 ⟨hi, fun a b hv => Cx7 hmix (p37 hcs) hk (hl a) (hd _ (tK7 hn fun c hc => (hcs c hc).1) a b hv)⟩
theorem G37 {a b : aF7} (h0 : a.commits = b.commits) (h1 : a.heads = b.heads) : a = b := by cases a; cases b; simp_all
theorem QJ7 {a b : Pt} (h0 : a.x = b.x) (h1 : a.y = b.y) : a = b := by cases a; cases b; simp_all
theorem Nk7 {a b : Tag} (h0 : a.key = b.key) (h1 : a.val = b.val) : a = b := by cases a; cases b; simp_all
theorem G47 {a b : Head} (h0 : a.name = b.name) (h1 : a.at_ = b.at_) : a = b := by cases a; cases b; simp_all
theorem DA7 {a b : aD7} (h0 : a.kind = b.kind) (h1 : a.pts = b.pts) : a = b := by cases a; cases b; simp_all
theorem G57 {a b : Feat} (h0 : a.id = b.id) (h1 : a.shape = b.shape) (h2 : a.tags = b.tags) : a = b := by cases a; cases b; simp_all
theorem zQ7 {a b : jM7} (h0 : a.id = b.id) (h1 : a.had = b.had) (h2 : a.was = b.was) (h3 : a.has = b.has) (h4 : a.now = b.now) : a = b := by cases a; cases b; simp_all
theorem DB7 {a b : mo7} (h0 : a.up = b.up) (h1 : a.note = b.note) (h2 : a.diff = b.diff) : a = b := by cases a; cases b; simp_all
theorem zR7 {a b : Commit} (h0 : a.up = b.up) (h1 : a.sheet = b.sheet) (h2 : a.note = b.note) : a = b := by cases a; cases b; simp_all
theorem DC7 {a b : aL7} (h0 : a.id = b.id) (h1 : a.what = b.what) : a = b := by cases a; cases b; simp_all
theorem G67 {a b : cI7} (h0 : a.a = b.a) (h1 : a.b = b.b) : a = b := by cases a; cases b; simp_all
theorem Nl7 {a b : Val} (h0 : a.has = b.has) (h1 : a.val = b.val) : a = b := by cases a; cases b; simp_all
theorem DD7 {a b : dh7} (h0 : a.has = b.has) (h1 : a.f = b.f) : a = b := by cases a; cases b; simp_all
theorem QK7 {a b : Rd} (h0 : a.b = b.b) (h1 : a.p = b.p) : a = b := by cases a; cases b; simp_all
theorem aw7 {c : Con} {cs : List Con} {ir : IFn} {kss : List (List (Option Nat))} (hmix : P.follows .mixedOrders = true) (hd : OkC cs c ir kss) (hcs : ∀ c, c ∈ cs → ai7 P tb c) (hk : ve7 P tb c.f ir = true := by kernel_rfl) (hn : vq7 (G17 cs) = true := by exact rfl) (hl : ∀ a, (c.args a).length ≤ ir.ntmps := by exact fun _ => Nat.le_of_ble_eq_true rfl)
  (hi : ∀ a a', c.args a = c.args a' → c.ins a = c.ins a' → a = a' := by (intro a a' h _; (conv at h => lhs; whnf); (conv at h => rhs; whnf); (try simp only [List.cons.injEq, and_true, AV.v.injEq, AV.ro.injEq, Value.int.injEq, Value.string.injEq, Value.bool.injEq, true_and, ad7 eO7, ad7 jP7, ad7 eC7, ad7 ib7, ad7 eP7, ad7 gm7, ad7 gP7, ad7 jd7, ad7 eD7, ad7 dj7, ad7 gQ7, ad7 dk7, ad7 (sq7 eC7), ad7 (sq7 eO7), zP7, tL7, or7, kp7, os7, tM7, kq7, ot7, kr7, ic7, ks7, id7, ou7, AV.fn.injEq, p57, xk7, xl7] at h); (try simp only [AV.rptr.injEq, T.v.injEq, List.cons.injEq, and_true, Value.int.injEq, Value.string.injEq, Value.bool.injEq, true_and] at h); first | exact h | exact rfl | exact (Value.int.inj h).2 | exact Value.string.inj h | exact Value.bool.inj h | exact (ad7 eO7).1 h | exact (ad7 jP7).1 h | exact (ad7 eC7).1 h | exact (ad7 ib7).1 h | exact (ad7 eP7).1 h | exact (ad7 gm7).1 h | exact (ad7 gP7).1 h | exact (ad7 jd7).1 h | exact (ad7 eD7).1 h | exact (ad7 dj7).1 h | exact (ad7 gQ7).1 h | exact (ad7 dk7).1 h | exact (ad7 (sq7 eC7)).1 h | exact zP7.1 h | exact tL7.1 h | exact or7.1 h | exact kp7.1 h | exact os7.1 h | exact tM7.1 h | exact kq7.1 h | exact ot7.1 h | exact kr7.1 h | exact ic7.1 h | exact ks7.1 h | exact id7.1 h | exact ou7.1 h | exact Prod.ext h.1 h.2 | exact Prod.ext h.1 (Prod.ext h.2.1 h.2.2) | exact Prod.ext h.1 (Prod.ext h.2.1 (Prod.ext h.2.2.1 h.2.2.2)) | exact Prod.ext h.1 (Prod.ext h.2.1 (Prod.ext h.2.2.1 (Prod.ext h.2.2.2.1 h.2.2.2.2))))) : ai7 P tb c := Dz7 hmix cs hcs hk hd hn hl hi
theorem dl7 {c : Con} {cs : List Con} {ir : IFn} {kss : List (List (Option Nat))} (hmix : P.follows .mixedOrders = true) (hd : OkC cs c ir kss) (hcs : ∀ c, c ∈ cs → ai7 P tb c) (hk : ve7 P tb c.f ir = true := by kernel_rfl) (hn : vq7 (G17 cs) = true := by exact rfl) (hl : ∀ a, (c.args a).length ≤ ir.ntmps := by exact fun _ => Nat.le_of_ble_eq_true rfl)
  (hi : ∀ a a', c.args a = c.args a' → c.ins a = c.ins a' → a = a' := by (intro a a' h1 h2; (conv at h1 => lhs; whnf); (conv at h1 => rhs; whnf); (conv at h2 => lhs; whnf); (conv at h2 => rhs; whnf); (try simp only [AV.agg.injEq, AV.io.injEq, AV.pio.injEq, T.sl.injEq, T.v.injEq, T.rw.injEq, AV.raw.injEq, AV.v.injEq, AV.ro.injEq, List.cons.injEq, Value.int.injEq, Value.string.injEq, Value.bool.injEq, Prod.mk.injEq, ad7 eO7, ad7 jP7, ad7 eC7, ad7 G27, ad7 ib7, ad7 eP7, ad7 gm7, ad7 gP7, ad7 jd7, ad7 eD7, ad7 dj7, ad7 gQ7, ad7 dk7, true_and, and_true] at h1); (try simp only [AV.agg.injEq, AV.io.injEq, AV.pio.injEq, T.sl.injEq, T.v.injEq, T.rw.injEq, AV.raw.injEq, AV.v.injEq, AV.ro.injEq, List.cons.injEq, Value.int.injEq, Value.string.injEq, Value.bool.injEq, Prod.mk.injEq, ad7 eO7, ad7 jP7, ad7 eC7, ad7 G27, ad7 ib7, ad7 eP7, ad7 gm7, ad7 gP7, ad7 jd7, ad7 eD7, ad7 dj7, ad7 gQ7, ad7 dk7, true_and, and_true] at h2); (repeat' (first | apply Prod.ext | apply G37 | apply QJ7 | apply Nk7 | apply G47 | apply DA7 | apply G57 | apply zQ7 | apply DB7 | apply zR7 | apply DC7 | apply G67 | apply Nl7 | apply DD7 | apply QK7)) <;> first | exact rfl | (simp_all; done))) : ai7 P tb c := Dz7 hmix cs hcs hk hd hn hl hi
end Go.Proofs.AM
