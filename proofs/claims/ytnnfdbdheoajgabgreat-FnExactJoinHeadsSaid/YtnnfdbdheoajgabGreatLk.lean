/- Lemmas of the proof (Lk), on an abstract machine. Conditions: none. -/
import Derived.Test.YtnnfdbdheoajgabGreatG3
import Derived.Test.YtnnfdbdheoajgabGreatHFn
set_option linter.unusedVariables false
namespace Go.Proofs.AM
variable {P : Program} {tb : Tab}
def lk : List (Nat × Nat) → Nat → Nat
 | [], _ => 0
 | (a, b) :: r, k => if a = k then b else lk r k
def ag7 (P : Program) (tb : Tab) (c : Con) : Prop := (∀ a a', c.args a = c.args a' → c.ins a = c.ins a' → a = a') ∧ ∀ a b, c.val a = some b → HU7 P tb c.f (c.args a) (c.ins a) (c.ans a b)
open Classical in
noncomputable def HB7 : List Con → Gam
 | [], _, _, _ => none
 | c :: cs, f, xs, ins => if h : c.f = f ∧ ∃ p : c.A × c.B, c.args p.1 = xs ∧ c.ins p.1 = ins ∧ c.val p.1 = some p.2 then some (c.ans (Classical.choose h.2).1 (Classical.choose h.2).2) else HB7 cs f xs ins
theorem qr7 : ∀ {cs : List Con}, (∀ c, c ∈ cs → ag7 P tb c) → dD7 P tb (HB7 cs)
 | [], h, f, xs, ins, ans, hg => by cases hg
 | c :: cs, h, f, xs, ins, ans, hg => by
  simp only [HB7] at hg
  split at hg
  ·rename_i hh
   obtain ⟨rfl, hex⟩ := hh
   have h1 := Classical.choose_spec hex
   simp only [Option.some.injEq] at hg
   subst hg
   generalize Classical.choose hex = p at h1
   obtain ⟨a, b⟩ := p
   obtain ⟨rfl, rfl, h2⟩ := h1
   exact (h c (by simp)).2 _ _ h2
  ·exact qr7 (fun c hc => h c (by simp [hc])) f xs ins ans hg
def I97 (cs : List Con) : List Nat := cs.map (·.f)
def wh7 : List Nat → Bool
 | [] => true
 | x :: xs => !xs.contains x && wh7 xs
theorem uj7 : ∀ {cs : List Con}, wh7 (I97 cs) = true → (∀ c, c ∈ cs → ∀ a a', c.args a = c.args a' → c.ins a = c.ins a' → a = a') → ∀ c, c ∈ cs → Has (HB7 cs) c
 | [], hn, hi, c, hc => by cases hc
 | c0 :: cs, hn, hi, c, hc => by
  intro a b hv
  simp only [I97, List.map_cons, wh7, Bool.and_eq_true, Bool.not_eq_true'] at hn
  rcases List.mem_cons.1 hc with rfl | hc
  ·have hex : ∃ p : c.A × c.B, c.args p.1 = c.args a ∧ c.ins p.1 = c.ins a ∧ c.val p.1 = some p.2 := ⟨(a, b), rfl, rfl, hv⟩
   simp only [HB7]
   rw [dif_pos ⟨rfl, hex⟩]
   have h1 := Classical.choose_spec hex
   generalize Classical.choose hex = p at h1
   obtain ⟨a', b'⟩ := p
   have h2 := hi c (by simp) _ _ h1.1 h1.2.1
   have h3 := h1.2.2
   simp only at h2 h3
   subst h2
   rw [hv] at h3
   cases Option.some.inj h3
   rfl
  ·simp only [HB7]
   rw [dif_neg]
   ·exact uj7 hn.2 (fun c hc => hi c (by simp [hc])) c hc a b hv
   ·rintro ⟨h1, _⟩
    have : (cs.map (·.f)).contains c0.f = true := by
     rw [List.contains_iff_mem, List.mem_map]
     exact ⟨c, hc, h1.symm⟩
    rw [this] at hn
    exact absurd hn.1 (by simp)
theorem all_nil : ∀ c, c ∈ ([] : List Con) → ag7 P tb c := fun c hc => by cases hc
theorem all_cons {c0 : Con} {cs : List Con} (h : ag7 P tb c0) (hs : ∀ c, c ∈ cs → ag7 P tb c) : ∀ c, c ∈ c0 :: cs → ag7 P tb c := fun c hc => by
 rcases List.mem_cons.1 hc with rfl | hc
 ·exact h
 ·exact hs c hc
section
variable {α : Type} {f : α → List T}
theorem ad7 (hf : ∀ a b, f a = f b → a = b) {xs ys : List α} : xs.map f = ys.map f ↔ xs = ys := ⟨xL7 hf, fun h => by rw [h]⟩
theorem qs7 {m : Bool} {k : Nat} {a b : Rows} : sl m k a = sl m k b ↔ a = b := ⟨H97, fun h => by rw [h]⟩
theorem eA7 (a b : Int) (h : be7 a = be7 b) : a = b := by simpa [be7] using h
theorem ep7 (a b : Bool) (h : bI7 a = bI7 b) : a = b := by simpa [bI7] using h
theorem jK7 (a b : Str) (h : ca7 a = ca7 b) : a = b := by simpa [ca7] using h
theorem Ja7 (a b : UInt8) (h : eU8 a = eU8 b) : a = b := by
 have : (a.toNat : Int) = b.toNat := by simpa [eU8] using h
 exact UInt8.toNat_inj.1 (by omega)
theorem h57 (a b : Pt) (h : ePt a = ePt b) : a = b := by cases a; cases b; simpa [ePt] using h
theorem eB7 (a b : Tag) (h : aX7 a = aX7 b) : a = b := by cases a; cases b; simpa [aX7] using h
theorem gg7 (a b : bg7) (h : aw7 a = aw7 b) : a = b := by cases a; cases b; simpa [aw7] using h
theorem gy7 (a b : ap7) (h : aM7 a = aM7 b) : a = b := by cases a; cases b; simpa [aM7] using h
theorem i67 (a b : cv7) (h : gd7 a = gd7 b) : a = b := by cases a; cases b; simpa [gd7] using h
theorem sZ7 {m : Bool} {k : Nat} (hf : ∀ a b, f a = f b → a = b) (a b : List α) (h : eSl m k f a = eSl m k f b) : a = b := by
 simp only [eSl, List.cons.injEq, and_true, qs7, ad7 hf] at h
 exact h
theorem eq7 {m : Bool} (a b : Feat) (h : am7 m a = am7 m b) : a = b := by
 obtain ⟨i, ⟨k, p⟩, t⟩ := a; obtain ⟨i', ⟨k', p'⟩, t'⟩ := b
 simp only [am7, List.cons.injEq, T.v.injEq, Value.string.injEq, Value.int.injEq, qs7, ad7 h57, ad7 eB7, true_and, and_true] at h
 obtain ⟨rfl, rfl, rfl, rfl⟩ := h
 rfl
theorem dd7 {m : Bool} (a b : jG7) (h : co7 m a = co7 m b) : a = b := by
 obtain ⟨i, h1, ⟨a1, ⟨k1, p1⟩, t1⟩, h2, ⟨a2, ⟨k2, p2⟩, t2⟩⟩ := a; obtain ⟨i', h1', ⟨a1', ⟨k1', p1'⟩, t1'⟩, h2', ⟨a2', ⟨k2', p2'⟩, t2'⟩⟩ := b
 simp only [co7, List.cons.injEq, T.v.injEq, Value.string.injEq, Value.int.injEq, Value.bool.injEq, qs7, ad7 h57, ad7 eB7, true_and, and_true] at h
 obtain ⟨rfl, rfl, rfl, rfl, rfl, rfl, rfl, rfl, rfl, rfl, rfl⟩ := h
 rfl
theorem gz7 {m : Bool} (a b : mG7) (h : fO7 m a = fO7 m b) : a = b := by
 cases a; cases b
 simp only [fO7, List.cons.injEq, T.v.injEq, Value.string.injEq, qs7, ad7 eA7, ad7 dd7, and_true] at h
 obtain ⟨rfl, rfl, rfl⟩ := h
 rfl
theorem de7 {m : Bool} (a b : Commit) (h : af7 m a = af7 m b) : a = b := by
 cases a; cases b
 simp only [af7, List.cons.injEq, T.v.injEq, Value.string.injEq, qs7, ad7 eA7, ad7 eq7, and_true] at h
 obtain ⟨rfl, rfl, rfl⟩ := h
 rfl
theorem AU7 {a b : Pt} : AV.agg [.v (.int .i64 a.x), .v (.int .i64 a.y)] = AV.agg [.v (.int .i64 b.x), .v (.int .i64 b.y)] ↔ a = b := by
 cases a; cases b; simp
theorem uk7 {a b : Tag} : AV.agg [.v (.string a.key), .v (.string a.val)] = AV.agg [.v (.string b.key), .v (.string b.val)] ↔ a = b := by
 cases a; cases b; simp
theorem oG7 {a b : bg7} : AV.agg [.v (.string a.name), .v (.int .i64 a.at_)] = AV.agg [.v (.string b.name), .v (.int .i64 b.at_)] ↔ a = b := by
 cases a; cases b; simp
theorem kw7 {a b : ap7} : AV.agg [.v (.string a.id), .v (.string a.what)] = AV.agg [.v (.string b.id), .v (.string b.what)] ↔ a = b := by
 cases a; cases b; simp
theorem oH7 {a b : cv7} : AV.agg [.v (.int .i64 a.a), .v (.int .i64 a.b)] = AV.agg [.v (.int .i64 b.a), .v (.int .i64 b.b)] ↔ a = b := by
 cases a; cases b; simp
theorem ul7 {a b : Val} : AV.agg [.v (.bool a.has), .v (.string a.val)] = AV.agg [.v (.bool b.has), .v (.string b.val)] ↔ a = b := by
 cases a; cases b; simp
theorem kx7 {a b : aR7} : AV.agg [.v (.int .i64 a.kind), .ro (List.map ePt a.pts)] = AV.agg [.v (.int .i64 b.kind), .ro (List.map ePt b.pts)] ↔ a = b := by
 cases a; cases b; simp [ad7 h57]
theorem oI7 {a b : Feat} : AV.agg [.v (.string a.id), .v (.int .i64 a.shape.kind), .ro (List.map ePt a.shape.pts), .ro (List.map aX7 a.tags)] = AV.agg [.v (.string b.id), .v (.int .i64 b.shape.kind), .ro (List.map ePt b.shape.pts), .ro (List.map aX7 b.tags)] ↔ a = b := by
 obtain ⟨i, ⟨k, p⟩, t⟩ := a; obtain ⟨i', ⟨k', p'⟩, t'⟩ := b
 simp [ad7 h57, ad7 eB7, and_assoc]
theorem ky7 {a b : db7} : AV.agg [.v (.bool a.has), .v (.string a.f.id), .v (.int .i64 a.f.shape.kind), .ro (List.map ePt a.f.shape.pts), .ro (List.map aX7 a.f.tags)] = AV.agg [.v (.bool b.has), .v (.string b.f.id), .v (.int .i64 b.f.shape.kind), .ro (List.map ePt b.f.shape.pts), .ro (List.map aX7 b.f.tags)] ↔ a = b := by
 obtain ⟨h, i, ⟨k, p⟩, t⟩ := a; obtain ⟨h', i', ⟨k', p'⟩, t'⟩ := b
 simp [ad7 h57, ad7 eB7, and_assoc]
theorem h67 {a b : jG7} : AV.agg [.v (.string a.id), .v (.bool a.had), .v (.string a.was.id), .v (.int .i64 a.was.shape.kind), .ro (List.map ePt a.was.shape.pts), .ro (List.map aX7 a.was.tags), .v (.bool a.has), .v (.string a.now.id), .v (.int .i64 a.now.shape.kind), .ro (List.map ePt a.now.shape.pts), .ro (List.map aX7 a.now.tags)] = AV.agg [.v (.string b.id), .v (.bool b.had), .v (.string b.was.id), .v (.int .i64 b.was.shape.kind), .ro (List.map ePt b.was.shape.pts), .ro (List.map aX7 b.was.tags), .v (.bool b.has), .v (.string b.now.id), .v (.int .i64 b.now.shape.kind), .ro (List.map ePt b.now.shape.pts), .ro (List.map aX7 b.now.tags)] ↔ a = b := by
 obtain ⟨i, h1, ⟨a1, ⟨k1, p1⟩, t1⟩, h2, ⟨a2, ⟨k2, p2⟩, t2⟩⟩ := a; obtain ⟨i', h1', ⟨a1', ⟨k1', p1'⟩, t1'⟩, h2', ⟨a2', ⟨k2', p2'⟩, t2'⟩⟩ := b
 simp [ad7 h57, ad7 eB7, and_assoc]
theorem kz7 {a b : mG7} : AV.agg [.ro (List.map be7 a.up), .v (.string a.note), .ro (List.map (co7 false) a.diff)] = AV.agg [.ro (List.map be7 b.up), .v (.string b.note), .ro (List.map (co7 false) b.diff)] ↔ a = b := by
 cases a; cases b; simp [ad7 eA7, ad7 dd7]
theorem h77 {a b : Commit} : AV.agg [.ro (List.map be7 a.up), .ro (List.map (am7 false) a.sheet), .v (.string a.note)] = AV.agg [.ro (List.map be7 b.up), .ro (List.map (am7 false) b.sheet), .v (.string b.note)] ↔ a = b := by
 cases a; cases b; simp [ad7 eA7, ad7 eq7]
theorem qt7 {a b : Commit} : AV.rptr [.sl false 1 (List.map be7 a.up), .sl false 4 (List.map (am7 false) a.sheet), .v (.string a.note)] = AV.rptr [.sl false 1 (List.map be7 b.up), .sl false 4 (List.map (am7 false) b.sheet), .v (.string b.note)] ↔ a = b := by
 cases a; cases b; simp [ad7 eA7, ad7 eq7]
theorem yl7 {a b : az7} : AV.rptr [.sl false 3 (List.map (af7 false) a.commits), .sl false 2 (List.map aw7 a.heads)] = AV.rptr [.sl false 3 (List.map (af7 false) b.commits), .sl false 2 (List.map aw7 b.heads)] ↔ a = b := by
 cases a; cases b; simp [ad7 de7, ad7 gg7]
theorem ym7 {a b : Feat} : AV.rptr [.v (.string a.id), .v (.int .i64 a.shape.kind), .sl false 2 (List.map ePt a.shape.pts), .sl false 2 (List.map aX7 a.tags)] = AV.rptr [.v (.string b.id), .v (.int .i64 b.shape.kind), .sl false 2 (List.map ePt b.shape.pts), .sl false 2 (List.map aX7 b.tags)] ↔ a = b := by
 obtain ⟨i, ⟨k, p⟩, t⟩ := a; obtain ⟨i', ⟨k', p'⟩, t'⟩ := b
 simp [ad7 h57, ad7 eB7, and_assoc]
theorem oJ7 {a b : az7} : AV.agg [.ro (List.map (af7 false) a.commits), .ro (List.map aw7 a.heads)] = AV.agg [.ro (List.map (af7 false) b.commits), .ro (List.map aw7 b.heads)] ↔ a = b := by
 cases a; cases b; simp [ad7 de7, ad7 gg7]
end
theorem EU7 (hmix : P.follows .mixedOrders = true) {c : Con} (cs : List Con) {ir : IFn} {kss : List (List (Option Nat))} (hcs : ∀ c, c ∈ cs → ag7 P tb c) (hk : v27 P tb c.f ir = true)
  (hd : ∀ G, (∀ c, c ∈ cs → Has G c) → ∀ a b, c.val a = some b → CP7 G ir kss (c.args a) (c.ins a) (c.ans a b)) (hn : wh7 (I97 cs) = true := by exact rfl) (hl : ∀ a, (c.args a).length ≤ ir.ntmps := by exact fun _ => Nat.le_of_ble_eq_true rfl)
  (hi : ∀ a a', c.args a = c.args a' → c.ins a = c.ins a' → a = a' := by (intro a a' h _; (conv at h => lhs; whnf); (conv at h => rhs; whnf); (try simp only [List.cons.injEq, and_true, AV.v.injEq, AV.ro.injEq, Value.int.injEq, Value.string.injEq, Value.bool.injEq, true_and, ad7 eA7, ad7 jK7, ad7 ep7, ad7 h57, ad7 eB7, ad7 gg7, ad7 gy7, ad7 i67, ad7 eq7, ad7 dd7, ad7 gz7, ad7 de7, ad7 (sZ7 ep7), ad7 (sZ7 eA7), AU7, uk7, oG7, kw7, oH7, ul7, kx7, oI7, ky7, h67, kz7, h77, oJ7, AV.fn.injEq, qt7, yl7, ym7] at h); (try simp only [AV.rptr.injEq, T.v.injEq, List.cons.injEq, and_true, Value.int.injEq, Value.string.injEq, Value.bool.injEq, true_and] at h); first | exact h | exact rfl | exact (Value.int.inj h).2 | exact Value.string.inj h | exact Value.bool.inj h | exact (ad7 eA7).1 h | exact (ad7 jK7).1 h | exact (ad7 ep7).1 h | exact (ad7 h57).1 h | exact (ad7 eB7).1 h | exact (ad7 gg7).1 h | exact (ad7 gy7).1 h | exact (ad7 i67).1 h | exact (ad7 eq7).1 h | exact (ad7 dd7).1 h | exact (ad7 gz7).1 h | exact (ad7 de7).1 h | exact (ad7 (sZ7 ep7)).1 h | exact AU7.1 h | exact uk7.1 h | exact oG7.1 h | exact kw7.1 h | exact oH7.1 h | exact ul7.1 h | exact kx7.1 h | exact oI7.1 h | exact ky7.1 h | exact h67.1 h | exact kz7.1 h | exact h77.1 h | exact oJ7.1 h | exact Prod.ext h.1 h.2 | exact Prod.ext h.1 (Prod.ext h.2.1 h.2.2) | exact Prod.ext h.1 (Prod.ext h.2.1 (Prod.ext h.2.2.1 h.2.2.2)) | exact Prod.ext h.1 (Prod.ext h.2.1 (Prod.ext h.2.2.1 (Prod.ext h.2.2.2.1 h.2.2.2.2))))) : ag7 P tb c :=
 ⟨hi, fun a b hv => DU7 hmix (qr7 hcs) hk (hl a) (hd _ (uj7 hn fun c hc => (hcs c hc).1) a b hv)⟩
theorem Jb7 {a b : az7} (h0 : a.commits = b.commits) (h1 : a.heads = b.heads) : a = b := by cases a; cases b; simp_all
theorem UN7 {a b : Pt} (h0 : a.x = b.x) (h1 : a.y = b.y) : a = b := by cases a; cases b; simp_all
theorem QF7 {a b : Tag} (h0 : a.key = b.key) (h1 : a.val = b.val) : a = b := by cases a; cases b; simp_all
theorem Jc7 {a b : bg7} (h0 : a.name = b.name) (h1 : a.at_ = b.at_) : a = b := by cases a; cases b; simp_all
theorem EV7 {a b : aR7} (h0 : a.kind = b.kind) (h1 : a.pts = b.pts) : a = b := by cases a; cases b; simp_all
theorem Jd7 {a b : Feat} (h0 : a.id = b.id) (h1 : a.shape = b.shape) (h2 : a.tags = b.tags) : a = b := by cases a; cases b; simp_all
theorem AV7 {a b : jG7} (h0 : a.id = b.id) (h1 : a.had = b.had) (h2 : a.was = b.was) (h3 : a.has = b.has) (h4 : a.now = b.now) : a = b := by cases a; cases b; simp_all
theorem EW7 {a b : mG7} (h0 : a.up = b.up) (h1 : a.note = b.note) (h2 : a.diff = b.diff) : a = b := by cases a; cases b; simp_all
theorem AW7 {a b : Commit} (h0 : a.up = b.up) (h1 : a.sheet = b.sheet) (h2 : a.note = b.note) : a = b := by cases a; cases b; simp_all
theorem EX7 {a b : ap7} (h0 : a.id = b.id) (h1 : a.what = b.what) : a = b := by cases a; cases b; simp_all
theorem Je7 {a b : cv7} (h0 : a.a = b.a) (h1 : a.b = b.b) : a = b := by cases a; cases b; simp_all
theorem QG7 {a b : Val} (h0 : a.has = b.has) (h1 : a.val = b.val) : a = b := by cases a; cases b; simp_all
theorem EY7 {a b : db7} (h0 : a.has = b.has) (h1 : a.f = b.f) : a = b := by cases a; cases b; simp_all
theorem UO7 {a b : Rd} (h0 : a.b = b.b) (h1 : a.p = b.p) : a = b := by cases a; cases b; simp_all
theorem ak7 {c : Con} {cs : List Con} {ir : IFn} {kss : List (List (Option Nat))} (hmix : P.follows .mixedOrders = true) (hd : OkC cs c ir kss) (hcs : ∀ c, c ∈ cs → ag7 P tb c) (hk : v27 P tb c.f ir = true := by kernel_rfl) (hn : wh7 (I97 cs) = true := by exact rfl) (hl : ∀ a, (c.args a).length ≤ ir.ntmps := by exact fun _ => Nat.le_of_ble_eq_true rfl)
  (hi : ∀ a a', c.args a = c.args a' → c.ins a = c.ins a' → a = a' := by (intro a a' h _; (conv at h => lhs; whnf); (conv at h => rhs; whnf); (try simp only [List.cons.injEq, and_true, AV.v.injEq, AV.ro.injEq, Value.int.injEq, Value.string.injEq, Value.bool.injEq, true_and, ad7 eA7, ad7 jK7, ad7 ep7, ad7 h57, ad7 eB7, ad7 gg7, ad7 gy7, ad7 i67, ad7 eq7, ad7 dd7, ad7 gz7, ad7 de7, ad7 (sZ7 ep7), ad7 (sZ7 eA7), AU7, uk7, oG7, kw7, oH7, ul7, kx7, oI7, ky7, h67, kz7, h77, oJ7, AV.fn.injEq, qt7, yl7, ym7] at h); (try simp only [AV.rptr.injEq, T.v.injEq, List.cons.injEq, and_true, Value.int.injEq, Value.string.injEq, Value.bool.injEq, true_and] at h); first | exact h | exact rfl | exact (Value.int.inj h).2 | exact Value.string.inj h | exact Value.bool.inj h | exact (ad7 eA7).1 h | exact (ad7 jK7).1 h | exact (ad7 ep7).1 h | exact (ad7 h57).1 h | exact (ad7 eB7).1 h | exact (ad7 gg7).1 h | exact (ad7 gy7).1 h | exact (ad7 i67).1 h | exact (ad7 eq7).1 h | exact (ad7 dd7).1 h | exact (ad7 gz7).1 h | exact (ad7 de7).1 h | exact (ad7 (sZ7 ep7)).1 h | exact AU7.1 h | exact uk7.1 h | exact oG7.1 h | exact kw7.1 h | exact oH7.1 h | exact ul7.1 h | exact kx7.1 h | exact oI7.1 h | exact ky7.1 h | exact h67.1 h | exact kz7.1 h | exact h77.1 h | exact oJ7.1 h | exact Prod.ext h.1 h.2 | exact Prod.ext h.1 (Prod.ext h.2.1 h.2.2) | exact Prod.ext h.1 (Prod.ext h.2.1 (Prod.ext h.2.2.1 h.2.2.2)) | exact Prod.ext h.1 (Prod.ext h.2.1 (Prod.ext h.2.2.1 (Prod.ext h.2.2.2.1 h.2.2.2.2))))) : ag7 P tb c := EU7 hmix cs hcs hk hd hn hl hi
theorem ll7 {c : Con} {cs : List Con} {ir : IFn} {kss : List (List (Option Nat))} (hmix : P.follows .mixedOrders = true) (hd : OkC cs c ir kss) (hcs : ∀ c, c ∈ cs → ag7 P tb c) (hk : v27 P tb c.f ir = true := by kernel_rfl) (hn : wh7 (I97 cs) = true := by exact rfl) (hl : ∀ a, (c.args a).length ≤ ir.ntmps := by exact fun _ => Nat.le_of_ble_eq_true rfl)
  (hi : ∀ a a', c.args a = c.args a' → c.ins a = c.ins a' → a = a' := by (intro a a' h1 h2; (conv at h1 => lhs; whnf); (conv at h1 => rhs; whnf); (conv at h2 => lhs; whnf); (conv at h2 => rhs; whnf); (try simp only [AV.agg.injEq, AV.io.injEq, AV.pio.injEq, T.sl.injEq, T.v.injEq, T.rw.injEq, AV.raw.injEq, AV.v.injEq, AV.ro.injEq, List.cons.injEq, Value.int.injEq, Value.string.injEq, Value.bool.injEq, Prod.mk.injEq, ad7 eA7, ad7 jK7, ad7 ep7, ad7 Ja7, ad7 h57, ad7 eB7, ad7 gg7, ad7 gy7, ad7 i67, ad7 eq7, ad7 dd7, ad7 gz7, ad7 de7, true_and, and_true] at h1); (try simp only [AV.agg.injEq, AV.io.injEq, AV.pio.injEq, T.sl.injEq, T.v.injEq, T.rw.injEq, AV.raw.injEq, AV.v.injEq, AV.ro.injEq, List.cons.injEq, Value.int.injEq, Value.string.injEq, Value.bool.injEq, Prod.mk.injEq, ad7 eA7, ad7 jK7, ad7 ep7, ad7 Ja7, ad7 h57, ad7 eB7, ad7 gg7, ad7 gy7, ad7 i67, ad7 eq7, ad7 dd7, ad7 gz7, ad7 de7, true_and, and_true] at h2); (repeat' (first | apply Prod.ext | apply Jb7 | apply UN7 | apply QF7 | apply Jc7 | apply EV7 | apply Jd7 | apply AV7 | apply EW7 | apply AW7 | apply EX7 | apply Je7 | apply QG7 | apply EY7 | apply UO7)) <;> first | exact rfl | (simp_all; done))) : ag7 P tb c := EU7 hmix cs hcs hk hd hn hl hi
end Go.Proofs.AM
