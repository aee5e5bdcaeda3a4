/- Lemmas of the proof (Lk), on an abstract machine. Conditions: none. -/
import Derived.Test.YtnnfdbdheoajgaaGreatG3
import Derived.Test.YtnnfdbdheoajgaaGreatHFn
set_option linter.unusedVariables false
namespace Go.Proofs.AM
variable {P : Program} {tb : Tab}
def lk : List (Nat × Nat) → Nat → Nat
 | [], _ => 0
 | (a, b) :: r, k => if a = k then b else lk r k
def ah7 (P : Program) (tb : Tab) (c : Con) : Prop := (∀ a a', c.args a = c.args a' → c.ins a = c.ins a' → a = a') ∧ ∀ a b, c.val a = some b → F67 P tb c.f (c.args a) (c.ins a) (c.ans a b)
open Classical in
noncomputable def FR7 : List Con → Gam
 | [], _, _, _ => none
 | c :: cs, f, xs, ins => if h : c.f = f ∧ ∃ p : c.A × c.B, c.args p.1 = xs ∧ c.ins p.1 = ins ∧ c.val p.1 = some p.2 then some (c.ans (Classical.choose h.2).1 (Classical.choose h.2).2) else FR7 cs f xs ins
theorem qw7 : ∀ {cs : List Con}, (∀ c, c ∈ cs → ah7 P tb c) → dT7 P tb (FR7 cs)
 | [], h, f, xs, ins, ans, hg => by cases hg
 | c :: cs, h, f, xs, ins, ans, hg => by
  simp only [FR7] at hg
  split at hg
  ·rename_i hh
   obtain ⟨rfl, hex⟩ := hh
   have h1 := Classical.choose_spec hex
   simp only [Option.some.injEq] at hg
   subst hg
   generalize Classical.choose hex = p at h1
   obtain ⟨a, b⟩ := p
   obtain ⟨rfl, rfl, h2⟩ := h1
   exact (h c (by simp)).2 _ _ h2
  ·exact qw7 (fun c hc => h c (by simp [hc])) f xs ins ans hg
def He7 (cs : List Con) : List Nat := cs.map (·.f)
def vE7 : List Nat → Bool
 | [] => true
 | x :: xs => !xs.contains x && vE7 xs
theorem t37 : ∀ {cs : List Con}, vE7 (He7 cs) = true → (∀ c, c ∈ cs → ∀ a a', c.args a = c.args a' → c.ins a = c.ins a' → a = a') → ∀ c, c ∈ cs → Has (FR7 cs) c
 | [], hn, hi, c, hc => by cases hc
 | c0 :: cs, hn, hi, c, hc => by
  intro a b hv
  simp only [He7, List.map_cons, vE7, Bool.and_eq_true, Bool.not_eq_true'] at hn
  rcases List.mem_cons.1 hc with rfl | hc
  ·have hex : ∃ p : c.A × c.B, c.args p.1 = c.args a ∧ c.ins p.1 = c.ins a ∧ c.val p.1 = some p.2 := ⟨(a, b), rfl, rfl, hv⟩
   simp only [FR7]
   rw [dif_pos ⟨rfl, hex⟩]
   have h1 := Classical.choose_spec hex
   generalize Classical.choose hex = p at h1
   obtain ⟨a', b'⟩ := p
   have h2 := hi c (by simp) _ _ h1.1 h1.2.1
   have h3 := h1.2.2
   simp only at h2 h3
   subst h2
   rw [hv] at h3
   cases Option.some.inj h3
   rfl
  ·simp only [FR7]
   rw [dif_neg]
   ·exact t37 hn.2 (fun c hc => hi c (by simp [hc])) c hc a b hv
   ·rintro ⟨h1, _⟩
    have : (cs.map (·.f)).contains c0.f = true := by
     rw [List.contains_iff_mem, List.mem_map]
     exact ⟨c, hc, h1.symm⟩
    rw [this] at hn
    exact absurd hn.1 (by simp)
theorem all_nil : ∀ c, c ∈ ([] : List Con) → ah7 P tb c := fun c hc => by cases hc
theorem all_cons {c0 : Con} {cs : List Con} (h : ah7 P tb c0) (hs : ∀ c, c ∈ cs → ah7 P tb c) : ∀ c, c ∈ c0 :: cs → ah7 P tb c := fun c hc => by
 rcases List.mem_cons.1 hc with rfl | hc
 ·exact h
 ·exact hs c hc
section
variable {α : Type} {f : α → List T}
theorem ad7 (hf : ∀ a b, f a = f b → a = b) {xs ys : List α} : xs.map f = ys.map f ↔ xs = ys := ⟨w37 hf, fun h => by rw [h]⟩
theorem qx7 {m : Bool} {k : Nat} {a b : Rows} : sl m k a = sl m k b ↔ a = b := ⟨Gl7, fun h => by rw [h]⟩
theorem eX7 (a b : Int) (h : bo7 a = bo7 b) : a = b := by simpa [bo7] using h
theorem eM7 (a b : Bool) (h : bK7 a = bK7 b) : a = b := by simpa [bK7] using h
theorem j47 (a b : Str) (h : cK7 a = cK7 b) : a = b := by simpa [cK7] using h
theorem Hf7 (a b : UInt8) (h : eU8 a = eU8 b) : a = b := by
 have : (a.toNat : Int) = b.toNat := by simpa [eU8] using h
 exact UInt8.toNat_inj.1 (by omega)
theorem ir7 (a b : Pt) (h : ePt a = ePt b) : a = b := by cases a; cases b; simpa [ePt] using h
theorem eY7 (a b : Tag) (h : bg7 a = bg7 b) : a = b := by cases a; cases b; simpa [bg7] using h
theorem gz7 (a b : Head) (h : az7 a = az7 b) : a = b := by cases a; cases b; simpa [az7] using h
theorem gW7 (a b : ax7) (h : bc7 a = bc7 b) : a = b := by cases a; cases b; simpa [bc7] using h
theorem ju7 (a b : cM7) (h : fj7 a = fj7 b) : a = b := by cases a; cases b; simpa [fj7] using h
theorem sN7 {m : Bool} {k : Nat} (hf : ∀ a b, f a = f b → a = b) (a b : List α) (h : eSl m k f a = eSl m k f b) : a = b := by
 simp only [eSl, List.cons.injEq, and_true, qx7, ad7 hf] at h
 exact h
theorem eN7 {m : Bool} (a b : Feat) (h : ak7 m a = ak7 m b) : a = b := by
 obtain ⟨i, ⟨k, p⟩, t⟩ := a; obtain ⟨i', ⟨k', p'⟩, t'⟩ := b
 simp only [ak7, List.cons.injEq, T.v.injEq, Value.string.injEq, Value.int.injEq, qx7, ad7 ir7, ad7 eY7, true_and, and_true] at h
 obtain ⟨rfl, rfl, rfl, rfl⟩ := h
 rfl
theorem dr7 {m : Bool} (a b : j17) (h : cC7 m a = cC7 m b) : a = b := by
 obtain ⟨i, h1, ⟨a1, ⟨k1, p1⟩, t1⟩, h2, ⟨a2, ⟨k2, p2⟩, t2⟩⟩ := a; obtain ⟨i', h1', ⟨a1', ⟨k1', p1'⟩, t1'⟩, h2', ⟨a2', ⟨k2', p2'⟩, t2'⟩⟩ := b
 simp only [cC7, List.cons.injEq, T.v.injEq, Value.string.injEq, Value.int.injEq, Value.bool.injEq, qx7, ad7 ir7, ad7 eY7, true_and, and_true] at h
 obtain ⟨rfl, rfl, rfl, rfl, rfl, rfl, rfl, rfl, rfl, rfl, rfl⟩ := h
 rfl
theorem gX7 {m : Bool} (a b : mT7) (h : ga7 m a = ga7 m b) : a = b := by
 cases a; cases b
 simp only [ga7, List.cons.injEq, T.v.injEq, Value.string.injEq, qx7, ad7 eX7, ad7 dr7, and_true] at h
 obtain ⟨rfl, rfl, rfl⟩ := h
 rfl
theorem ds7 {m : Bool} (a b : Commit) (h : af7 m a = af7 m b) : a = b := by
 cases a; cases b
 simp only [af7, List.cons.injEq, T.v.injEq, Value.string.injEq, qx7, ad7 eX7, ad7 eN7, and_true] at h
 obtain ⟨rfl, rfl, rfl⟩ := h
 rfl
theorem z77 {a b : Pt} : AV.agg [.v (.int .i64 a.x), .v (.int .i64 a.y)] = AV.agg [.v (.int .i64 b.x), .v (.int .i64 b.y)] ↔ a = b := by
 cases a; cases b; simp
theorem t47 {a b : Tag} : AV.agg [.v (.string a.key), .v (.string a.val)] = AV.agg [.v (.string b.key), .v (.string b.val)] ↔ a = b := by
 cases a; cases b; simp
theorem oT7 {a b : Head} : AV.agg [.v (.string a.name), .v (.int .i64 a.at_)] = AV.agg [.v (.string b.name), .v (.int .i64 b.at_)] ↔ a = b := by
 cases a; cases b; simp
theorem kP7 {a b : ax7} : AV.agg [.v (.string a.id), .v (.string a.what)] = AV.agg [.v (.string b.id), .v (.string b.what)] ↔ a = b := by
 cases a; cases b; simp
theorem oU7 {a b : cM7} : AV.agg [.v (.int .i64 a.a), .v (.int .i64 a.b)] = AV.agg [.v (.int .i64 b.a), .v (.int .i64 b.b)] ↔ a = b := by
 cases a; cases b; simp
theorem t57 {a b : Val} : AV.agg [.v (.bool a.has), .v (.string a.val)] = AV.agg [.v (.bool b.has), .v (.string b.val)] ↔ a = b := by
 cases a; cases b; simp
theorem kQ7 {a b : aL7} : AV.agg [.v (.int .i64 a.kind), .ro (List.map ePt a.pts)] = AV.agg [.v (.int .i64 b.kind), .ro (List.map ePt b.pts)] ↔ a = b := by
 cases a; cases b; simp [ad7 ir7]
theorem oV7 {a b : Feat} : AV.agg [.v (.string a.id), .v (.int .i64 a.shape.kind), .ro (List.map ePt a.shape.pts), .ro (List.map bg7 a.tags)] = AV.agg [.v (.string b.id), .v (.int .i64 b.shape.kind), .ro (List.map ePt b.shape.pts), .ro (List.map bg7 b.tags)] ↔ a = b := by
 obtain ⟨i, ⟨k, p⟩, t⟩ := a; obtain ⟨i', ⟨k', p'⟩, t'⟩ := b
 simp [ad7 ir7, ad7 eY7, and_assoc]
theorem kR7 {a b : do7} : AV.agg [.v (.bool a.has), .v (.string a.f.id), .v (.int .i64 a.f.shape.kind), .ro (List.map ePt a.f.shape.pts), .ro (List.map bg7 a.f.tags)] = AV.agg [.v (.bool b.has), .v (.string b.f.id), .v (.int .i64 b.f.shape.kind), .ro (List.map ePt b.f.shape.pts), .ro (List.map bg7 b.f.tags)] ↔ a = b := by
 obtain ⟨h, i, ⟨k, p⟩, t⟩ := a; obtain ⟨h', i', ⟨k', p'⟩, t'⟩ := b
 simp [ad7 ir7, ad7 eY7, and_assoc]
theorem is7 {a b : j17} : AV.agg [.v (.string a.id), .v (.bool a.had), .v (.string a.was.id), .v (.int .i64 a.was.shape.kind), .ro (List.map ePt a.was.shape.pts), .ro (List.map bg7 a.was.tags), .v (.bool a.has), .v (.string a.now.id), .v (.int .i64 a.now.shape.kind), .ro (List.map ePt a.now.shape.pts), .ro (List.map bg7 a.now.tags)] = AV.agg [.v (.string b.id), .v (.bool b.had), .v (.string b.was.id), .v (.int .i64 b.was.shape.kind), .ro (List.map ePt b.was.shape.pts), .ro (List.map bg7 b.was.tags), .v (.bool b.has), .v (.string b.now.id), .v (.int .i64 b.now.shape.kind), .ro (List.map ePt b.now.shape.pts), .ro (List.map bg7 b.now.tags)] ↔ a = b := by
 obtain ⟨i, h1, ⟨a1, ⟨k1, p1⟩, t1⟩, h2, ⟨a2, ⟨k2, p2⟩, t2⟩⟩ := a; obtain ⟨i', h1', ⟨a1', ⟨k1', p1'⟩, t1'⟩, h2', ⟨a2', ⟨k2', p2'⟩, t2'⟩⟩ := b
 simp [ad7 ir7, ad7 eY7, and_assoc]
theorem kS7 {a b : mT7} : AV.agg [.ro (List.map bo7 a.up), .v (.string a.note), .ro (List.map (cC7 false) a.diff)] = AV.agg [.ro (List.map bo7 b.up), .v (.string b.note), .ro (List.map (cC7 false) b.diff)] ↔ a = b := by
 cases a; cases b; simp [ad7 eX7, ad7 dr7]
theorem it7 {a b : Commit} : AV.agg [.ro (List.map bo7 a.up), .ro (List.map (ak7 false) a.sheet), .v (.string a.note)] = AV.agg [.ro (List.map bo7 b.up), .ro (List.map (ak7 false) b.sheet), .v (.string b.note)] ↔ a = b := by
 cases a; cases b; simp [ad7 eX7, ad7 eN7]
theorem qy7 {a b : Commit} : AV.rptr [.sl false 1 (List.map bo7 a.up), .sl false 4 (List.map (ak7 false) a.sheet), .v (.string a.note)] = AV.rptr [.sl false 1 (List.map bo7 b.up), .sl false 4 (List.map (ak7 false) b.sheet), .v (.string b.note)] ↔ a = b := by
 cases a; cases b; simp [ad7 eX7, ad7 eN7]
theorem xz7 {a b : am7} : AV.rptr [.sl false 3 (List.map (af7 false) a.commits), .sl false 2 (List.map az7 a.heads)] = AV.rptr [.sl false 3 (List.map (af7 false) b.commits), .sl false 2 (List.map az7 b.heads)] ↔ a = b := by
 cases a; cases b; simp [ad7 ds7, ad7 gz7]
theorem xA7 {a b : Feat} : AV.rptr [.v (.string a.id), .v (.int .i64 a.shape.kind), .sl false 2 (List.map ePt a.shape.pts), .sl false 2 (List.map bg7 a.tags)] = AV.rptr [.v (.string b.id), .v (.int .i64 b.shape.kind), .sl false 2 (List.map ePt b.shape.pts), .sl false 2 (List.map bg7 b.tags)] ↔ a = b := by
 obtain ⟨i, ⟨k, p⟩, t⟩ := a; obtain ⟨i', ⟨k', p'⟩, t'⟩ := b
 simp [ad7 ir7, ad7 eY7, and_assoc]
theorem oW7 {a b : am7} : AV.agg [.ro (List.map (af7 false) a.commits), .ro (List.map az7 a.heads)] = AV.agg [.ro (List.map (af7 false) b.commits), .ro (List.map az7 b.heads)] ↔ a = b := by
 cases a; cases b; simp [ad7 ds7, ad7 gz7]
end
theorem DX7 (hmix : P.follows .mixedOrders = true) {c : Con} (cs : List Con) {ir : IFn} {kss : List (List (Option Nat))} (hcs : ∀ c, c ∈ cs → ah7 P tb c) (hk : vr7 P tb c.f ir = true)
  (hd : ∀ G, (∀ c, c ∈ cs → Has G c) → ∀ a b, c.val a = some b → BL7 G ir kss (c.args a) (c.ins a) (c.ans a b)) (hn : vE7 (He7 cs) = true := by exact rfl) (hl : ∀ a, (c.args a).length ≤ ir.ntmps := by exact fun _ => Nat.le_of_ble_eq_true rfl)
  (hi : ∀ a a', c.args a = c.args a' → c.ins a = c.ins a' → a = a' := by (intro a a' h _; (conv at h => lhs; whnf); (conv at h => rhs; whnf); (try simp only [List.cons.injEq, and_true, AV.v.injEq, AV.ro.injEq, Value.int.injEq, Value.string.injEq, Value.bool.injEq, true_and, ad7 eX7, ad7 j47, ad7 eM7, ad7 ir7, ad7 eY7, ad7 gz7, ad7 gW7, ad7 ju7, ad7 eN7, ad7 dr7, ad7 gX7, ad7 ds7, ad7 (sN7 eM7), ad7 (sN7 eX7), z77, t47, oT7, kP7, oU7, t57, kQ7, oV7, kR7, is7, kS7, it7, oW7, AV.fn.injEq, qy7, xz7, xA7] at h); (try simp only [AV.rptr.injEq, T.v.injEq, List.cons.injEq, and_true, Value.int.injEq, Value.string.injEq, Value.bool.injEq, true_and] at h); first | exact h | exact rfl | exact (Value.int.inj h).2 | exact Value.string.inj h | exact Value.bool.inj h | exact (ad7 eX7).1 h | exact (ad7 j47).1 h | exact (ad7 eM7).1 h | exact (ad7 ir7).1 h | exact (ad7 eY7).1 h | exact (ad7 gz7).1 h | exact (ad7 gW7).1 h | exact (ad7 ju7).1 h | exact (ad7 eN7).1 h | exact (ad7 dr7).1 h | exact (ad7 gX7).1 h | exact (ad7 ds7).1 h | exact (ad7 (sN7 eM7)).1 h | exact z77.1 h | exact t47.1 h | exact oT7.1 h | exact kP7.1 h | exact oU7.1 h | exact t57.1 h | exact kQ7.1 h | exact oV7.1 h | exact kR7.1 h | exact is7.1 h | exact kS7.1 h | exact it7.1 h | exact oW7.1 h | exact Prod.ext h.1 h.2 | exact Prod.ext h.1 (Prod.ext h.2.1 h.2.2) | exact Prod.ext h.1 (Prod.ext h.2.1 (Prod.ext h.2.2.1 h.2.2.2)) | exact Prod.ext h.1 (Prod.ext h.2.1 (Prod.ext h.2.2.1 (Prod.ext h.2.2.2.1 h.2.2.2.2))))) : ah7 P tb c :=
 ⟨hi, fun a b hv => CW7 hmix (qw7 hcs) hk (hl a) (hd _ (t37 hn fun c hc => (hcs c hc).1) a b hv)⟩
theorem Hg7 {a b : am7} (h0 : a.commits = b.commits) (h1 : a.heads = b.heads) : a = b := by cases a; cases b; simp_all
theorem Ro7 {a b : Pt} (h0 : a.x = b.x) (h1 : a.y = b.y) : a = b := by cases a; cases b; simp_all
theorem NM7 {a b : Tag} (h0 : a.key = b.key) (h1 : a.val = b.val) : a = b := by cases a; cases b; simp_all
theorem Hh7 {a b : Head} (h0 : a.name = b.name) (h1 : a.at_ = b.at_) : a = b := by cases a; cases b; simp_all
theorem DY7 {a b : aL7} (h0 : a.kind = b.kind) (h1 : a.pts = b.pts) : a = b := by cases a; cases b; simp_all
theorem Hi7 {a b : Feat} (h0 : a.id = b.id) (h1 : a.shape = b.shape) (h2 : a.tags = b.tags) : a = b := by cases a; cases b; simp_all
theorem z87 {a b : j17} (h0 : a.id = b.id) (h1 : a.had = b.had) (h2 : a.was = b.was) (h3 : a.has = b.has) (h4 : a.now = b.now) : a = b := by cases a; cases b; simp_all
theorem DZ7 {a b : mT7} (h0 : a.up = b.up) (h1 : a.note = b.note) (h2 : a.diff = b.diff) : a = b := by cases a; cases b; simp_all
theorem z97 {a b : Commit} (h0 : a.up = b.up) (h1 : a.sheet = b.sheet) (h2 : a.note = b.note) : a = b := by cases a; cases b; simp_all
theorem D07 {a b : ax7} (h0 : a.id = b.id) (h1 : a.what = b.what) : a = b := by cases a; cases b; simp_all
theorem Hj7 {a b : cM7} (h0 : a.a = b.a) (h1 : a.b = b.b) : a = b := by cases a; cases b; simp_all
theorem NN7 {a b : Val} (h0 : a.has = b.has) (h1 : a.val = b.val) : a = b := by cases a; cases b; simp_all
theorem D17 {a b : do7} (h0 : a.has = b.has) (h1 : a.f = b.f) : a = b := by cases a; cases b; simp_all
theorem Rp7 {a b : Rd} (h0 : a.b = b.b) (h1 : a.p = b.p) : a = b := by cases a; cases b; simp_all
theorem au7 {c : Con} {cs : List Con} {ir : IFn} {kss : List (List (Option Nat))} (hmix : P.follows .mixedOrders = true) (hd : OkC cs c ir kss) (hcs : ∀ c, c ∈ cs → ah7 P tb c) (hk : vr7 P tb c.f ir = true := by kernel_rfl) (hn : vE7 (He7 cs) = true := by exact rfl) (hl : ∀ a, (c.args a).length ≤ ir.ntmps := by exact fun _ => Nat.le_of_ble_eq_true rfl)
  (hi : ∀ a a', c.args a = c.args a' → c.ins a = c.ins a' → a = a' := by (intro a a' h _; (conv at h => lhs; whnf); (conv at h => rhs; whnf); (try simp only [List.cons.injEq, and_true, AV.v.injEq, AV.ro.injEq, Value.int.injEq, Value.string.injEq, Value.bool.injEq, true_and, ad7 eX7, ad7 j47, ad7 eM7, ad7 ir7, ad7 eY7, ad7 gz7, ad7 gW7, ad7 ju7, ad7 eN7, ad7 dr7, ad7 gX7, ad7 ds7, ad7 (sN7 eM7), ad7 (sN7 eX7), z77, t47, oT7, kP7, oU7, t57, kQ7, oV7, kR7, is7, kS7, it7, oW7, AV.fn.injEq, qy7, xz7, xA7] at h); (try simp only [AV.rptr.injEq, T.v.injEq, List.cons.injEq, and_true, Value.int.injEq, Value.string.injEq, Value.bool.injEq, true_and] at h); first | exact h | exact rfl | exact (Value.int.inj h).2 | exact Value.string.inj h | exact Value.bool.inj h | exact (ad7 eX7).1 h | exact (ad7 j47).1 h | exact (ad7 eM7).1 h | exact (ad7 ir7).1 h | exact (ad7 eY7).1 h | exact (ad7 gz7).1 h | exact (ad7 gW7).1 h | exact (ad7 ju7).1 h | exact (ad7 eN7).1 h | exact (ad7 dr7).1 h | exact (ad7 gX7).1 h | exact (ad7 ds7).1 h | exact (ad7 (sN7 eM7)).1 h | exact z77.1 h | exact t47.1 h | exact oT7.1 h | exact kP7.1 h | exact oU7.1 h | exact t57.1 h | exact kQ7.1 h | exact oV7.1 h | exact kR7.1 h | exact is7.1 h | exact kS7.1 h | exact it7.1 h | exact oW7.1 h | exact Prod.ext h.1 h.2 | exact Prod.ext h.1 (Prod.ext h.2.1 h.2.2) | exact Prod.ext h.1 (Prod.ext h.2.1 (Prod.ext h.2.2.1 h.2.2.2)) | exact Prod.ext h.1 (Prod.ext h.2.1 (Prod.ext h.2.2.1 (Prod.ext h.2.2.2.1 h.2.2.2.2))))) : ah7 P tb c := DX7 hmix cs hcs hk hd hn hl hi
theorem de7 {c : Con} {cs : List Con} {ir : IFn} {kss : List (List (Option Nat))} (hmix : P.follows .mixedOrders = true) (hd : OkC cs c ir kss) (hcs : ∀ c, c ∈ cs → ah7 P tb c) (hk : vr7 P tb c.f ir = true := by kernel_rfl) (hn : vE7 (He7 cs) = true := by exact rfl) (hl : ∀ a, (c.args a).length ≤ ir.ntmps := by exact fun _ => Nat.le_of_ble_eq_true rfl)
  (hi : ∀ a a', c.args a = c.args a' → c.ins a = c.ins a' → a = a' := by (intro a a' h1 h2; (conv at h1 => lhs; whnf); (conv at h1 => rhs; whnf); (conv at h2 => lhs; whnf); (conv at h2 => rhs; whnf); (try simp only [AV.agg.injEq, AV.io.injEq, AV.pio.injEq, T.sl.injEq, T.v.injEq, T.rw.injEq, AV.raw.injEq, AV.v.injEq, AV.ro.injEq, List.cons.injEq, Value.int.injEq, Value.string.injEq, Value.bool.injEq, Prod.mk.injEq, ad7 eX7, ad7 j47, ad7 eM7, ad7 Hf7, ad7 ir7, ad7 eY7, ad7 gz7, ad7 gW7, ad7 ju7, ad7 eN7, ad7 dr7, ad7 gX7, ad7 ds7, true_and, and_true] at h1); (try simp only [AV.agg.injEq, AV.io.injEq, AV.pio.injEq, T.sl.injEq, T.v.injEq, T.rw.injEq, AV.raw.injEq, AV.v.injEq, AV.ro.injEq, List.cons.injEq, Value.int.injEq, Value.string.injEq, Value.bool.injEq, Prod.mk.injEq, ad7 eX7, ad7 j47, ad7 eM7, ad7 Hf7, ad7 ir7, ad7 eY7, ad7 gz7, ad7 gW7, ad7 ju7, ad7 eN7, ad7 dr7, ad7 gX7, ad7 ds7, true_and, and_true] at h2); (repeat' (first | apply Prod.ext | apply Hg7 | apply Ro7 | apply NM7 | apply Hh7 | apply DY7 | apply Hi7 | apply z87 | apply DZ7 | apply z97 | apply D07 | apply Hj7 | apply NN7 | apply D17 | apply Rp7)) <;> first | exact rfl | (simp_all; done))) : ah7 P tb c := DX7 hmix cs hcs hk hd hn hl hi
end Go.Proofs.AM
