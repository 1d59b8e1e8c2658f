/- Small lemmas of this seat's own on rows in memory: what a row of structs reads as behind a store into one field of one element. Conditions: the row is the call's own and the index lies in it. -/
import Derived.Test.YtfphebbfgphldaaB1WMore
namespace Go.Proofs.Ytfphebbfgphldaa.MLib
open Go.RowKit Go.Proofs.YtfphebbfgphldaaW.PrintWords Go.Proofs.YtfphebbfgphldaaW.PrintLast Go.Proofs.YtfphebbfgphldaaW.PrintMore

/-- A literal row of one-cell elements reads as its list. -/
theorem lit_C {α : Type} {enc : α → Value} (z : α) {h1 : ∀ x, (enc x).oneCell' = true} (w : World) (t : TypeId) (xs : List α) (hl : xs.length ≤ 9223372036854775807) : Kd.C (Kd.scalar enc h1) (w.alloc (.cells (xs.map enc).toArray t)) (some ⟨w.heap.size, 0, none⟩) xs.length xs := by
  refine Kd.C_of_reads (d := z) ⟨rfl, hl, fun _ => ⟨_, rfl, fun j hj => ?_⟩⟩
  have hb := heap_alloc_new w (.cells (xs.map enc).toArray t)
  rw [add_plain]
  unfold World.cell?
  simp only [hb]
  simp [hj]
theorem keep_alloc0 (w : World) (g : Nat) (o : Obj) : KeepBut w (w.alloc o) g none := keep_alloc (KeepBut.refl w g none) o

section
variable {α : Type} {d : Kd α} {e base g n cap : Nat} {W : World} {xs : List α}
/-- One field of element i is stored: the element is x' then. -/
theorem put_field (enc : α → List Value) (hK : ∀ w x cs, d.K w x cs → cs = enc x) (hM : ∀ w base ok x, d.M w base ok x (enc x)) (hs : ∀ x, (enc x).length = d.sz)
    (h : d.R e W base (fun _ => True) (.slice (some ⟨g, 0, none⟩) n cap) xs) (z : α) (i : Int) (h0 : 0 ≤ i) (h1 : i < n) (j : Nat) (v : Value) (x' : α) (hj : j < d.sz) (hx : (enc (xs.getD i.toNat z)).set j v = enc x') :
    d.R e (W.setCell ⟨g, i.toNat * d.sz + j, none⟩ v) base (fun _ => True) (.slice (some ⟨g, 0, none⟩) n cap) (xs.set i.toNat x') ∧ W.grownBy (W.setCell ⟨g, i.toNat * d.sz + j, none⟩ v) (some g) := by
  obtain ⟨c, hcl, hm, hcc, _⟩ := Kd.R_elem h z i h0 h1
  obtain rfl := hK _ _ _ (d.K_of_M hm)
  refine Kd.R_seg (seg := [v]) (okp := fun _ => False) h i h0 h1 hcl hcc (by simp; omega) ?_ (fun _ h => h.elim)
  have e1 : (enc (xs.getD i.toNat z)).take j ++ [v] ++ (enc (xs.getD i.toNat z)).drop (j + [v].length) = enc x' := by
    rw [← hx, List.append_assoc, List.set_eq_take_append_cons_drop, if_pos (by rw [hs]; exact hj)]
    rfl
  rw [e1]
  exact hM _ _ _ _
end
theorem getD_set_self {α : Type} (xs : List α) (i : Nat) (x z : α) (h : i < xs.length) : (xs.set i x).getD i z = x := by simp [List.getD_eq_getElem?_getD, h]
/-- Two rows of the call's own that are not one: what is done to the first leaves the second, and the other way round. -/
structure Two {α β : Type} (d : Kd α) (d' : Kd β) (e e' : Nat) (w : World) (base : Nat) (v : Value) (xs : List α) (u : Value) (ys : List β) : Prop where
  one : d.R e w base (fun _ => True) v xs
  two : d'.R e' w base (fun k => some k ≠ v.ownBlock) u ys
section
variable {α β : Type} {d : Kd α} {d' : Kd β} {e e' : Nat} {w w1 : World} {base : Nat} {v v1 u u1 : Value} {xs xs1 : List α} {ys ys1 : List β}
theorem Two.left (h : Two d d' e e' w base v xs u ys) (hg : w.grownBy w1 v.ownBlock) (h1 : d.R e w1 base (fun _ => True) v1 xs1) (ha : v1.ownBlock = v.ownBlock ∨ ∃ b, v1.ownBlock = some b ∧ w.heap.size ≤ b) : Two d d' e e' w1 base v1 xs1 u ys := by
  refine ⟨h1, Kd.R_mono (Kd.R_move (Kd.R_bound h.two) (fun k hk => hg.block k hk.2.2.1 hk.1)) ?_⟩
  rintro k ⟨hk, _, hl, _⟩
  rcases ha with ha | ⟨b, hb, hle⟩
  · rw [ha]; exact hk
  · rw [hb]; intro he; injection he with he; omega
theorem Two.right (h : Two d d' e e' w base v xs u ys) (hf : ∀ k, v.ownBlock = some k → some k ≠ u.ownBlock) (hg : w.grownBy w1 u.ownBlock) (h1 : d'.R e' w1 base (fun k => some k ≠ v.ownBlock) u1 ys1) (hE : d.E = []) : Two d d' e e' w1 base v xs u1 ys1 := by
  refine ⟨?_, h1⟩
  obtain ⟨h0, inner, ho, hr⟩ := Kd.R_bound h.one
  exact Kd.R_mono (ok := fun _ => True) ⟨fun _ _ => trivial, inner, own_move ho (fun k hk => hg.block k (own_lt ho k hk) (fun he => hf k hk he)), hr.imp_ (fun _ _ hp => by
    refine d.M_mono (ok := fun _ => False) (fun _ h => h.elim) (d.M_move (fun _ h => h.elim) (d.M_mono ?_ (d.M_bound hp)))
    rintro k ⟨_, _, _, q, hq, _⟩
    rw [hE] at hq; cases hq)⟩ (fun _ h => h)
theorem Two.apart (h : Two d d' e e' w base v xs u ys) : ∀ k, v.ownBlock = some k → some k ≠ u.ownBlock := fun k hk he => h.two.1 k he.symm hk.symm
theorem Two.step (h : Two d d' e e' w base v xs u ys) (hb : Below w.heap.size w w1) : Two d d' e e' w1 base v xs u ys := ⟨Kd.R_below h.one hb, Kd.R_below h.two hb⟩
/-- A store into the first row. -/
theorem Two.put {k : IntKind} {w0 : World} {g n cap : Nat} {xs : List Int} (h : Two (Kd.int k) d' e e' w base (.slice (some ⟨g, 0, none⟩) n cap) xs u ys) (hB : Below base w0 w) (hb : base ≤ w.heap.size) (hg : base ≤ g) (hl : g < w.heap.size) (i : Nat) (x : Int) :
    Two (Kd.int k) d' e e' (w.setCell ⟨g, i, none⟩ (.int k x)) base (.slice (some ⟨g, 0, none⟩) n cap) (xs.set i x) u ys ∧ Below base w0 (w.setCell ⟨g, i, none⟩ (.int k x)) ∧ base ≤ (w.setCell ⟨g, i, none⟩ (.int k x)).heap.size ∧
      ∀ q, (w.setCell ⟨g, i, none⟩ (.int k x)).heap.size ≤ q → some q ≠ (Value.slice (some ⟨g, 0, none⟩) n cap).ownBlock := by
  have hp := Kd.R_putg (h1 := fun _ => rfl) (enc := Value.int k) h.one (i : Int) x
  rw [Int.toNat_natCast] at hp
  have hs := hp.2.size
  refine ⟨h.left (by simpa [Value.ownBlock] using hp.2) hp.1 (.inl rfl), hB.grown hp.2 hb (fun q hq => by injection hq with hq; omega), by omega, fun q hq he => ?_⟩
  have he2 : q = g := by simpa [Value.ownBlock] using he
  omega
end
end Go.Proofs.Ytfphebbfgphldaa.MLib

