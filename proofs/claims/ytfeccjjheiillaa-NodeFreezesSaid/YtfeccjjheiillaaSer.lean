/- Package series: a series in memory; where a tick stands. -/
import Derived.Test.YtfeccjjheiillaaSlib4
import Derived.Test.YtfeccjjheiillaaSearch
namespace Go.Proofs.Ytfeccjjheiillaa
open Go.RowKit
set_option linter.unusedSimpArgs false
set_option linter.unusedVariables false
set_option maxHeartbeats 4000000
set_option maxRecDepth 100000
/-- Block g is a series that holds l; its row is v. -/
def SerAt (w : World) (g : Nat) (v : Value) (l : List Smp) (room : Int) : Prop := Blk w g 94 #[v, .int .i64 room] ∧ OwnS w 0 v l ∧ v.ownBlock ≠ some g
/-- The blocks that it takes. -/
def foot (g : Nat) (v : Value) (k : Nat) : Prop := k = g ∨ v.ownBlock = some k
theorem SerAt.upd {S : Nat → Prop} {w w' : World} {g : Nat} {v : Value} {l : List Smp} {room : Int} (h : SerAt w g v l room) (hu : Upd S w w') (hn : ∀ k, foot g v k → ¬ S k) : SerAt w' g v l room :=
  ⟨h.1.upd hu (hn g (.inl rfl)), h.2.1.upd hu (fun k hk => hn k (.inr hk)), h.2.2⟩
theorem SerAt.call {w w' : World} {g : Nat} {v : Value} {l : List Smp} {room : Int} (h : SerAt w g v l room) (hb : Below w.heap.size w w') : SerAt w' g v l room := ⟨h.1.call hb, h.2.1.call hb, h.2.2⟩
theorem SerAt.lt {w : World} {g : Nat} {v : Value} {l : List Smp} {room : Int} (h : SerAt w g v l room) : ∀ k, foot g v k → k < w.heap.size := by
  rintro k (rfl | hk)
  · exact h.1.lt
  · exact (World.ownsRow.lt h.2.1 k hk).2
theorem Own.ne_blk {α : Type} {w : World} {base e size : Nat} {cells : α → List Value} {v : Value} {l : List α} (h : Own w base e size cells v l) {g : Nat} {t : TypeId} {cs : Array Value} (hb : Blk w g t cs) (hte : t ≠ e) : v.ownBlock ≠ some g := by
  intro he
  rcases h.2 with ⟨rfl, _⟩ | ⟨b, cap, cur, rfl, _, hg, _⟩
  · simp [Value.ownBlock] at he
  · have e2 : b = g := by simpa [Value.ownBlock] using he
    subst e2
    have := (show w.heap[b]? = _ from hb).symm.trans hg
    simp at this
    exact hte this.2
theorem Own.from_ {α : Type} {w : World} {base e size : Nat} {cells : α → List Value} {v : Value} {l : List α} (h : Own w base e size cells v l) : ∀ k, v.ownBlock = some k → base ≤ k := fun k hk => (World.ownsRow.lt h k hk).1
theorem place_fn (g bs bt : Nat) (v : Value) (l : List Smp) (room tick : Int) (i : Nat) (W : World) (hs : SerAt W g v l room) (hb1 : Blk W bs 35 #[.pointer (some ⟨g, 0, none⟩)]) (hb2 : Blk W bt 2 #[.int .i64 tick])
    (hi : i < l.length) (hn : l.length ≤ 100000) (hsrt : Srt l) :
    Calls Try.prog 107 (#[.int .i64 i] ++ #[.pointer (some ⟨bs, 0, none⟩), .pointer (some ⟨bt, 0, none⟩)]) W fun e w' => e = .returned (.bool (decide (placeq l tick ≤ i))) ∧ Below W.heap.size W w' := by
  obtain ⟨A, n, c, rfl, hnl, hsl⟩ := hs.2.1.shape smp_len
  obtain ⟨b, off, x, rfl, hx, hb, u0, u1⟩ := SmpsAre.at_ hsl (show i < n by omega)
  have HQ := Lib.hid (place_iff hsrt tick hx)
  have c1 := hb1.cellv (i := 0) (v := .pointer (some ⟨g, 0, none⟩)) rfl
  have c2 := hb2.cellv (i := 0) (v := .int .i64 tick) rfl
  have c3 := hs.1.cellv (i := 0) (v := .slice (some ⟨b, off, none⟩) n c) rfl
  have hin : (i : Int) < (n : Int) := by omega
  have hz : (0 : Int) ≤ (i : Int) := by omega
  clear hs hb1 hb2 hx hsl u1 hsrt hb hnl
  go_enter Try.func107, Try.ntmps107
  go_wp2
  go_quiet (fail)
  go_wp2
  go_ret
  exact ⟨ret_bool HQ.out, below_drewN (Below.refl _ _) _⟩
theorem series_place (g : Nat) (v : Value) (l : List Smp) (room tick : Int) (w : World) (h : SerAt w g v l room) (hsrt : Srt l) (hn : l.length ≤ 100000) :
    Calls Try.prog 83 #[.pointer (some ⟨g, 0, none⟩), .int .i64 tick] w fun e w' => e = .returned (.int .i64 (placeq l tick)) ∧ Below w.heap.size w w' := by
  have eg : ∀ args w, (callFunc 107 args).run Try.prog w = .ok (.enter 107 args) w := enters_of Try.func107 (by kernel_rfl) rfl
  have hk := place_le l tick
  obtain ⟨A, n, c, rfl, hnl, hsl⟩ := h.2.1.shape smp_len
  have E0 := Lib.hid (show Below w.heap.size w ((w.alloc (.cells #[.pointer (some ⟨g, 0, none⟩)] 35)).alloc (.cells #[.int .i64 tick] 2)) by go_grown)
  have HS := Lib.hid (fun W (hb : Below ((w.alloc (.cells #[.pointer (some ⟨g, 0, none⟩)] 35)).alloc (.cells #[.int .i64 tick] 2)).heap.size ((w.alloc (.cells #[.pointer (some ⟨g, 0, none⟩)] 35)).alloc (.cells #[.int .i64 tick] 2)) W) =>
    place_fn g w.heap.size (w.heap.size + 1) _ l room tick (W := W) (hs := (h.call E0.out).call hb) (hb1 := ((Blk.new w _ _).alloc _).call hb) (hb2 := (Blk.new2 w _ _ _).call hb) (hn := hn) (hsrt := hsrt))
  have c3 := h.1.cellv (i := 0) (v := .slice A n c) rfl
  have lt := h.1.lt
  have HL := Lib.hid hnl
  have hn2 : n ≤ 1000000 := by omega
  have hK : placeq l tick ≤ n := by omega
  generalize placeq l tick = K at *
  clear h hsl hnl hk hn
  go_enter Try.func83, Try.ntmps83
  go_wp2_with fail
  refine (sort_Search 107 _ n K _ eg hn2 hK (fun W i hb hi => HS.out W hb i (by rw [← HL.out]; exact hi))).mono ?_
  rintro e w1 ⟨rfl, hb1⟩
  have HB := Lib.hid (E0.out.trans (hb1.mono E0.out.size))
  clear hb1
  go_wp2
  go_ret
  exact ⟨rfl, HB.out⟩
end Go.Proofs.Ytfeccjjheiillaa
