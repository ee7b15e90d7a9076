/- The reference's handles: Free. (fast region) -/
import Derived.Test.YtkjmacdekfbfhaaRef20
import Derived.Test.YtkjmacdekfbfhaaKeep
import Derived.Test.YtkjmacdekfbfhaaUpd
import Derived.Test.YtkjmacdekfbfhaaPush2
import Derived.Test.YtkjmacdekfbfhaaRegT
namespace Go.Proofs.Ytkjmacdekfbfhaa
open Go.RowKit
set_option linter.unusedSimpArgs false
set_option linter.unusedVariables false
set_option maxHeartbeats 4000000
set_option maxRecDepth 100000
abbrev t20 : TypeId := 86
abbrev rowV (v : Value) : Array Value := #[v]
structure FreI (w wr : World) (A : Option Addr) (len cap : Nat) (v : Value) (ys : List Int) : Prop where
  b0 : Blk wr w.heap.size t20 (boxT A len cap)
  b1 : Blk wr (w.heap.size + 1) t20 (rowV (.slice none 0 0))
  b2 : Blk wr (w.heap.size + 2) t20 (rowV v)
  own : OwnI wr (w.heap.size + 3) v ys
  bel : Below w.heap.size w wr
  size : w.heap.size + 3 ≤ wr.heap.size
section
variable {w wr W : World} {A : Option Addr} {len cap : Nat} {v v' : Value} {ys zs : List Int}
theorem FreI.call (h : FreI w wr A len cap v ys) (hb : Below wr.heap.size wr W) : FreI w W A len cap v ys :=
  ⟨h.b0.call hb, h.b1.call hb, h.b2.call hb, h.own.call hb, h.bel.trans (hb.mono (by have := h.size; omega)), by have := h.size; have := hb.size; omega⟩
theorem FreI.put (h : FreI w wr A len cap v ys) (hu : Upd (fun k => v.ownBlock = some k) wr W) (ho : OwnI W (w.heap.size + 3) v' zs) :
    FreI w (W.setCell ⟨w.heap.size + 2, 0, none⟩ v') A len cap v' zs ∧ W.cell? ⟨w.heap.size + 2, 0, none⟩ = some v ∧ W.frozen? ⟨w.heap.size + 2, 0, none⟩ = false := by
  have hb : Below (w.heap.size + 3) wr W := hu.below (fun k hk => (World.ownsRow.lt h.own k hk).1) h.size
  have hb2 : Blk W (w.heap.size + 2) t20 (rowV v) := h.b2.below hb (by omega)
  refine ⟨⟨(h.b0.below hb (by omega)).far (by simp) _, (h.b1.below hb (by omega)).far (by simp) _, hb2.set_ 0 _, ho.far (fun k hk e => ?_) _, (h.bel.trans (hb.mono (by omega))).setCell (by simp) _, ?_⟩, hb2.cellv rfl, hb2.frozen _⟩
  · have := (World.ownsRow.lt ho k hk).1
    have e2 : k = w.heap.size + 2 := e
    omega
  · have := h.size; have := hu.size; simp [World.setCell]; omega
end
theorem fre_start (w : World) (A : Option Addr) (len cap : Nat) : FreI w (((w.alloc (.cells (boxT A len cap) t20)).alloc (.cells (rowV (.slice none 0 0)) t20)).alloc (.cells (rowV (.slice none 0 0)) t20)) A len cap (.slice none 0 0) [] :=
  ⟨((Blk.new w _ _).alloc _).alloc _, (Blk.new2 w _ _ _).alloc _, by have := Blk.new ((w.alloc (.cells (boxT A len cap) t20)).alloc (.cells (rowV (.slice none 0 0)) t20)) t20 (rowV (.slice none 0 0)); simpa using this, Own.nil _ _ _ _ _, by go_grown, by simp⟩
def FreeQ (w : World) (l : List Int) (e : Ending) (w' : World) : Prop := ∃ v, e = .returned (.agg #[v]) ∧ OwnI w' w.heap.size v l ∧ Below w.heap.size w w'
theorem set_take_yes {l : List Int} {k : Nat} {x : Int} (h : l[k]? = some x) : (l.set k (-1)).take (k + 1) = (l.set k (-1)).take k ++ [-1] :=
  take_nxt (by rw [List.getElem?_set_self]; exact (List.getElem?_eq_some_iff.1 h).1)
theorem set_take_no {l : List Int} {k m : Nat} {x : Int} (h : l[k]? = some x) (hm : m ≠ k) : (l.set m (-1)).take (k + 1) = (l.set m (-1)).take k ++ [x] :=
  take_nxt (by rw [List.getElem?_set_ne hm]; exact h)
theorem ref20_Free (A : Option Addr) (len cap : Nat) (l : List Int) (m : Nat) (w : World) (hs : IntsAre w A len cap l) (hn : len ≤ 10000) (hm : m ≤ 10000) :
    Calls Try.prog 50 #[.agg #[.slice A len cap], .int .i64 ((m : Int) + 1)] w (FreeQ w (l.set m (-1))) := by
  have HS := Lib.hid hs
  have HL := Lib.hid hs.1
  have H0 := Lib.hid (fre_start w A len cap)
  have HPost := Lib.hid (fun (e : Ending) (w' : World) (h : ∃ v, e = .returned (.agg #[v]) ∧ OwnI w' w.heap.size v (l.set m (-1)) ∧ Below w.heap.size w w') => (show FreeQ w (l.set m (-1)) e w' from h))
  have hwm : IntKind.i64.wrap ((m : Int) + 1 - 1) = m := by rw [IntKind.wrap_i64]; omega
  clear hs
  go_enter Try.func50, Try.ntmps50
  go_wp2
  go_loopw [6] (fun i wr => ∃ k : Nat, ∃ v, k ≤ len ∧ i = .int .i64 k ∧ FreI w wr A len cap v ((l.set m (-1)).take k)) (fun i _ => len - (intOf i).toNat)
  case atStart => exact ⟨0, _, Nat.zero_le _, rfl, H0.out⟩
  case round =>
    obtain ⟨k, v, hk, rfl, hin⟩ := hrel
    have HI := Lib.hid hin
    have c0 := hin.b0.cellv (i := 0) (v := .slice A len cap) rfl
    have c2 := hin.b2.cellv (i := 0) (v := v) rfl
    by_cases hlt : k < len
    · obtain ⟨b, off, x, rfl, hx, hb, t0⟩ := HS.out.at_ hlt
      have k0 := (hin.bel.cell (p := ⟨b, off + k, none⟩) hb).trans t0
      have hki : (k : Int) < (len : Int) := by omega
      have HX := Lib.hid hx
      obtain ⟨A2, n2, c2', rfl, -, -⟩ := hin.own.shape (fun _ => rfl)
      have HLen := Lib.hid (show ((l.set m (-1)).take k).length < 1000000 from by rw [List.length_take]; omega)
      have HKb := Lib.hid hb
      have HT := Lib.hid t0
      clear hx hb t0 hin
      by_cases h1 : k = m
      · subst h1
        have d1 : ((k : Int) == (k : Int)) = true := by simp
        have HN := Lib.hid (set_take_yes HX.out)
        clear k0
        go_wp2_with (at_builtin; refine wpList_push2 _ rfl (.tmp 19) (.tmp 20) 52 rfl (w.heap.size + 3) 2 _ 1 8 (fun n : Int => [Value.int .i64 n]) Try.underlying52 info_i64 (by rfl) (by decide) (fun _ => rfl) (fun _ u hu => by simp at hu; subst hu; rfl) (.slice A2 n2 c2') ((l.set k (-1)).take k) rfl (HI.out.own.alloc _) ⟨wr.heap.size, 0, none⟩ 1 (-1) rfl (blk_news (α := Int) (vs := [Value.int .i64 (-1)]) (Blk.new wr _ _) rfl) HLen.out (by decide) (by have := HI.out.size; simp; omega) ?_; intro v' w3 ho3 hu3 hw3; obtain ⟨A3, n3, c3, rfl, -, -⟩ := ho3.shape (fun _ => rfl); obtain ⟨p1, p2, p3⟩ := FreI.put (HI.out.call ((Below.refl _ _).alloc (Nat.le_refl _) _)) hu3 ho3; have P1 := Lib.hid p1; clear p1)
        go_roundw
        case rel => exact ⟨k + 1, _, by omega, by go_num, by rw [HN.out]; exact P1.out⟩
        case measure => simp [intOf]; omega
      · have d1 : ((k : Int) == (m : Int)) = false := by simp; omega
        have HN := Lib.hid (set_take_no HX.out (Ne.symm h1))
        clear h1
        focus (go_upto_region 7 with fail)
        clear k0 c0 c2
        refine wp_region_any (by kernel_rfl) ?_; change wpAny _ _ _ _ _ _ _ (World.drew wr); refine any_of_anyG (late := fun j => [10].contains j) (S := fun wS => Upd (fun k => (Value.slice A2 n2 c2').ownBlock = some k) wr wS) _ _ _ _ ?_
        have S0 := (Upd.refl (fun k => (Value.slice A2 n2 c2').ownBlock = some k) wr).drew
        refine anyG_takes (is := [0, 1, 2, 3, 4]) (vs := [_, .slice A2 n2 c2', _, .slice (some ⟨b, off, none⟩) len cap, _]) (m := 6) (listed2 := #[true, true, true, true, true, false, false, false, false, false, false]) (a2 := ⟨#[_, _, _, _, _, _, _, _, _, _, _, _, _, _, _, _, _, _, _, _, _, _, _, _, _, _, _, _, _, _, _, _, _, _], _⟩) (by kernel_rfl) (fun j hj => by first | (simp at hj; done) | (simp at hj; simp; omega)) (by kernel_rfl) (fun _ _ _ _ _ h => h) (Ys.cons rfl (Or.inl ⟨by rfl, fun W1 hW1 => by first | rfl | (go_simp; done) | (go_simp; with_reducible rfl)⟩) (Ys.cons rfl (Or.inl ⟨by rfl, fun W1 hW1 => by have c := (HI.out.b2.upd hW1 (fun e => by have := (World.ownsRow.lt HI.out.own _ e).1; omega)).cellv (i := 0) (v := .slice A2 n2 c2') rfl; go_simp⟩) (Ys.cons rfl (Or.inl ⟨by rfl, fun W1 hW1 => by first | rfl | (go_simp; done) | (go_simp; with_reducible rfl)⟩) (Ys.cons rfl (Or.inl ⟨by rfl, fun W1 hW1 => by have c := (HI.out.b0.upd hW1 (fun e => by have := (World.ownsRow.lt HI.out.own _ e).1; omega)).cellv (i := 0) (v := .slice (some ⟨b, off, none⟩) len cap) rfl; go_simp⟩) (Ys.cons rfl (Or.inl ⟨by rfl, fun W1 hW1 => by first | rfl | (go_simp; done) | (go_simp; with_reducible rfl)⟩) (Ys.nil)))))) (S0) (by rfl) (by rfl) ?_
        refine anyG_takes (is := [5, 6]) (vs := [_, .int .i64 x]) (m := 4) (listed2 := #[true, true, true, true, true, true, true, false, false, false, false]) (a2 := ⟨#[_, _, _, _, _, _, _, _, _, _, _, _, _, _, _, _, _, _, _, _, _, _, _, _, _, _, _, _, _, _, _, _, _, _], _⟩) (by kernel_rfl) (fun j hj => by first | (simp at hj; done) | (simp at hj; simp; omega)) (by kernel_rfl) (fun _ _ _ _ _ h => h) (Ys.cons rfl (Or.inl ⟨by rfl, fun W1 hW1 => by first | rfl | (go_simp; done) | (go_simp; with_reducible rfl)⟩) (Ys.cons rfl (Or.inl ⟨by rfl, fun W1 hW1 => by have c := ((HI.out.bel.trans (hW1.below (fun k hk => Nat.le_trans (by omega) (World.ownsRow.lt HI.out.own k hk).1) HI.out.bel.size)).cell (p := ⟨b, off + k, none⟩) HKb.out).trans HT.out; go_simp⟩) (Ys.nil))) (S0) (by rfl) (by rfl) ?_
        refine anyG_one (k := 7) (by kernel_rfl) rfl (by rfl) (fun Q2 hQ2 => ?_)
        have nG := new_atU (S := S0) (#[.int .i64 x]) 2
        obtain ⟨G, hG, bG, lG⟩ := nG
        go_wp2_with fail
        refine hQ2 _ _ (fun _ => S0.alloc _) ?_
        clear hQ2 Q2
        (try simp only [hG])
        clear hG
        have SG := S0.alloc (.cells (#[.int .i64 x]) 2)
        refine anyG_one (k := 8) (by kernel_rfl) rfl (by rfl) (fun Q2 hQ2 => ?_); go_wp2_with (refine wpList_push2 _ rfl (.tmp 24) (.tmp 30) 52 rfl (w.heap.size + 3) 2 _ 1 8 (fun n : Int => [Value.int .i64 n]) Try.underlying52 info_i64 (by rfl) (by decide) (fun _ => rfl) (fun _ u hu => by simp at hu; subst hu; rfl) (.slice A2 n2 c2') ((l.set m (-1)).take k) rfl (Own.alloc (Own.drewN_ HI.out.own 1) _) ⟨G, 0, none⟩ 1 x rfl (blk_news (α := Int) (vs := [Value.int .i64 x]) bG rfl) HLen.out (by decide) (by have := HI.out.size; simp; omega) ?_; intro v' w3 ho3 hu3 hw3; obtain ⟨A3, n3, c3, rfl, -, -⟩ := ho3.shape (fun _ => rfl); obtain ⟨p1, p2, p3⟩ := FreI.put (HI.out.call ((Below.refl _ _).drew.alloc (Nat.le_refl _) _)) hu3 ho3; have P3 := Lib.hid p1; clear p1); refine hQ2 _ _ (fun _ => SG.trans hu3 (fun k hk => .inl hk)) ?_; clear hQ2 Q2
        have S3 := SG.trans hu3 (fun k hk => .inl hk)
        refine anyG_takes (is := [9]) (vs := [_]) (m := 1) (listed2 := #[true, true, true, true, true, true, true, true, true, true, false]) (a2 := ⟨#[_, _, _, _, _, _, _, _, _, _, _, _, _, _, _, _, _, _, _, _, _, _, _, _, _, _, _, _, _, _, _, _, _, _], _⟩) (by kernel_rfl) (fun j hj => by first | (simp at hj; done) | (simp at hj; simp; omega)) (by kernel_rfl) (fun _ _ _ _ _ h => h) (Ys.cons rfl (Or.inl ⟨by rfl, fun W1 hW1 => by first | rfl | (go_simp; done) | (go_simp; with_reducible rfl)⟩) (Ys.nil)) (S3) (by rfl) (by rfl) ?_
        refine anyG_of_any _ _ _ _ (by kernel_rfl) ?_
        refine any_one (k := 10) (by kernel_rfl) rfl (by rfl) (fun Q2 hQ2 => ?_); go_wp2_with fail; (try refine hQ2 _ _ ?_); (try clear hQ2 Q2)
        refine wpAny_done (by kernel_rfl) ?_ _
        go_wp2
        go_roundw
        case rel => exact ⟨k + 1, _, by omega, by go_num, by rw [HN.out]; exact P3.out⟩
        case measure => simp [intOf]; omega
    · have hE : (l.set m (-1)).take k = l.set m (-1) := List.take_of_length_le (by have := HL.out; rw [List.length_set]; omega)
      rw [hE] at HI
      clear hE hin
      obtain ⟨A2, n2, c2', rfl, -, -⟩ := HI.out.own.shape (fun _ => rfl)
      go_wp2_with (first | (refine Blk.load rfl t20 _ rfl (w.heap.size + 2) t20 (rowV (.slice A2 n2 c2')) _ rfl HI.out.b2 Try.underlying86 rfl (by kernel_rfl) ?_) | (refine wpList_store_row rfl t20 (.tmp 4) (.tmp 33) rfl (w.heap.size + 1) t20 _ (rowV (.slice A2 n2 c2')) rfl rfl HI.out.b1 (by rfl) (by kernel_rfl) (by simp [Value.oneCell']) ?_; intro w5 hb5 hg5))
      refine bodyPost_ret (results_row rfl _ _ (w.heap.size + 1) _ _ _ rfl hb5 Try.underlying86 rfl (by kernel_rfl)) rfl (HPost.out _ _ ⟨_, rfl, (HI.out.own.grown hg5 (fun k hk => by have := (World.ownsRow.lt HI.out.own k hk).1; omega)).mono (by omega), HI.out.bel.trans (Only.below hg5 (by omega) (by have := HI.out.size; omega))⟩)
end Go.Proofs.Ytkjmacdekfbfhaa
