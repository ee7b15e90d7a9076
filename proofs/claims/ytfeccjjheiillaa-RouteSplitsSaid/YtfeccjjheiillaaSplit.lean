/- route.Split: keys by their stripes. (fast region) -/
import Derived.Test.YtfeccjjheiillaaKeys
import Derived.Test.YtfeccjjheiillaaRoute
import Derived.Test.YtfeccjjheiillaaRegT
import Derived.Deep.OwnRows
import Derived.Laws.OwnMore
namespace Go.Proofs.Ytfeccjjheiillaa
open Go.RowKit
set_option linter.unusedSimpArgs false
set_option linter.unusedVariables false
set_option maxHeartbeats 4000000
set_option maxRecDepth 100000
def partq (l : List Key) (n : Int) (i : Nat) : List Key := l.filter fun k => decide (ofq k.hi k.lo n = i)
theorem partq_len (l : List Key) (n : Int) (i : Nat) : (partq l n i).length ≤ l.length := List.length_filter_le _ _
theorem partq_yes {l : List Key} {n : Int} {i k : Nat} {x : Key} (h : l[k]? = some x) (hi : ofq x.hi x.lo n = i) : partq (l.take (k + 1)) n i = partq (l.take k) n i ++ [x] := by
  rw [take_next h]; unfold partq; rw [List.filter_append]; congr 1; simp [hi]
theorem partq_no {l : List Key} {n : Int} {i k : Nat} {x : Key} (h : l[k]? = some x) (hi : ofq x.hi x.lo n ≠ i) : partq (l.take (k + 1)) n i = partq (l.take k) n i := by
  rw [take_next h]; unfold partq; rw [List.filter_append]; simp [hi]
abbrev kzT : TypeId := 22
/-- Block g is m slices vs, each of the call's own; slice i holds f i. -/
structure PartsAt (w : World) (base g m : Nat) (vs : List Value) (f : Nat → List Key) : Prop where
  blk : Blk w g kzT vs.toArray
  len : vs.length = m
  own : ∀ (i : Nat) (v : Value), vs[i]? = some v → OwnK w base v (f i)
  ne : ∀ (i : Nat) (v : Value), vs[i]? = some v → v.ownBlock ≠ some g
  apart : ∀ (i j : Nat) (v v' : Value) (k : Nat), i ≠ j → vs[i]? = some v → vs[j]? = some v' → v.ownBlock = some k → v'.ownBlock ≠ some k
section
variable {w w' : World} {base g m : Nat} {vs : List Value} {f f' : Nat → List Key}
theorem PartsAt.call (h : PartsAt w base g m vs f) (hb : Below w.heap.size w w') : PartsAt w' base g m vs f :=
  ⟨h.blk.call hb, h.len, fun i v hi => (h.own i v hi).call hb, h.ne, h.apart⟩
theorem PartsAt.put (h : PartsAt w base g m vs f) {i : Nat} {v v' : Value} {y : Key} (hi : vs[i]? = some v) (hu : Upd (fun k => v.ownBlock = some k) w w') (ho : OwnK w' base v' (f i ++ [y])) (hw : v'.ownBlock = v.ownBlock ∨ v'.ownBlock = some w.heap.size) (hf : f' i = f i ++ [y]) (hf2 : ∀ j, j ≠ i → f' j = f j) :
    PartsAt (w'.setCell ⟨g, i, none⟩ v') base g m (vs.set i v') f' ∧ w'.cell? ⟨g, i, none⟩ = some v ∧ w'.frozen? ⟨g, i, none⟩ = false := by
  have hb : Blk w' g kzT vs.toArray := h.blk.upd hu (h.ne i v hi)
  have hne : v'.ownBlock ≠ some g := by
    rcases hw with e | e
    · rw [e]; exact h.ne i v hi
    · rw [e]; intro e2; have := h.blk.lt; cases e2; omega
  have hil : i < vs.length := (List.getElem?_eq_some_iff.1 hi).1
  have hset : ∀ (j : Nat) (u : Value), (vs.set i v')[j]? = some u → (j = i ∧ u = v') ∨ (j ≠ i ∧ vs[j]? = some u) := by
    intro j u hj
    rw [List.getElem?_set] at hj
    by_cases hji : i = j
    · subst hji; rw [if_pos rfl, if_pos hil] at hj; exact .inl ⟨rfl, (Option.some.inj hj).symm⟩
    · rw [if_neg hji] at hj; exact .inr ⟨fun e => hji e.symm, hj⟩
  have hfar : ∀ (j : Nat) (u : Value), j ≠ i → vs[j]? = some u → v'.ownBlock ≠ none → u.ownBlock ≠ v'.ownBlock := by
    intro j u hji hj hn e
    rcases hw with e2 | e2
    · cases hv : v.ownBlock with
      | none => rw [e2, hv] at hn; exact hn rfl
      | some k => exact h.apart i j v u k (fun e => hji e.symm) hi hj hv (by rw [e, e2, hv])
    · rw [e2] at e
      have := (World.ownsRow.lt (h.own j u hj) _ e).2
      omega
  refine ⟨⟨?_, by rw [List.length_set]; exact h.len, fun j u hj => ?_, fun j u hj => ?_, fun j k u u' b hjk hj hk hub hub' => ?_⟩, by rw [hb.cell]; simpa using hi, hb.frozen _⟩
  · have := hb.set_ i v'
    rw [List.setIfInBounds_toArray] at this
    exact this
  · rcases hset j u hj with ⟨rfl, rfl⟩ | ⟨hji, hj⟩
    · rw [hf]; exact ho.far (fun k hk e => hne (by rw [hk, e])) _
    · rw [hf2 j hji]
      exact ((h.own j u hj).upd hu (fun k hk e => h.apart i j v u k (fun e => hji e.symm) hi hj e hk)).far (fun k hk e => h.ne j u hj (by rw [hk, e])) _
  · rcases hset j u hj with ⟨rfl, rfl⟩ | ⟨hji, hj⟩
    · exact hne
    · exact h.ne j u hj
  · rcases hset j u hj with ⟨e1, e2⟩ | ⟨hji, hj2⟩
    · rcases hset k u' hk with ⟨e3, e4⟩ | ⟨hki, hk2⟩
      · exact hjk (e1.trans e3.symm)
      · subst e2
        exact hfar k u' hki hk2 (by rw [hub]; simp) (by rw [hub', hub])
    · rcases hset k u' hk with ⟨e3, e4⟩ | ⟨hki, hk2⟩
      · subst e4
        exact hfar j u hji hj2 (by rw [hub']; simp) (by rw [hub', hub])
      · exact h.apart j k u u' b hjk hj2 hk2 hub hub'
theorem OwnK.drew1 {w : World} {base : Nat} {v : Value} {l : List Key} (h : OwnK w base v l) : OwnK w.drew base v l := h
theorem PartsAt.made (w : World) (m : Nat) (f : Nat → List Key) (hf : ∀ i, f i = []) : PartsAt (w.alloc (.cells (madeCells #[.slice none 0 0] m) kzT)) w.heap.size w.heap.size m (List.replicate m (.slice none 0 0)) f := by
  have he : ∀ (i : Nat) (v : Value), (List.replicate m (Value.slice none 0 0))[i]? = some v → v = .slice none 0 0 := by
    intro i v hv
    rw [List.getElem?_replicate] at hv
    split at hv
    · exact (Option.some.inj hv).symm
    · cases hv
  refine ⟨?_, List.length_replicate, fun i v hv => ?_, fun i v hv => ?_, fun i j v v' k _ hv _ hk => ?_⟩
  · have e : madeCells #[Value.slice none 0 0] m = (List.replicate m (Value.slice none 0 0)).toArray := by rw [← toList_madeCells_one]
    rw [← e]; exact Blk.new _ _ _
  · rw [he i v hv, hf]; exact Own.nil _ _ _ _ _
  · rw [he i v hv]; simp [Value.ownBlock]
  · rw [he i v hv] at hk; simp [Value.ownBlock] at hk
end
def SplitS (w : World) (l : List Key) (m : Nat) (e : Ending) (w' : World) : Prop := ∃ (g : Nat) (vs : List Value), e = .returned (.slice (some ⟨g, 0, none⟩) m m) ∧ PartsAt w' w.heap.size g m vs (partq l m) ∧ Below w.heap.size w w' ∧ w.heap.size ≤ g
theorem right_nat {n : Int} (hr : rightq n = true) : ∃ m : Nat, n = m ∧ 1 ≤ m ∧ m ≤ 64 := by
  have := right_cases hr
  exact ⟨n.toNat, by omega, by omega, by omega⟩
theorem route_Split_no (A : Option Addr) (len cap : Nat) (n : Int) (w : World) (hn : I64 n) (hr : rightq n = false) :
    Calls Try.prog 12 #[.slice A len cap, .int .i64 n] w fun e w' => e = .returned (.slice none 0 0) ∧ Below w.heap.size w w' := by
  have HR := Lib.hid (fun W => route_Right n W hn)
  rw [hr] at HR
  clear hr
  go_enter Try.func12, Try.ntmps12
  go_wp2_with (go_at_call 43; refine (HR.out _).mono ?_; rintro e w1 ⟨rfl, rfl⟩)
  go_ret
  exact ⟨rfl, Below.refl _ _⟩
/-- What the loop keeps. -/
structure SplI (w wr : World) (g m : Nat) (vs : List Value) (f : Nat → List Key) : Prop where
  parts : PartsAt wr w.heap.size g m vs f
  bel : Below w.heap.size w wr
  gb : w.heap.size ≤ g
theorem info_kz : (Try.prog.info? 22).map (fun i => (i.zero, i.size, i.bytes)) = some (some (.slice none 0 0), 1, 24) := by kernel_rfl
theorem route_Split (A : Option Addr) (len cap : Nat) (l : List Key) (m : Nat) (w : World) (hs : KeysAre w A len cap l) (hg : ∀ x ∈ l, x.good) (hm2 : m ≤ 64) (hr : rightq m = true) (hl : len ≤ 100000) :
    Calls Try.prog 12 #[.slice A len cap, .int .i64 m] w (SplitS w l m) := by
  have hn : I64 (m : Int) := by unfold I64; omega
  have HR := Lib.hid (fun W => route_Right (m : Int) W hn)
  have HOf := Lib.hid (fun hi lo W h1 h2 => route_Of hi lo (m : Int) W hn h1 h2)
  have HBd := Lib.hid (fun hi lo => (ofq_bd hi lo (m : Int)).2.2 hr)
  rw [hr] at HR
  have HS := Lib.hid hs
  have HL := Lib.hid hs.1
  have HG := Lib.hid hg
  clear hs hg hr hn
  have HPost := Lib.hid (fun (e : Ending) (w' : World) (h : ∃ (g : Nat) (vs : List Value), e = .returned (.slice (some ⟨g, 0, none⟩) m m) ∧ PartsAt w' w.heap.size g m vs (partq l m) ∧ Below w.heap.size w w' ∧ w.heap.size ≤ g) => (show SplitS w l m e w' from h))
  have hmk := run_make_row' (P := Try.prog) 24 22 (.slice none 0 0) 24 Try.underlying24 info_kz rfl .i64 .i64 m (by omega) (by omega)
  have H0 := Lib.hid (show SplI w (w.alloc (.cells (madeCells #[.slice none 0 0] m) kzT)) w.heap.size m (List.replicate m (.slice none 0 0)) (fun i => partq (l.take 0) m i) from ⟨PartsAt.made w m _ (fun i => rfl), by go_grown, Nat.le_refl _⟩)
  go_enter Try.func12, Try.ntmps12
  go_wp2_with (go_at_call 43; refine (HR.out _).mono ?_; rintro e w1 ⟨rfl, rfl⟩)
  clear hmk
  go_loopw [16] (fun i wr => ∃ k : Nat, ∃ vs, k ≤ len ∧ i = .int .i64 k ∧ SplI w wr w.heap.size m vs (fun i => partq (l.take k) m i)) (fun i _ => len - (intOf i).toNat)
  case atStart => exact ⟨0, _, Nat.zero_le _, rfl, H0.out⟩
  case round =>
    obtain ⟨k, vs, hk, rfl, hin⟩ := hrel
    have HI := Lib.hid hin
    clear hin
    by_cases hlt : k < len
    · obtain ⟨b, off, x, rfl, hx, hb, t0, t1⟩ := HS.out.at_ hlt
      have k0 := (HI.out.bel.cell (p := ⟨b, off + k * 2, none⟩) hb).trans t0
      have k1 := (HI.out.bel.cell (p := ⟨b, off + k * 2 + 1, none⟩) hb).trans t1
      have hki : (k : Int) < (len : Int) := by omega
      have HX := Lib.hid hx
      have HGx := Lib.hid (HG.out x (List.mem_of_getElem? hx))
      have BX := Lib.hid (Blk.new wr 88 x.row)
      have E1 := Lib.hid (HI.out.bel.alloc HI.out.bel.size (.cells x.row 88))
      have P1 := Lib.hid (HI.out.parts.call ((Below.refl _ wr).alloc (Nat.le_refl _) (.cells x.row 88)))
      have hbd := HBd.out x.hi x.lo
      obtain ⟨at_, hat⟩ : ∃ at_ : Nat, ofq x.hi x.lo m = at_ := ⟨(ofq x.hi x.lo m).toNat, by omega⟩
      have hatm : at_ < m := by omega
      have HAt := Lib.hid hat
      have HO := Lib.hid (fun W => HOf.out x.hi x.lo W HGx.out.1 HGx.out.2)
      rw [hat] at HO
      obtain ⟨v, hv⟩ : ∃ v, vs[at_]? = some v := ⟨_, List.getElem?_eq_getElem (by have := HI.out.parts.len; omega)⟩
      have HV := Lib.hid hv
      obtain ⟨A2, n2, c2, rfl, hn2, -⟩ := (HI.out.parts.own at_ v hv).shape key_len
      have HLen := Lib.hid (show (partq (l.take k) m at_).length < 1000000 from by
        have h1 := partq_len (l.take k) m at_
        have h2 : (l.take k).length ≤ k := List.length_take_le _ _
        omega)
      have dat : ((at_ : Int)) < (m : Int) := by omega
      clear hx hb t0 t1 hbd hat hv hn2
      focus (go_upto_region 8 with (first | (go_at_call 44; refine (HO.out _).mono ?_; rintro e w2 ⟨rfl, hb2⟩; have P2 := Lib.hid (P1.out.call hb2); have E2 := Lib.hid (E1.out.trans (hb2.mono E1.out.size)); have X2 := Lib.hid (BX.out.call hb2); clear hb2)))
      clear k0 k1
      refine wp_region_any (by kernel_rfl) ?_; change wpAny _ _ _ _ _ _ _ (World.drew w2); refine any_of_anyG (late := fun j => [10].contains j) (S := fun wS => Upd (fun k => (Value.slice A2 n2 c2).ownBlock = some k) w2 wS) _ _ _ _ ?_
      have S0 := (Upd.refl (fun k => (Value.slice A2 n2 c2).ownBlock = some k) w2).drew
      refine anyG_takes (is := [0, 1, 2, 3, 4]) (vs := [_, _, _, _, _]) (m := 6) (listed2 := #[true, true, true, true, true, false, false, false, false, false, false]) (a2 := ⟨#[_, _, _, _, _, _, _, _, _, _, _, _, _, _, _, _, _, _, _, _, _, _, _, _, _, _, _, _, _, _, _, _, _, _, _], _⟩) (by kernel_rfl) (fun j hj => by first | (simp at hj; done) | (simp at hj; simp; omega)) (by kernel_rfl) (fun _ _ _ _ _ h => h) (Ys.cons rfl (Or.inl ⟨by rfl, fun W1 hW1 => by first | rfl | (go_simp; done) | (go_simp; with_reducible rfl)⟩) (Ys.cons rfl (Or.inl ⟨by rfl, fun W1 hW1 => by first | rfl | (go_simp; done) | (go_simp; with_reducible rfl)⟩) (Ys.cons rfl (Or.inl ⟨by rfl, fun W1 hW1 => by first | rfl | (go_simp; done) | (go_simp; with_reducible rfl)⟩) (Ys.cons rfl (Or.inl ⟨by rfl, fun W1 hW1 => by first | rfl | (go_simp; done) | (go_simp; with_reducible rfl)⟩) (Ys.cons rfl (Or.inl ⟨by rfl, fun W1 hW1 => by first | rfl | (go_simp; done) | (go_simp; with_reducible rfl)⟩) (Ys.nil)))))) (S0) (by rfl) (by rfl) ?_
      refine anyG_takes (is := [5, 6]) (vs := [.slice A2 n2 c2, _]) (m := 4) (listed2 := #[true, true, true, true, true, true, true, false, false, false, false]) (a2 := ⟨#[_, _, _, _, _, _, _, _, _, _, _, _, _, _, _, _, _, _, _, _, _, _, _, _, _, _, _, _, _, _, _, _, _, _, _], _⟩) (by kernel_rfl) (fun j hj => by first | (simp at hj; done) | (simp at hj; simp; omega)) (by kernel_rfl) (fun _ _ _ _ _ h => h) (Ys.cons rfl (Or.inl ⟨by rfl, fun W1 hW1 => by have c := (P2.out.blk.upd hW1 (P2.out.ne _ _ HV.out)).cellv (i := at_) (v := .slice A2 n2 c2) (by simpa using HV.out); go_simp⟩) (Ys.cons rfl (Or.inl ⟨by rfl, fun W1 hW1 => exec_load (ty := 88) (x := .tmp 7) rfl rfl (run_loadAt_blk _ _ _ _ _ _ (X2.out.upd hW1 (fun e => absurd (World.ownsRow.lt (HI.out.parts.own _ _ HV.out) _ e).2 (Nat.lt_irrefl _))) Try.underlying88 rfl (by first | kernel_rfl | exact info_num _))⟩) (Ys.nil))) (S0) (by rfl) (by rfl) ?_
      refine anyG_one (k := 7) (by kernel_rfl) rfl (by rfl) (fun Q2 hQ2 => ?_)
      have nG := new_atU (S := S0) (#[.int .u64 x.hi, .int .u64 x.lo]) 88
      obtain ⟨G, hG, bG, lG⟩ := nG
      go_wp2_with fail
      refine hQ2 _ _ (fun _ => S0.alloc _) ?_
      clear hQ2 Q2
      (try simp only [hG])
      clear hG
      have SG := S0.alloc (.cells (#[.int .u64 x.hi, .int .u64 x.lo]) 88)
      refine anyG_one (k := 8) (by kernel_rfl) rfl (by rfl) (fun Q2 hQ2 => ?_); go_wp2_with (refine wpList_push2 _ rfl (.tmp 28) (.tmp 30) 22 rfl w.heap.size 88 _ 2 16 _ Try.underlying22 info_key (by rfl) (by decide) (fun _ => rfl) key_one (.slice A2 n2 c2) (partq (l.take k) m at_) rfl (Own.alloc (OwnK.drew1 (P2.out.own _ _ HV.out)) _) ⟨G, 0, none⟩ 1 x rfl (blk_news (α := Key) (vs := x.cells) bG rfl) HLen.out (by decide) (by have := E2.out.size; simp; omega) ?_; intro v' w3 ho3 hu3 hw3; obtain ⟨A3, n3, c3, rfl, -, -⟩ := ho3.shape key_len; obtain ⟨p1, p2, p3⟩ := PartsAt.put (f' := fun i => partq (l.take (k + 1)) m i) (P2.out.call ((Below.refl _ _).drew.alloc (Nat.le_refl _) _)) HV.out hu3 ho3 hw3 (partq_yes HX.out HAt.out) (fun j hj => partq_no HX.out (by rw [HAt.out]; omega)); have P3 := Lib.hid p1; clear p1); refine hQ2 _ _ (fun _ => SG.trans hu3 (fun k hk => .inl hk)) ?_; clear hQ2 Q2
      have S3 := SG.trans hu3 (fun k hk => .inl hk)
      refine anyG_takes (is := [9]) (vs := [_]) (m := 1) (listed2 := #[true, true, true, true, true, true, true, true, true, true, false]) (a2 := ⟨#[_, _, _, _, _, _, _, _, _, _, _, _, _, _, _, _, _, _, _, _, _, _, _, _, _, _, _, _, _, _, _, _, _, _, _], _⟩) (by kernel_rfl) (fun j hj => by first | (simp at hj; done) | (simp at hj; simp; omega)) (by kernel_rfl) (fun _ _ _ _ _ h => h) (Ys.cons rfl (Or.inl ⟨by rfl, fun W1 hW1 => by first | rfl | (go_simp; done) | (go_simp; with_reducible rfl)⟩) (Ys.nil)) (S3) (by rfl) (by rfl) ?_
      refine anyG_of_any _ _ _ _ (by kernel_rfl) ?_
      refine any_one (k := 10) (by kernel_rfl) rfl (by rfl) (fun Q2 hQ2 => ?_); go_wp2_with fail; (try refine hQ2 _ _ ?_); (try clear hQ2 Q2)
      refine wpAny_done (by kernel_rfl) ?_ _
      go_wp2
      go_roundw
      case rel => exact ⟨k + 1, _, by omega, by go_num, P3.out, (E2.out.trans ((S3).below (fun k hk => (World.ownsRow.lt (P2.out.own _ _ HV.out) k hk).1) E2.out.size)).setCell (Nat.le_refl _) _, Nat.le_refl _⟩
      case measure => simp [intOf]; omega
    · have hE : l.take k = l := List.take_of_length_le (by have := HL.out; omega)
      rw [hE] at HI
      clear hE
      go_wp2
      go_ret
      exact HPost.out _ _ ⟨_, _, rfl, HI.out.parts, HI.out.bel, Nat.le_refl _⟩
end Go.Proofs.Ytfeccjjheiillaa
