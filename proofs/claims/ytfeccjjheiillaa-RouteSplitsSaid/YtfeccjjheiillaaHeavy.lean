/- route.Heaviest; the reference's Part. (fast region) -/
import Derived.Test.YtfeccjjheiillaaSplit
import Derived.Deep.QuietTactic
import Derived.BigQuiet
namespace Go.Proofs.Ytfeccjjheiillaa
open Go.RowKit
set_option linter.unusedSimpArgs false
set_option linter.unusedVariables false
set_option maxHeartbeats 4000000
set_option maxRecDepth 100000
def hvs (s : Int × Int) (i size : Int) : Int × Int := if s.1 < 0 ∨ s.2 < size then (i, size) else s
def hvq (f : Nat → Int) : Nat → Int × Int
  | 0 => (-1, 0)
  | k + 1 => hvs (hvq f k) k (f k)
def lwq (f : Nat → Int) : Nat → Int × Int
  | 0 => (0, f 0)
  | k + 1 => if (lwq f k).2 < f k then ((k : Int), f k) else lwq f k
theorem hvq_bd (f : Nat → Int) (B : Int) (hf : ∀ k, 0 ≤ f k ∧ f k ≤ B) (h0 : 0 ≤ B) : ∀ k, -1 ≤ (hvq f k).1 ∧ (hvq f k).1 < (if k = 0 then 0 else (k : Int)) ∧ 0 ≤ (hvq f k).2 ∧ (hvq f k).2 ≤ B
  | 0 => by simp [hvq]; omega
  | k + 1 => by
    have h := hvq_bd f B hf h0 k
    have := hf k
    show -1 ≤ (hvs (hvq f k) k (f k)).1 ∧ (hvs (hvq f k) k (f k)).1 < _ ∧ 0 ≤ (hvs (hvq f k) k (f k)).2 ∧ (hvs (hvq f k) k (f k)).2 ≤ B
    rw [if_neg (by omega)]
    unfold hvs
    split
    · simp only; omega
    · split at h <;> omega
theorem hv_lw (f : Nat → Int) (hf : ∀ k, 0 ≤ f k) : ∀ k : Nat, hvq f (k + 1) = lwq f (k + 1) ∧ 0 ≤ (lwq f (k + 1)).1
  | 0 => by
    constructor
    · show hvs (-1, 0) 0 (f 0) = if f 0 < f 0 then _ else (0, f 0)
      unfold hvs
      rw [if_pos (Or.inl (by decide)), if_neg (by omega)]
    · show 0 ≤ (if f 0 < f 0 then (((0 : Nat) : Int), f 0) else (0, f 0)).1
      split <;> simp
  | k + 1 => by
    obtain ⟨h1, h2⟩ := hv_lw f hf k
    constructor
    · show hvs (hvq f (k + 1)) (k + 1 : Nat) (f (k + 1)) = if (lwq f (k + 1)).2 < f (k + 1) then _ else _
      rw [h1]
      unfold hvs
      by_cases h : (lwq f (k + 1)).2 < f (k + 1)
      · rw [if_pos (Or.inr h), if_pos h]
      · rw [if_neg (by omega), if_neg h]
    · show 0 ≤ (if (lwq f (k + 1)).2 < f (k + 1) then (((k + 1 : Nat) : Int), f (k + 1)) else lwq f (k + 1)).1
      split
      · simp only; omega
      · exact h2
abbrev itT : TypeId := 3
/-- The two boxes. -/
structure Two2 (w : World) (a b : Nat) (s : Int × Int) : Prop where
  h1 : Blk w a itT #[.int .i64 s.1]
  h2 : Blk w b itT #[.int .i64 s.2]
  ne : a ≠ b
theorem Two2.call {w w' : World} {a b : Nat} {s : Int × Int} (h : Two2 w a b s) (hb : Below w.heap.size w w') : Two2 w' a b s := ⟨h.h1.call hb, h.h2.call hb, h.ne⟩
def EachS (a b : Nat) (s : Int × Int) (i size : Int) (w : World) (e : Ending) (w' : World) : Prop := (∃ v, e = .returned v) ∧ Two2 w' a b (hvs s i size) ∧ Upd (fun k => k = a ∨ k = b) w w'
theorem heavy_each (a b : Nat) (s : Int × Int) (i size : Int) (w : World) (h : Two2 w a b s) :
    Calls Try.prog 45 #[.int .i64 i, .int .i64 size, .pointer (some ⟨a, 0, none⟩), .pointer (some ⟨b, 0, none⟩)] w (EachS a b s i size w) := by
  have c1 := h.h1.cellv (i := 0) (v := .int .i64 s.1) rfl
  have c2 := h.h2.cellv (i := 0) (v := .int .i64 s.2) rfl
  have f1 := h.h1.frozen 0
  have f2 := h.h2.frozen 0
  have hne := h.ne
  have hne2 : ¬ a = b := hne
  have hne3 : ¬ b = a := fun e => hne e.symm
  have H := Lib.hid h
  have HS := Lib.hid (show Two2 ((w.setCell ⟨a, 0, none⟩ (.int .i64 i)).setCell ⟨b, 0, none⟩ (.int .i64 size)) a b (i, size) ∧ Upd (fun k => k = a ∨ k = b) w ((w.setCell ⟨a, 0, none⟩ (.int .i64 i)).setCell ⟨b, 0, none⟩ (.int .i64 size)) from
    ⟨⟨(h.h1.set_ 0 _).far hne _, (h.h2.far (p := ⟨a, 0, none⟩) (Ne.symm hne) _).set_ 0 _, hne⟩, ((Upd.refl (fun k => k = a ∨ k = b) w).setCell (p := ⟨a, 0, none⟩) (.inl (.inl rfl)) _).setCell (p := ⟨b, 0, none⟩) (.inl (.inr rfl)) _⟩)
  clear h hne
  by_cases h1 : s.1 < 0
  · have HE := Lib.hid (show hvs s i size = (i, size) from if_pos (.inl h1))
    have d1 : decide (s.1 < 0) = true := by simpa using h1
    clear h1
    go_enter Try.func45, Try.ntmps45
    go_wp2
    first | go_ret | go_returns | go_end0 | skip
    exact ⟨⟨_, rfl⟩, by rw [HE.out]; exact HS.out.1, HS.out.2⟩
  · have d1 : decide (s.1 < 0) = false := by simpa using h1
    by_cases h2 : s.2 < size
    · have HE := Lib.hid (show hvs s i size = (i, size) from if_pos (.inr h2))
      have d2 : decide (s.2 < size) = true := by simpa using h2
      clear h1 h2
      go_enter Try.func45, Try.ntmps45
      go_wp2
      first | go_ret | go_returns | go_end0 | skip
      exact ⟨⟨_, rfl⟩, by rw [HE.out]; exact HS.out.1, HS.out.2⟩
    · have HE := Lib.hid (show hvs s i size = s from if_neg (by omega))
      have d2 : decide (s.2 < size) = false := by simpa using h2
      clear h1 h2 HS
      go_enter Try.func45, Try.ntmps45
      go_wp2
      first | go_ret | go_returns | go_end0 | skip
      exact ⟨⟨_, rfl⟩, by rw [HE.out]; exact H.out, Upd.refl _ _⟩
def lenf (l : List Key) (n : Int) (i : Nat) : Int := ((partq l n i).length : Nat)
theorem lenf_bd (l : List Key) (n : Int) (i : Nat) : 0 ≤ lenf l n i ∧ lenf l n i ≤ l.length := ⟨by unfold lenf; omega, by unfold lenf; have := partq_len l n i; omega⟩
def heavq (l : List Key) (n : Int) : Int × Int := if rightq n then hvq (lenf l n) n.toNat else (-1, 0)
def HeavI (w wr : World) (g m k : Nat) (vs : List Value) (l : List Key) (n : Int) (B : Nat) : Prop := Two2 wr w.heap.size (w.heap.size + 1) (hvq (lenf l n) k) ∧ PartsAt wr B g m vs (partq l n) ∧ Below w.heap.size w wr ∧ w.heap.size + 2 ≤ B ∧ B ≤ g
theorem HeavI.next {w wr w' : World} {g m k : Nat} {vs : List Value} {l : List Key} {n : Int} {B : Nat} {e : Ending} (h : HeavI w wr g m k vs l n B) (he : EachS w.heap.size (w.heap.size + 1) (hvq (lenf l n) k) k (lenf l n k) wr e w') : HeavI w w' g m (k + 1) vs l n B := by
  obtain ⟨h1, h2, h3, h4, h5⟩ := h
  obtain ⟨-, k1, k2⟩ := he
  refine ⟨k1, ⟨h2.blk.upd k2 (fun e => by omega), h2.len, fun i v hi => (h2.own i v hi).upd k2 (fun b hb e => ?_), h2.ne, h2.apart⟩, h3.trans (k2.below (fun b hb => by omega) h3.size), h4, h5⟩
  have := (World.ownsRow.lt (h2.own i v hi) b hb).1
  omega
theorem two2_new (w : World) : Two2 ((w.alloc (.cells #[.int .i64 (-1)] itT)).alloc (.cells #[.int .i64 0] itT)) w.heap.size (w.heap.size + 1) (-1, 0) := ⟨(Blk.new w _ _).alloc _, Blk.new2 _ _ _ _, by omega⟩
theorem route_Heaviest_no (A : Option Addr) (len cap : Nat) (l : List Key) (n : Int) (w : World) (hn : I64 n) (hr : rightq n = false) :
    Calls Try.prog 13 #[.slice A len cap, .int .i64 n] w fun e w' => e = .returned (.tuple #[.int .i64 (heavq l n).1, .int .i64 (heavq l n).2]) ∧ Below w.heap.size w w' := by
  have HE := Lib.hid (show heavq l n = (-1, 0) from if_neg (by rw [hr]; simp))
  rw [HE.out]
  have HSp := Lib.hid (fun W => route_Split_no A len cap n W hn hr)
  have H2 := Lib.hid (two2_new w)
  have E0 := Lib.hid (show Below w.heap.size w ((w.alloc (.cells #[.int .i64 (-1)] itT)).alloc (.cells #[.int .i64 0] itT)) by go_grown)
  clear HE hr
  go_enter Try.func13, Try.ntmps13
  go_wp2_with (go_at_call 12; refine (HSp.out _).mono ?_; rintro e w1 ⟨rfl, hb1⟩; have H3 := Lib.hid (H2.out.call hb1); have E1 := Lib.hid (E0.out.trans (hb1.mono E0.out.size)); clear hb1)
  refine wp_loop_rounds 1 ?_
  rw [rounds_succ]
  go_wp2
  have c1 := H3.out.h1.cellv (i := 0) (v := .int .i64 (-1)) rfl
  have c2 := H3.out.h2.cellv (i := 0) (v := .int .i64 0) rfl
  go_quiet (fail)
  go_wp2
  go_ret2
  exact ⟨rfl, below_drewN E1.out nq⟩
theorem route_Heaviest (A : Option Addr) (len cap : Nat) (l : List Key) (m : Nat) (w : World) (hs : KeysAre w A len cap l) (hg : ∀ x ∈ l, x.good) (hm2 : m ≤ 64) (hr : rightq m = true) (hl : len ≤ 100000) :
    Calls Try.prog 13 #[.slice A len cap, .int .i64 m] w fun e w' => e = .returned (.tuple #[.int .i64 (heavq l m).1, .int .i64 (heavq l m).2]) ∧ Below w.heap.size w w' := by
  have HE := Lib.hid (show heavq l m = hvq (lenf l m) m from if_pos hr)
  rw [HE.out]
  have E0 := Lib.hid (show Below w.heap.size w ((w.alloc (.cells #[.int .i64 (-1)] itT)).alloc (.cells #[.int .i64 0] itT)) by go_grown)
  have HSp := Lib.hid (route_Split A len cap l m _ (slice_keep hs E0.out) hg hm2 hr hl)
  have H2 := Lib.hid (two2_new w)
  have HL := Lib.hid hs.1
  have HLf := Lib.hid (fun i => lenf_bd l m i)
  have HRet := Lib.hid (fun (k : Nat) => hvq_bd (lenf l m) len (fun i => by have := lenf_bd l m i; have := HL.out; omega) (by omega) k)
  clear HE hr hs hg
  go_enter Try.func13, Try.ntmps13
  go_wp2_with (go_at_call 12; refine HSp.out.mono ?_; rintro e w1 ⟨g, vs, rfl, hp1, hb1, hg1⟩; have H3 := Lib.hid (show ∃ B, HeavI w w1 g m 0 vs l m B from ⟨_, H2.out.call hb1, hp1, E0.out.trans (hb1.mono E0.out.size), by simp, hg1⟩); clear hp1 hb1 hg1)
  obtain ⟨B, h3⟩ := H3.out
  have H3 := Lib.hid h3
  clear h3
  go_loopw [16] (fun i wr => ∃ k : Nat, k ≤ m ∧ i = .int .i64 k ∧ HeavI w wr g m k vs l m B) (fun i _ => m - (intOf i).toNat)
  case atStart => exact ⟨0, Nat.zero_le _, rfl, H3.out⟩
  case round =>
    obtain ⟨k, hk, rfl, hin⟩ := hrel
    have HI := Lib.hid hin
    clear hin
    by_cases hlt : k < m
    · have hki : (k : Int) < (m : Int) := by omega
      obtain ⟨v, hv⟩ : ∃ v, vs[k]? = some v := ⟨_, List.getElem?_eq_getElem (by have := HI.out.2.1.len; omega)⟩
      have c0 := HI.out.2.1.blk.cellv (i := k) (v := v) (by simpa using hv)
      obtain ⟨A2, n2, c2, rfl, hn2, -⟩ := (HI.out.2.1.own k v hv).shape key_len
      have HEach := Lib.hid (heavy_each w.heap.size (w.heap.size + 1) (hvq (lenf l m) k) k (lenf l m k) wr HI.out.1)
      have HN := Lib.hid (fun e w' => HI.out.next (e := e) (w' := w'))
      have hn3 : lenf l m k = (n2 : Int) := by unfold lenf; rw [hn2]
      rw [hn3] at HEach HN
      clear hn2 hn3 hv
      go_wp2_with (go_at_call 45; refine HEach.out.mono ?_; intro e w4 he; have N4 := Lib.hid (HN.out _ _ he); obtain ⟨v5, rfl⟩ := he.1; clear he)
      go_roundw
      case rel => exact ⟨k + 1, by omega, by go_num, N4.out⟩
      case measure => simp [intOf]; omega
    · obtain rfl : k = m := by omega
      have c1 := HI.out.1.h1.cellv (i := 0) (v := .int .i64 (hvq (lenf l k) k).1) rfl
      have c2 := HI.out.1.h2.cellv (i := 0) (v := .int .i64 (hvq (lenf l k) k).2) rfl
      go_wp2
      go_quiet (fail)
      go_wp2
      go_ret2
      exact ⟨rfl, below_drewN HI.out.2.2.1 nq⟩
def PartS (w : World) (l : List Key) (n : Int) (i : Nat) (e : Ending) (w' : World) : Prop := ∃ A2 n2 c2, e = .returned (.slice A2 n2 c2) ∧ KeysAre w' A2 n2 c2 (partq l n i) ∧ Below w.heap.size w w'
theorem ref05_Part (A : Option Addr) (len cap : Nat) (l : List Key) (n : Int) (i : Nat) (w : World) (hs : KeysAre w A len cap l) (hg : ∀ x ∈ l, x.good) (hn : I64 n) (hl : len ≤ 100000) :
    Calls Try.prog 16 #[.slice A len cap, .int .i64 n, .int .i64 i] w (PartS w l n i) := by
  have HS := Lib.hid hs
  have HL := Lib.hid hs.1
  have HG := Lib.hid hg
  have HOf := Lib.hid (fun hi lo W h1 h2 => ref_Of hi lo n W hn h1 h2)
  clear hs hg hn
  go_enter Try.func16, Try.ntmps16
  go_wp2
  go_loopw [7, 8] (fun v j wr => ∃ k : Nat, k ≤ len ∧ j = .int .i64 k ∧ OwnK wr w.heap.size v (partq (l.take k) n i) ∧ Below w.heap.size w wr) (fun _ j _ => len - (intOf j).toNat)
  case atStart => exact ⟨0, Nat.zero_le _, rfl, Own.nil _ _ _ _ _, Below.refl _ _⟩
  case round =>
    obtain ⟨k, hk, rfl, hown, hbel⟩ := hrel
    have HO := Lib.hid hown
    have HB := Lib.hid hbel
    clear hown hbel
    by_cases hlt : k < len
    · obtain ⟨b, off, x, rfl, hx, hb, t0, t1⟩ := HS.out.at_ hlt
      have k0 := (HB.out.cell (p := ⟨b, off + k * 2, none⟩) hb).trans t0
      have k1 := (HB.out.cell (p := ⟨b, off + k * 2 + 1, none⟩) hb).trans t1
      have hki : (k : Int) < (len : Int) := by omega
      have HX := Lib.hid hx
      have HGx := Lib.hid (HG.out x (List.mem_of_getElem? hx))
      have HC := Lib.hid (fun W => HOf.out x.hi x.lo W HGx.out.1 HGx.out.2)
      have HLen := Lib.hid (show (partq (l.take k) n i).length < 1000000 from by
        have h1 := partq_len (l.take k) n i
        have h2 : (l.take k).length ≤ k := List.length_take_le _ _
        omega)
      have HK := Lib.hid (fun (W : World) (h : Below wr.heap.size wr W) => And.intro ((h.cell (p := ⟨b, off + k * 2, none⟩) (Nat.lt_of_lt_of_le hb HB.out.size)).trans k0) ((h.cell (p := ⟨b, off + k * 2 + 1, none⟩) (Nat.lt_of_lt_of_le hb HB.out.size)).trans k1))
      clear hx hb t0 t1
      by_cases hat : ofq x.hi x.lo n = i
      · have HP := Lib.hid (partq_yes HX.out hat)
        have de : (ofq x.hi x.lo n == (i : Int)) = true := by simpa using hat
        generalize ofq x.hi x.lo n = O at *
        clear hat
        go_wp2_with (first
          | (go_at_call 46; refine (HC.out _).mono ?_; rintro e w2 ⟨rfl, hb2⟩; have k20 := (HK.out _ hb2).1; have k21 := (HK.out _ hb2).2; have E2 := Lib.hid (HB.out.trans (hb2.mono HB.out.size)); have O2 := Lib.hid (HO.out.call hb2); clear hb2)
          | (at_builtin; refine push_key _ rfl _ _ rfl w.heap.size _ _ rfl (O2.out.alloc _) w2.heap.size _ 1 x rfl (Blk.new w2 _ _) HLen.out (by have := E2.out.size; simp; omega) ?_; intro v3 w3 ho3 hu3 hw3; have O3 := Lib.hid ho3; have E3 := Lib.hid ((E2.out.alloc E2.out.size _).trans (hu3.below (fun j hj => (World.ownsRow.lt O2.out j hj).1) (by have := E2.out.size; simp; omega))); clear ho3 hu3 hw3))
        go_roundw
        case rel => exact ⟨k + 1, by omega, by go_num, by rw [HP.out]; exact O3.out, E3.out⟩
        case measure => simp [intOf]; omega
      · have HP := Lib.hid (partq_no HX.out hat)
        have de : (ofq x.hi x.lo n == (i : Int)) = false := by simpa using hat
        generalize ofq x.hi x.lo n = O at *
        clear hat
        go_wp2_with (first
          | (go_at_call 46; refine (HC.out _).mono ?_; rintro e w2 ⟨rfl, hb2⟩; have E2 := Lib.hid (HB.out.trans (hb2.mono HB.out.size)); have O2 := Lib.hid (HO.out.call hb2); clear hb2))
        go_roundw
        case rel => exact ⟨k + 1, by omega, by go_num, by rw [HP.out]; exact O2.out, E2.out⟩
        case measure => simp [intOf]; omega
    · have hE : l.take k = l := List.take_of_length_le (by have := HL.out; omega)
      rw [hE] at HO
      clear hE
      obtain ⟨A3, n3, c3, rfl, -, hs3⟩ := HO.out.shape key_len
      have HS3 := Lib.hid hs3
      clear hs3
      go_wp2
      go_ret
      exact ⟨_, _, _, rfl, HS3.out, HB.out⟩
end Go.Proofs.Ytfeccjjheiillaa
