/- Several texts in one. -/
import Derived.Test.YtfeccjjheiillaaHist
import Derived.Test.YtfeccjjheiillaaKeep
import Derived.Test.YtfeccjjheiillaaCat
import Derived.Test.YtfeccjjheiillaaSer6
import Derived.Test.YtfeccjjheiillaaSat
import Derived.Test.YtfeccjjheiillaaBlk
import Derived.BigQuiet
import Derived.Deep.QuietTactic
import Derived.Deep.Light
import Derived.Test.YtfeccjjheiillaaNumP
import Derived.Laws.BitsAllLaws
import Derived.Test.YtfeccjjheiillaaOpen
import Derived.Laws.Externs
import Derived.Test.YtfeccjjheiillaaNumQ
import Derived.Test.YtfeccjjheiillaaOwn
import Derived.Test.YtfeccjjheiillaaRegB
/- flywheelref14.Put: the last decisions behind one more. -/
namespace Go.Proofs.Ytfeccjjheiillaa
open Go.RowKit
set_option linter.unusedSimpArgs false
set_option linter.unusedVariables false
set_option maxHeartbeats 4000000
set_option maxRecDepth 100000
def PutA (w : World) (l : List Adv) (e : Ending) (w' : World) : Prop := ∃ A n c, e = .returned (.slice A n c) ∧ AdvsAre w' A n c l ∧ Below w.heap.size w w' ∧ (∀ a, A = some a → w.heap.size ≤ a.block ∧ a.block < w'.heap.size)
theorem ownA_is {w : World} {base : Nat} {A : Option Addr} {n c : Nat} {l : List Adv} (h : OwnA w base (.slice A n c) l) : AdvsAre w A n c l := by
  obtain ⟨A', n', c', he, _, hs⟩ := h.shape adv_len
  cases he; exact hs
theorem slice_tailA {w : World} {base h n c : Nat} {y : Adv} {l : List Adv} (ho : OwnA w base (.slice (some ⟨h, 0, none⟩) n c) (y :: l)) : (c = 1 → l = []) ∧ (c ≠ 1 → AdvsAre w (some ⟨h, 5, none⟩) (n - 1) (c - 1) l) ∧ (l = [] → AdvsAre w (some ⟨h, 0, none⟩) (n - 1) (c - 1) l) := by
  have hs := ownA_is ho
  have hl := hs.1
  have hnc := hs.2.1
  simp only [List.length_cons] at hl
  refine ⟨fun hc => List.eq_nil_of_length_eq_zero (by omega), fun hc => ⟨by omega, by omega, by have := hs.2.2.1; omega, (fun h => by cases h), fun a ha => ?_⟩, fun hl0 => ⟨by rw [hl0]; simp; rw [hl0] at hl; simp at hl; omega, by omega, by have := hs.2.2.1; omega, (fun h => by cases h), fun a ha => ?_⟩⟩
  · cases ha
    obtain ⟨h1, h2⟩ := hs.2.2.2.2 _ rfl
    refine ⟨fun i x hi j v hj => ?_, fun _ => h2 (by omega)⟩
    have := h1 (i + 1) x (by simpa using hi) j v hj
    rw [Addr.add_lit] at this ⊢
    rw [show 5 + (i * 5 + j) = 0 + ((i + 1) * 5 + j) by omega]
    exact this
  · cases ha
    obtain ⟨h1, h2⟩ := hs.2.2.2.2 _ rfl
    refine ⟨fun i x hi => by rw [hl0] at hi; simp at hi, fun hn => h2 (by omega)⟩
theorem Own.someA {α : Type} {w : World} {base e size : Nat} {cells : α → List Value} {v : Value} {l : List α} (h : Own w base e size cells v l) (hsz : ∀ x, (cells x).length = size) (hl : 0 < l.length) : ∃ g n c, v = .slice (some ⟨g, 0, none⟩) n c ∧ n = l.length := by
  rcases h.2 with ⟨rfl, hn⟩ | ⟨g, cap, cur, rfl, _⟩
  · omega
  · exact ⟨g, _, cap, rfl, rfl⟩
theorem ref14_Put (A : Option Addr) (len cap : Nat) (l : List Adv) (room : Nat) (x : Adv) (w : World) (hs : AdvsAre w A len cap l) (hn : len ≤ 10000) (hroom : room ≤ 1000000) :
    Calls Try.prog 72 #[.slice A len cap, .int .i64 room, .agg (rowA x)] w (PutA w (pushq l room x)) := by
  have hL : l.length = len := hs.1
  have HL := Lib.hid hL
  have HN := Lib.hid hn
  have B0 := Lib.hid (show Below w.heap.size w ((w.alloc (.cells (rowA x) 66)).alloc (.cells #[] 66)) by go_grown)
  have HS := Lib.hid (slice_keep hs B0.out)
  have HX := Lib.hid ((Blk.new w 66 (rowA x)).alloc (.cells #[] 66))
  have HO := Lib.hid (show OwnA ((w.alloc (.cells (rowA x) 66)).alloc (.cells #[] 66)) (w.alloc (.cells (rowA x) 66)).heap.size (.slice (some ⟨(w.alloc (.cells (rowA x) 66)).heap.size, 0, none⟩) 0 0) [] from World.ownsRow_made (w.alloc (.cells (rowA x) 66)) #[] 0 (Nat.le_refl _) (Nat.zero_le _) rfl)
  simp only [World.size_alloc] at HO
  have HQ := Lib.hid (show pushq l room x = if room < (l ++ [x]).length then (l ++ [x]).drop 1 else l ++ [x] from rfl)
  generalize pushq l room x = Q at *
  clear hs hL hn
  go_enter Try.func72, Try.ntmps72
  go_upto_region 3 with (first
    | (at_builtin; refine wpList_cat _ rfl (.tmp 8) (.tmp 9) 60 rfl (w.heap.size + 1) 66 _ 5 40 Adv.cells Try.underlying60 info_adv (by rfl) (by decide) (fun _ => rfl) adv_one (.slice (some ⟨w.heap.size + 1, 0, none⟩) 0 0) [] rfl HO.out A len cap l rfl HS.out (by have := HN.out; simp; omega) (by decide) (by simp) ?_; intro v1 w1 ho1 hb1 hg1; have H1 := Lib.hid ho1; have X1 := Lib.hid (HX.out.below hb1 (Nat.lt_succ_self _)); have E1 := Lib.hid (B0.out.trans (hb1.mono (Nat.le_succ _))); have Z1 := Lib.hid hb1.size; obtain ⟨A1, n1, c1, rfl, -, -⟩ := ho1.shape adv_len; have x0 := X1.out.cellv (i := 0) rfl; have x1 := X1.out.cellv (i := 1) rfl; have x2 := X1.out.cellv (i := 2) rfl; have x3 := X1.out.cellv (i := 3) rfl; have x4 := X1.out.cellv (i := 4) rfl; clear ho1 hb1 hg1)
    | (at_builtin; refine wpList_push _ rfl (.tmp 11) (.tmp 13) 60 rfl (w.heap.size + 1) 66 _ 5 40 Adv.cells Try.underlying60 info_adv (by rfl) (by decide) (fun _ => rfl) adv_one (.slice A1 n1 c1) ([] ++ l) rfl (Own.alloc H1.out _) ⟨w1.heap.size, 0, none⟩ 1 x rfl (blk_news (α := Adv) (vs := x.cells) (Blk.new _ _ _) rfl) (by have := HL.out; have := HN.out; simp; omega) (by decide) (by have := Z1.out; simp at *; omega) ?_; intro v2 w2 ho2 hb2 hg2; have H2 := Lib.hid ho2; have E2 := Lib.hid ((E1.out.alloc (Nat.le_trans B0.out.size Z1.out) _).trans (hb2.mono (Nat.le_succ _))); obtain ⟨h2, n2, c2, rfl, hn2⟩ := Own.someA ho2 adv_len (by simp); have HN2 := Lib.hid hn2; have HF := Lib.hid (show w.heap.size ≤ h2 ∧ h2 < _ from ⟨Nat.le_of_lt (World.ownsRow.lt ho2 h2 rfl).1, (World.ownsRow.lt ho2 h2 rfl).2⟩); clear ho2 hb2 hg2 hn2 x0 x1 x2 x3 x4))
  have hc2 := (ownA_is H2.out).2.1
  have hc3 : c2 ≤ 9223372036854775807 := by have := (ownA_is H2.out).2.2.1; unfold maxLen at this; omega
  have hl2 : n2 = (l ++ [x]).length := HN2.out
  have hn4 : 1 ≤ n2 := by rw [hl2]; simp
  have hn5 : n2 ≤ 20000 := by rw [hl2]; have := HL.out; have := HN.out; simp; omega
  obtain ⟨y, T, hyT⟩ : ∃ y T, l ++ [x] = y :: T := by cases l with | nil => exact ⟨_, _, rfl⟩ | cons a b => exact ⟨_, _, rfl⟩
  have H3 := Lib.hid (show OwnA w2 (w.heap.size + 1) (.slice (some ⟨h2, 0, none⟩) n2 c2) (y :: T) from hyT ▸ H2.out)
  have HT := Lib.hid hyT
  have HN3 := Lib.hid hl2
  clear hl2 hyT
  by_cases hr : room < n2
  · have H4 := Lib.hid (show Q = T by rw [HQ.out, ← HN3.out, if_pos hr, HT.out]; rfl)
    by_cases hc : c2 = 1
    · subst hc
      go_wp2
      go_ret
      refine ⟨_, _, _, rfl, ?_, E2.out, fun a ha => by cases ha; exact HF.out⟩
      have E5 := (slice_tailA H3.out).1 rfl
      have h0 : n2 - 1 = 0 := by omega
      have E6 := (slice_tailA H3.out).2.2 E5
      rw [h0] at E6
      rw [H4.out]
      exact E6
    · go_wp2
      go_ret
      refine ⟨_, _, _, rfl, ?_, E2.out, fun a ha => by cases ha; exact HF.out⟩
      rw [H4.out]
      exact (slice_tailA H3.out).2.1 hc
  · have H4 := Lib.hid (show Q = y :: T by rw [HQ.out, ← HN3.out, if_neg hr, HT.out])
    go_wp2
    go_ret
    refine ⟨_, _, _, rfl, ?_, E2.out, fun a ha => by cases ha; exact HF.out⟩
    rw [H4.out]
    exact ownA_is H3.out
end Go.Proofs.Ytfeccjjheiillaa
/- A series, or none, in one: New, Put, List. -/
namespace Go.Proofs.Ytfeccjjheiillaa
open Go.RowKit
set_option linter.unusedSimpArgs false
set_option linter.unusedVariables false
set_option maxHeartbeats 4000000
set_option maxRecDepth 100000
def goodS (room : Int) : Prop := 1 ≤ room ∧ room ≤ 256
instance (room : Int) : Decidable (goodS room) := by unfold goodS; infer_instance
def putr (l : List Smp) (room : Int) (x : Smp) : List Smp := if goodS room then putv l room.toNat x else l
def errr (room : Int) (x : Smp) : Int := if serErr x.tick x.value = 0 then (if goodS room then 0 else 5) else serErr x.tick x.value
/-- p is a series (or none), in the blocks F. -/
def SerV (w : World) (p : Option Addr) (F : Nat → Prop) (xs : List Smp) (room : Int) : Prop :=
  ((p = none ∧ xs = [] ∧ ¬ goodS room) ∨ ∃ (g : Nat) (v : Value) (rm : Nat), p = some ⟨g, 0, none⟩ ∧ room = rm ∧ 1 ≤ rm ∧ rm ≤ 256 ∧ SerAt w g v xs rm ∧ (∀ k, foot g v k → F k) ∧ Srt xs ∧ xs.length ≤ rm) ∧ ∀ k, F k → k < w.heap.size
theorem SerV.upd {S F : Nat → Prop} {w w' : World} {p : Option Addr} {xs : List Smp} {room : Int} (h : SerV w p F xs room) (hu : Upd S w w') (hn : ∀ k, F k → ¬ S k) : SerV w' p F xs room := by
  refine ⟨?_, fun k hk => Nat.lt_of_lt_of_le (h.2 k hk) hu.size⟩
  rcases h.1 with h | ⟨g, v, rm, e1, e2, e3, e4, e5, e6, e7⟩
  · exact .inl h
  · exact .inr ⟨g, v, rm, e1, e2, e3, e4, e5.upd hu (fun k hk => hn k (e6 k hk)), e6, e7⟩
theorem SerV.call {F : Nat → Prop} {w w' : World} {p : Option Addr} {xs : List Smp} {room : Int} (h : SerV w p F xs room) (hb : Below w.heap.size w w') : SerV w' p F xs room :=
  h.upd (S := fun _ => False) (Upd.of_below hb) (fun _ _ hk => hk)
theorem SerV.len {F : Nat → Prop} {w : World} {p : Option Addr} {xs : List Smp} {room : Int} (h : SerV w p F xs room) : xs.length ≤ 256 := by
  rcases h.1 with ⟨-, rfl, -⟩ | ⟨g, v, rm, e1, e2, e3, e4, e5, e6, e7, e8⟩
  · simp
  · omega
def NewV (w : World) (room : Int) (e : Ending) (w' : World) : Prop := ∃ p F, e = .returned (.pointer p) ∧ SerV w' p F [] room ∧ (∀ k, F k → w.heap.size ≤ k) ∧ Below w.heap.size w w'
theorem serv_New (room : Int) (w : World) : Calls Try.prog 48 #[.int .i64 room] w (NewV w room) := by
  by_cases hr : goodS room
  · obtain ⟨rm, rfl⟩ : ∃ rm : Nat, room = rm := ⟨room.toNat, by unfold goodS at hr; omega⟩
    have h1 : 1 ≤ rm := by unfold goodS at hr; omega
    have h2 : rm ≤ 256 := by unfold goodS at hr; omega
    refine (series_New rm w (by omega) (by omega)).mono ?_
    rintro e w' ⟨rfl, rfl⟩
    refine ⟨_, fun k => k = w.heap.size, rfl, ⟨.inr ⟨_, _, rm, rfl, rfl, h1, h2, SerAt.new w rm, ?_, List.Pairwise.nil, by simp⟩, ?_⟩, ?_, by go_grown⟩
    · rintro k (rfl | hk)
      · rfl
      · simp [Value.ownBlock] at hk
    · rintro k rfl; simp
    · rintro k rfl; exact Nat.le_refl _
  · refine (series_New_no room w (by unfold goodS at hr; omega)).mono ?_
    rintro e w' ⟨rfl, rfl⟩
    exact ⟨none, fun _ => False, rfl, ⟨.inl ⟨rfl, rfl, hr⟩, fun _ hk => hk.elim⟩, fun _ hk => hk.elim, Below.refl _ _⟩
def PutV (p : Option Addr) (F : Nat → Prop) (xs : List Smp) (room : Int) (x : Smp) (w : World) (e : Ending) (w' : World) : Prop := ∃ F', e = .returned (.int .i64 (errr room x)) ∧ SerV w' p F' (putr xs room x) room ∧ Upd F w w' ∧ ∀ k, F' k → F k ∨ w.heap.size ≤ k
theorem serv_Put (p : Option Addr) (F : Nat → Prop) (xs : List Smp) (room : Int) (x : Smp) (w : World) (h : SerV w p F xs room) :
    Calls Try.prog 47 #[.pointer p, .int .i64 x.tick, .int .i64 x.value] w (PutV p F xs room x w) := by
  rcases h.1 with ⟨rfl, rfl, hr⟩ | ⟨g, v, rm, rfl, rfl, e3, e4, e5, e6, e7, e8⟩
  · refine (series_Putv_nil x w).mono ?_
    rintro e w' ⟨rfl, rfl⟩
    refine ⟨F, ?_, ⟨.inl ⟨rfl, ?_, hr⟩, h.2⟩, Upd.refl _ _, fun k hk => .inl hk⟩
    · unfold errr; rw [if_neg hr]
    · unfold putr; rw [if_neg hr]
  · refine (series_Putv g v xs rm x w e5 e7 e8 e3 (by omega)).mono ?_
    rintro e w' ⟨v', rfl, k1, k2, k3⟩
    have hg : goodS rm := by unfold goodS; omega
    have hp : putr xs rm x = putv xs rm x := by unfold putr; rw [if_pos hg]; rfl
    refine ⟨fun k => F k ∨ foot g v' k, ?_, ⟨.inr ⟨g, v', rm, rfl, rfl, e3, e4, by rw [hp]; exact k1, fun k hk => .inr hk, by rw [hp]; exact srt_putv e7 rm x, by rw [hp]; exact len_putv e8 e3 x⟩, ?_⟩, k2.mono e6, ?_⟩
    · unfold errr; rw [if_pos hg]; split
      · rename_i h0; rw [h0]
      · rfl
    · rintro k (hk | hk)
      · exact Nat.lt_of_lt_of_le (h.2 k hk) k2.size
      · exact k1.lt k hk
    · rintro k (hk | hk)
      · exact .inl hk
      · exact (k3 k hk).imp (e6 k) id
theorem serv_List (p : Option Addr) (F : Nat → Prop) (xs : List Smp) (room : Int) (w : World) (h : SerV w p F xs room) :
    Calls Try.prog 20 #[.pointer p] w (CloneS w xs) := by
  rcases h.1 with ⟨rfl, rfl, hr⟩ | ⟨g, v, rm, rfl, rfl, e3, e4, e5, e6, e7, e8⟩
  · refine (series_List_nil w).mono ?_
    rintro e w' ⟨rfl, rfl⟩
    exact CloneS.mk (Own.nil _ _ _ _ _) (Below.refl _ _)
  · exact series_List g v xs rm w e5 (by omega)
end Go.Proofs.Ytfeccjjheiillaa
/- Policies: which may be, and that both texts say so. -/
namespace Go.Proofs.Ytfeccjjheiillaa
open Go.RowKit
set_option linter.unusedSimpArgs false
set_option linter.unusedVariables false
set_option maxHeartbeats 400000

structure Pol where
  min : Int
  max : Int
  target : Int
  tol : Int
  window : Int
  hold : Int
/-- Each number lies in its kind. -/
def Pol.fit (p : Pol) : Prop := I64 p.min ∧ I64 p.max ∧ I64 p.target ∧ I64 p.tol ∧ I64 p.window ∧ I64 p.hold
def Pol.okP (p : Pol) : Prop := 0 ≤ p.min ∧ 1 ≤ p.max ∧ p.min ≤ p.max ∧ p.max ≤ 1073741824 ∧ 1 ≤ p.target ∧ 0 ≤ p.tol ∧ p.tol ≤ 999 ∧ 1 ≤ p.window ∧ 0 ≤ p.hold
instance (p : Pol) : Decidable p.okP := by unfold Pol.okP; infer_instance
def polOk (p : Pol) : Bool := decide p.okP
def polErr (p : Pol) : Int := if p.okP then 0 else 7
theorem polOk_true {p : Pol} (h : p.okP) : polOk p = true := decide_eq_true h
theorem polOk_false {p : Pol} (h : ¬ p.okP) : polOk p = false := decide_eq_false h
theorem polErr_ok {p : Pol} (h : p.okP) : polErr p = 0 := if_pos h
theorem polErr_no {p : Pol} (h : ¬ p.okP) : polErr p = 7 := if_neg h
theorem policy_Check (p : Pol) (w : World) :
    Calls Try.prog 99 #[(.agg #[.int .i64 p.min, .int .i64 p.max, .int .i64 p.target, .int .i64 p.tol, .int .i64 p.window, .int .i64 p.hold])] w fun e w' => e = .returned (.int .i64 (polErr p)) ∧ Below w.heap.size w w' := by
  go_enter Try.func99, Try.ntmps99
  go_wp2
  all_goals
    go_ret
    refine ⟨ret_int ?_, by go_grown⟩
    go_light
    first
      | (show (7 : Int) = _; rw [polErr_no (by unfold Pol.okP; omega)])
      | (show (0 : Int) = _; rw [polErr_ok (by unfold Pol.okP; omega)])
theorem ref_Right (p : Pol) (w : World) :
    Calls Try.prog 71 #[(.agg #[.int .i64 p.min, .int .i64 p.max, .int .i64 p.target, .int .i64 p.tol, .int .i64 p.window, .int .i64 p.hold])] w fun e w' => e = .returned (.bool (polOk p)) ∧ Below w.heap.size w w' := by
  go_enter Try.func71, Try.ntmps71
  go_wp2
  all_goals
    go_ret
    refine ⟨ret_bool ?_, by go_grown⟩
    go_light
    first
      | (show false = _; rw [polOk_false (by unfold Pol.okP; omega)])
      | (show true = _; rw [polOk_true (by unfold Pol.okP; omega)])
      | (by_cases hh : p.okP
         · rw [polOk_true hh]
           unfold Pol.okP at hh
           simp
           omega
         · rw [polOk_false hh]
           unfold Pol.okP at hh
           simp
           omega)
end Go.Proofs.Ytfeccjjheiillaa
/- Products, sums and quotients of 128 bits: plain facts. -/
namespace Go.Proofs.Ytfeccjjheiillaa
open Go.RowKit
set_option linter.unusedSimpArgs false
set_option linter.unusedVariables false

def cmpN (a b : Nat) : Int := if a < b then -1 else if a = b then 0 else 1
theorem mask32 (x : Int) (h0 : 0 ≤ x) (h1 : x < 18446744073709551616) : bits .and .u64 x 4294967295 = x % 4294967296 := by
  obtain ⟨n, rfl⟩ := Int.eq_ofNat_of_zero_le h0
  have e := u64_and_nat n 4294967295 (by omega) (by omega)
  rw [show ((4294967295 : Nat) : Int) = 4294967295 from rfl] at e
  rw [e, show (4294967295 : Nat) = 2 ^ 32 - 1 by decide, Nat.and_two_pow_sub_one_eq_mod]
  omega
theorem or32 (x y : Int) (h0 : 0 ≤ x) (h1 : x < 4294967296) (h2 : 0 ≤ y) (h3 : y < 4294967296) : bits .or .u64 (x * 4294967296) y = x * 4294967296 + y := by
  obtain ⟨m, rfl⟩ := Int.eq_ofNat_of_zero_le h0
  obtain ⟨n, rfl⟩ := Int.eq_ofNat_of_zero_le h2
  have e := u64_or_nat (m * 4294967296) n (by omega) (by omega)
  have e2 : m * 4294967296 ||| n = m * 4294967296 + n := nat_join 32 _ _ (by omega) (by omega)
  rw [e2] at e
  rw [show ((m : Int) * 4294967296) = ((m * 4294967296 : Nat) : Int) by omega, e]
  omega
theorem mul_lt (a b : Nat) (ha : a < 4294967296) (hb : b < 4294967296) : a * b ≤ 18446744065119617025 := by
  have := Nat.mul_le_mul (show a ≤ 4294967295 by omega) (show b ≤ 4294967295 by omega)
  omega
theorem mul_parts (a b : Nat) : a * b = (a / 4294967296) * (b / 4294967296) * 18446744073709551616 + ((a / 4294967296) * (b % 4294967296) + (a % 4294967296) * (b / 4294967296)) * 4294967296 + (a % 4294967296) * (b % 4294967296) := by
  have e1 : a = a / 4294967296 * 4294967296 + a % 4294967296 := by omega
  have e2 : b = b / 4294967296 * 4294967296 + b % 4294967296 := by omega
  conv => lhs; rw [e1, e2]
  rw [Nat.add_mul, Nat.mul_add, Nat.mul_add]
  have p1 : a / 4294967296 * 4294967296 * (b / 4294967296 * 4294967296) = a / 4294967296 * (b / 4294967296) * 18446744073709551616 := by
    rw [Nat.mul_mul_mul_comm]
  have p2 : a / 4294967296 * 4294967296 * (b % 4294967296) = a / 4294967296 * (b % 4294967296) * 4294967296 := Nat.mul_right_comm _ _ _
  have p3 : a % 4294967296 * (b / 4294967296 * 4294967296) = a % 4294967296 * (b / 4294967296) * 4294967296 := (Nat.mul_assoc _ _ _).symm
  rw [p1, p2, p3, Nat.add_mul]
  omega
end Go.Proofs.Ytfeccjjheiillaa
/- Package wide: each function gives the plain number. -/
namespace Go.Proofs.Ytfeccjjheiillaa
open Go.RowKit
set_option linter.unusedSimpArgs false
set_option linter.unusedVariables false
set_option maxHeartbeats 400000

theorem ret_two {a b c d : Int} (h : a = b) (h2 : c = d) : Ending.returned (.agg #[.int .u64 a, .int .u64 c]) = .returned (.agg #[.int .u64 b, .int .u64 d]) := by rw [h, h2]
theorem ret_two_bool {a b c d : Int} {p q : Bool} (h : a = b) (h2 : c = d) (h3 : p = q) : Ending.returned (.tuple #[.agg #[.int .u64 a, .int .u64 c], .bool p]) = .returned (.tuple #[.agg #[.int .u64 b, .int .u64 d], .bool q]) := by rw [h, h2, h3]
theorem hi_lo_of {N h l : Nat} (e : N = h * 2 ^ 64 + l) (hl : l < 2 ^ 64) : hiQ N = h ∧ loQ N = l := by
  subst e; unfold hiQ loQ; omega
theorem add64 (x y c : Int) (hx : 0 ≤ x) (hy : 0 ≤ y) (hc0 : 0 ≤ c) (hc : c ≤ 1) (w : World) : (callFunc 125 #[.int .u64 x, .int .u64 y, .int .u64 c]).run Try.prog w =
    .ok (.value (.tuple #[.int .u64 ((x + y + c) % 18446744073709551616), .int .u64 ((x + y + c) / 18446744073709551616)])) w := by
  rw [run_callFunc_extern Try.func125 (by kernel_rfl) (by kernel_rfl) (by kernel_rfl) (e := add64Entry) (by kernel_rfl), run_add64 x y c hx hy hc0 hc]
  rfl
theorem add64_0 (x y : Int) (hx : 0 ≤ x) (hy : 0 ≤ y) (w : World) : (callFunc 125 #[.int .u64 x, .int .u64 y, .int .u64 0]).run Try.prog w =
    .ok (.value (.tuple #[.int .u64 ((x + y) % 18446744073709551616), .int .u64 ((x + y) / 18446744073709551616)])) w := by
  simpa using add64 x y 0 hx hy (Int.le_refl 0) (by decide) w
def two (h l : Nat) : Nat := h * 2 ^ 64 + l
def sumRow (S : Nat) : Nat := if S < 2 ^ 128 then S else 0
def sumFits (S : Nat) : Bool := decide (S < 2 ^ 128)
theorem wide_Add (h1 l1 h2 l2 : Nat) (w : World) (b1 : h1 < 18446744073709551616) (b2 : l1 < 18446744073709551616) (b3 : h2 < 18446744073709551616) (b4 : l2 < 18446744073709551616) :
    Calls Try.prog 112 #[.agg #[.int .u64 h1, .int .u64 l1], .agg #[.int .u64 h2, .int .u64 l2]] w fun e w' =>
      e = .returned (.tuple #[.agg #[.int .u64 ((hiQ (sumRow (two h1 l1 + two h2 l2)) : Nat) : Int), .int .u64 ((loQ (sumRow (two h1 l1 + two h2 l2)) : Nat) : Int)], .bool (sumFits (two h1 l1 + two h2 l2))]) ∧ Below w.heap.size w w' := by
  have a1 : (0 : Int) ≤ (l1 : Int) := by omega
  have a2 : (0 : Int) ≤ (l2 : Int) := by omega
  have a3 : (0 : Int) ≤ (h1 : Int) := by omega
  have a4 : (0 : Int) ≤ (h2 : Int) := by omega
  have k0 : (0 : Int) ≤ ((l1 : Int) + (l2 : Int)) / 18446744073709551616 := by omega
  have k1 : ((l1 : Int) + (l2 : Int)) / 18446744073709551616 ≤ 1 := by omega
  by_cases hf : (h1 : Int) + (h2 : Int) + ((l1 : Int) + (l2 : Int)) / 18446744073709551616 < 18446744073709551616
  · have d0 : (((h1 : Int) + (h2 : Int) + ((l1 : Int) + (l2 : Int)) / 18446744073709551616) / 18446744073709551616 != 0) = false := by simp; omega
    have HF := Lib.hid hf
    clear hf
    go_enter Try.func112, Try.ntmps112
    go_wp2_with (first | simp only [add64_0 l1 l2 a1 a2] | simp only [add64 h1 h2 _ a3 a4 k0 k1])
    go_returns
    refine ⟨?_, by go_grown⟩
    have hS : two h1 l1 + two h2 l2 < 2 ^ 128 := by have := HF.out; unfold two; omega
    have e1 : sumRow (two h1 l1 + two h2 l2) = two h1 l1 + two h2 l2 := if_pos hS
    have e2 : sumFits (two h1 l1 + two h2 l2) = true := decide_eq_true hS
    have hl := hi_lo_of (N := two h1 l1 + two h2 l2) (h := h1 + h2 + (l1 + l2) / 18446744073709551616) (l := (l1 + l2) % 18446744073709551616) (by unfold two; omega) (by omega)
    have := HF.out
    rw [e1, e2]
    exact ret_two_bool (by rw [hl.1]; omega) (by rw [hl.2]; omega) rfl
  · have d0 : (((h1 : Int) + (h2 : Int) + ((l1 : Int) + (l2 : Int)) / 18446744073709551616) / 18446744073709551616 != 0) = true := by simp; omega
    have HF := Lib.hid hf
    clear hf
    go_enter Try.func112, Try.ntmps112
    go_wp2_with (first | simp only [add64_0 l1 l2 a1 a2] | simp only [add64 h1 h2 _ a3 a4 k0 k1])
    go_returns
    refine ⟨?_, by go_grown⟩
    have hS : ¬ two h1 l1 + two h2 l2 < 2 ^ 128 := by have := HF.out; unfold two; omega
    have e1 : sumRow (two h1 l1 + two h2 l2) = 0 := if_neg hS
    have e2 : sumFits (two h1 l1 + two h2 l2) = false := decide_eq_false hS
    rw [e1, e2]
    exact ret_two_bool (by simp [hiQ]) (by simp [loQ]) rfl
def smallQ (N : Nat) : Nat := if N < 9223372036854775808 then N else 9223372036854775807
set_option maxRecDepth 100000 in
theorem wide_Small (h l : Nat) (w : World) (b1 : h < 18446744073709551616) (b2 : l < 18446744073709551616) :
    Calls Try.prog 113 #[.agg #[.int .u64 h, .int .u64 l]] w fun e w' => e = .returned (.int .i64 ((smallQ (two h l) : Nat) : Int)) ∧ Below w.heap.size w w' := by
  by_cases h0 : h = 0
  · subst h0
    by_cases h1 : 9223372036854775807 < l
    · go_enter Try.func113, Try.ntmps113
      go_wp2_with fail
      go_ret
      refine ⟨ret_int ?_, by go_grown⟩
      unfold smallQ two
      rw [if_neg (by omega)]; rfl
    · go_enter Try.func113, Try.ntmps113
      go_wp2_with fail
      go_ret
      refine ⟨ret_int ?_, by go_grown⟩
      unfold smallQ two
      rw [if_pos (by omega)]
      show (l : Int) = _
      omega
  · have d0 : ((h : Int) != 0) = true := by simp; omega
    have H0 := Lib.hid h0
    clear h0
    go_enter Try.func113, Try.ntmps113
    go_wp2_with fail
    go_ret
    refine ⟨ret_int ?_, by go_grown⟩
    have := H0.out
    unfold smallQ two
    rw [if_neg (by omega)]; rfl
theorem two_eq (N : Nat) : two (hiQ N) (loQ N) = N := hilo_eq N
theorem hl_inj {M N : Nat} (h1 : hiQ M = hiQ N) (h2 : loQ M = loQ N) : M = N := by rw [← hilo_eq M, ← hilo_eq N, h1, h2]
theorem mul_lt128 {a b : Nat} (ha : a < 2 ^ 64) (hb : b < 2 ^ 64) : a * b < 2 ^ 128 := by
  have := Nat.mul_le_mul (show a ≤ 2 ^ 64 - 1 by omega) (show b ≤ 2 ^ 64 - 1 by omega)
  omega
theorem wide_AddN (X Y : Nat) (w : World) (hX : X < 2 ^ 128) (hY : Y < 2 ^ 128) :
    Calls Try.prog 112 #[.agg #[.int .u64 ((hiQ X : Nat) : Int), .int .u64 ((loQ X : Nat) : Int)], .agg #[.int .u64 ((hiQ Y : Nat) : Int), .int .u64 ((loQ Y : Nat) : Int)]] w fun e w' =>
      e = .returned (.tuple #[.agg #[.int .u64 ((hiQ (sumRow (X + Y)) : Nat) : Int), .int .u64 ((loQ (sumRow (X + Y)) : Nat) : Int)], .bool (sumFits (X + Y))]) ∧ Below w.heap.size w w' := by
  have h1 := hiQ_lt hX
  have h2 := loQ_lt X
  have h3 := hiQ_lt hY
  have h4 := loQ_lt Y
  have := wide_Add (hiQ X) (loQ X) (hiQ Y) (loQ Y) w (by omega) (by omega) (by omega) (by omega)
  rw [two_eq, two_eq] at this
  exact this
end Go.Proofs.Ytfeccjjheiillaa
/- Package control: what each function gives, as plain numbers. -/
namespace Go.Proofs.Ytfeccjjheiillaa
open Go.RowKit
set_option linter.unusedSimpArgs false
set_option linter.unusedVariables false
set_option maxHeartbeats 400000

def loadq (n : Int) : Int := if n < 0 then 0 else n
theorem loadq_max (n : Int) : max n 0 = loadq n := by unfold loadq; omega
theorem loadq_bd {n : Int} (h : I64 n) : 0 ≤ loadq n ∧ loadq n ≤ 9223372036854775807 := by unfold I64 at h; unfold loadq; omega
theorem loadq_I64 {n : Int} (h : I64 n) : I64 (loadq n) := by unfold I64 at *; unfold loadq; omega
def wantq (p : Pol) (n : Int) : Int := if p.okP then ceilq (loadq n) p.target else 0
def boundq (p : Pol) (n : Int) : Int := if p.okP then clampq n p.min p.max else 0

theorem cmpN_le (X Y : Nat) : decide (cmpN X Y ≤ 0) = decide (X ≤ Y) := by
  rw [Bool.eq_iff_iff, decide_eq_true_iff, decide_eq_true_iff]; unfold cmpN
  split
  · omega
  · split <;> omega
def hasq (load : Int) : Nat := (loadq load).toNat * 1000
def shouldq (p : Pol) (now : Int) : Nat := (now * 1000).toNat * p.target.toNat
def slackq (p : Pol) (now : Int) : Nat := (now * p.tol).toNat * p.target.toNat
def nearq (p : Pol) (load now : Int) : Bool :=
  if p.okP ∧ 1 ≤ now ∧ now ≤ 1073741824 then decide (hasq load ≤ shouldq p now + slackq p now) && decide (shouldq p now ≤ hasq load + slackq p now) else false
theorem near_end (H T K : Nat) (h : H = T) : (decide (H ≤ T + K) && decide (T ≤ H + K)) = true := by subst h; simp
end Go.Proofs.Ytfeccjjheiillaa
/- Package control, the rest: near or not, what is decided, the ends. -/
namespace Go.Proofs.Ytfeccjjheiillaa
open Go.RowKit
set_option linter.unusedSimpArgs false
set_option linter.unusedVariables false
set_option maxHeartbeats 400000

def rawq (p : Pol) (load now : Int) : Int := if nearq p load now then boundq p now else boundq p (wantq p load)
theorem wantq_I64 (p : Pol) (n : Int) (hp : p.fit) (hn : I64 n) : I64 (wantq p n) := by
  unfold wantq
  split
  · have hl := loadq_bd hn
    unfold ceilq
    split
    · unfold I64; omega
    · rename_i h1 h2
      have := fl_neg (loadq n) p.target (by omega)
      have b := fl_bd (loadq n) p.target (by omega)
      have c := b.2.1 (by omega)
      rw [this]
      unfold I64
      by_cases h0 : p.target = 1
      · rw [h0, Int.emod_one, if_pos rfl, Int.ediv_one]; omega
      · have : loadq n / p.target ≤ 4611686018427387903 := by
          have e := (Int.ediv_lt_iff_lt_mul (a := loadq n) (b := 4611686018427387904) (c := p.target) (by omega)).2 (by omega)
          omega
        split <;> omega
  · unfold I64; omega
def lowq (p : Pol) (n : Int) : Int := if p.okP ∧ 1 ≤ n ∧ n ≤ 1073741824 then satq (satq ((n - 1) * p.target) + 1) else 0
def lowIs (p : Pol) (n : Int) : Bool := decide (p.okP ∧ 1 ≤ n ∧ n ≤ 1073741824)
def highq (p : Pol) (n : Int) : Int := if p.okP ∧ 0 ≤ n ∧ n ≤ 1073741824 then satq (n * p.target) else 0
def highIs (p : Pol) (n : Int) : Bool := decide (p.okP ∧ 0 ≤ n ∧ n ≤ 1073741824)
end Go.Proofs.Ytfeccjjheiillaa
/- The reference's numbers of 128 bits: each function on rows of bits is the plain sum, product, comparison. -/
namespace Go.Proofs.Ytfeccjjheiillaa
open Go.RowKit
set_option linter.unusedSimpArgs false
set_option linter.unusedVariables false
set_option maxHeartbeats 400000

theorem zeros_num : Try.zeroCells156 = bitsA 0 := by rw [← zero_row]; kernel_rfl
theorem info_num (N : Nat) : (Try.prog.info? 156).map (·.size) = some (bitsA N).size := by rw [bitsA_size]; kernel_rfl

set_option maxRecDepth 100000 in
theorem num_Of (hi lo : Nat) (w : World) (h1 : hi < 2 ^ 64) (h2 : lo < 2 ^ 64) :
    Calls Try.prog 126 #[.int .u64 hi, .int .u64 lo] w fun e w' => e = .returned (.agg (bitsA (hi * 2 ^ 64 + lo))) ∧ Below w.heap.size w w' := by
  have HL := Lib.hid h2
  clear h1 h2
  go_enter Try.func126, Try.ntmps126
  go_wp2
  go_loopw [6] (fun i wr => ∃ k : Nat, k ≤ 64 ∧ i = .int .i64 k ∧ Blk wr (w.heap.size + 1) 156 (arrF (ofF hi lo k)) ∧ Blk wr w.heap.size 156 (bitsA 0) ∧ Below w.heap.size w wr) (fun i _ => 64 - (intOf i).toNat)
  case atStart =>
    refine ⟨0, by omega, rfl, ?_, ?_, by go_grown⟩
    · rw [ofF_zero, ← zeros_num]
      have := Blk.new (w.alloc (.cells Try.zeroCells156 156)) 156 Try.zeroCells156
      simpa using this
    · rw [← zeros_num]
      exact (Blk.new w _ _).alloc _
  case round =>
    obtain ⟨k, hk, rfl, hb1, hb0, hbel⟩ := hrel
    have HB1 := Lib.hid hb1
    have HB0 := Lib.hid hb0
    have HBel := Lib.hid hbel
    clear hb1 hb0 hbel
    by_cases hlt : k < 64
    · have c1 := HB1.out.cellv (arrF_get (ofF hi lo k) (show k < 128 by omega))
      have f1 := HB1.out.frozen k
      have c2 := HB1.out.cellv (arrF_get (ofF hi lo k) (show 64 + k < 128 by omega))
      have f2 := HB1.out.frozen (64 + k)
      go_wp2
      go_roundw
      case rel =>
        refine ⟨k + 1, by omega, by go_num, ?_, ((HB0.out.far (by simp) _).far (by simp) _), ((HBel.out.setCell (by simp) _).setCell (by simp) _)⟩
        have := (HB1.out.set_ k (.bool (lo.testBit k))).set_ (64 + k) (.bool (hi.testBit k))
        rw [ofF_step hi lo k hlt] at this
        rw [bit_walk, bit_walk]
        exact this
      case measure => simp [intOf]; omega
    · obtain rfl : k = 64 := by omega
      rw [ofF_end hi lo HL.out] at HB1
      go_wp2_with (first | (refine Blk.load rfl 156 (.tmp 5) rfl (w.heap.size + 1) _ _ _ rfl HB1.out Try.underlying156 rfl (info_num _) ?_) | (refine wpList_store_row rfl 156 (.tmp 4) (.tmp 30) rfl w.heap.size _ _ _ rfl rfl HB0.out (by rw [bitsA_size, bitsA_size]) (info_num _) (bitsA_one _) ?_; intro w2 hb2 hg2))
      refine bodyPost_ret (results_row rfl _ _ w.heap.size _ _ _ rfl hb2 Try.underlying156 rfl (info_num _)) rfl ⟨rfl, ?_⟩
      exact HBel.out.trans (Only.below hg2 (Nat.le_refl _) HBel.out.size)
end Go.Proofs.Ytfeccjjheiillaa
/- The reference's sum and double of 128 bits. -/
namespace Go.Proofs.Ytfeccjjheiillaa
open Go.RowKit
set_option linter.unusedSimpArgs false
set_option linter.unusedVariables false
set_option maxHeartbeats 400000

def addRow (a b : Nat) : Nat := if a + b < 2 ^ 128 then a + b else 0
def addFits (a b : Nat) : Bool := decide (a + b < 2 ^ 128)
set_option maxRecDepth 100000 in
theorem num_Add (a b : Nat) (w : World) (ha : a < 2 ^ 128) (hb : b < 2 ^ 128) :
    Calls Try.prog 127 #[.agg (bitsA a), .agg (bitsA b)] w fun e w' => e = .returned (.tuple #[.agg (bitsA (addRow a b)), .bool (addFits a b)]) ∧ Below w.heap.size w w' := by
  have HA := Lib.hid ha
  have HB := Lib.hid hb
  clear ha hb
  go_enter Try.func127, Try.ntmps127
  go_wp2
  go_loopw [7, 8, 9] (fun c i _ wr => ∃ k c' : Nat, k ≤ 128 ∧ c' ≤ 1 ∧ i = .int .i64 k ∧ c = .int .i64 c' ∧ c' = carryQ a b k ∧ Blk wr w.heap.size 156 (bitsA a) ∧ Blk wr (w.heap.size + 1) 156 (bitsA b) ∧ Blk wr (w.heap.size + 2) 156 (bitsA 0) ∧
    Blk wr (w.heap.size + 3) 156 (arrF (addF a b k)) ∧ Below w.heap.size w wr) (fun _ i _ _ => 128 - (intOf i).toNat)
  case atStart =>
    refine ⟨0, 0, by omega, by omega, rfl, rfl, (carryQ_zero a b).symm, ?_, ?_, ?_, ?_, by go_grown⟩
    · exact (((Blk.new w _ _).alloc _).alloc _).alloc _
    · have := (((Blk.new (w.alloc (.cells (bitsA a) 156)) 156 (bitsA b)).alloc (.cells Try.zeroCells156 156)).alloc (.cells Try.zeroCells156 156))
      simpa using this
    · have := (Blk.new ((w.alloc (.cells (bitsA a) 156)).alloc (.cells (bitsA b) 156)) 156 Try.zeroCells156).alloc (.cells Try.zeroCells156 156)
      rw [← zeros_num]
      simpa using this
    · have := Blk.new (((w.alloc (.cells (bitsA a) 156)).alloc (.cells (bitsA b) 156)).alloc (.cells Try.zeroCells156 156)) 156 Try.zeroCells156
      rw [addF_zero, ← zeros_num]
      simpa using this
  case round =>
    obtain ⟨k, c, hk, hc, rfl, rfl, hcq, h0, h1, h2, h3, hbel⟩ := hrel
    have HC := Lib.hid hcq
    have H0 := Lib.hid h0
    have H1 := Lib.hid h1
    have H2 := Lib.hid h2
    have H3 := Lib.hid h3
    have HBel := Lib.hid hbel
    clear h0 h1 h2 h3 hbel hcq
    by_cases hlt : k < 128
    · have r0 := H0.out.cellv (bitsA_get a hlt)
      have r1 := H1.out.cellv (bitsA_get b hlt)
      have r3 := H3.out.cellv (arrF_get (addF a b k) hlt)
      have f3 := H3.out.frozen k
      have hw := fun n => add_bit_walk a b k n c HC.out
      have HW := Lib.hid hw
      clear hw
      cases hA : a.testBit k <;> cases hB : b.testBit k
      all_goals
        rw [hA] at r0
        rw [hB] at r1
        have HW2 := Lib.hid (fun n => by have := HW.out n; rw [hA, hB] at this; exact this)
        clear HW hA hB
        go_wp2
        go_roundw
        case rel =>
          refine ⟨k + 1, carryQ a b (k + 1), by omega, carryQ_le _ _ _, by go_num, ?_, rfl, H0.out.far (by simp <;> omega) _, H1.out.far (by simp <;> omega) _, H2.out.far (by simp <;> omega) _, ?_, HBel.out.setCell (by simp <;> omega) _⟩
          · rw [← (HW2.out _ rfl).2]; simp
          · have := H3.out.set_ k (.bool ((a + b).testBit k))
            rw [addF_step a b k hlt, ← (HW2.out _ rfl).1] at this
            simpa using this
        case measure => simp [intOf]; omega
    · obtain rfl : k = 128 := by omega
      rw [addF_end] at H3
      have hz := carryQ_end a b HA.out HB.out
      have hc2 := HC.out
      rw [hz] at hc2
      by_cases hfit : a + b < 2 ^ 128
      · rw [Nat.div_eq_of_lt hfit] at hc2
        subst hc2
        have HF := Lib.hid hfit
        clear hz hfit
        go_wp2_with (first | (refine Blk.load rfl 156 (.tmp 6) rfl (w.heap.size + 3) _ _ _ rfl H3.out Try.underlying156 rfl (info_num _) ?_) | (refine wpList_store_row rfl 156 (.tmp 4) (.tmp 38) rfl (w.heap.size + 2) _ _ _ rfl rfl H2.out (by rw [bitsA_size, bitsA_size]) (info_num _) (bitsA_one _) ?_; intro w2 hb2 hg2))
        refine bodyPost_ret (results_row_tmp rfl _ _ (w.heap.size + 2) _ _ _ rfl hb2 Try.underlying156 rfl (info_num _)) rfl ⟨?_, ?_⟩
        · show Ending.returned (.tuple #[.agg (bitsA (a + b)), .bool true]) = _
          rw [show addRow a b = a + b from if_pos HF.out, show addFits a b = true from decide_eq_true HF.out]
        · exact HBel.out.trans (Only.below hg2 (by omega) HBel.out.size)
      · have hc1 : 1 ≤ c := by
          rw [hc2]
          exact (Nat.le_div_iff_mul_le (by decide)).2 (by omega)
        have HF := Lib.hid hfit
        clear hz hfit hc2
        have zz : Try.zeroCells156 = bitsA 0 := zeros_num
        have hz3 : (bitsA 0).size = 128 := bitsA_size 0
        have HZ := Lib.hid zz
        clear zz hz3
        go_wp2_with (first | (refine wpList_store_row rfl 156 (.tmp 4) (.tmp 37) rfl (w.heap.size + 2) _ (bitsA 0) _ rfl (by rw [← HZ.out]; rfl) H2.out (by rw [bitsA_size]) (info_num _) (bitsA_one _) ?_; intro w2 hb2 hg2))
        refine bodyPost_ret (results_row_tmp rfl _ _ (w.heap.size + 2) _ _ _ rfl hb2 Try.underlying156 rfl (info_num _)) rfl ⟨?_, ?_⟩
        · show Ending.returned (.tuple #[.agg (bitsA 0), .bool false]) = _
          rw [show addRow a b = 0 from if_neg HF.out, show addFits a b = false from decide_eq_false HF.out]
        · exact HBel.out.trans (Only.below hg2 (by omega) HBel.out.size)
end Go.Proofs.Ytfeccjjheiillaa
/- The division of 128 bits, bit by bit, and the sums of products: plain facts. -/
namespace Go.Proofs.Ytfeccjjheiillaa
open Go.RowKit
set_option linter.unusedSimpArgs false
set_option linter.unusedVariables false

/-- After k rounds: Q is the quotient so far, r the rest, x what is still to come. -/
structure DivAt (X d k Q r x : Nat) : Prop where
  eq : X * 2 ^ k = (Q * d + r) * 2 ^ 128 + x
  rest : r < d
  low : x < 2 ^ 128
theorem DivAt.start {X d : Nat} (hX : X < 2 ^ 128) (hd : 0 < d) : DivAt X d 0 0 0 X := ⟨by omega, hd, hX⟩
theorem DivAt.step0 {X d k Q r x : Nat} (h : DivAt X d k Q r x) (hlt : 2 * r + x / 2 ^ 127 < d) : DivAt X d (k + 1) (2 * Q) (2 * r + x / 2 ^ 127) (2 * x % 2 ^ 128) := by
  obtain ⟨e, hr, hx⟩ := h
  refine ⟨?_, hlt, Nat.mod_lt _ (by decide)⟩
  rw [Nat.pow_succ, ← Nat.mul_assoc, e, Nat.mul_assoc 2 Q d]
  generalize Q * d = P
  omega
theorem DivAt.step1 {X d k Q r x : Nat} (h : DivAt X d k Q r x) (hge : d ≤ 2 * r + x / 2 ^ 127) : DivAt X d (k + 1) (2 * Q + 1) (2 * r + x / 2 ^ 127 - d) (2 * x % 2 ^ 128) := by
  obtain ⟨e, hr, hx⟩ := h
  refine ⟨?_, by omega, Nat.mod_lt _ (by decide)⟩
  rw [Nat.pow_succ, ← Nat.mul_assoc, e, Nat.add_mul (2 * Q) 1 d, Nat.one_mul, Nat.mul_assoc 2 Q d]
  generalize Q * d = P
  omega
theorem DivAt.done {X d Q r x : Nat} (h : DivAt X d 128 Q r x) : Q = X / d ∧ r = X % d := by
  obtain ⟨e, hr, hx⟩ := h
  have e2 : X = Q * d + r := by
    generalize Q * d + r = S at *
    omega
  subst e2
  rw [Nat.mul_comm Q d, Nat.mul_add_div (by omega), Nat.div_eq_of_lt hr, Nat.mul_add_mod, Nat.mod_eq_of_lt hr]
  exact ⟨by omega, rfl⟩
theorem DivAt.small {X d k Q r x : Nat} (h : DivAt X d k Q r x) (hX : X < 2 ^ 128) (hk : k ≤ 128) : Q < 2 ^ k := by
  obtain ⟨e, hr, hx⟩ := h
  have hd : 0 < d := by omega
  have h1 : Q ≤ Q * d := Nat.le_mul_of_pos_right Q hd
  have h2 : X * 2 ^ k < 2 ^ 128 * 2 ^ k := Nat.mul_lt_mul_of_pos_right hX (Nat.pow_pos (by decide))
  have h3 : Q * 2 ^ 128 ≤ (Q * d + r) * 2 ^ 128 := Nat.mul_le_mul_right _ (by omega)
  have h4 : 2 ^ 128 * Q < 2 ^ 128 * 2 ^ k := by rw [Nat.mul_comm (2 ^ 128) Q]; omega
  exact Nat.lt_of_mul_lt_mul_left h4
/-- The quotient's words. -/
theorem quo_keep {k Q : Nat} (hk : k < 128) : 2 * Q * 2 ^ (128 - (k + 1)) = Q * 2 ^ (128 - k) := by
  rw [show 128 - k = (128 - (k + 1)) + 1 by omega, Nat.pow_succ, Nat.mul_comm 2 Q, Nat.mul_assoc, Nat.mul_comm 2]
theorem quo_high {k Q qh ql : Nat} (hk : k < 64) (hQ : Q < 2 ^ k) (hl : ql < 2 ^ 64) (h : qh * 2 ^ 64 + ql = Q * 2 ^ (128 - k)) :
    (qh ||| 2 ^ (63 - k)) * 2 ^ 64 + ql = (2 * Q + 1) * 2 ^ (128 - (k + 1)) ∧ ql = 0 ∧ qh < 2 ^ 64 ∧ (qh ||| 2 ^ (63 - k)) < 2 ^ 64 := by
  have e1 : Q * 2 ^ (128 - k) = Q * 2 ^ (64 - k) * 2 ^ 64 := by rw [Nat.mul_assoc, ← Nat.pow_add]; congr 2; omega
  rw [e1] at h
  have hql : ql = 0 := by
    generalize Q * 2 ^ (64 - k) = S at h
    omega
  have hqh : qh = Q * 2 ^ (64 - k) := by
    generalize Q * 2 ^ (64 - k) = S at h
    omega
  have hlt : qh < 2 ^ 64 := by
    rw [hqh, show (64 : Nat) = k + (64 - k) by omega]
    rw [show k + (64 - k) - k = 64 - k by omega, Nat.pow_add]
    exact Nat.mul_lt_mul_of_pos_right hQ (Nat.pow_pos (by decide))
  have hm : qh % 2 ^ (64 - k) = 0 := by rw [hqh]; exact Nat.mul_mod_left _ _
  have hor : qh ||| 2 ^ (63 - k) = qh + 2 ^ (63 - k) := nat_join (64 - k) _ _ hm (Nat.pow_lt_pow_right (by decide) (by omega))
  refine ⟨?_, hql, hlt, Nat.or_lt_two_pow hlt (Nat.pow_lt_pow_right (by decide) (by omega))⟩
  rw [hor, hql, hqh, show 64 - k = (63 - k) + 1 by omega, Nat.pow_succ, show 128 - (k + 1) = (63 - k) + 64 by omega, Nat.pow_add (m := 63 - k) (n := 64)]
  generalize 2 ^ (63 - k) = p
  rw [← Nat.mul_assoc, ← Nat.mul_assoc, Nat.add_mul (2 * Q) 1 p, Nat.one_mul, Nat.mul_assoc 2 Q p]
  rw [Nat.add_zero, Nat.mul_comm 2 (Q * p)]
theorem quo_low {k Q qh ql : Nat} (hk : k < 128) (hk2 : 64 ≤ k) (hQ : Q < 2 ^ k) (hl : ql < 2 ^ 64) (h : qh * 2 ^ 64 + ql = Q * 2 ^ (128 - k)) :
    qh * 2 ^ 64 + (ql ||| 2 ^ (127 - k)) = (2 * Q + 1) * 2 ^ (128 - (k + 1)) ∧ qh < 2 ^ 64 ∧ (ql ||| 2 ^ (127 - k)) < 2 ^ 64 := by
  have hm : ql % 2 ^ (128 - k) = 0 := by
    have e : (2 : Nat) ^ 64 = 2 ^ (128 - k) * 2 ^ (k - 64) := by rw [← Nat.pow_add]; congr 1; omega
    have h2 : ql % 2 ^ (128 - k) = (qh * 2 ^ 64 + ql) % 2 ^ (128 - k) := by
      rw [e, ← Nat.mul_assoc, Nat.mul_comm qh, Nat.mul_assoc, Nat.mul_add_mod]
    rw [h2, h]; exact Nat.mul_mod_left _ _
  have hor : ql ||| 2 ^ (127 - k) = ql + 2 ^ (127 - k) := nat_join (128 - k) _ _ hm (Nat.pow_lt_pow_right (by decide) (by omega))
  have hlt : qh * 2 ^ 64 < 2 ^ 128 := by
    have : Q * 2 ^ (128 - k) < 2 ^ k * 2 ^ (128 - k) := Nat.mul_lt_mul_of_pos_right hQ (Nat.pow_pos (by decide))
    rw [← Nat.pow_add, show k + (128 - k) = 128 by omega] at this
    omega
  refine ⟨?_, by omega, Nat.or_lt_two_pow hl (Nat.pow_lt_pow_right (by decide) (by omega))⟩
  rw [hor, ← Nat.add_assoc, h, show 128 - k = (127 - k) + 1 by omega, Nat.pow_succ, show 128 - (k + 1) = 127 - k by omega]
  generalize 2 ^ (127 - k) = p
  rw [Nat.add_mul, Nat.one_mul, Nat.mul_comm 2 Q, Nat.mul_assoc, Nat.mul_comm 2 p]

/-- The product, bit by bit. -/
theorem mul_round (a b k : Nat) : a * (b % 2 ^ k) + (if b.testBit k then a * 2 ^ k else 0) = a * (b % 2 ^ (k + 1)) := by
  rw [lowmod_bit, Nat.mul_add]
  split <;> simp
theorem mul_small {a b k : Nat} (ha : a < 2 ^ 64) (hk : k ≤ 64) : a * (b % 2 ^ k) < 2 ^ 128 := by
  have h1 := Nat.mod_lt b (show 0 < 2 ^ k from Nat.pow_pos (by decide))
  have h2 : (2 : Nat) ^ k ≤ 2 ^ 64 := Nat.pow_le_pow_right (by decide) hk
  have h3 := Nat.mul_le_mul (show a ≤ 2 ^ 64 - 1 by omega) (show b % 2 ^ k ≤ 2 ^ 64 by omega)
  omega
theorem shl_small {a k : Nat} (ha : a < 2 ^ 64) (hk : k ≤ 63) : a * 2 ^ k < 2 ^ 127 := by
  have h2 : (2 : Nat) ^ k ≤ 2 ^ 63 := Nat.pow_le_pow_right (by decide) hk
  have h3 := Nat.mul_le_mul (show a ≤ 2 ^ 64 - 1 by omega) h2
  omega
/-- Numbers whose bits from 'i' on are alike. -/
theorem tops_step {a b k : Nat} (h : a / 2 ^ (k + 1) = b / 2 ^ (k + 1)) (hb : a.testBit k = b.testBit k) : a / 2 ^ k = b / 2 ^ k := by
  rw [div_bit a k, div_bit b k, h, hb]
theorem tops_less {a b k : Nat} (h : a / 2 ^ (k + 1) = b / 2 ^ (k + 1)) (ha : a.testBit k = false) (hb : b.testBit k = true) : a < b := by
  have h1 := div_bit a k
  have h2 := div_bit b k
  rw [ha] at h1; rw [hb] at h2
  simp only [if_true, Bool.false_eq_true, if_false] at h1 h2
  have h3 : a / 2 ^ k < b / 2 ^ k := by omega
  rcases Nat.lt_or_ge a b with h | h
  · exact h
  · have := Nat.div_le_div_right (c := 2 ^ k) h
    omega
theorem bits_low {a k : Nat} (h : a < 2 ^ (k + 1)) (hb : a.testBit k = false) : a < 2 ^ k := by
  have h1 := div_bit a k
  rw [hb, Nat.div_eq_of_lt h] at h1
  simp only [Bool.false_eq_true, if_false] at h1
  exact Nat.lt_of_div_eq_zero (Nat.pow_pos (by decide)) (by omega)
/-- Rounded up. -/
def upq (n d : Nat) : Nat := (n + d - 1) / d
theorem upq_spec {n d q : Nat} (hd : 0 < d) : (n ≤ q * d ∧ (q = 0 ∨ (q - 1) * d < n)) ↔ q = upq n d := by
  unfold upq
  have hdm := Nat.div_add_mod (n + d - 1) d
  have hlt := Nat.mod_lt (n + d - 1) hd
  generalize (n + d - 1) / d = c at *
  generalize (n + d - 1) % d = r at *
  constructor
  · rintro ⟨h1, h2⟩
    rcases Nat.lt_trichotomy q c with h | h | h
    · exfalso
      have := Nat.mul_le_mul_right d (show q + 1 ≤ c from h)
      rw [Nat.add_mul, Nat.mul_comm c d] at this
      omega
    · exact h
    · exfalso
      rcases h2 with h2 | h2
      · omega
      · have := Nat.mul_le_mul_right d (show c ≤ q - 1 by omega)
        rw [Nat.mul_comm c d] at this
        omega
  · rintro rfl
    rw [Nat.mul_comm]
    refine ⟨by omega, ?_⟩
    rcases Nat.eq_zero_or_pos q with h | h
    · exact .inl h
    · right
      obtain ⟨m, rfl⟩ : ∃ m, q = m + 1 := ⟨q - 1, by omega⟩
      rw [Nat.add_sub_cancel, Nat.mul_comm m]
      rw [Nat.mul_add] at hdm
      omega
end Go.Proofs.Ytfeccjjheiillaa
/- The reference's numbers of 128 bits: double, comparison, the number that fits. -/
namespace Go.Proofs.Ytfeccjjheiillaa
open Go.RowKit
set_option linter.unusedSimpArgs false
set_option linter.unusedVariables false
set_option maxHeartbeats 400000

theorem Blk.new_ (w : World) (o : Obj) (t : TypeId) (cs : Array Value) : Blk ((w.alloc o).alloc (.cells cs t)) (w.heap.size + 1) t cs := by
  have := Blk.new (w.alloc o) t cs
  simpa using this
theorem Blk.new__ (w : World) (o o2 : Obj) (t : TypeId) (cs : Array Value) : Blk (((w.alloc o).alloc o2).alloc (.cells cs t)) (w.heap.size + 1 + 1) t cs := by
  have := Blk.new ((w.alloc o).alloc o2) t cs
  simpa using this
set_option maxRecDepth 100000 in
theorem num_Double (a : Nat) (w : World) :
    Calls Try.prog 128 #[.agg (bitsA a)] w fun e w' => e = .returned (.agg (bitsA (2 * a % 2 ^ 128))) ∧ Below w.heap.size w w' := by
  go_enter Try.func128, Try.ntmps128
  go_wp2
  go_loopw [4] (fun i wr => ∃ k : Nat, 1 ≤ k ∧ k ≤ 128 ∧ i = .int .i64 k ∧ Blk wr w.heap.size 156 (bitsA a) ∧ Blk wr (w.heap.size + 1) 156 (bitsA 0) ∧ Blk wr (w.heap.size + 1 + 1) 156 (arrF (dblF a k)) ∧ Below w.heap.size w wr) (fun i _ => 128 - (intOf i).toNat)
  case atStart =>
    refine ⟨1, by omega, by omega, rfl, ?_, ?_, ?_, by go_grown⟩
    · exact (((Blk.new w _ _).alloc _).alloc _)
    · rw [← zeros_num]; exact (Blk.new_ w _ _ _).alloc _
    · rw [dblF_zero, ← zeros_num]; exact Blk.new__ w _ _ _ _
  case round =>
    obtain ⟨k, hk1, hk, rfl, h0, h1, h2, hbel⟩ := hrel
    have H0 := Lib.hid h0
    have H1 := Lib.hid h1
    have H2 := Lib.hid h2
    have HBel := Lib.hid hbel
    clear h0 h1 h2 hbel
    by_cases hlt : k < 128
    · have r0 := H0.out.cellv (bitsA_get a (show k - 1 < 128 by omega))
      have r2 := H2.out.cellv (arrF_get (dblF a k) hlt)
      have f2 := H2.out.frozen k
      obtain ⟨j, rfl⟩ : ∃ j, k = j + 1 := ⟨k - 1, by omega⟩
      rw [Nat.add_sub_cancel] at r0
      have hc1 : ((j + 1 : Nat) : Int) - 1 = (j : Int) := by omega
      go_wp2
      go_roundw
      case rel =>
        refine ⟨j + 1 + 1, by omega, by omega, by go_num, H0.out.far (by simp <;> omega) _, H1.out.far (by simp <;> omega) _, ?_, HBel.out.setCell (by simp <;> omega) _⟩
        have := H2.out.set_ (j + 1) (.bool (a.testBit (j + 1 - 1)))
        rw [dblF_step a (j + 1) (by omega) hlt] at this
        exact this
      case measure => simp [intOf]; omega
    · obtain rfl : k = 128 := by omega
      rw [dblF_end] at H2
      go_wp2_with (first | (refine Blk.load rfl 156 (.tmp 3) rfl (w.heap.size + 1 + 1) _ _ _ rfl H2.out Try.underlying156 rfl (info_num _) ?_) | (refine wpList_store_row rfl 156 (.tmp 2) _ rfl (w.heap.size + 1) _ _ _ rfl rfl H1.out (by rw [bitsA_size, bitsA_size]) (info_num _) (bitsA_one _) ?_; intro w2 hb2 hg2))
      refine bodyPost_ret (results_row rfl _ _ (w.heap.size + 1) _ _ _ rfl hb2 Try.underlying156 rfl (info_num _)) rfl ⟨rfl, ?_⟩
      exact HBel.out.trans (Only.below hg2 (by omega) HBel.out.size)
set_option maxRecDepth 100000 in
theorem num_Cmp (a b : Nat) (w : World) (ha : a < 2 ^ 128) (hb : b < 2 ^ 128) :
    Calls Try.prog 115 #[.agg (bitsA a), .agg (bitsA b)] w fun e w' => e = .returned (.int .i64 (cmpN a b)) ∧ Below w.heap.size w w' := by
  have HA := Lib.hid ha
  have HB := Lib.hid hb
  clear ha hb
  go_enter Try.func115, Try.ntmps115
  go_wp2
  go_loopw [5] (fun i wr => ∃ k : Nat, k ≤ 128 ∧ i = .int .i64 (127 - (k : Int)) ∧ a / 2 ^ (128 - k) = b / 2 ^ (128 - k) ∧ Blk wr w.heap.size 156 (bitsA a) ∧ Blk wr (w.heap.size + 1) 156 (bitsA b) ∧ Below w.heap.size w wr) (fun i _ => ((intOf i) - (127 - 128)).toNat)
  case atStart =>
    refine ⟨0, by omega, rfl, ?_, ?_, ?_, by go_grown⟩
    · rw [Nat.div_eq_of_lt HA.out, Nat.div_eq_of_lt HB.out]
    · exact (Blk.new w _ _).alloc _
    · exact Blk.new_ w _ _ _
  case round =>
    obtain ⟨k, hk, rfl, he, h0, h1, hbel⟩ := hrel
    have HE := Lib.hid he
    have H0 := Lib.hid h0
    have H1 := Lib.hid h1
    have HBel := Lib.hid hbel
    clear h0 h1 he hbel
    by_cases hlt : k < 128
    · have r0 := H0.out.cellv (bitsA_get a (show 127 - k < 128 by omega))
      have r1 := H1.out.cellv (bitsA_get b (show 127 - k < 128 by omega))
      have z1 : (0 : Int) ≤ 127 - (k : Int) := by omega
      have z2 : (127 : Int) - (k : Int) < 128 := by omega
      have z3 : ((127 : Int) - (k : Int)).toNat = 127 - k := by omega
      have HE2 := Lib.hid (show a / 2 ^ (127 - k + 1) = b / 2 ^ (127 - k + 1) by rw [show 127 - k + 1 = 128 - k by omega]; exact HE.out)
      cases hA : a.testBit (127 - k) <;> cases hB : b.testBit (127 - k)
      all_goals
        rw [hA] at r0
        rw [hB] at r1
      · have HN := Lib.hid (tops_step HE2.out (hA.trans hB.symm))
        clear hA hB
        go_wp2
        go_quiet (fail)
        clear z3
        go_wp2
        go_roundw
        case rel => exact ⟨k + 1, by omega, by go_num, by rw [show 128 - (k + 1) = 127 - k by omega]; exact HN.out, H0.out.drewN _, H1.out.drewN _, ⟨HBel.out.os, HBel.out.tape, HBel.out.output, HBel.out.size, HBel.out.block⟩⟩
        case measure => simp [intOf]; omega
      · have HN := Lib.hid (tops_less HE2.out hA hB)
        clear hA hB
        go_wp2
        go_quiet (fail)
        have r0' := r0
        go_wp2
        go_ret
        exact ⟨ret_int (by have := HN.out; unfold cmpN; rw [if_pos (by omega)]), ⟨HBel.out.os, HBel.out.tape, HBel.out.output, HBel.out.size, HBel.out.block⟩⟩
      · have HN := Lib.hid (tops_less HE2.out.symm hB hA)
        clear hA hB
        go_wp2
        go_quiet (fail)
        go_wp2
        go_ret
        exact ⟨ret_int (by have := HN.out; unfold cmpN; rw [if_neg (by omega), if_neg (by omega)]), ⟨HBel.out.os, HBel.out.tape, HBel.out.output, HBel.out.size, HBel.out.block⟩⟩
      · have HN := Lib.hid (tops_step HE2.out (hA.trans hB.symm))
        clear hA hB
        go_wp2
        go_quiet (fail)
        clear z3
        go_wp2
        go_roundw
        case rel => exact ⟨k + 1, by omega, by go_num, by rw [show 128 - (k + 1) = 127 - k by omega]; exact HN.out, H0.out.drewN _, H1.out.drewN _, ⟨HBel.out.os, HBel.out.tape, HBel.out.output, HBel.out.size, HBel.out.block⟩⟩
        case measure => simp [intOf]; omega
    · obtain rfl : k = 128 := by omega
      go_wp2
      go_ret
      have he := HE.out
      simp only [Nat.sub_self, Nat.pow_zero, Nat.div_one] at he
      exact ⟨ret_int (by unfold cmpN; rw [he]; simp), HBel.out⟩
end Go.Proofs.Ytfeccjjheiillaa
/- The reference's products, sums and rounded quotients of 128 bits. -/
namespace Go.Proofs.Ytfeccjjheiillaa
open Go.RowKit
set_option linter.unusedSimpArgs false
set_option linter.unusedVariables false
set_option maxHeartbeats 400000
theorem num_OfLo (lo : Nat) (w : World) (h2 : lo < 2 ^ 64) :
    Calls Try.prog 126 #[.int .u64 0, .int .u64 lo] w fun e w' => e = .returned (.agg (bitsA lo)) ∧ Below w.heap.size w w' := by
  have := num_Of 0 lo w (by omega) h2
  rw [Nat.zero_mul, Nat.zero_add] at this
  exact this
def dblRow (a : Nat) : Nat := 2 * a % 2 ^ 128
theorem num_DoubleR (a : Nat) (w : World) :
    Calls Try.prog 128 #[.agg (bitsA a)] w fun e w' => e = .returned (.agg (bitsA (dblRow a))) ∧ Below w.heap.size w w' := num_Double a w
theorem bit_tmod (b k : Nat) : (((b : Int) / 2 ^ k).tmod 2 = 1) = (b.testBit k = true) := by
  have := bit_walk b k
  rw [← this]
  simp
set_option maxRecDepth 100000 in
theorem num_Mul (a b : Nat) (w : World) (ha : a < 2 ^ 64) (hb : b < 2 ^ 64) :
    Calls Try.prog 114 #[.int .u64 a, .int .u64 b] w fun e w' => e = .returned (.agg (bitsA (a * b))) ∧ Below w.heap.size w w' := by
  have HA := Lib.hid ha
  have HB := Lib.hid hb
  clear ha hb
  go_enter Try.func114, Try.ntmps114
  go_wp2_with (first | (refine wpList_store_row rfl 156 (.tmp 5) (.tmp 8) rfl (w.heap.size + 1) 156 _ (bitsA 0) rfl (by rw [← zeros_num]; rfl) (Blk.new_ w _ _ _) (by rw [bitsA_size]; kernel_rfl) (info_num _) (bitsA_one _) ?_; intro w1 hb1 hg1) | (go_at_call 126; refine (num_OfLo a _ HA.out).mono ?_; rintro e w2 ⟨rfl, hb2⟩) | (refine wpList_store_row rfl 156 (.tmp 6) (.tmp 10) rfl w2.heap.size 156 _ (bitsA a) rfl rfl (Blk.new w2 _ _) (by rw [bitsA_size]; kernel_rfl) (info_num _) (bitsA_one _) ?_; intro w3 hb3 hg3))
  have z0 : Blk ((w.alloc (.cells Try.zeroCells156 156)).alloc (.cells Try.zeroCells156 156)) w.heap.size 156 (bitsA 0) := by
    rw [← zeros_num]; exact (Blk.new w _ _).alloc _
  have s1 := hg1.size
  have s2 := hb2.size
  have s3 := hg3.size
  simp only [World.size_alloc] at s1 s3
  have k0 : Blk w3 w.heap.size 156 (bitsA 0) := (((z0.grown hg1 (by simp)).call hb2).alloc _).grown hg3 (by simp; omega)
  have k1 : Blk w3 (w.heap.size + 1) 156 (bitsA 0) := (((hb1.call hb2).alloc _)).grown hg3 (by simp; omega)
  have kb : Below w.heap.size w w3 := by
    have b0 : Below w.heap.size w ((w.alloc (.cells Try.zeroCells156 156)).alloc (.cells Try.zeroCells156 156)) := by go_grown
    have b1 := b0.trans (Only.below hg1 (B := w.heap.size) (by omega) (by simp; omega))
    have b2 := b1.trans (hb2.mono (by omega))
    exact (b2.alloc (by omega) _).trans (Only.below hg3 (B := w.heap.size) (by omega) (by simp; omega))
  have hxb : w.heap.size + 2 ≤ w2.heap.size := by omega
  clear s1 s2 s3 hb1 hg1 hb2 hg3 z0
  generalize w2.heap.size = xb at *
  go_loopw [7] (fun i wr => ∃ k O X : Nat, k ≤ 64 ∧ i = .int .i64 k ∧ O = a * (b % 2 ^ k) ∧ X = a * 2 ^ k % 2 ^ 128 ∧ Blk wr w.heap.size 156 (bitsA 0) ∧ Blk wr (w.heap.size + 1) 156 (bitsA O) ∧ Blk wr xb 156 (bitsA X) ∧ Below w.heap.size w wr) (fun i _ => 64 - (intOf i).toNat)
  case atStart =>
    refine ⟨0, 0, a, by omega, rfl, by rw [Nat.pow_zero, Nat.mod_one, Nat.mul_zero], ?_, k0, k1, hb3, kb⟩
    rw [Nat.pow_zero, Nat.mul_one, Nat.mod_eq_of_lt (by have := HA.out; omega)]
  case round =>
    obtain ⟨k, O, X, hk, rfl, hO, hX, h0, h1, h2, hbel⟩ := hrel
    clear k0 k1 kb hb3
    have H0 := Lib.hid h0
    have H1 := Lib.hid h1
    have H2 := Lib.hid h2
    have HBel := Lib.hid hbel
    clear h0 h1 h2 hbel
    by_cases hlt : k < 64
    · have hx : a * 2 ^ k < 2 ^ 127 := shl_small HA.out (by omega)
      have hmo : a * 2 ^ k % 2 ^ 128 = a * 2 ^ k := Nat.mod_eq_of_lt (by omega)
      have hmr := mul_round a b k
      have hms := mul_small (a := a) (b := b) HA.out (show k + 1 ≤ 64 by omega)
      have hms0 := mul_small (a := a) (b := b) HA.out (show k ≤ 64 by omega)
      have HD := Lib.hid (show dblRow X = a * 2 ^ (k + 1) % 2 ^ 128 by unfold dblRow; rw [hX, hmo, Nat.pow_succ 2 k, ← Nat.mul_assoc a, Nat.mul_comm 2 (a * 2 ^ k)])
      have HM := Lib.hid (show O < 2 ^ 128 ∧ X < 2 ^ 128 from ⟨by rw [hO]; exact hms0, by rw [hX]; exact Nat.mod_lt _ (by decide)⟩)
      cases hbt : b.testBit k
      · have htb : (((b : Int) / 2 ^ k).tmod 2 == 1) = false := by rw [bit_walk, hbt]
        have HR := Lib.hid (show O = a * (b % 2 ^ (k + 1)) by rw [hbt] at hmr; rw [hO]; simpa using hmr)
        clear hx hmo hmr hms hms0 hbt hO hX
        go_wp2_with (first | (refine Blk.load rfl 156 (.tmp 6) rfl xb _ _ _ rfl H2.out Try.underlying156 rfl (info_num _) ?_) | (go_at_call 128; refine (num_DoubleR _ _).mono ?_; rintro e w4 ⟨rfl, hb4⟩; have j0 := Lib.hid (H0.out.call hb4); have j1 := Lib.hid (H1.out.call hb4); have j2 := Lib.hid (H2.out.call hb4); have hj := Lib.hid (HBel.out.trans (hb4.mono HBel.out.size)); clear hb4) | (refine wpList_store_row rfl 156 (.tmp 6) _ rfl xb _ _ _ rfl rfl j2.out (by rw [bitsA_size, bitsA_size]) (info_num _) (bitsA_one _) ?_; intro w5 hb5 hg5))
        go_roundw
        case rel => exact ⟨k + 1, O, dblRow X, by omega, by go_num, HR.out, HD.out, j0.out.grown hg5 (by simp; omega), j1.out.grown hg5 (by simp; omega), hb5, hj.out.trans (Only.below hg5 (by omega) hj.out.size)⟩
        case measure => simp [intOf]; omega
      · have htb : (((b : Int) / 2 ^ k).tmod 2 == 1) = true := by rw [bit_walk, hbt]
        have HR := Lib.hid (show addRow O X = a * (b % 2 ^ (k + 1)) by rw [hbt] at hmr; simp only [if_true] at hmr; unfold addRow; rw [hO, hX, hmo, hmr, if_pos hms])
        clear hx hmo hmr hms hms0 hbt hO hX
        go_wp2_with (first | (refine Blk.load rfl 156 (.tmp 5) rfl (w.heap.size + 1) _ _ _ rfl H1.out Try.underlying156 rfl (info_num _) ?_) | (refine Blk.load rfl 156 (.tmp 6) rfl xb _ _ _ rfl H2.out Try.underlying156 rfl (info_num _) ?_) | (go_at_call 127; refine (num_Add _ _ _ HM.out.1 HM.out.2).mono ?_; rintro e w4 ⟨rfl, hb4⟩; have i0 := Lib.hid (H0.out.call hb4); have i1 := Lib.hid (H1.out.call hb4); have i2 := Lib.hid (H2.out.call hb4); have hi := Lib.hid (HBel.out.trans (hb4.mono HBel.out.size)); clear hb4) | (refine wpList_store_row rfl 156 (.tmp 5) _ rfl (w.heap.size + 1) _ _ _ rfl rfl i1.out (by rw [bitsA_size, bitsA_size]) (info_num _) (bitsA_one _) ?_; intro w6 hb6 hg6; have l0 := Lib.hid (i0.out.grown hg6 (by simp)); have l2 := Lib.hid (i2.out.grown hg6 (by simp; omega)); have hl := Lib.hid (hi.out.trans (Only.below hg6 (by omega) hi.out.size)); have l1 := Lib.hid hb6; clear hg6 hb6) | (refine Blk.load rfl 156 (.tmp 6) rfl xb _ _ _ rfl l2.out Try.underlying156 rfl (info_num _) ?_) | (go_at_call 128; refine (num_DoubleR _ _).mono ?_; rintro e w7 ⟨rfl, hb4⟩; have j0 := Lib.hid (l0.out.call hb4); have j1 := Lib.hid (l1.out.call hb4); have j2 := Lib.hid (l2.out.call hb4); have hj := Lib.hid (hl.out.trans (hb4.mono hl.out.size)); clear hb4) | (refine wpList_store_row rfl 156 (.tmp 6) _ rfl xb _ _ _ rfl rfl j2.out (by rw [bitsA_size, bitsA_size]) (info_num _) (bitsA_one _) ?_; intro w5 hb5 hg5))
        go_roundw
        case rel => exact ⟨k + 1, addRow O X, dblRow X, by omega, by go_num, HR.out, HD.out, j0.out.grown hg5 (by simp; omega), j1.out.grown hg5 (by simp; omega), hb5, hj.out.trans (Only.below hg5 (by omega) hj.out.size)⟩
        case measure => simp [intOf]; omega
    · obtain rfl : k = 64 := by omega
      obtain rfl : O = a * b := by rw [hO, Nat.mod_eq_of_lt HB.out]
      clear hO hX
      go_wp2_with (first | (refine Blk.load rfl 156 (.tmp 5) rfl (w.heap.size + 1) _ _ _ rfl H1.out Try.underlying156 rfl (info_num _) ?_) | (refine wpList_store_row rfl 156 (.tmp 4) _ rfl w.heap.size _ _ _ rfl rfl H0.out (by rw [bitsA_size, bitsA_size]) (info_num _) (bitsA_one _) ?_; intro w5 hb5 hg5))
      refine bodyPost_ret (results_row rfl _ _ w.heap.size _ _ _ rfl hb5 Try.underlying156 rfl (info_num _)) rfl ⟨rfl, HBel.out.trans (Only.below hg5 (by omega) HBel.out.size)⟩
end Go.Proofs.Ytfeccjjheiillaa
/- The sums of lists as numbers of 128 bits. -/
namespace Go.Proofs.Ytfeccjjheiillaa
open Go.RowKit
set_option linter.unusedSimpArgs false
set_option linter.unusedVariables false
set_option maxHeartbeats 400000
def totq (l : List Int) : Nat := (l.map Int.toNat).sum
theorem totq_snoc (l : List Int) (x : Int) : totq (l ++ [x]) = totq l + x.toNat := by simp [totq]
theorem totq_lt (l : List Int) (hg : ∀ x ∈ l, I64 x) : totq l ≤ l.length * 9223372036854775807 := by
  induction l with
  | nil => simp [totq]
  | cons x l ih =>
    have h1 := ih (fun y hy => hg y (by simp [hy]))
    have h2 := hg x (by simp)
    unfold I64 at h2
    simp only [totq, List.map_cons, List.sum_cons, List.length_cons] at *
    omega
theorem take_I64 {l : List Int} (hg : ∀ x ∈ l, I64 x) (k : Nat) : ∀ x ∈ l.take k, I64 x := fun x hx => hg x (List.mem_of_mem_take hx)
theorem wpList_store_fresh2 {P : Program} {ops : Array Oper} {rest : List Oper} {op : Oper} {a : Act} {W : World} {Q : Exit → Act → World → Prop} (hgd : op.guard = none) (ty : TypeId) (x y : Operand) (ho : op.op = .store ty x y)
    (w : World) (t : TypeId) (cs new : Array Value) (hW : W = w.alloc (.cells cs t)) (g : Nat) (hx : a.eval x = .pointer (some ⟨g, 0, none⟩)) (hg : g = w.heap.size) (hy : a.eval y = .agg new) (hs : new.size = cs.size) (hi : (P.info? ty).map (·.size) = some new.size) (h1 : new.all (·.oneCell') = true)
    (h : wpList P ops Q rest (a.put op.dst undef) (w.alloc (.cells new t))) : wpList P ops Q (op :: rest) a W := by
  subst hg
  exact wpList_store_fresh hgd ty x y ho w t cs new hW hx hy hs hi h1 h
set_option maxRecDepth 100000 in
theorem num_Total (A : Option Addr) (len cap : Nat) (l : List Int) (w : World) (hs : IntsAre w A len cap l) (hg : ∀ x ∈ l, I64 x) (hn : len ≤ 1000000) :
    Calls Try.prog 116 #[.slice A len cap] w fun e w' => e = .returned (.agg (bitsA (totq l))) ∧ Below w.heap.size w w' := by
  have HS := Lib.hid hs
  have HG := Lib.hid hg
  have HL := Lib.hid hs.1
  clear hs hg
  go_enter Try.func116, Try.ntmps116
  go_wp2_with (first | (refine wpList_store_fresh2 rfl 156 _ _ rfl _ _ _ (bitsA 0) rfl _ rfl (by simp) (by rw [← zeros_num]; rfl) (by rw [bitsA_size]; kernel_rfl) (info_num _) (bitsA_one _) ?_))
  go_loopw [4] (fun i wr => ∃ k O : Nat, k ≤ len ∧ i = .int .i64 k ∧ O = totq (l.take k) ∧ Blk wr w.heap.size 156 (bitsA 0) ∧ Blk wr (w.heap.size + 1) 156 (bitsA O) ∧ Below w.heap.size w wr) (fun i _ => len - (intOf i).toNat)
  case atStart =>
    refine ⟨0, 0, by omega, rfl, rfl, ?_, ?_, by go_grown⟩
    · rw [← zeros_num]; exact (Blk.new w _ _).alloc _
    · rw [← zeros_num]; exact Blk.new_ w _ _ _
  case round =>
    obtain ⟨k, O, hk, rfl, hO, h0, h1, hbel⟩ := hrel
    have H0 := Lib.hid h0
    have H1 := Lib.hid h1
    have HBel := Lib.hid hbel
    by_cases hlt : k < len
    · obtain ⟨b, off, x, rfl, hx, hb, hc⟩ := HS.out.at_ hlt
      have kc := (hbel.cell (p := ⟨b, off + k, none⟩) hb).trans hc
      have hxI := HG.out x (List.mem_of_getElem? hx)
      unfold I64 at hxI
      have hsn := totq_snoc (l.take k) x
      rw [← take_next hx, ← hO] at hsn
      have hle := totq_lt (l.take k) (take_I64 HG.out k)
      have hlk : (l.take k).length ≤ 1000000 := by rw [List.length_take]; omega
      have hle2 : totq (l.take k) ≤ 1000000 * 9223372036854775807 := Nat.le_trans hle (Nat.mul_le_mul_right _ hlk)
      rw [← hO] at hle2
      clear hle hlk
      have hki : (k : Int) < (len : Int) := by omega
      by_cases hpos : 0 < x
      · obtain ⟨X, rfl⟩ : ∃ X : Nat, x = (X : Int) := ⟨x.toNat, by omega⟩
        rw [Int.toNat_natCast] at hsn
        have HN := Lib.hid (show addRow O X = totq (l.take (k + 1)) by rw [hsn]; unfold addRow; rw [if_pos (by omega)])
        have HM := Lib.hid (show O < 2 ^ 128 ∧ X < 2 ^ 128 ∧ X < 2 ^ 64 by omega)
        have hb0 : b < wr.drew.heap.size := Nat.lt_of_lt_of_le hb hbel.size
        clear hsn hle2 hO hx hc hb h0 h1
        have hld := fun (W : World) (h : Blk W (w.heap.size + 1) 156 (bitsA O)) => run_loadAt_blk (P := Try.prog) W (w.heap.size + 1) 156 156 (bitsA O) _ h Try.underlying156 rfl (info_num O)
        have HLD := Lib.hid hld
        clear hld
        go_wp2
        refine wp_region_any (by kernel_rfl) ?_
        refine wpAny_take (i := 1) (v := _) rfl (by kernel_rfl) (by kernel_rfl) (by kernel_rfl) (fun _ _ _ h => h) (Or.inl ⟨by rfl, fun W => by rfl⟩) ?_
        refine wpAny_take (i := 2) (v := _) rfl (by kernel_rfl) (by kernel_rfl) (by kernel_rfl) (fun _ _ _ h => h) (Or.inl ⟨by rfl, fun W => by rfl⟩) ?_
        change wpAny _ _ _ _ _ _ _ (World.drew _)
        refine any_of_anyG (late := fun j => Nat.ble 7 j && Nat.blt j 12) (S := fun w' => Blk w' (w.heap.size + 1) 156 (bitsA O)) _ _ _ _ ?_
        refine anyG_take (i := 0) (v := .agg (bitsA _)) rfl (by kernel_rfl) (by kernel_rfl) (by kernel_rfl) (by kernel_rfl) rfl (by kernel_rfl) (fun j hj => by first | (simp at hj; done) | (simp at hj; simp; omega)) (fun _ _ _ h => h) (Or.inl ⟨by rfl, fun W hW => exec_load (ty := 156) (x := .tmp 3) rfl rfl (HLD.out W hW)⟩) H1.out.drew ?_
        refine anyG_one (k := 3) (by kernel_rfl) rfl (by rfl) (fun Q2 hQ2 => ?_); go_wp2_with fail; refine hQ2 _ _ (fun _ => H1.out.drew) ?_; clear hQ2 Q2
        refine anyG_one (k := 4) (by kernel_rfl) rfl (by rfl) (fun Q2 hQ2 => ?_); go_wp2_with fail; refine hQ2 _ _ (fun _ => H1.out.drew) ?_; clear hQ2 Q2
        refine anyG_one (k := 5) (by kernel_rfl) rfl (by rfl) (fun Q2 hQ2 => ?_); go_wp2_with fail; refine hQ2 _ _ (fun _ => H1.out.drew) ?_; clear hQ2 Q2
        refine anyG_one (k := 6) (by kernel_rfl) rfl (by rfl) (fun Q2 hQ2 => ?_); go_wp2_with (go_at_call 126; refine (num_OfLo X _ HM.out.2.2).mono ?_; rintro e v2 ⟨rfl, hb2⟩); refine hQ2 _ _ (fun _ => H1.out.drew.call hb2) ?_; clear hQ2 Q2
        refine anyG_of_any _ _ _ _ (by kernel_rfl) ?_
        refine any_one (k := 7) (by kernel_rfl) rfl (by rfl) (fun Q2 hQ2 => ?_); go_wp2_with (go_at_call 127; refine (num_Add O X _ HM.out.1 HM.out.2.1).mono ?_; rintro e v3 ⟨rfl, hb3⟩); (try refine hQ2 _ _ ?_); (try clear hQ2 Q2)
        refine any_one (k := 8) (by kernel_rfl) rfl (by rfl) (fun Q2 hQ2 => ?_); go_wp2_with fail; (try refine hQ2 _ _ ?_); (try clear hQ2 Q2)
        refine wpAny_take (i := 9) (v := _) rfl (by kernel_rfl) (by kernel_rfl) (by kernel_rfl) (fun _ _ _ h => h) (Or.inl ⟨by rfl, fun W => by rfl⟩) ?_
        refine wpAny_take (i := 10) (v := _) rfl (by kernel_rfl) (by kernel_rfl) (by kernel_rfl) (fun _ _ _ h => h) (Or.inl ⟨by rfl, fun W => by rfl⟩) ?_
        refine any_one (k := 11) (by kernel_rfl) rfl (by rfl) (fun Q2 hQ2 => ?_); go_wp2_with (refine wpList_store_row rfl 156 (.tmp 3) _ rfl (w.heap.size + 1) _ _ _ rfl rfl ((H1.out.drew.call hb2).call hb3) (by rw [bitsA_size, bitsA_size]) (info_num _) (bitsA_one _) ?_; intro v4 hb4 hg4); (try refine hQ2 _ _ ?_); (try clear hQ2 Q2)
        refine wpAny_done (by kernel_rfl) ?_ _
        go_wp2
        go_roundw
        case rel =>
          refine ⟨k + 1, addRow O X, by omega, by go_num, HN.out, ((H0.out.drew.call hb2).call hb3).grown hg4 (by simp), hb4, ?_⟩
          have e1 := (HBel.out.drew.trans (hb2.mono HBel.out.size))
          have e2 := e1.trans (hb3.mono e1.size)
          exact e2.trans (Only.below hg4 (by omega) e2.size)
        case measure => simp [intOf]; omega
      · have d : decide (0 < x) = false := by simpa using hpos
        have HN := Lib.hid (show O = totq (l.take (k + 1)) by rw [hsn, show x.toNat = 0 by omega, Nat.add_zero])
        clear hsn hle2 hO hx hc hb h0 h1
        go_wp2
        go_roundw
        case rel => exact ⟨k + 1, O, by omega, by go_num, HN.out, H0.out, H1.out, HBel.out⟩
        case measure => simp [intOf]; omega
    · obtain rfl : k = len := by omega
      clear h0 h1
      obtain rfl : O = totq l := by rw [hO, List.take_of_length_le (by have := HL.out; omega)]
      clear hO
      go_wp2_with (first | (refine Blk.load rfl 156 (.tmp 3) rfl (w.heap.size + 1) _ _ _ rfl (H1.out) Try.underlying156 rfl (info_num _) ?_) | (refine wpList_store_row rfl 156 (.tmp 2) _ rfl w.heap.size _ _ _ rfl rfl H0.out (by rw [bitsA_size, bitsA_size]) (info_num _) (bitsA_one _) ?_; intro w5 hb5 hg5))
      refine bodyPost_ret (results_row rfl _ _ w.heap.size _ _ _ rfl hb5 Try.underlying156 rfl (info_num _)) rfl ⟨rfl, HBel.out.trans (Only.below hg5 (by omega) HBel.out.size)⟩
end Go.Proofs.Ytfeccjjheiillaa
