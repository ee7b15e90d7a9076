/- Several texts in one. -/
import Derived.Test.YtfeccjjheiillaaKNodeNone1
import Derived.Test.YtfeccjjheiillaaRef08b
import Derived.Test.YtfeccjjheiillaaRoute
import Derived.Lib.Hide
/- The reference's rounded quotients of 128 bits. -/
namespace Go.Proofs.Ytfeccjjheiillaa
open Go.RowKit
set_option linter.unusedSimpArgs false
set_option linter.unusedVariables false
set_option maxHeartbeats 400000
theorem cmpN_lt (X Y : Nat) : decide (cmpN X Y < 0) = decide (X < Y) := by
  unfold cmpN
  rw [Bool.eq_iff_iff]
  simp only [decide_eq_true_eq]
  split <;> (try split) <;> omega
theorem mul_lt128q {a b : Nat} (ha : a < 2 ^ 64) (hb : b < 2 ^ 64) : a * b < 2 ^ 128 := by
  have := Nat.mul_le_mul (show a ≤ 2 ^ 64 - 1 by omega) (show b ≤ 2 ^ 64 - 1 by omega)
  omega
theorem rangeAt_blk {w : World} {g : Nat} {t : TypeId} {cs : Array Value} (h : Blk w g t cs) : w.rangeAt g 0 cs.toList := fun j v hv => by
  rw [Nat.zero_add]; exact h.cellv (by simpa using hv)
theorem heldR {w0 W w1 : World} {g : Nat} {cs : List Value} (hb : Below W.heap.size W w1) (hr : W.rangeAt g 0 cs) (hs : g < W.heap.size) (hB : Below g w0 W) : w1.rangeAt g 0 cs ∧ g < w1.heap.size ∧ Below g w0 w1 :=
  ⟨fun j v hv => (hb.cell (p := ⟨g, 0 + j, none⟩) hs).trans (hr j v hv), Nat.lt_of_lt_of_le hs hb.size, hB.trans (hb.mono (Nat.le_of_lt hs))⟩
theorem info_list (N : Nat) : (Try.prog.info? 156).map (·.size) = some (bitsA N).toList.length := by rw [info_num N]; simp
theorem num_MulM (a b M : Nat) (w : World) (hM : M = a * b) (ha : a < 2 ^ 64) (hb : b < 2 ^ 64) :
    Calls Try.prog 114 #[.int .u64 a, .int .u64 b] w fun e w' => e = .returned (.agg (bitsA M)) ∧ Below w.heap.size w w' := by
  subst hM; exact num_Mul a b w ha hb
def upIs (n d q : Nat) : Bool := decide (n ≤ q * d ∧ (q = 0 ∨ (q - 1) * d < n))
end Go.Proofs.Ytfeccjjheiillaa
/- The reference of package control: Load, Want, Bound, Near, Open. -/
namespace Go.Proofs.Ytfeccjjheiillaa
open Go.RowKit
set_option linter.unusedSimpArgs false
set_option linter.unusedVariables false
set_option maxHeartbeats 4000000
set_option maxRecDepth 100000
abbrev Pol.row (p : Pol) : Array Value := #[.int .i64 p.min, .int .i64 p.max, .int .i64 p.target, .int .i64 p.tol, .int .i64 p.window, .int .i64 p.hold]
end Go.Proofs.Ytfeccjjheiillaa
/- A workload's node: plain. -/
namespace Go.Proofs.Ytfeccjjheiillaa
open Go.RowKit
set_option linter.unusedSimpArgs false
set_option linter.unusedVariables false
structure Cfg where
  str : Int
  smp : Int
  lod : Int
  his : Int
abbrev Cfg.row (c : Cfg) : Array Value := #[.int .i64 c.str, .int .i64 c.smp, .int .i64 c.lod, .int .i64 c.his]
def Cfg.fit (c : Cfg) : Prop := I64 c.str ∧ I64 c.smp ∧ I64 c.lod ∧ I64 c.his
def Cfg.okC (c : Cfg) : Prop := rightq c.str = true ∧ 1 ≤ c.smp ∧ c.smp ≤ 256 ∧ 1 ≤ c.lod ∧ c.lod ≤ 256 ∧ 1 ≤ c.his ∧ c.his ≤ 64
instance (c : Cfg) : Decidable c.okC := by unfold Cfg.okC; infer_instance
def cfgErr (c : Cfg) : Int := if c.okC then 0 else 1
structure Ld where
  smps : List Smp
  past : List Adv
  pol : Pol
  ruled : Bool
  ver : Int
def ld0 : Ld := ⟨[], [], ⟨0, 0, 0, 0, 0, 0⟩, false, 0⟩
abbrev Ld.row (x : Ld) (s h : Value) : Array Value := #[s, h, .int .i64 x.pol.min, .int .i64 x.pol.max, .int .i64 x.pol.target, .int .i64 x.pol.tol, .int .i64 x.pol.window, .int .i64 x.pol.hold, .bool x.ruled, .int .i64 x.ver]
structure NAct where
  kind : Int
  tick : Int
  value : Int
  pol : Pol
  adv : Adv
def NAct.cells (a : NAct) : List Value := [.int .i64 a.kind, .int .i64 a.tick, .int .i64 a.value, .int .i64 a.pol.min, .int .i64 a.pol.max, .int .i64 a.pol.target, .int .i64 a.pol.tol, .int .i64 a.pol.window, .int .i64 a.pol.hold, .int .i64 a.adv.tick, .int .i64 a.adv.load, .int .i64 a.adv.want, .int .i64 a.adv.repl, .int .i64 a.adv.why]
abbrev NAct.row (a : NAct) : Array Value := #[.int .i64 a.kind, .int .i64 a.tick, .int .i64 a.value, .int .i64 a.pol.min, .int .i64 a.pol.max, .int .i64 a.pol.target, .int .i64 a.pol.tol, .int .i64 a.pol.window, .int .i64 a.pol.hold, .int .i64 a.adv.tick, .int .i64 a.adv.load, .int .i64 a.adv.want, .int .i64 a.adv.repl, .int .i64 a.adv.why]
def NAct.good (a : NAct) : Prop := I64 a.kind ∧ I64 a.tick ∧ I64 a.value
abbrev NActsAre (w : World) (A : Option Addr) (len cap : Nat) (l : List NAct) : Prop := SliceIs w 14 NAct.cells A len cap l
def bump (x : Ld) : Ld := ⟨x.smps, x.past, x.pol, x.ruled, x.ver + 1⟩
def nput (c : Cfg) (x : Ld) (t v : Int) : Ld := if serErr t v = 0 then ⟨putq x.smps c.smp.toNat ⟨t, v⟩, x.past, x.pol, x.ruled, x.ver + 1⟩ else x
def ntrim (x : Ld) (t : Int) : Ld := if (froms x.smps t).length = x.smps.length then x else ⟨froms x.smps t, x.past, x.pol, x.ruled, x.ver + 1⟩
def nset (x : Ld) (p : Pol) : Ld := if p.okP then ⟨x.smps, x.past, p, true, x.ver + 1⟩ else x
def nnote (c : Cfg) (x : Ld) (a : Adv) : Ld := ⟨x.smps, pushq x.past c.his.toNat a, x.pol, x.ruled, x.ver + 1⟩
def ndo (c : Cfg) (x : Ld) (a : NAct) : Ld :=
  if a.kind = 0 then nput c x a.tick a.value else if a.kind = 1 then ntrim x a.tick else if a.kind = 2 then nset x a.pol else if a.kind = 3 then nnote c x a.adv else x
def nerr (a : NAct) : Int := if a.kind = 0 then serErr a.tick a.value else if a.kind = 2 then polErr a.pol else 0
/-- What holds of each load that can be come to. -/
structure LdOk (c : Cfg) (x : Ld) (k : Nat) : Prop where
  srt : Srt x.smps
  slen : x.smps.length ≤ c.smp.toNat
  plen : x.past.length ≤ c.his.toNat
  v0 : 0 ≤ x.ver
  v1 : x.ver ≤ k
theorem ldok0 (c : Cfg) : LdOk c ld0 0 := ⟨List.Pairwise.nil, Nat.zero_le _, Nat.zero_le _, Int.le_refl _, Int.le_refl _⟩
theorem LdOk.mono {c : Cfg} {x : Ld} {k m : Nat} (h : LdOk c x k) (hm : k ≤ m) : LdOk c x m := ⟨h.srt, h.slen, h.plen, h.v0, by have := h.v1; omega⟩
theorem pushq_lenr (l : List Adv) (room : Nat) (x : Adv) (h : l.length ≤ room) (h1 : 1 ≤ room) : (pushq l room x).length ≤ room := by
  unfold pushq; split
  · rw [List.length_drop, List.length_append]; simp; omega
  · rename_i h2; omega
theorem LdOk.next {c : Cfg} (hc : c.okC) {x : Ld} {k : Nat} (h : LdOk c x k) (a : NAct) : LdOk c (ndo c x a) (k + 1) := by
  have m1 := h.mono (show k ≤ k + 1 by omega)
  have hs : 1 ≤ c.smp.toNat := by have := hc.2.1; omega
  have hh : 1 ≤ c.his.toNat := by have := hc.2.2.2.2.2.1; omega
  have v0 := h.v0
  have v1 := h.v1
  unfold ndo
  split
  · unfold nput; split
    · exact ⟨srt_putq h.srt _ _, len_putq h.slen hs _, h.plen, by show 0 ≤ x.ver + 1; omega, by show x.ver + 1 ≤ ((k + 1 : Nat) : Int); omega⟩
    · exact m1
  · split
    · unfold ntrim; split
      · exact m1
      · exact ⟨srt_froms h.srt _, Nat.le_trans (List.length_filter_le _ _) h.slen, h.plen, by show 0 ≤ x.ver + 1; omega, by show x.ver + 1 ≤ ((k + 1 : Nat) : Int); omega⟩
    · split
      · unfold nset; split
        · exact ⟨h.srt, h.slen, h.plen, by show 0 ≤ x.ver + 1; omega, by show x.ver + 1 ≤ ((k + 1 : Nat) : Int); omega⟩
        · exact m1
      · split
        · exact ⟨h.srt, h.slen, pushq_lenr _ _ _ h.plen hh, by show 0 ≤ x.ver + 1; omega, by show x.ver + 1 ≤ ((k + 1 : Nat) : Int); omega⟩
        · exact m1
end Go.Proofs.Ytfeccjjheiillaa
/- Clones of a series and of a history; Trim of a series, or of none. (fast region) -/
namespace Go.Proofs.Ytfeccjjheiillaa
open Go.RowKit
set_option linter.unusedSimpArgs false
set_option linter.unusedVariables false
set_option maxHeartbeats 4000000
set_option maxRecDepth 100000
def CloneV (w : World) (xs : List Smp) (room : Int) (e : Ending) (w' : World) : Prop := ∃ p F, e = .returned (.pointer p) ∧ SerV w' p F xs room ∧ (∀ k, F k → w.heap.size ≤ k) ∧ Below w.heap.size w w'
theorem serv_Clone (p : Option Addr) (F : Nat → Prop) (xs : List Smp) (room : Int) (w : World) (h : SerV w p F xs room) :
    Calls Try.prog 117 #[.pointer p] w (CloneV w xs room) := by
  rcases h.1 with ⟨rfl, rfl, hr⟩ | ⟨g, v, rm, rfl, rfl, e3, e4, e5, e6, e7, e8⟩
  · refine (series_Clone_nil w).mono ?_
    rintro e w' ⟨rfl, rfl⟩
    exact ⟨none, fun _ => False, rfl, ⟨.inl ⟨rfl, rfl, hr⟩, fun _ hk => hk.elim⟩, fun _ hk => hk.elim, Below.refl _ _⟩
  · refine (series_Clone g v xs rm w e5 (by omega)).mono ?_
    rintro e w' ⟨g', v', rfl, k1, k2, k3⟩
    exact ⟨some ⟨g', 0, none⟩, foot g' v', rfl, ⟨.inr ⟨g', v', rm, rfl, rfl, e3, e4, k1, fun _ hk => hk, e7, e8⟩, k1.lt⟩, k2, k3⟩
def TrimV (p : Option Addr) (F : Nat → Prop) (xs : List Smp) (room cut : Int) (w : World) (e : Ending) (w' : World) : Prop := ∃ F', e = .returned (.int .i64 (placeq xs cut)) ∧ SerV w' p F' (froms xs cut) room ∧ Upd F w w' ∧ ∀ k, F' k → F k ∨ w.heap.size ≤ k
theorem serv_Trim (p : Option Addr) (F : Nat → Prop) (xs : List Smp) (room cut : Int) (w : World) (h : SerV w p F xs room) :
    Calls Try.prog 98 #[.pointer p, .int .i64 cut] w (TrimV p F xs room cut w) := by
  rcases h.1 with ⟨rfl, rfl, hr⟩ | ⟨g, v, rm, rfl, rfl, e3, e4, e5, e6, e7, e8⟩
  · refine (series_Trim_nil cut w).mono ?_
    rintro e w' ⟨rfl, rfl⟩
    exact ⟨F, rfl, ⟨.inl ⟨rfl, rfl, hr⟩, h.2⟩, Upd.refl _ _, fun k hk => .inl hk⟩
  · refine (series_Trim g v xs rm cut w e5 e7 (by omega)).mono ?_
    rintro e w' ⟨v', rfl, k1, k2, k3⟩
    refine ⟨fun k => F k ∨ foot g v' k, rfl, ⟨.inr ⟨g, v', rm, rfl, rfl, e3, e4, k1, fun k hk => .inr hk, srt_froms e7 _, Nat.le_trans (List.length_filter_le _ _) e8⟩, ?_⟩, k2.mono e6, ?_⟩
    · rintro k (hk | hk)
      · exact Nat.lt_of_lt_of_le (h.2 k hk) k2.size
      · exact k1.lt k hk
    · rintro k (hk | hk)
      · exact .inl hk
      · exact (k3 k hk).imp (e6 k) id
def CloneA (w : World) (l : List Adv) (e : Ending) (w' : World) : Prop := ∃ A n c, e = .returned (.slice A n c) ∧ OwnA w' w.heap.size (.slice A n c) l ∧ Below w.heap.size w w'
theorem CloneA.mk {w w' : World} {l : List Adv} {v : Value} (h : OwnA w' w.heap.size v l) (hb : Below w.heap.size w w') : CloneA w l (.returned v) w' := by
  obtain ⟨A, n, c, rfl, _, _⟩ := h.shape (fun _ => rfl)
  exact ⟨A, n, c, rfl, h, hb⟩
theorem slices_CloneA_none (w : World) (n c : Nat) :
    Calls Try.prog 132 #[.slice none n c] w fun e w' => e = .returned (.slice none 0 0) ∧ w = w' := by
  have q := fun (W : World) => Lib.run_eql_slice_nil (P := Try.prog) W 60 66 none n c 0 0 Try.underlying60
  go_enter Try.func132, Try.ntmps132
  go_wp2
  go_ret
  exact ⟨rfl, rfl⟩
theorem slices_CloneA (A : Option Addr) (n c : Nat) (l : List Adv) (w : World) (hs : AdvsAre w A n c l) (hn : n ≤ 100000) :
    Calls Try.prog 132 #[.slice A n c] w (CloneA w l) := by
  cases A with
  | none =>
    obtain ⟨rfl, rfl⟩ := hs.2.2.2.1 rfl
    have hl : l = [] := List.eq_nil_of_length_eq_zero hs.1
    subst hl
    refine (slices_CloneA_none w 0 0).mono ?_
    rintro e w' ⟨rfl, rfl⟩
    exact CloneA.mk (Own.nil _ _ _ _ _) (Below.refl _ _)
  | some a =>
    have q := fun (W : World) => Lib.run_eql_slice_nil (P := Try.prog) W 60 66 (some a) n c 0 0 Try.underlying60
    have HS := Lib.hid (slice_keep hs (show Below w.heap.size w (w.alloc (.cells #[] 66)) by go_grown))
    have HO := Lib.hid (show OwnA (w.alloc (.cells #[] 66)) w.heap.size (.slice (some ⟨w.heap.size, 0, none⟩) 0 0) [] from World.ownsRow_made w #[] 0 (Nat.le_refl _) (Nat.zero_le _) rfl)
    clear hs
    go_enter Try.func132, Try.ntmps132
    go_wp2_with (at_builtin; refine wpList_cat _ rfl (.tmp 5) (.tmp 6) 60 rfl w.heap.size 66 _ 5 40 Adv.cells Try.underlying60 info_adv (by rfl) (by decide) (fun _ => rfl) adv_one (.slice (some ⟨w.heap.size, 0, none⟩) 0 0) [] rfl HO.out (some a) n c l rfl HS.out (by simp; omega) (by decide) (by simp) ?_; intro v' w1 ho hbel hgr; have HV := Lib.hid ho; have HB := Lib.hid (Below.trans (show Below w.heap.size w (w.alloc (.cells #[] 66)) by go_grown) hbel); clear ho hbel hgr)
    go_ret
    exact CloneA.mk HV.out HB.out
def NewRing (w : World) (ph : List Adv) (fr room : Nat) (e : Ending) (w' : World) : Prop := ∃ g v, e = .returned (.pointer (some ⟨g, 0, none⟩)) ∧ RingAt w' g v ph fr room ∧ (∀ k, foot g v k → w.heap.size ≤ k) ∧ Below w.heap.size w w'
theorem ring_Clone (g : Nat) (v : Value) (ph : List Adv) (fr room : Nat) (w : World) (h : RingAt w g v ph fr room) (hn : ph.length ≤ 100000) :
    Calls Try.prog 129 #[.pointer (some ⟨g, 0, none⟩)] w (NewRing w ph fr room) := by
  have HS := Lib.hid h
  have HRI := Lib.hid h.2.2.2
  have hg := h.1.lt
  obtain ⟨A, n, c, rfl, hnl, hsl⟩ := h.2.1.shape adv_len
  have HSl := Lib.hid hsl
  have hn2 : n ≤ 100000 := by omega
  clear h hn hnl hsl
  go_enter Try.func129, Try.ntmps129
  go_upto_region 3 with (fail)
  obtain ⟨w0, hw0⟩ : ∃ w0, w0 = w := ⟨w, rfl⟩
  rw [← hw0] at HS HSl ⊢
  have HW := Lib.hid hw0
  clear hw0
  refine wp_region_any (by kernel_rfl) ?_; change wpAny _ _ _ _ _ _ _ (World.drew w0); refine any_of_anyG (late := fun _ => false) (S := fun wS => Below w0.heap.size w0 wS) _ _ _ _ ?_
  have S0 := (Below.refl w0.heap.size w0).drew
  refine anyG_takes (is := [0, 1, 2, 3, 5]) (vs := [_, _, _, .slice A n c, _]) (m := 11) (listed2 := #[true, true, true, true, false, true, false, false, false, false, false, false, false, false, false, false]) (a2 := ⟨#[_, _, _, _, _, _, _, _, _, _, _, _, _, _, _, _, _, _, _, _], _⟩) (by kernel_rfl) (fun j hj => by simp at hj) (by kernel_rfl) (fun _ _ _ _ _ h => h) (Ys.cons rfl (Or.inl ⟨by rfl, fun W1 hW1 => by first | rfl | (go_simp; done) | (go_simp; with_reducible rfl)⟩) (Ys.cons rfl (Or.inl ⟨by rfl, fun W1 hW1 => by first | rfl | (go_simp; done) | (go_simp; with_reducible rfl)⟩) (Ys.cons rfl (Or.inl ⟨by rfl, fun W1 hW1 => by first | rfl | (go_simp; done) | (go_simp; with_reducible rfl)⟩) (Ys.cons rfl (Or.inl ⟨by rfl, fun W1 hW1 => by have c := (HS.out.1.call hW1).cellv (i := 0) (v := .slice A n c) rfl; go_simp⟩) (Ys.cons rfl (Or.inl ⟨by rfl, fun W1 hW1 => by first | rfl | (go_simp; done) | (go_simp; with_reducible rfl)⟩) (Ys.nil)))))) (S0) (by rfl) (by rfl) ?_
  refine anyG_takes (is := [6, 7, 8, 9, 10]) (vs := [_, _, .int .i64 fr, _, _]) (m := 6) (listed2 := #[true, true, true, true, false, true, true, true, true, true, true, false, false, false, false, false]) (a2 := ⟨#[_, _, _, _, _, _, _, _, _, _, _, _, _, _, _, _, _, _, _, _], _⟩) (by kernel_rfl) (fun j hj => by simp at hj) (by kernel_rfl) (fun _ _ _ _ _ h => h) (Ys.cons rfl (Or.inl ⟨by rfl, fun W1 hW1 => by first | rfl | (go_simp; done) | (go_simp; with_reducible rfl)⟩) (Ys.cons rfl (Or.inl ⟨by rfl, fun W1 hW1 => by first | rfl | (go_simp; done) | (go_simp; with_reducible rfl)⟩) (Ys.cons rfl (Or.inl ⟨by rfl, fun W1 hW1 => by have c := (HS.out.1.call hW1).cellv (i := 1) (v := .int .i64 fr) rfl; go_simp⟩) (Ys.cons rfl (Or.inl ⟨by rfl, fun W1 hW1 => by first | rfl | (go_simp; done) | (go_simp; with_reducible rfl)⟩) (Ys.cons rfl (Or.inl ⟨by rfl, fun W1 hW1 => by first | rfl | (go_simp; done) | (go_simp; with_reducible rfl)⟩) (Ys.nil)))))) (S0) (by rfl) (by rfl) ?_
  refine anyG_takes (is := [11, 12]) (vs := [_, .int .i64 room]) (m := 4) (listed2 := #[true, true, true, true, false, true, true, true, true, true, true, true, true, false, false, false]) (a2 := ⟨#[_, _, _, _, _, _, _, _, _, _, _, _, _, _, _, _, _, _, _, _], _⟩) (by kernel_rfl) (fun j hj => by simp at hj) (by kernel_rfl) (fun _ _ _ _ _ h => h) (Ys.cons rfl (Or.inl ⟨by rfl, fun W1 hW1 => by first | rfl | (go_simp; done) | (go_simp; with_reducible rfl)⟩) (Ys.cons rfl (Or.inl ⟨by rfl, fun W1 hW1 => by have c := (HS.out.1.call hW1).cellv (i := 2) (v := .int .i64 room) rfl; go_simp⟩) (Ys.nil))) (S0) (by rfl) (by rfl) ?_
  refine anyG_one (k := 4) (by kernel_rfl) rfl (by rfl) (fun Q2 hQ2 => ?_); go_wp2_with (go_at_call 132; refine (slices_CloneA A n c ph _ (slice_keep HSl.out S0) hn2).mono ?_; rintro e v3 ⟨A3, n3, c3, rfl, ho3, hb3⟩); refine hQ2 _ _ (fun _ => S0.trans (hb3.mono S0.size)) ?_; clear hQ2 Q2
  have S3 := S0.trans (hb3.mono S0.size)
  refine anyG_takes (is := [13]) (vs := [_]) (m := 2) (listed2 := #[true, true, true, true, true, true, true, true, true, true, true, true, true, true, false, false]) (a2 := ⟨#[_, _, _, _, _, _, _, _, _, _, _, _, _, _, _, _, _, _, _, _], _⟩) (by kernel_rfl) (fun j hj => by simp at hj) (by kernel_rfl) (fun _ _ _ _ _ h => h) (Ys.cons rfl (Or.inl ⟨by rfl, fun W1 hW1 => by first | rfl | (go_simp; done) | (go_simp; with_reducible rfl)⟩) (Ys.nil)) (S3) (by rfl) (by rfl) ?_
  refine anyG_one (k := 14) (by kernel_rfl) rfl (by rfl) (fun Q2 hQ2 => ?_)
  have nG := new_at (S := S3) (#[.slice A3 n3 c3, .int .i64 fr, .int .i64 room]) 163
  obtain ⟨G, hG, bG, lG⟩ := nG
  go_wp2_with fail
  refine hQ2 _ _ (fun _ => S3.alloc S3.size _) ?_
  clear hQ2 Q2
  (try simp only [hG])
  clear hG
  have SG := S3.alloc S3.size (.cells (#[.slice A3 n3 c3, .int .i64 fr, .int .i64 room]) 163)
  refine anyG_takes (is := [15]) (vs := [_]) (m := 0) (listed2 := #[true, true, true, true, true, true, true, true, true, true, true, true, true, true, true, true]) (a2 := ⟨#[_, _, _, _, _, _, _, _, _, _, _, _, _, _, _, _, _, _, _, _], _⟩) (by kernel_rfl) (fun j hj => by simp at hj) (by kernel_rfl) (fun _ _ _ _ _ h => h) (Ys.cons rfl (Or.inl ⟨by rfl, fun W1 hW1 => by first | rfl | (go_simp; done) | (go_simp; with_reducible rfl)⟩) (Ys.nil)) (SG) (by rfl) (by rfl) ?_
  refine anyG_done (by kernel_rfl) ?_ _
  have HO := Lib.hid (ho3.alloc (.cells #[.slice A3 n3 c3, .int .i64 fr, .int .i64 room] 163))
  have HG := Lib.hid bG
  have HE := Lib.hid SG
  have HL := Lib.hid lG
  clear ho3 hb3
  go_wp2
  go_ret
  have e0 : w0 = w := HW.out
  subst e0
  exact ⟨G, _, rfl, ⟨HG.out, HO.out.mono (Nat.zero_le _), HO.out.ne_blk HG.out (by decide), HRI.out⟩, fun k hk => by
    rcases hk with rfl | hk
    · exact HL.out
    · exact HO.out.from_ k hk, HE.out⟩
theorem history_Clone_nil (w : World) : Calls Try.prog 118 #[.pointer none] w fun e w' => e = .returned (.pointer none) ∧ w = w' := by
  go_enter Try.func118, Try.ntmps118
  go_wp2
  go_ret
  exact ⟨rfl, rfl⟩
def CloneH (w : World) (xs : List Adv) (room : Int) (e : Ending) (w' : World) : Prop := ∃ p F, e = .returned (.pointer p) ∧ HistAt w' p F xs room ∧ (∀ k, F k → w.heap.size ≤ k) ∧ Below w.heap.size w w'
theorem hist_Clone (p : Option Addr) (F : Nat → Prop) (xs : List Adv) (room : Int) (w : World) (h : HistAt w p F xs room) :
    Calls Try.prog 118 #[.pointer p] w (CloneH w xs room) := by
  rcases h.1 with ⟨rfl, rfl, hr⟩ | ⟨hh, g, v, ph, fr, rm, rfl, rfl, e2, e3, e4, e5, e6, e7, e8, e9, rfl⟩
  · refine (history_Clone_nil w).mono ?_
    rintro e w' ⟨rfl, rfl⟩
    exact ⟨none, fun _ => False, rfl, ⟨.inl ⟨rfl, rfl, hr⟩, fun _ hk => hk.elim⟩, fun _ hk => hk.elim, Below.refl _ _⟩
  · have c0 := e4.cellv (i := 0) rfl
    have HC := Lib.hid (ring_Clone g v ph fr rm w e5 (by have := e5.2.2.2.1; omega))
    have HE := Lib.hid (And.intro e2 e3)
    clear h e2 e3 e4 e5 e6 e7 e8 e9
    go_enter Try.func118, Try.ntmps118
    go_wp2_with (go_at_call 129; refine HC.out.mono ?_; rintro e w1 ⟨g1, v1, rfl, k1, k2, k3⟩; have K1 := Lib.hid k1; have K2 := Lib.hid k2; have K3 := Lib.hid k3; clear k1 k2 k3)
    go_ret
    have hB := Blk.new w1 137 #[.pointer (some ⟨g1, 0, none⟩)]
    have hl := K1.out.lt
    refine ⟨_, fun k => k = w1.heap.size ∨ foot g1 v1 k, rfl, ⟨.inr ⟨w1.heap.size, g1, v1, ph, fr, rm, rfl, rfl, HE.out.1, HE.out.2, hB, K1.out.call (by go_grown), .inl rfl, ?_, ?_, fun k hk => .inr hk, rfl⟩, ?_⟩, ?_, K3.out.trans ((Below.refl _ w1).alloc (Nat.le_refl _) _ |>.mono K3.out.size)⟩
    · intro hx; have := hl g1 (.inl rfl); omega
    · intro hx; have := hl _ (.inr hx); omega
    · rintro k (rfl | hk)
      · simp
      · have := hl k hk; simp; omega
    · rintro k (rfl | hk)
      · exact K3.out.size
      · exact K2.out k hk
end Go.Proofs.Ytfeccjjheiillaa
/- Package node: what a node is; what it tells. (fast region) -/
namespace Go.Proofs.Ytfeccjjheiillaa
open Go.RowKit
set_option linter.unusedSimpArgs false
set_option linter.unusedVariables false
set_option maxHeartbeats 4000000
set_option maxRecDepth 100000
abbrev ndT : TypeId := 109
abbrev nrow (x : Ld) (ps ph : Value) (fr : Bool) : Array Value := #[.int .i64 x.pol.min, .int .i64 x.pol.max, .int .i64 x.pol.target, .int .i64 x.pol.tol, .int .i64 x.pol.window, .int .i64 x.pol.hold, .bool x.ruled, .int .i64 x.ver, ps, ph, .bool fr]
/-- p is a node that has x, in the blocks F. -/
def NodeAt (w : World) (p : Option Addr) (F : Nat → Prop) (c : Cfg) (x : Ld) (fr : Bool) : Prop :=
  ∃ (g gs : Nat) (ph : Option Addr) (FS FH : Nat → Prop), p = some ⟨g, 0, none⟩ ∧ Blk w g ndT (nrow x (.pointer (some ⟨gs, 0, none⟩)) (.pointer ph) fr) ∧ SerV w (some ⟨gs, 0, none⟩) FS x.smps c.smp ∧ HistAt w ph FH x.past c.his ∧ (∀ k, FS k → F k ∧ ¬ FH k ∧ k ≠ g) ∧ (∀ k, FH k → F k ∧ k ≠ g) ∧ F g ∧ ∀ k, F k → k < w.heap.size
section
variable {S F : Nat → Prop} {w w' : World} {p : Option Addr} {c : Cfg} {x : Ld} {fr : Bool}
theorem NodeAt.upd (h : NodeAt w p F c x fr) (hu : Upd S w w') (hn : ∀ k, F k → ¬ S k) : NodeAt w' p F c x fr := by
  obtain ⟨g, gs, ph, FS, FH, e1, e2, e3, e4, e5, e6, e7, e8⟩ := h
  exact ⟨g, gs, ph, FS, FH, e1, e2.upd hu (hn g e7), e3.upd hu (fun k hk => hn k (e5 k hk).1), e4.upd hu (fun k hk => hn k (e6 k hk).1), e5, e6, e7, fun k hk => Nat.lt_of_lt_of_le (e8 k hk) hu.size⟩
theorem NodeAt.call (h : NodeAt w p F c x fr) (hb : Below w.heap.size w w') : NodeAt w' p F c x fr :=
  h.upd (S := fun _ => False) (Upd.of_below hb) (fun _ _ hk => hk)
theorem NodeAt.lt (h : NodeAt w p F c x fr) : ∀ k, F k → k < w.heap.size := by
  obtain ⟨g, gs, ph, FS, FH, e1, e2, e3, e4, e5, e6, e7, e8⟩ := h; exact e8
/-- The cells of a node's own block. -/
theorem NodeAt.blk (h : NodeAt w p F c x fr) : ∃ g gs ph, p = some ⟨g, 0, none⟩ ∧ Blk w g ndT (nrow x (.pointer (some ⟨gs, 0, none⟩)) (.pointer ph) fr) ∧ (∃ FS, SerV w (some ⟨gs, 0, none⟩) FS x.smps c.smp) ∧ (∃ FH, HistAt w ph FH x.past c.his) := by
  obtain ⟨g, gs, ph, FS, FH, e1, e2, e3, e4, e5, e6, e7, e8⟩ := h
  exact ⟨g, gs, ph, e1, e2, ⟨FS, e3⟩, ⟨FH, e4⟩⟩
end
theorem node_made_nil (w : World) : Calls Try.prog 76 #[.pointer none] w fun e w' => e = .returned (.bool false) ∧ w = w' := by
  go_enter Try.func76, Try.ntmps76
  go_wp2
  go_ret
  exact ⟨rfl, rfl⟩
theorem node_made (p : Option Addr) (F : Nat → Prop) (c : Cfg) (x : Ld) (fr : Bool) (w : World) (h : NodeAt w p F c x fr) : Calls Try.prog 76 #[.pointer p] w fun e w' => e = .returned (.bool true) ∧ w = w' := by
  obtain ⟨g, gs, ph, rfl, hb, -, -⟩ := h.blk
  have c8 := hb.cellv (i := 8) (v := .pointer (some ⟨gs, 0, none⟩)) rfl
  clear h hb
  go_enter Try.func76, Try.ntmps76
  go_wp2
  go_ret
  exact ⟨rfl, rfl⟩
theorem node_Frozen_nil (w : World) : Calls Try.prog 35 #[.pointer none] w fun e w' => e = .returned (.bool false) ∧ w = w' := by
  go_enter Try.func35, Try.ntmps35
  go_wp2_with (go_at_call 76; refine (node_made_nil _).mono ?_; rintro e w1 ⟨rfl, rfl⟩)
  go_ret
  exact ⟨rfl, rfl⟩
theorem node_Frozen (p : Option Addr) (F : Nat → Prop) (c : Cfg) (x : Ld) (fr : Bool) (w : World) (h : NodeAt w p F c x fr) : Calls Try.prog 35 #[.pointer p] w fun e w' => e = .returned (.bool fr) ∧ w = w' := by
  have HM := Lib.hid (node_made p F c x fr w h)
  obtain ⟨g, gs, ph, rfl, hb, -, -⟩ := h.blk
  have c8 := hb.cellv (i := 10) (v := .bool fr) rfl
  clear h hb
  go_enter Try.func35, Try.ntmps35
  go_wp2_with (go_at_call 76; refine HM.out.mono ?_; rintro e w1 ⟨rfl, rfl⟩)
  go_ret
  exact ⟨rfl, rfl⟩
theorem node_Version_nil (w : World) : Calls Try.prog 64 #[.pointer none] w fun e w' => e = .returned (.int .i64 0) ∧ w = w' := by
  go_enter Try.func64, Try.ntmps64
  go_wp2_with (go_at_call 76; refine (node_made_nil _).mono ?_; rintro e w1 ⟨rfl, rfl⟩)
  go_ret
  exact ⟨rfl, rfl⟩
theorem node_Version (p : Option Addr) (F : Nat → Prop) (c : Cfg) (x : Ld) (fr : Bool) (w : World) (h : NodeAt w p F c x fr) : Calls Try.prog 64 #[.pointer p] w fun e w' => e = .returned (.int .i64 x.ver) ∧ w = w' := by
  have HM := Lib.hid (node_made p F c x fr w h)
  obtain ⟨g, gs, ph, rfl, hb, -, -⟩ := h.blk
  have c8 := hb.cellv (i := 7) (v := .int .i64 x.ver) rfl
  clear h hb
  go_enter Try.func64, Try.ntmps64
  go_wp2_with (go_at_call 76; refine HM.out.mono ?_; rintro e w1 ⟨rfl, rfl⟩)
  go_ret
  exact ⟨rfl, rfl⟩
theorem node_Samples_nil (w : World) : Calls Try.prog 65 #[.pointer none] w fun e w' => e = .returned (.slice none 0 0) ∧ w = w' := by
  go_enter Try.func65, Try.ntmps65
  go_wp2_with (go_at_call 76; refine (node_made_nil _).mono ?_; rintro e w1 ⟨rfl, rfl⟩)
  go_ret
  exact ⟨rfl, rfl⟩
theorem node_Samples (p : Option Addr) (F : Nat → Prop) (c : Cfg) (x : Ld) (fr : Bool) (w : World) (h : NodeAt w p F c x fr) : Calls Try.prog 65 #[.pointer p] w (CloneS w x.smps) := by
  have HM := Lib.hid (node_made p F c x fr w h)
  obtain ⟨g, gs, ph, rfl, hb, ⟨FS, hs⟩, -⟩ := h.blk
  have c8 := hb.cellv (i := 8) (v := .pointer (some ⟨gs, 0, none⟩)) rfl
  have HL := Lib.hid (serv_List _ FS x.smps c.smp w hs)
  clear h hb hs
  go_enter Try.func65, Try.ntmps65
  go_wp2_with (first | (go_at_call 76; refine HM.out.mono ?_; rintro e w1 ⟨rfl, rfl⟩) | (go_at_call 20; refine HL.out.mono ?_; rintro e w2 ⟨A2, n2, c2, rfl, ho2, hb2⟩; have O2 := Lib.hid ho2; have B2 := Lib.hid hb2; clear ho2 hb2))
  go_ret
  exact ⟨_, _, _, rfl, O2.out, B2.out⟩
theorem node_Past_nil (w : World) : Calls Try.prog 75 #[.pointer none] w fun e w' => e = .returned (.slice none 0 0) ∧ w = w' := by
  go_enter Try.func75, Try.ntmps75
  go_wp2_with (go_at_call 76; refine (node_made_nil _).mono ?_; rintro e w1 ⟨rfl, rfl⟩)
  go_ret
  exact ⟨rfl, rfl⟩
theorem node_Past (p : Option Addr) (F : Nat → Prop) (c : Cfg) (x : Ld) (fr : Bool) (w : World) (h : NodeAt w p F c x fr) : Calls Try.prog 75 #[.pointer p] w (CloneA w x.past) := by
  have HM := Lib.hid (node_made p F c x fr w h)
  obtain ⟨g, gs, ph, rfl, hb, -, ⟨FH, hs⟩⟩ := h.blk
  have c8 := hb.cellv (i := 9) (v := .pointer ph) rfl
  have HL := Lib.hid (history_List _ FH x.past c.his w hs)
  clear h hb hs
  go_enter Try.func75, Try.ntmps75
  go_wp2_with (first | (go_at_call 76; refine HM.out.mono ?_; rintro e w1 ⟨rfl, rfl⟩) | (go_at_call 101; refine HL.out.mono ?_; rintro e w2 ⟨v2, rfl, ho2, hb2⟩; obtain ⟨A2, n2, c2, rfl, -, -⟩ := ho2.shape adv_len; have O2 := Lib.hid ho2; have B2 := Lib.hid hb2; clear ho2 hb2))
  go_ret
  exact ⟨_, _, _, rfl, O2.out, B2.out⟩
theorem node_Policy_nil (w : World) : Calls Try.prog 73 #[.pointer none] w fun e w' => e = .returned (.tuple #[.agg #[.int .i64 0, .int .i64 0, .int .i64 0, .int .i64 0, .int .i64 0, .int .i64 0], .bool false]) ∧ Below w.heap.size w w' := by
  go_enter Try.func73, Try.ntmps73
  go_wp2_with (go_at_call 76; refine (node_made_nil _).mono ?_; rintro e w1 ⟨rfl, rfl⟩)
  go_returns
  exact ⟨rfl, by go_grown⟩
theorem node_Policy (p : Option Addr) (F : Nat → Prop) (c : Cfg) (x : Ld) (fr : Bool) (w : World) (h : NodeAt w p F c x fr) :
    Calls Try.prog 73 #[.pointer p] w fun e w' => e = .returned (.tuple #[.agg x.pol.row, .bool x.ruled]) ∧ Below w.heap.size w w' := by
  have B0 := Lib.hid (show Below w.heap.size w (w.alloc (.cells #[.int .i64 0, .int .i64 0, .int .i64 0, .int .i64 0, .int .i64 0, .int .i64 0] 62)) by go_grown)
  have HM := Lib.hid (node_made p F c x fr _ (h.call B0.out))
  obtain ⟨g, gs, ph, rfl, hb, -, -⟩ := h.blk
  have HB := Lib.hid (hb.call B0.out)
  have HGl := Lib.hid (show ¬ (fun k => k = w.heap.size) g from by have := hb.lt; show ¬ g = w.heap.size; omega)
  have HR := Lib.hid (Blk.new w 62 #[.int .i64 0, .int .i64 0, .int .i64 0, .int .i64 0, .int .i64 0, .int .i64 0])
  clear h hb
  go_enter Try.func73, Try.ntmps73
  focus (go_upto_region 3 with (go_at_call 76; refine HM.out.mono ?_; rintro e w1 ⟨rfl, rfl⟩))
  clear HM
  obtain ⟨w0, hw0⟩ : ∃ w0, w0 = w.alloc (.cells #[.int .i64 0, .int .i64 0, .int .i64 0, .int .i64 0, .int .i64 0, .int .i64 0] 62) := ⟨_, rfl⟩
  rw [← hw0] at HB HR B0 ⊢
  clear hw0
  refine wp_region_any (by kernel_rfl) ?_; change wpAny _ _ _ _ _ _ _ (World.drew w0); refine any_of_anyG (late := fun _ => false) (S := fun wS => Upd (fun k => k = w.heap.size) w0 wS) _ _ _ _ ?_
  have S0 := (Upd.refl (fun k => k = w.heap.size) w0).drew
  refine anyG_takes (is := [0, 1, 2, 3, 4]) (vs := [_, _, _, _, .agg x.pol.row]) (m := 7) (listed2 := #[true, true, true, true, true, false, false, false, false, false, false, false]) (a2 := ⟨#[_, _, _, _, _, _, _, _, _, _, _, _, _, _, _, _, _, _], _⟩) (by kernel_rfl) (fun j hj => by simp at hj) (by kernel_rfl) (fun _ _ _ _ _ h => h) (Ys.cons rfl (Or.inl ⟨by rfl, fun W1 hW1 => by first | rfl | (go_simp; done) | (go_simp; with_reducible rfl)⟩) (Ys.cons rfl (Or.inl ⟨by rfl, fun W1 hW1 => by first | rfl | (go_simp; done) | (go_simp; with_reducible rfl)⟩) (Ys.cons rfl (Or.inl ⟨by rfl, fun W1 hW1 => by first | rfl | (go_simp; done) | (go_simp; with_reducible rfl)⟩) (Ys.cons rfl (Or.inl ⟨by rfl, fun W1 hW1 => by first | rfl | (go_simp; done) | (go_simp; with_reducible rfl)⟩) (Ys.cons rfl (Or.inl ⟨by rfl, fun W1 hW1 => by have c0 := (HB.out.upd hW1 HGl.out).cellv (i := 0) (v := .int .i64 x.pol.min) rfl; have c1 := (HB.out.upd hW1 HGl.out).cellv (i := 1) (v := .int .i64 x.pol.max) rfl; have c2 := (HB.out.upd hW1 HGl.out).cellv (i := 2) (v := .int .i64 x.pol.target) rfl; have c3 := (HB.out.upd hW1 HGl.out).cellv (i := 3) (v := .int .i64 x.pol.tol) rfl; have c4 := (HB.out.upd hW1 HGl.out).cellv (i := 4) (v := .int .i64 x.pol.window) rfl; have c5 := (HB.out.upd hW1 HGl.out).cellv (i := 5) (v := .int .i64 x.pol.hold) rfl; go_simp⟩) (Ys.nil)))))) (S0) (by rfl) (by rfl) ?_
  refine anyG_takes (is := [5, 6, 7, 8, 9]) (vs := [_, _, _, _, .bool x.ruled]) (m := 2) (listed2 := #[true, true, true, true, true, true, true, true, true, true, false, false]) (a2 := ⟨#[_, _, _, _, _, _, _, _, _, _, _, _, _, _, _, _, _, _], _⟩) (by kernel_rfl) (fun j hj => by simp at hj) (by kernel_rfl) (fun _ _ _ _ _ h => h) (Ys.cons rfl (Or.inl ⟨by rfl, fun W1 hW1 => by first | rfl | (go_simp; done) | (go_simp; with_reducible rfl)⟩) (Ys.cons rfl (Or.inl ⟨by rfl, fun W1 hW1 => by first | rfl | (go_simp; done) | (go_simp; with_reducible rfl)⟩) (Ys.cons rfl (Or.inl ⟨by rfl, fun W1 hW1 => by first | rfl | (go_simp; done) | (go_simp; with_reducible rfl)⟩) (Ys.cons rfl (Or.inl ⟨by rfl, fun W1 hW1 => by first | rfl | (go_simp; done) | (go_simp; with_reducible rfl)⟩) (Ys.cons rfl (Or.inl ⟨by rfl, fun W1 hW1 => by have c6 := (HB.out.upd hW1 HGl.out).cellv (i := 6) (v := .bool x.ruled) rfl; go_simp⟩) (Ys.nil)))))) (S0) (by rfl) (by rfl) ?_
  refine anyG_one (k := 10) (by kernel_rfl) rfl (by rfl) (fun Q2 hQ2 => ?_); go_wp2_with (refine wpList_store_row rfl 62 (.tmp 2) (.tmp 12) rfl w.heap.size _ _ _ rfl rfl HR.out (by rfl) (by kernel_rfl) (by simp [Value.oneCell']) ?_; intro w9 hb9 hg9); refine hQ2 _ _ (fun _ => (S0).grown hg9 (fun k e => by injection e with e; exact .inl e.symm)) ?_; clear hQ2 Q2
  have S9 := (S0).grown hg9 (fun k e => by injection e with e; exact .inl e.symm)
  refine anyG_takes (is := [11]) (vs := [.bool x.ruled]) (m := 0) (listed2 := #[true, true, true, true, true, true, true, true, true, true, true, true]) (a2 := ⟨#[_, _, _, _, _, _, _, _, _, _, _, _, _, _, _, _, _, _], _⟩) (by kernel_rfl) (fun j hj => by simp at hj) (by kernel_rfl) (fun _ _ _ _ _ h => h) (Ys.cons rfl (Or.inl ⟨by rfl, fun W1 hW1 => by rfl⟩) (Ys.nil)) (S9) (by rfl) (by rfl) ?_
  refine anyG_done (by kernel_rfl) ?_ _
  go_wp2
  refine bodyPost_ret (results_row_tmp rfl _ _ w.heap.size _ _ _ rfl hb9 Try.underlying62 rfl (by kernel_rfl)) rfl ?_
  exact ⟨rfl, B0.out.trans (Upd.below (S9) (fun k hk => by omega) B0.out.size)⟩
end Go.Proofs.Ytfeccjjheiillaa
/- Package node: Right, New, own, Put, Trim, Set, Note, Freeze. (fast region) -/
namespace Go.Proofs.Ytfeccjjheiillaa
open Go.RowKit
set_option linter.unusedSimpArgs false
set_option linter.unusedVariables false
set_option maxHeartbeats 4000000
set_option maxRecDepth 100000
theorem node_Right (c : Cfg) (w : World) (hc : c.fit) :
    Calls Try.prog 31 #[.agg c.row] w fun e w' => e = .returned (.int .i64 (cfgErr c)) ∧ Below w.heap.size w w' := by
  cases hr : rightq c.str
  · have HE := Lib.hid (show cfgErr c = 1 from if_neg (by unfold Cfg.okC; rw [hr]; simp))
    have HC := Lib.hid (fun W => route_Right c.str W hc.1)
    rw [hr] at HC
    clear hr
    go_enter Try.func31, Try.ntmps31
    go_wp2_with (go_at_call 43; refine (HC.out _).mono ?_; rintro e w1 ⟨rfl, rfl⟩)
    go_ret
    exact ⟨ret_int HE.out.symm, by go_grown⟩
  · have HC := Lib.hid (fun W => route_Right c.str W hc.1)
    rw [hr] at HC
    have HE1 := Lib.hid (fun (h : c.smp < 1 ∨ 256 < c.smp ∨ c.lod < 1 ∨ 256 < c.lod ∨ c.his < 1 ∨ 64 < c.his) => (show cfgErr c = 1 from if_neg (by unfold Cfg.okC; omega)))
    have HE0 := Lib.hid (fun (h : 1 ≤ c.smp ∧ c.smp ≤ 256 ∧ 1 ≤ c.lod ∧ c.lod ≤ 256 ∧ 1 ≤ c.his ∧ c.his ≤ 64) => (show cfgErr c = 0 from if_pos ⟨hr, h⟩))
    clear hr
    go_enter Try.func31, Try.ntmps31
    go_wp2_with (go_at_call 43; refine (HC.out _).mono ?_; rintro e w1 ⟨rfl, rfl⟩)
    all_goals
      go_ret
      refine ⟨ret_int ?_, by go_grown⟩
      first
        | exact (HE1.out (by omega)).symm
        | exact (HE0.out (by omega)).symm
/-- A step of a node into other, own, blocks. -/
def NStep (F : Nat → Prop) (fr : Bool) (w w' : World) (F' : Nat → Prop) : Prop := Upd F w w' ∧ (∀ k, F' k → F k ∨ w.heap.size ≤ k) ∧ (fr = true → Below w.heap.size w w' ∧ ∀ k, F' k → w.heap.size ≤ k)
theorem NStep.then {F F1 F2 : Nat → Prop} {fr : Bool} {w w1 w2 : World} (h : NStep F fr w w1 F1) (hu : Upd F1 w1 w2) (hF : ∀ k, F2 k → F1 k ∨ w1.heap.size ≤ k) : NStep F fr w w2 F2 := by
  refine ⟨h.1.trans hu h.2.1, fun k hk => (hF k hk).elim (h.2.1 k) (fun hk => .inr (Nat.le_trans h.1.size hk)), fun e => ?_⟩
  obtain ⟨h1, h2⟩ := h.2.2 e
  exact ⟨h1.trans (hu.below h2 h1.size), fun k hk => (hF k hk).elim (h2 k) (fun hk => Nat.le_trans h.1.size hk)⟩
theorem NStep.pre {F F1 : Nat → Prop} {fr : Bool} {w0 w w1 : World} (h : NStep F fr w w1 F1) (hb : Below w0.heap.size w0 w) : NStep F fr w0 w1 F1 :=
  ⟨(Upd.of_below hb).trans h.1 (fun k hk => .inl hk), fun k hk => (h.2.1 k hk).imp id (fun h => Nat.le_trans hb.size h), fun e => ⟨hb.trans ((h.2.2 e).1.mono hb.size), fun k hk => Nat.le_trans hb.size ((h.2.2 e).2 k hk)⟩⟩
section
variable {F : Nat → Prop} {w : World} {p : Option Addr} {c : Cfg} {x : Ld} {fr : Bool}
theorem NodeAt.ser (h : NodeAt w p F c x fr) : ∃ g gs ph FS, p = some ⟨g, 0, none⟩ ∧ Blk w g ndT (nrow x (.pointer (some ⟨gs, 0, none⟩)) (.pointer ph) fr) ∧ SerV w (some ⟨gs, 0, none⟩) FS x.smps c.smp ∧
    ∀ ys w' F', SerV w' (some ⟨gs, 0, none⟩) F' ys c.smp → Upd FS w w' → (∀ k, F' k → FS k ∨ w.heap.size ≤ k) → ∃ F2, NodeAt w' (some ⟨g, 0, none⟩) F2 c ⟨ys, x.past, x.pol, x.ruled, x.ver⟩ fr ∧ Upd F w w' ∧ ∀ k, F2 k → F k ∨ w.heap.size ≤ k := by
  obtain ⟨g, gs, ph, FS, FH, e1, e2, e3, e4, e5, e6, e7, e8⟩ := h
  refine ⟨g, gs, ph, FS, e1, e2, e3, fun ys w' F' k1 k2 k3 => ⟨fun k => F k ∨ F' k, ⟨g, gs, ph, F', FH, rfl, e2.upd k2 (fun hk => (e5 g hk).2.2 rfl), k1, e4.upd k2 (fun k hk hs => (e5 k hs).2.1 hk), fun k hk => ⟨.inr hk, ?_, ?_⟩, fun k hk => ⟨.inl (e6 k hk).1, (e6 k hk).2⟩, .inl e7, ?_⟩, k2.mono (fun k hk => (e5 k hk).1), ?_⟩⟩
  · intro hh
    rcases k3 k hk with hk | hk
    · exact (e5 k hk).2.1 hh
    · have := e4.2 k hh; omega
  · rcases k3 k hk with hk | hk
    · exact (e5 k hk).2.2
    · have := e2.lt; omega
  · rintro k (hk | hk)
    · exact Nat.lt_of_lt_of_le (e8 k hk) k2.size
    · exact k1.2 k hk
  · rintro k (hk | hk)
    · exact .inl hk
    · exact (k3 k hk).imp (fun h => (e5 k h).1) id
theorem NodeAt.his (h : NodeAt w p F c x fr) : ∃ g gs ph FH, p = some ⟨g, 0, none⟩ ∧ Blk w g ndT (nrow x (.pointer (some ⟨gs, 0, none⟩)) (.pointer ph) fr) ∧ HistAt w ph FH x.past c.his ∧ FH ≠ (fun k => k = g) ∧ (∀ k, FH k → k ≠ g) ∧
    ∀ ys w' F', HistAt w' ph F' ys c.his → Upd FH w w' → (∀ k, F' k → FH k ∨ w.heap.size ≤ k) → ∃ F2, NodeAt w' (some ⟨g, 0, none⟩) F2 c ⟨x.smps, ys, x.pol, x.ruled, x.ver⟩ fr ∧ Upd F w w' ∧ ∀ k, F2 k → F k ∨ w.heap.size ≤ k := by
  obtain ⟨g, gs, ph, FS, FH, e1, e2, e3, e4, e5, e6, e7, e8⟩ := h
  refine ⟨g, gs, ph, FH, e1, e2, e4, fun e => (e6 g (by rw [e])).2 rfl, fun k hk => (e6 k hk).2, fun ys w' F' k1 k2 k3 => ⟨fun k => F k ∨ F' k, ⟨g, gs, ph, FS, F', rfl, e2.upd k2 (fun hk => (e6 g hk).2 rfl), e3.upd k2 (fun k hk hs => (e5 k hk).2.1 hs), k1, fun k hk => ⟨.inl (e5 k hk).1, ?_, (e5 k hk).2.2⟩, fun k hk => ⟨.inr hk, ?_⟩, .inl e7, ?_⟩, k2.mono (fun k hk => (e6 k hk).1), ?_⟩⟩
  · intro hh
    rcases k3 k hh with hh | hh
    · exact (e5 k hk).2.1 hh
    · have := e3.2 k hk; omega
  · rcases k3 k hk with hk | hk
    · exact (e6 k hk).2
    · have := e2.lt; omega
  · rintro k (hk | hk)
    · exact Nat.lt_of_lt_of_le (e8 k hk) k2.size
    · exact k1.2 k hk
  · rintro k (hk | hk)
    · exact .inl hk
    · exact (k3 k hk).imp (fun h => (e6 k h).1) id
/-- The own row written over. -/
theorem NodeAt.row (h : NodeAt w p F c x fr) : ∃ g gs ph, p = some ⟨g, 0, none⟩ ∧ Blk w g ndT (nrow x (.pointer (some ⟨gs, 0, none⟩)) (.pointer ph) fr) ∧ F g ∧ ∀ y fr' w', Blk w' g ndT (nrow y (.pointer (some ⟨gs, 0, none⟩)) (.pointer ph) fr') → Upd (fun k => k = g) w w' → y.smps = x.smps → y.past = x.past → NodeAt w' (some ⟨g, 0, none⟩) F c y fr' ∧ Upd F w w' := by
  obtain ⟨g, gs, ph, FS, FH, e1, e2, e3, e4, e5, e6, e7, e8⟩ := h
  refine ⟨g, gs, ph, e1, e2, e7, fun y fr' w' hb hu hs hp => ⟨⟨g, gs, ph, FS, FH, rfl, hb, ?_, ?_, e5, e6, e7, fun k hk => Nat.lt_of_lt_of_le (e8 k hk) hu.size⟩, hu.mono (fun k hk => by rw [hk]; exact e7)⟩⟩
  · rw [hs]; exact e3.upd hu (fun k hk => (e5 k hk).2.2)
  · rw [hp]; exact e4.upd hu (fun k hk => (e6 k hk).2)
end
theorem NodeAt.mk0 {W : World} {g : Nat} {ps ph : Option Addr} {FS FH : Nat → Prop} {c : Cfg} {x : Ld} {fr : Bool} (hb : Blk W g ndT (nrow x (.pointer ps) (.pointer ph) fr)) (hs : SerV W ps FS x.smps c.smp) (hok : goodS c.smp) (hh : HistAt W ph FH x.past c.his) (d : ∀ k, FS k → ¬ FH k) (h1 : ∀ k, FS k → k ≠ g) (h2 : ∀ k, FH k → k ≠ g) : NodeAt W (some ⟨g, 0, none⟩) (fun k => FS k ∨ FH k ∨ k = g) c x fr := by
  have e : ∃ gs, ps = some ⟨gs, 0, none⟩ := by
    rcases hs.1 with ⟨-, -, hr⟩ | ⟨g, v, rm, rfl, rest⟩
    · exact absurd hok hr
    · exact ⟨g, rfl⟩
  obtain ⟨gs, rfl⟩ := e
  refine ⟨g, gs, ph, FS, FH, rfl, hb, hs, hh, fun k hk => ⟨.inl hk, d k hk, h1 k hk⟩, fun k hk => ⟨.inr (.inl hk), h2 k hk⟩, .inr (.inr rfl), ?_⟩
  rintro k (hk | hk | rfl)
  · exact hs.2 k hk
  · exact hh.2 k hk
  · exact hb.lt
def OwnP (p : Option Addr) (F : Nat → Prop) (c : Cfg) (x : Ld) (fr : Bool) (w : World) (e : Ending) (w' : World) : Prop := ∃ p1 F1, e = .returned (.pointer p1) ∧ NodeAt w' p1 F1 c (bump x) false ∧ NStep F fr w w' F1
theorem node_own_no (p : Option Addr) (F : Nat → Prop) (c : Cfg) (x : Ld) (w : World) (h : NodeAt w p F c x false) (hv : 0 ≤ x.ver ∧ x.ver ≤ 1000) :
    Calls Try.prog 96 #[.pointer p] w (OwnP p F c x false w) := by
  obtain ⟨g, gs, ph, rfl, hb, hF, hr⟩ := h.row
  have c10 := hb.cellv (i := 10) (v := .bool false) rfl
  have c7 := hb.cellv (i := 7) (v := .int .i64 x.ver) rfl
  have f7 := hb.frozen 7
  have HR := Lib.hid hr
  have HB := Lib.hid hb
  have v0 := hv.1
  have v1 := hv.2
  clear h hb hr hv hF
  go_enter Try.func96, Try.ntmps96
  go_wp2
  go_ret
  obtain ⟨k1, k2⟩ := HR.out (bump x) false _ (show Blk (w.setCell ⟨g, 7, none⟩ (.int .i64 (x.ver + 1))) g ndT (nrow (bump x) (.pointer (some ⟨gs, 0, none⟩)) (.pointer ph) false) from HB.out.set_ 7 _) ((Upd.refl (fun k => k = g) w).setCell (p := ⟨g, 7, none⟩) (.inl rfl) _) rfl rfl
  exact ⟨_, F, rfl, k1, k2, fun k hk => .inl hk, fun e => by cases e⟩
theorem node_own_yes (p : Option Addr) (F : Nat → Prop) (c : Cfg) (x : Ld) (w : World) (h : NodeAt w p F c x true) (hv : 0 ≤ x.ver ∧ x.ver ≤ 1000) :
    Calls Try.prog 96 #[.pointer p] w (OwnP p F c x true w) := by
  obtain ⟨g, gs, ph, FS, FH, rfl, e2, e3, e4, e5, e6, e7, e8⟩ := h
  have HB := Lib.hid e2
  have HS := Lib.hid e3
  have HH := Lib.hid e4
  have c10 := e2.cellv (i := 10) (v := .bool true) rfl
  have v0 := hv.1
  have v1 := hv.2
  have HGd := Lib.hid (show goodS c.smp from by
    rcases e3.1 with ⟨h, -, -⟩ | ⟨g, v, rm, -, hrm, h1, h2, -⟩
    · cases h
    · unfold goodS; omega)
  clear e2 e3 e4 e5 e6 e7 e8 hv
  go_enter Try.func96, Try.ntmps96
  focus (go_upto_region 3 with (fail))
  clear c10
  obtain ⟨w0, hw0⟩ : ∃ w0, w0 = w := ⟨w, rfl⟩
  rw [← hw0] at HS HB HH ⊢
  have HW := Lib.hid hw0
  clear hw0
  refine wp_region_any (by kernel_rfl) ?_; change wpAny _ _ _ _ _ _ _ (World.drew w0); refine any_of_anyG (late := fun _ => false) (S := fun wS => Below w0.heap.size w0 wS) _ _ _ _ ?_
  have S0 := (Below.refl w0.heap.size w0).drew
  refine anyG_takes (is := [0, 1, 2, 3, 5]) (vs := [_, _, _, .pointer (some ⟨gs, 0, none⟩), _]) (m := 12) (listed2 := #[true, true, true, true, false, true, false, false, false, false, false, false, false, false, false, false, false]) (a2 := ⟨#[_, _, _, _, _, _, _, _, _, _, _, _, _, _, _, _, _, _, _, _, _, _, _, _, _, _, _, _, _, _, _, _, _, _, _], _⟩) (by kernel_rfl) (fun j hj => by simp at hj) (by kernel_rfl) (fun _ _ _ _ _ h => h) (Ys.cons rfl (Or.inl ⟨by rfl, fun W1 hW1 => by first | rfl | (go_simp; done) | (go_simp; with_reducible rfl)⟩) (Ys.cons rfl (Or.inl ⟨by rfl, fun W1 hW1 => by first | rfl | (go_simp; done) | (go_simp; with_reducible rfl)⟩) (Ys.cons rfl (Or.inl ⟨by rfl, fun W1 hW1 => by first | rfl | (go_simp; done) | (go_simp; with_reducible rfl)⟩) (Ys.cons rfl (Or.inl ⟨by rfl, fun W1 hW1 => by have c8 := (HB.out.call hW1).cellv (i := 8) (v := .pointer (some ⟨gs, 0, none⟩)) rfl; go_simp⟩) (Ys.cons rfl (Or.inl ⟨by rfl, fun W1 hW1 => by first | rfl | (go_simp; done) | (go_simp; with_reducible rfl)⟩) (Ys.nil)))))) (S0) (by rfl) (by rfl) ?_
  refine anyG_takes (is := [6, 7, 8, 10, 11]) (vs := [_, _, .pointer ph, _, _]) (m := 7) (listed2 := #[true, true, true, true, false, true, true, true, true, false, true, true, false, false, false, false, false]) (a2 := ⟨#[_, _, _, _, _, _, _, _, _, _, _, _, _, _, _, _, _, _, _, _, _, _, _, _, _, _, _, _, _, _, _, _, _, _, _], _⟩) (by kernel_rfl) (fun j hj => by simp at hj) (by kernel_rfl) (fun _ _ _ _ _ h => h) (Ys.cons rfl (Or.inl ⟨by rfl, fun W1 hW1 => by first | rfl | (go_simp; done) | (go_simp; with_reducible rfl)⟩) (Ys.cons rfl (Or.inl ⟨by rfl, fun W1 hW1 => by first | rfl | (go_simp; done) | (go_simp; with_reducible rfl)⟩) (Ys.cons rfl (Or.inl ⟨by rfl, fun W1 hW1 => by have c9 := (HB.out.call hW1).cellv (i := 9) (v := .pointer ph) rfl; go_simp⟩) (Ys.cons rfl (Or.inl ⟨by rfl, fun W1 hW1 => by first | rfl | (go_simp; done) | (go_simp; with_reducible rfl)⟩) (Ys.cons rfl (Or.inl ⟨by rfl, fun W1 hW1 => by first | rfl | (go_simp; done) | (go_simp; with_reducible rfl)⟩) (Ys.nil)))))) (S0) (by rfl) (by rfl) ?_
  refine anyG_takes (is := [12, 13]) (vs := [_, .agg #[.int .i64 x.pol.min, .int .i64 x.pol.max, .int .i64 x.pol.target, .int .i64 x.pol.tol, .int .i64 x.pol.window, .int .i64 x.pol.hold, .bool x.ruled, .int .i64 x.ver]]) (m := 5) (listed2 := #[true, true, true, true, false, true, true, true, true, false, true, true, true, true, false, false, false]) (a2 := ⟨#[_, _, _, _, _, _, _, _, _, _, _, _, _, _, _, _, _, _, _, _, _, _, _, _, _, _, _, _, _, _, _, _, _, _, _], _⟩) (by kernel_rfl) (fun j hj => by simp at hj) (by kernel_rfl) (fun _ _ _ _ _ h => h) (Ys.cons rfl (Or.inl ⟨by rfl, fun W1 hW1 => by first | rfl | (go_simp; done) | (go_simp; with_reducible rfl)⟩) (Ys.cons rfl (Or.inl ⟨by rfl, fun W1 hW1 => by have c0 := (HB.out.call hW1).cellv (i := 0) (v := .int .i64 x.pol.min) rfl; have c1 := (HB.out.call hW1).cellv (i := 1) (v := .int .i64 x.pol.max) rfl; have c2 := (HB.out.call hW1).cellv (i := 2) (v := .int .i64 x.pol.target) rfl; have c3 := (HB.out.call hW1).cellv (i := 3) (v := .int .i64 x.pol.tol) rfl; have c4 := (HB.out.call hW1).cellv (i := 4) (v := .int .i64 x.pol.window) rfl; have c5 := (HB.out.call hW1).cellv (i := 5) (v := .int .i64 x.pol.hold) rfl; have c6 := (HB.out.call hW1).cellv (i := 6) (v := .bool x.ruled) rfl; have c7 := (HB.out.call hW1).cellv (i := 7) (v := .int .i64 x.ver) rfl; go_simp⟩) (Ys.nil))) (S0) (by rfl) (by rfl) ?_
  refine anyG_one (k := 4) (by kernel_rfl) rfl (by rfl) (fun Q2 hQ2 => ?_); go_wp2_with (go_at_call 117; refine (serv_Clone _ FS x.smps c.smp _ (HS.out.call S0)).mono ?_; rintro e v4 ⟨ps2, FS2, rfl, k1, k2, k3⟩; have K2 : ∀ k, FS2 k → w0.heap.size ≤ k := (fun k hk => Nat.le_trans (Below.size (S0)) (k2 k hk)); (try have D : ∀ k, FS2 k → ¬ FH2 k := fun k h1 h2 => (by have h3 := j1.2 k h2; have h4 := k2 k h1; omega)); (try have j1 := HistAt.call j1 k3)); refine hQ2 _ _ (fun _ => S0.trans (k3.mono S0.size)) ?_; clear hQ2 Q2
  have S4 := S0.trans (k3.mono S0.size)
  refine anyG_one (k := 9) (by kernel_rfl) rfl (by rfl) (fun Q2 hQ2 => ?_); go_wp2_with (go_at_call 118; refine (hist_Clone _ FH x.past c.his _ (HH.out.call S4)).mono ?_; rintro e v9 ⟨ph2, FH2, rfl, j1, j2, j3⟩; have J2 : ∀ k, FH2 k → w0.heap.size ≤ k := (fun k hk => Nat.le_trans (Below.size (S4)) (j2 k hk)); (try have D : ∀ k, FS2 k → ¬ FH2 k := fun k h1 h2 => (by have h3 := k1.2 k h1; have h4 := j2 k h2; omega)); (try have k1 := SerV.call k1 j3)); refine hQ2 _ _ (fun _ => S4.trans (j3.mono S4.size)) ?_; clear hQ2 Q2
  have S9 := S4.trans (j3.mono S4.size)
  refine anyG_takes (is := [14]) (vs := [_]) (m := 2) (listed2 := #[true, true, true, true, true, true, true, true, true, true, true, true, true, true, true, false, false]) (a2 := ⟨#[_, _, _, _, _, _, _, _, _, _, _, _, _, _, _, _, _, _, _, _, _, _, _, _, _, _, _, _, _, _, _, _, _, _, _], _⟩) (by kernel_rfl) (fun j hj => by simp at hj) (by kernel_rfl) (fun _ _ _ _ _ h => h) (Ys.cons rfl (Or.inl ⟨by rfl, fun W1 hW1 => by first | rfl | (go_simp; done) | (go_simp; with_reducible rfl)⟩) (Ys.nil)) (S9) (by rfl) (by rfl) ?_
  refine anyG_one (k := 15) (by kernel_rfl) rfl (by rfl) (fun Q2 hQ2 => ?_)
  have nG := new_at (S := S9) (nrow x (.pointer ps2) (.pointer ph2) false) 109
  obtain ⟨G, hG, bG, lG⟩ := nG
  go_wp2_with fail
  refine hQ2 _ _ (fun _ => S9.alloc S9.size _) ?_
  clear hQ2 Q2
  (try simp only [hG])
  have KG := Lib.hid hG
  clear hG
  have SG := S9.alloc S9.size (.cells (nrow x (.pointer ps2) (.pointer ph2) false) 109)
  refine anyG_takes (is := [16]) (vs := [.pointer (some ⟨G, 0, none⟩)]) (m := 0) (listed2 := #[true, true, true, true, true, true, true, true, true, true, true, true, true, true, true, true, true]) (a2 := ⟨#[_, _, _, _, _, _, _, _, _, _, _, _, _, _, _, _, _, _, _, _, _, _, _, _, _, _, _, _, _, _, _, _, _, _, _], _⟩) (by kernel_rfl) (fun j hj => by simp at hj) (by kernel_rfl) (fun _ _ _ _ _ h => h) (Ys.cons rfl (Or.inl ⟨by rfl, fun W1 hW1 => by rfl⟩) (Ys.nil)) (SG) (by rfl) (by rfl) ?_
  refine anyG_done (by kernel_rfl) ?_ _
  have NA := NodeAt.mk0 (bG) (k1.call ((Below.refl _ _).alloc (Nat.le_refl _) _)) HGd.out (j1.call ((Below.refl _ _).alloc (Nat.le_refl _) _)) D (fun k hk => by have h1 := k1.2 k hk; have h2 := KG.out; (try simp at h2); omega) (fun k hk => by have h1 := j1.2 k hk; have h2 := KG.out; (try simp at h2); omega)
  obtain ⟨g2, gs2, ph3, he, hb2, hF2, hr2⟩ := NA.row
  cases he
  have h0 : NStep F true w0 _ (fun k => FS2 k ∨ FH2 k ∨ k = G) := ⟨Upd.of_below (SG), fun k hk => .inr (by rcases hk with hk | hk | rfl; exact K2 k hk; exact J2 k hk; exact lG), fun _ => ⟨(SG), fun k hk => by rcases hk with hk | hk | rfl; exact K2 k hk; exact J2 k hk; exact lG⟩⟩
  have H0 := Lib.hid h0
  have HR := Lib.hid hr2
  have HB2 := Lib.hid hb2
  have c7 := hb2.cellv (i := 7) (v := .int .i64 x.ver) rfl
  have f7 := hb2.frozen 7
  clear k1 k2 k3 j1 j2 j3 D K2 J2 hb2 hr2 h0 NA bG SG lG
  go_wp2
  go_ret
  have e0 : w0 = w := HW.out
  subst e0
  obtain ⟨m1, m2⟩ := HR.out (bump x) false _ (HB2.out.set_ 7 (.int .i64 (x.ver + 1))) ((Upd.refl (fun k => k = G) _).setCell (p := ⟨G, 7, none⟩) (.inl rfl) _) rfl rfl
  exact ⟨_, _, rfl, m1, H0.out.then m2 (fun k hk => .inl hk)⟩
theorem node_own (p : Option Addr) (F : Nat → Prop) (c : Cfg) (x : Ld) (fr : Bool) (w : World) (h : NodeAt w p F c x fr) (hv : 0 ≤ x.ver ∧ x.ver ≤ 1000) :
    Calls Try.prog 96 #[.pointer p] w (OwnP p F c x fr w) := by
  cases fr
  · exact node_own_no p F c x w h hv
  · exact node_own_yes p F c x w h hv
def NewNd (c : Cfg) (w : World) (e : Ending) (w' : World) : Prop := ∃ p F, e = .returned (.pointer p) ∧ NodeAt w' p F c ld0 false ∧ (∀ k, F k → w.heap.size ≤ k) ∧ Below w.heap.size w w'
theorem node_New_no (c : Cfg) (w : World) (hc : c.fit) (hok : ¬ c.okC) : Calls Try.prog 29 #[.agg c.row] w fun e w' => e = .returned (.pointer none) ∧ Below w.heap.size w w' := by
  have HR := Lib.hid (fun W => node_Right c W hc)
  rw [show cfgErr c = 1 from if_neg hok] at HR
  have B0 := Lib.hid (show Below w.heap.size w (w.alloc (.cells c.row 53)) by go_grown)
  have BX := Lib.hid (Blk.new w 53 c.row)
  clear hok
  go_enter Try.func29, Try.ntmps29
  go_wp2_with (first
    | (refine Blk.load rfl 53 (.tmp 1) rfl _ _ _ _ rfl BX.out Try.underlying53 rfl (by kernel_rfl) ?_)
    | (go_at_call 31; refine (HR.out _).mono ?_; rintro e w1 ⟨rfl, hb1⟩; have E1 := Lib.hid (B0.out.trans (hb1.mono B0.out.size)); clear hb1))
  go_ret
  exact ⟨rfl, E1.out⟩
theorem node_New (c : Cfg) (w : World) (hc : c.fit) (hok : c.okC) : Calls Try.prog 29 #[.agg c.row] w (NewNd c w) := by
  have HR := Lib.hid (fun W => node_Right c W hc)
  rw [show cfgErr c = 0 from if_pos hok] at HR
  have B0 := Lib.hid (show Below w.heap.size w (w.alloc (.cells c.row 53)) by go_grown)
  have BX := Lib.hid (Blk.new w 53 c.row)
  have HGd := Lib.hid (show goodS c.smp from ⟨hok.2.1, hok.2.2.1⟩)
  have HHs := hc.2.2.2
  clear hok
  go_enter Try.func29, Try.ntmps29
  focus (go_upto_region 3 with (first
    | (refine Blk.load rfl 53 (.tmp 1) rfl _ _ _ _ rfl BX.out Try.underlying53 rfl (by kernel_rfl) ?_)
    | (go_at_call 31; refine (HR.out _).mono ?_; rintro e w1 ⟨rfl, hb1⟩; have E1 := Lib.hid (B0.out.trans (hb1.mono B0.out.size)); have X1 := Lib.hid (BX.out.call hb1); clear hb1)))
  refine wp_region_any (by kernel_rfl) ?_; change wpAny _ _ _ _ _ _ _ (World.drew w1); refine any_of_anyG (late := fun _ => false) (S := fun wS => Below w1.heap.size w1 wS) _ _ _ _ ?_
  have S0 := (Below.refl w1.heap.size w1).drew
  refine anyG_takes (is := [0, 1, 3, 4]) (vs := [_, .int .i64 c.smp, _, .int .i64 c.his]) (m := 5) (listed2 := #[true, true, false, true, true, false, false, false, false]) (a2 := ⟨#[_, _, _, _, _, _, _, _, _, _, _, _, _, _], _⟩) (by kernel_rfl) (fun j hj => by simp at hj) (by kernel_rfl) (fun _ _ _ _ _ h => h) (Ys.cons rfl (Or.inl ⟨by rfl, fun W1 hW1 => by first | rfl | (go_simp; done) | (go_simp; with_reducible rfl)⟩) (Ys.cons rfl (Or.inl ⟨by rfl, fun W1 hW1 => by have c := (X1.out.call hW1).cellv (i := 1) (v := .int .i64 c.smp) rfl; go_simp⟩) (Ys.cons rfl (Or.inl ⟨by rfl, fun W1 hW1 => by first | rfl | (go_simp; done) | (go_simp; with_reducible rfl)⟩) (Ys.cons rfl (Or.inl ⟨by rfl, fun W1 hW1 => by have c := (X1.out.call hW1).cellv (i := 3) (v := .int .i64 c.his) rfl; go_simp⟩) (Ys.nil))))) (S0) (by rfl) (by rfl) ?_
  refine anyG_one (k := 2) (by kernel_rfl) rfl (by rfl) (fun Q2 hQ2 => ?_); go_wp2_with (go_at_call 48; refine (serv_New c.smp _).mono ?_; rintro e v4 ⟨ps2, FS2, rfl, k1, k2, k3⟩; have K2 : ∀ k, FS2 k → w1.heap.size ≤ k := (fun k hk => Nat.le_trans (Below.size (S0)) (k2 k hk)); (try have D : ∀ k, FS2 k → ¬ FH2 k := fun k h1 h2 => (by have h3 := j1.2 k h2; have h4 := k2 k h1; omega)); (try have j1 := HistAt.call j1 k3)); refine hQ2 _ _ (fun _ => S0.trans (k3.mono S0.size)) ?_; clear hQ2 Q2
  have S4 := S0.trans (k3.mono S0.size)
  refine anyG_one (k := 5) (by kernel_rfl) rfl (by rfl) (fun Q2 hQ2 => ?_); go_wp2_with (go_at_call 66; refine (history_New c.his _ HHs).mono ?_; rintro e v9 ⟨ph2, FH2, rfl, j1, j2, j3⟩; have J2 : ∀ k, FH2 k → w1.heap.size ≤ k := (fun k hk => Nat.le_trans (Below.size (S4)) (j2 k hk)); (try have D : ∀ k, FS2 k → ¬ FH2 k := fun k h1 h2 => (by have h3 := k1.2 k h1; have h4 := j2 k h2; omega)); (try have k1 := SerV.call k1 j3)); refine hQ2 _ _ (fun _ => S4.trans (j3.mono S4.size)) ?_; clear hQ2 Q2
  have S9 := S4.trans (j3.mono S4.size)
  refine anyG_takes (is := [6]) (vs := [_]) (m := 2) (listed2 := #[true, true, true, true, true, true, true, false, false]) (a2 := ⟨#[_, _, _, _, _, _, _, _, _, _, _, _, _, _], _⟩) (by kernel_rfl) (fun j hj => by simp at hj) (by kernel_rfl) (fun _ _ _ _ _ h => h) (Ys.cons rfl (Or.inl ⟨by rfl, fun W1 hW1 => by first | rfl | (go_simp; done) | (go_simp; with_reducible rfl)⟩) (Ys.nil)) (S9) (by rfl) (by rfl) ?_
  refine anyG_one (k := 7) (by kernel_rfl) rfl (by rfl) (fun Q2 hQ2 => ?_)
  have nG := new_at (S := S9) (nrow ld0 (.pointer ps2) (.pointer ph2) false) 109
  obtain ⟨G, hG, bG, lG⟩ := nG
  go_wp2_with fail
  refine hQ2 _ _ (fun _ => S9.alloc S9.size _) ?_
  clear hQ2 Q2
  (try simp only [hG])
  have KG := Lib.hid hG
  clear hG
  have SG := S9.alloc S9.size (.cells (nrow ld0 (.pointer ps2) (.pointer ph2) false) 109)
  refine anyG_takes (is := [8]) (vs := [.pointer (some ⟨G, 0, none⟩)]) (m := 0) (listed2 := #[true, true, true, true, true, true, true, true, true]) (a2 := ⟨#[_, _, _, _, _, _, _, _, _, _, _, _, _, _], _⟩) (by kernel_rfl) (fun j hj => by simp at hj) (by kernel_rfl) (fun _ _ _ _ _ h => h) (Ys.cons rfl (Or.inl ⟨by rfl, fun W1 hW1 => by rfl⟩) (Ys.nil)) (SG) (by rfl) (by rfl) ?_
  refine anyG_done (by kernel_rfl) ?_ _
  have NA := NodeAt.mk0 (c := c) (x := ld0) (bG) (k1.call ((Below.refl _ _).alloc (Nat.le_refl _) _)) HGd.out (j1.call ((Below.refl _ _).alloc (Nat.le_refl _) _)) D (fun k hk => by have h1 := k1.2 k hk; have h2 := KG.out; (try simp at h2); omega) (fun k hk => by have h1 := j1.2 k hk; have h2 := KG.out; (try simp at h2); omega)
  have NB := Lib.hid NA
  have hnew : ∀ k, (FS2 k ∨ FH2 k ∨ k = G) → w.heap.size ≤ k := fun k hk => Nat.le_trans E1.out.size (by rcases hk with hk | hk | rfl; exact K2 k hk; exact J2 k hk; exact lG)
  have HN := Lib.hid hnew
  have HE := Lib.hid (E1.out.trans (Below.mono (SG) E1.out.size))
  clear k1 k2 k3 j1 j2 j3 D K2 J2 NA bG SG lG hnew
  go_wp2
  go_ret
  exact ⟨_, _, rfl, NB.out, HN.out, HE.out⟩
end Go.Proofs.Ytfeccjjheiillaa
