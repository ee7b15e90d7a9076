/- Several texts in one. -/
import Derived.Test.YtjodpffdlggjgaaKLoopKeeps5
import Derived.Test.YtjodpffdlggjgaaShp
import Derived.Test.YtjodpffdlggjgaaPush2
import Derived.Test.YtjodpffdlggjgaaPolicy
import Derived.Test.YtjodpffdlggjgaaKLoopKeeps2
import Derived.Test.YtjodpffdlggjgaaKLoopKeeps3
import Derived.Test.YtjodpffdlggjgaaKeep
import Derived.Test.YtjodpffdlggjgaaCat
import Derived.Test.YtjodpffdlggjgaaRegT
/- A loop of control, plain: rows, one after the other. -/
namespace Go.Proofs.Ytjodpffdlggjgaa
open Go.RowKit
set_option linter.unusedVariables false
set_option linter.unusedSimpArgs false
structure Rw where
  tick : Int
  comes : Int
  repl : Int
  serves : Int
  left : Int
def Rw.cells (x : Rw) : List Value := [.int .i64 x.tick, .int .i64 x.comes, .int .i64 x.repl, .int .i64 x.serves, .int .i64 x.left]
abbrev Rw.row (x : Rw) : Array Value := #[.int .i64 x.tick, .int .i64 x.comes, .int .i64 x.repl, .int .i64 x.serves, .int .i64 x.left]
def Rw.good (x : Rw) : Prop := I64 x.tick ∧ I64 x.comes ∧ I64 x.repl ∧ I64 x.serves ∧ I64 x.left
abbrev RwsAre (w : World) (A : Option Addr) (len cap : Nat) (l : List Rw) : Prop := SliceIs w 5 Rw.cells A len cap l
structure Lst where
  smps : List Smp
  past : List Adv
  repl : Int
  left : Int
def lrow (p : Pol) (st : Lst) (at_ comes : Int) : Rw := ⟨at_, comes, st.repl, min (satq (st.left + comes)) (satq (st.repl * p.target)), satq (st.left + comes) - min (satq (st.left + comes)) (satq (st.repl * p.target))⟩
def lsmps (st : Lst) (at_ comes : Int) : List Smp := putq st.smps 64 ⟨at_, satq (st.left + comes)⟩
def lstep (p : Pol) (st : Lst) (at_ comes : Int) : Lst :=
  ⟨lsmps st at_ comes, pushq st.past 16 (ofq p (lsmps st at_ comes) st.past), (ofq p (lsmps st at_ comes) st.past).repl, (lrow p st at_ comes).left⟩
def lst0 (p : Pol) : Lst := ⟨[], [], p.min, 0⟩
/-- The state behind k rounds, and the rows. -/
def lrun (p : Pol) (c : Nat → Int) : Nat → Lst × List Rw
  | 0 => (lst0 p, [])
  | k + 1 => (lstep p (lrun p c k).1 k (c k), (lrun p c k).2 ++ [lrow p (lrun p c k).1 k (c k)])
/-- What holds of each state. -/
structure LOk (p : Pol) (k : Nat) (st : Lst) : Prop where
  srt : Srt st.smps
  len : st.smps.length ≤ 64
  lenk : st.smps.length ≤ k
  good : ∀ x ∈ st.smps, x.good
  past : st.past.length ≤ 16
  rlo : p.min ≤ st.repl
  rhi : st.repl ≤ p.max
  left : 0 ≤ st.left ∧ st.left ≤ 9223372036854775807
theorem lrow_bd {p : Pol} (hk : p.okP) {k : Nat} {st : Lst} (h : LOk p k st) {c : Int} (hc : 0 ≤ c) (hc2 : I64 c) : 0 ≤ satq (st.left + c) ∧ satq (st.left + c) ≤ 9223372036854775807 ∧ 0 ≤ satq (st.repl * p.target) ∧ satq (st.repl * p.target) ≤ 9223372036854775807 := by
  have h1 := satq_I64 (st.left + c)
  have h2 := satq_I64 (st.repl * p.target)
  unfold I64 at h1 h2
  have h3 : 0 ≤ st.repl * p.target := Int.mul_nonneg (by have := h.rlo; have := hk.1; omega) (by have := hk.2.2.2.2.1; omega)
  have h4 := h.left
  have h5 : ∀ x : Int, 0 ≤ x → 0 ≤ satq x := fun x hx => by unfold satq; (repeat' split) <;> omega
  exact ⟨h5 _ (by omega), h1.2, h5 _ h3, h2.2⟩
theorem putq_pos (l : List Smp) (x : Smp) : (putq l 64 x).length ≠ 0 := by
  have h : (putL l x).length ≠ 0 := by unfold putL; rw [List.length_append, List.length_cons]; omega
  unfold putq; split
  · rw [List.length_drop]; omega
  · exact h
theorem repl_bd {p : Pol} (hk : p.okP) (l : List Smp) (past : List Adv) (hl : l.length ≠ 0) : p.min ≤ (ofq p l past).repl ∧ (ofq p l past).repl ≤ p.max := by
  rw [(ofq_ok (past := past) hk hl).1]
  have key : ∀ n, p.min ≤ boundq p n ∧ boundq p n ≤ p.max := fun n => by
    have h3 := hk.2.2.1
    unfold boundq clampq
    rw [if_pos hk]
    split
    · omega
    · split <;> omega
  exact key _
theorem pushq_len (l : List Adv) (x : Adv) (h : l.length ≤ 16) : (pushq l 16 x).length ≤ 16 := by
  unfold pushq; split
  · rw [List.length_drop, List.length_append]; simp; omega
  · rename_i h2; omega
theorem LOk.next {p : Pol} (hk : p.okP) {k : Nat} {st : Lst} (h : LOk p k st) {at_ c : Int} (ha : 0 ≤ at_) (ha2 : I64 at_) (hc : 0 ≤ c) (hc2 : I64 c) : LOk p (k + 1) (lstep p st at_ c) := by
  obtain ⟨b1, b2, b3, b4⟩ := lrow_bd hk h hc hc2
  have hr := repl_bd hk (lsmps st at_ c) st.past (putq_pos _ _)
  refine ⟨srt_putq h.srt _ _, len_putq h.len (by omega) _, ?_, good_putq h.good (show Smp.good ⟨at_, satq (st.left + c)⟩ from ⟨ha2, satq_I64 _⟩) 64, pushq_len _ _ h.past, hr.1, hr.2, ?_⟩
  · show (putq st.smps 64 _).length ≤ k + 1
    have := len_putL st.smps ⟨at_, satq (st.left + c)⟩
    have := h.lenk
    unfold putq; split
    · rw [List.length_drop]; omega
    · omega
  · show 0 ≤ satq (st.left + c) - min (satq (st.left + c)) (satq (st.repl * p.target)) ∧ _ ≤ _
    have : (lstep p st at_ c).left = satq (st.left + c) - min (satq (st.left + c)) (satq (st.repl * p.target)) := rfl
    omega
theorem lok_zero {p : Pol} (hk : p.okP) : LOk p 0 (lst0 p) :=
  ⟨List.Pairwise.nil, by simp [lst0], by simp [lst0], fun x hx => by simp [lst0] at hx, by simp [lst0], Int.le_refl _, hk.2.2.1, by simp [lst0]⟩
theorem lrun_ok {p : Pol} (hk : p.okP) {c : Nat → Int} : ∀ k : Nat, k ≤ 2000 → (∀ i, i < k → 0 ≤ c i ∧ I64 (c i)) → LOk p k (lrun p c k).1
  | 0, _, _ => lok_zero hk
  | k + 1, h2, hc => (lrun_ok hk k (by omega) (fun i hi => hc i (by omega))).next hk (by omega) (by unfold I64; omega) (hc k (by omega)).1 (hc k (by omega)).2
theorem lrun_len (p : Pol) (c : Nat → Int) : ∀ k, (lrun p c k).2.length = k
  | 0 => rfl
  | k + 1 => by show (_ ++ [_]).length = _; rw [List.length_append, lrun_len p c k]; rfl
theorem lerr {p : Pol} (hk : p.okP) {k : Nat} {st : Lst} (h : LOk p k st) {at_ c : Int} (ha : 0 ≤ at_) (hc : 0 ≤ c) (hc2 : I64 c) : errr 64 ⟨at_, satq (st.left + c)⟩ = 0 ∧ putr st.smps 64 ⟨at_, satq (st.left + c)⟩ = lsmps st at_ c := by
  have e : serErr at_ (satq (st.left + c)) = 0 := serErr_ok ha (lrow_bd hk h hc hc2).1
  have g : goodS (64 : Int) := by unfold goodS; omega
  constructor
  · unfold errr; rw [if_pos e, if_pos g]
  · unfold putr; rw [if_pos g]; unfold putv; rw [if_pos e]; rfl
theorem lofe {p : Pol} (hk : p.okP) (st : Lst) (at_ c : Int) : ofe p (lsmps st at_ c) = 0 := (ofq_ok (past := []) hk (putq_pos _ _)).2
theorem lhush (past : List Adv) (x : Adv) : hush past 16 x = pushq past 16 x := by
  unfold hush; rw [if_pos (by omega)]; rfl
end Go.Proofs.Ytjodpffdlggjgaa
/- loop.Check, flywheelref55.Check: the walks. -/
namespace Go.Proofs.Ytjodpffdlggjgaa
open Go.RowKit
set_option linter.unusedSimpArgs false
set_option linter.unusedVariables false
set_option maxHeartbeats 4000000
set_option maxRecDepth 100000
def errS : List Shp → Int
  | [] => 0
  | s :: l => if shpErr s ≠ 0 then shpErr s else errS l
def lchk (p : Pol) (ticks : Int) (l : List Shp) : Int := if ¬ p.okP then 7 else if errS l ≠ 0 then errS l else if ticks < 0 ∨ 1024 < ticks then 12 else 0
theorem errS_at {l : List Shp} {k : Nat} {s : Shp} (h : l[k]? = some s) : errS (l.drop k) = if shpErr s ≠ 0 then shpErr s else errS (l.drop (k + 1)) := by
  have hlt := (List.getElem?_eq_some_iff.1 h).1
  rw [List.drop_eq_getElem_cons hlt, (List.getElem?_eq_some_iff.1 h).2]; rfl
theorem lchk_ok {p : Pol} {ticks : Int} {l : List Shp} (h : lchk p ticks l = 0) : p.okP ∧ errS l = 0 ∧ 0 ≤ ticks ∧ ticks ≤ 1024 := by
  unfold lchk at h
  split at h
  · omega
  · rename_i h1
    split at h
    · omega
    · split at h
      · omega
      · exact ⟨Classical.byContradiction h1, by omega, by omega, by omega⟩
theorem errS_ok : ∀ {l : List Shp}, errS l = 0 → ∀ s ∈ l, s.ok
  | [], _, s, hs => by cases hs
  | x :: l, h, s, hs => by
    unfold errS at h
    by_cases hx : shpErr x = 0
    · rw [if_neg (by omega)] at h
      rcases List.mem_cons.1 hs with rfl | hs
      · exact shpErr_ok.1 hx
      · exact errS_ok h s hs
    · rw [if_pos hx] at h; exact absurd h hx
def PL (w wr : World) (p : Pol) : Prop := Blk wr w.heap.size 23 p.row ∧ Below w.heap.size w wr
theorem PL.start (w : World) (p : Pol) : PL w (w.alloc (.cells p.row 23)) p := ⟨Blk.new w _ _, by go_grown⟩
theorem PL.call {w wr w' : World} {p : Pol} (h : PL w wr p) (hb : Below wr.heap.size wr w') : PL w w' p := ⟨h.1.call hb, h.2.trans (hb.mono h.2.size)⟩
theorem PL.alloc {w wr : World} {p : Pol} (h : PL w wr p) (o : Obj) : PL w (wr.alloc o) p := h.call ((Below.refl _ wr).alloc (Nat.le_refl _) o)
theorem loop_Check (p : Pol) (ticks : Int) (A : Option Addr) (len cap : Nat) (l : List Shp) (w : World) (hs : ShpsAre w A len cap l) (hn : len ≤ 1000) :
    Calls Try.prog 69 #[(.agg #[.int .i64 p.min, .int .i64 p.max, .int .i64 p.target, .int .i64 p.tol, .int .i64 p.window, .int .i64 p.hold]), .int .i64 ticks, .slice A len cap] w fun e w' => e = .returned (.int .i64 (lchk p ticks l)) ∧ Below w.heap.size w w' := by
  have HS := Lib.hid hs
  have HL := Lib.hid hs.1
  have D0 := Lib.hid (PL.start w p)
  have HC := Lib.hid (fun W => policy_Check p W)
  clear hs
  by_cases hk : p.okP
  · rw [polErr_ok hk] at HC
    have HQ := Lib.hid (show lchk p ticks l = if errS l ≠ 0 then errS l else if ticks < 0 ∨ 1024 < ticks then 12 else 0 from if_neg (not_not_intro hk))
    generalize lchk p ticks l = R at *
    clear hk
    go_enter Try.func69, Try.ntmps69
    go_wp2_with (first
      | (refine Blk.load rfl 23 (.tmp 3) rfl _ _ _ _ rfl D0.out.1 Try.underlying23 rfl (by kernel_rfl) ?_)
      | (go_at_call 75; refine (HC.out _).mono ?_; rintro e v1 ⟨rfl, hb1⟩; have D1 := Lib.hid (D0.out.call hb1); clear hb1))
    go_loopw [18] (fun i wr => ∃ k : Nat, k ≤ len ∧ i = .int .i64 k ∧ errS l = errS (l.drop k) ∧ Below w.heap.size w wr) (fun i _ => len - (intOf i).toNat)
    case atStart => exact ⟨0, Nat.zero_le _, rfl, rfl, D1.out.2⟩
    case round =>
      obtain ⟨k, hk, rfl, he, hbel⟩ := hrel
      have HE := Lib.hid he
      have HB := Lib.hid hbel
      clear he
      by_cases hlt : k < len
      · obtain ⟨b, off, s, rfl, hx, hb, t0, t1, t2, t3, t4⟩ := ShpsAre.row HS.out hlt
        have k0 := (hbel.cell (p := ⟨b, off + k * 5, none⟩) hb).trans t0
        have k1 := (hbel.cell (p := ⟨b, off + k * 5 + 1, none⟩) hb).trans t1
        have k2 := (hbel.cell (p := ⟨b, off + k * 5 + 2, none⟩) hb).trans t2
        have k3 := (hbel.cell (p := ⟨b, off + k * 5 + 3, none⟩) hb).trans t3
        have k4 := (hbel.cell (p := ⟨b, off + k * 5 + 4, none⟩) hb).trans t4
        have hki : (k : Int) < (len : Int) := by omega
        have HN := Lib.hid (errS_at hx)
        have HCk := Lib.hid (fun W => shape_Check s W)
        generalize shpErr s = E at *
        have N1 := Lib.hid (Blk.new wr 106 s.row)
        have HB2 := Lib.hid (HB.out.alloc HB.out.size (.cells s.row 106))
        clear hx hb t0 t1 t2 t3 t4 hbel
        by_cases h0 : E = 0
        · subst h0
          go_wp2_with (first
            | (refine Blk.load rfl 106 (.tmp 9) rfl _ _ _ _ rfl N1.out Try.underlying106 rfl (by kernel_rfl) ?_)
            | (go_at_call 101; refine (HCk.out _).mono ?_; rintro e v2 ⟨rfl, hb2⟩; have E2 := Lib.hid (HB2.out.trans (hb2.mono HB2.out.size)); clear hb2))
          go_roundw
          case rel => exact ⟨k + 1, by omega, by go_num, by rw [HE.out, HN.out]; rfl, E2.out⟩
          case measure => simp [intOf]; omega
        · have dE : (E == 0) = false := by simpa using h0
          have dE2 : (E != 0) = true := by simpa using h0
          have HR := Lib.hid (show R = E by rw [HQ.out, HE.out, HN.out, if_pos h0, if_pos h0])
          clear h0
          go_wp2_with (first
            | (refine Blk.load rfl 106 (.tmp 9) rfl _ _ _ _ rfl N1.out Try.underlying106 rfl (by kernel_rfl) ?_)
            | (go_at_call 101; refine (HCk.out _).mono ?_; rintro e v2 ⟨rfl, hb2⟩; have E2 := Lib.hid (HB2.out.trans (hb2.mono HB2.out.size)); clear hb2))
          go_ret
          exact ⟨ret_int HR.out.symm, E2.out⟩
      · have h0 : errS l = 0 := by rw [HE.out, List.drop_eq_nil_of_le (by have := HL.out; omega)]; rfl
        have HR := Lib.hid (show R = if ticks < 0 ∨ 1024 < ticks then 12 else 0 by rw [HQ.out, if_neg (by omega)])
        clear h0 hbel
        rcases (show (decide (ticks < 0) = true) ∨ (decide (ticks < 0) = false ∧ decide (1024 < ticks) = true) ∨ (decide (ticks < 0) = false ∧ decide (1024 < ticks) = false) by simp only [decide_eq_true_eq, decide_eq_false_iff_not]; omega) with d1 | ⟨d1, d2⟩ | ⟨d1, d2⟩
        all_goals
          go_wp2
          go_ret
          exact ⟨ret_int (by rw [HR.out]; simp only [decide_eq_true_eq, decide_eq_false_iff_not] at *; first | rw [if_pos (by omega)] | rw [if_neg (by omega)]), HB.out⟩
  · rw [polErr_no hk] at HC
    rw [show lchk p ticks l = 7 from if_pos hk]
    clear hk
    go_enter Try.func69, Try.ntmps69
    go_wp2_with (first
      | (refine Blk.load rfl 23 (.tmp 3) rfl _ _ _ _ rfl D0.out.1 Try.underlying23 rfl (by kernel_rfl) ?_)
      | (go_at_call 75; refine (HC.out _).mono ?_; rintro e v1 ⟨rfl, hb1⟩; have D1 := Lib.hid (D0.out.call hb1); clear hb1))
    go_ret
    exact ⟨rfl, D1.out.2⟩
theorem ref55_Check (p : Pol) (ticks : Int) (A : Option Addr) (len cap : Nat) (l : List Shp) (w : World) (hs : ShpsAre w A len cap l) (hn : len ≤ 1000) :
    Calls Try.prog 36 #[(.agg #[.int .i64 p.min, .int .i64 p.max, .int .i64 p.target, .int .i64 p.tol, .int .i64 p.window, .int .i64 p.hold]), .int .i64 ticks, .slice A len cap] w fun e w' => e = .returned (.int .i64 (lchk p ticks l)) ∧ Below w.heap.size w w' := by
  have HS := Lib.hid hs
  have HL := Lib.hid hs.1
  have D0 := Lib.hid (PL.start w p)
  have HC := Lib.hid (fun W => ref_Right p W)
  clear hs
  by_cases hk : p.okP
  · rw [polOk_true hk] at HC
    have HQ := Lib.hid (show lchk p ticks l = if errS l ≠ 0 then errS l else if ticks < 0 ∨ 1024 < ticks then 12 else 0 from if_neg (not_not_intro hk))
    generalize lchk p ticks l = R at *
    clear hk
    go_enter Try.func36, Try.ntmps36
    go_wp2_with (first
      | (refine Blk.load rfl 23 (.tmp 3) rfl _ _ _ _ rfl D0.out.1 Try.underlying23 rfl (by kernel_rfl) ?_)
      | (go_at_call 49; refine (HC.out _).mono ?_; rintro e v1 ⟨rfl, hb1⟩; have D1 := Lib.hid (D0.out.call hb1); clear hb1))
    go_loopw [7] (fun i wr => ∃ k : Nat, k ≤ len ∧ i = .int .i64 k ∧ errS l = errS (l.drop k) ∧ Below w.heap.size w wr) (fun i _ => len - (intOf i).toNat)
    case atStart => exact ⟨0, Nat.zero_le _, rfl, rfl, D1.out.2⟩
    case round =>
      obtain ⟨k, hk, rfl, he, hbel⟩ := hrel
      have HE := Lib.hid he
      have HB := Lib.hid hbel
      clear he
      by_cases hlt : k < len
      · obtain ⟨b, off, s, rfl, hx, hb, t0, t1, t2, t3, t4⟩ := ShpsAre.row HS.out hlt
        have k0 := (hbel.cell (p := ⟨b, off + k * 5, none⟩) hb).trans t0
        have k1 := (hbel.cell (p := ⟨b, off + k * 5 + 1, none⟩) hb).trans t1
        have k2 := (hbel.cell (p := ⟨b, off + k * 5 + 2, none⟩) hb).trans t2
        have k3 := (hbel.cell (p := ⟨b, off + k * 5 + 3, none⟩) hb).trans t3
        have k4 := (hbel.cell (p := ⟨b, off + k * 5 + 4, none⟩) hb).trans t4
        have hki : (k : Int) < (len : Int) := by omega
        have HN := Lib.hid (errS_at hx)
        have HCk := Lib.hid (fun W => ref54_Check s W)
        generalize shpErr s = E at *
        clear hx hb t0 t1 t2 t3 t4 hbel
        by_cases h0 : E = 0
        · subst h0
          go_wp2_with (go_at_call 68; refine (HCk.out _).mono ?_; rintro e v2 ⟨rfl, hb2⟩; have E2 := Lib.hid (HB.out.trans (hb2.mono HB.out.size)); clear hb2)
          go_roundw
          case rel => exact ⟨k + 1, by omega, by go_num, by rw [HE.out, HN.out]; rfl, E2.out⟩
          case measure => simp [intOf]; omega
        · have dE : (E == 0) = false := by simpa using h0
          have dE2 : (E != 0) = true := by simpa using h0
          have HR := Lib.hid (show R = E by rw [HQ.out, HE.out, HN.out, if_pos h0, if_pos h0])
          clear h0
          go_wp2_with (go_at_call 68; refine (HCk.out _).mono ?_; rintro e v2 ⟨rfl, hb2⟩; have E2 := Lib.hid (HB.out.trans (hb2.mono HB.out.size)); clear hb2)
          go_ret
          exact ⟨ret_int HR.out.symm, E2.out⟩
      · have h0 : errS l = 0 := by rw [HE.out, List.drop_eq_nil_of_le (by have := HL.out; omega)]; rfl
        have HR := Lib.hid (show R = if ticks < 0 ∨ 1024 < ticks then 12 else 0 by rw [HQ.out, if_neg (by omega)])
        clear h0 hbel
        rcases (show (decide (ticks < 0) = true) ∨ (decide (ticks < 0) = false ∧ decide (1024 < ticks) = true) ∨ (decide (ticks < 0) = false ∧ decide (1024 < ticks) = false) by simp only [decide_eq_true_eq, decide_eq_false_iff_not]; omega) with d1 | ⟨d1, d2⟩ | ⟨d1, d2⟩
        all_goals
          go_wp2
          go_ret
          exact ⟨ret_int (by rw [HR.out]; simp only [decide_eq_true_eq, decide_eq_false_iff_not] at *; first | rw [if_pos (by omega)] | rw [if_neg (by omega)]), HB.out⟩
  · rw [polOk_false hk] at HC
    rw [show lchk p ticks l = 7 from if_pos hk]
    clear hk
    go_enter Try.func36, Try.ntmps36
    go_wp2_with (first
      | (refine Blk.load rfl 23 (.tmp 3) rfl _ _ _ _ rfl D0.out.1 Try.underlying23 rfl (by kernel_rfl) ?_)
      | (go_at_call 49; refine (HC.out _).mono ?_; rintro e v1 ⟨rfl, hb1⟩; have D1 := Lib.hid (D0.out.call hb1); clear hb1))
    go_ret
    exact ⟨rfl, D1.out.2⟩
end Go.Proofs.Ytjodpffdlggjgaa
/- Rows and shapes of the call's own; the law's shapes. -/
namespace Go.Proofs.Ytjodpffdlggjgaa
open Go.RowKit
set_option linter.unusedSimpArgs false
set_option linter.unusedVariables false
set_option maxHeartbeats 4000000
set_option maxRecDepth 100000
theorem shp_len (x : Shp) : x.cells.length = 5 := rfl
theorem shp_one : ∀ x : Shp, ∀ u ∈ x.cells, u.oneCell' = true := by
  intro x u hu
  simp [Shp.cells] at hu
  rcases hu with rfl | rfl | rfl | rfl | rfl <;> rfl
theorem info_shp : (Try.prog.info? 106).map (fun i => (i.zero, i.size, i.bytes)) = some (some (.agg #[.int .i64 0, .int .i64 0, .int .i64 0, .int .i64 0, .int .i64 0]), 5, 40) := by kernel_rfl
theorem rw_len (x : Rw) : x.cells.length = 5 := rfl
theorem rw_one : ∀ x : Rw, ∀ u ∈ x.cells, u.oneCell' = true := by
  intro x u hu
  simp [Rw.cells] at hu
  rcases hu with rfl | rfl | rfl | rfl | rfl <;> rfl
theorem info_lrow : (Try.prog.info? 74).map (fun i => (i.zero, i.size, i.bytes)) = some (some (.agg #[.int .i64 0, .int .i64 0, .int .i64 0, .int .i64 0, .int .i64 0]), 5, 40) := by kernel_rfl
theorem info_rrow : (Try.prog.info? 79).map (fun i => (i.zero, i.size, i.bytes)) = some (some (.agg #[.int .i64 0, .int .i64 0, .int .i64 0, .int .i64 0, .int .i64 0]), 5, 40) := by kernel_rfl
theorem dec_shp : ∀ vs : List Value, AllOk [.int .i64, .int .i64, .int .i64, .int .i64, .int .i64] vs → ∃ x : Shp, x.cells = vs ∧ x.good := by
  rintro _ ⟨_, _, rfl, ⟨a, rfl, wa⟩, _, _, rfl, ⟨b, rfl, wb⟩, _, _, rfl, ⟨c, rfl, wc⟩, _, _, rfl, ⟨d, rfl, wd⟩, _, _, rfl, ⟨e, rfl, we⟩, h⟩
  cases h
  exact ⟨⟨a, b, c, d, e⟩, rfl, I64_of_wf wa, I64_of_wf wb, I64_of_wf wc, I64_of_wf wd, I64_of_wf we⟩
theorem dec_rw : ∀ vs : List Value, AllOk [.int .i64, .int .i64, .int .i64, .int .i64, .int .i64] vs → ∃ x : Rw, x.cells = vs ∧ x.good := by
  rintro _ ⟨_, _, rfl, ⟨a, rfl, wa⟩, _, _, rfl, ⟨b, rfl, wb⟩, _, _, rfl, ⟨c, rfl, wc⟩, _, _, rfl, ⟨d, rfl, wd⟩, _, _, rfl, ⟨e, rfl, we⟩, h⟩
  cases h
  exact ⟨⟨a, b, c, d, e⟩, rfl, I64_of_wf wa, I64_of_wf wb, I64_of_wf wc, I64_of_wf wd, I64_of_wf we⟩
def ShapesP (w : World) (l : List Shp) (e : Ending) (w' : World) : Prop := ∃ A n c, e = .returned (.slice A n c) ∧ ShpsAre w' A n c l ∧ Below w.heap.size w w'
theorem law_shapes (A : Option Addr) (len cap : Nat) (l : List Shp) (w : World) (hs : ShpsAre w A len cap l) (hn : len ≤ 1000) :
    Calls Try.prog 38 #[.slice A len cap] w (ShapesP w l) := by
  have HS := Lib.hid hs
  have HL := Lib.hid hs.1
  clear hs
  go_enter Try.func38, Try.ntmps38
  go_wp2
  go_loopw [3, 8] (fun v i wr => ∃ k : Nat, ∃ A2 n2 c2, k ≤ len ∧ i = .int .i64 k ∧ v = .slice A2 n2 c2 ∧ Own wr w.heap.size 106 5 Shp.cells (.slice A2 n2 c2) (l.take k) ∧ Below w.heap.size w wr) (fun _ i _ => len - (intOf i).toNat)
  case atStart => exact ⟨0, none, 0, 0, Nat.zero_le _, rfl, rfl, Own.nil _ _ _ _ _, Below.refl _ _⟩
  case round =>
    obtain ⟨k, A2, n2, c2, hk, rfl, rfl, ho, hbel⟩ := hrel
    have HO := Lib.hid ho
    have HB := Lib.hid hbel
    clear ho
    by_cases hlt : k < len
    · obtain ⟨b, off, s, rfl, hx, hb, t0, t1, t2, t3, t4⟩ := ShpsAre.row HS.out hlt
      have k0 := (hbel.cell (p := ⟨b, off + k * 5, none⟩) hb).trans t0
      have k1 := (hbel.cell (p := ⟨b, off + k * 5 + 1, none⟩) hb).trans t1
      have k2 := (hbel.cell (p := ⟨b, off + k * 5 + 2, none⟩) hb).trans t2
      have k3 := (hbel.cell (p := ⟨b, off + k * 5 + 3, none⟩) hb).trans t3
      have k4 := (hbel.cell (p := ⟨b, off + k * 5 + 4, none⟩) hb).trans t4
      have hki : (k : Int) < (len : Int) := by omega
      have HN := Lib.hid (take_snoc2 hx)
      have HLk := Lib.hid (show (l.take k).length < 1000000 by rw [List.length_take]; omega)
      have N1 := Lib.hid (Blk.new wr 71 s.row)
      have N2 := Lib.hid (fun o1 o2 => (HB.out.alloc HB.out.size o1).alloc (HB.out.alloc HB.out.size o1).size o2)
      have NL := Lib.hid (fun k e => (World.ownsRow.lt HO.out k e).1)
      clear hx hb t0 t1 t2 t3 t4 hbel
      go_wp2_with (first
        | (refine Blk.load rfl 71 (.tmp 5) rfl _ _ _ _ rfl N1.out Try.underlying71 rfl (by kernel_rfl) ?_)
        | (at_builtin; refine wpList_push2 _ rfl (.tmp 12) (.tmp 14) 68 rfl w.heap.size 106 _ 5 40 _ Try.underlying68 info_shp (by rfl) (by decide) (fun _ => rfl) shp_one (.slice A2 n2 c2) (l.take k) rfl (Own.alloc (Own.alloc HO.out _) _) ⟨_, 0, none⟩ 1 s rfl (blk_news (α := Shp) (vs := s.cells) (Blk.new2 _ _ _ _) rfl) HLk.out (by decide) (by have := HB.out.size; simp; omega) ?_; intro v' w7 ho7 hu7 hw7; obtain ⟨A7, n7, c7, rfl, -, -⟩ := ho7.shape shp_len; have O7 := Lib.hid ho7; have B7 := Lib.hid ((N2.out _ _).trans (hu7.below (fun k hk => NL.out k hk) (N2.out _ _).size)); clear ho7 hu7 hw7))
      go_roundw
      case rel => exact ⟨k + 1, A7, n7, c7, by omega, by go_num, rfl, by rw [HN.out]; exact O7.out, B7.out⟩
      case measure => simp [intOf]; omega
    · have hE : l.take k = l := List.take_of_length_le (by have := HL.out; omega)
      rw [hE] at HO
      have HSl := Lib.hid (HO.out.is shp_len)
      clear hE HO hbel
      go_wp2
      go_ret
      exact ⟨A2, n2, c2, rfl, HSl.out, HB.out⟩
end Go.Proofs.Ytjodpffdlggjgaa
/- decide.Of: the walk. -/
namespace Go.Proofs.Ytjodpffdlggjgaa
open Go.RowKit
set_option linter.unusedSimpArgs false
set_option linter.unusedVariables false
set_option maxHeartbeats 8000000
set_option maxRecDepth 100000
theorem decide_Of (p : Pol) (A : Option Addr) (len cap : Nat) (l : List Smp) (B : Option Addr) (len2 cap2 : Nat) (past : List Adv) (w : World) (hp : p.fit) (hs : SmpsAre w A len cap l) (hg : ∀ x ∈ l, x.good) (hn : len ≤ 200) (hs2 : AdvsAre w B len2 cap2 past) (hn2 : len2 ≤ 1000) :
    Calls Try.prog 64 #[(.agg #[.int .i64 p.min, .int .i64 p.max, .int .i64 p.target, .int .i64 p.tol, .int .i64 p.window, .int .i64 p.hold]), .slice A len cap, .slice B len2 cap2] w fun e w' => e = .returned (.tuple #[.agg (ofq p l past).cells.toArray, .int .i64 (ofe p l)]) ∧ Below w.heap.size w w' := by
  have HS := Lib.hid hs
  have HS2 := Lib.hid hs2
  have HL := Lib.hid hs.1
  have HG := Lib.hid hg
  have HP := Lib.hid hp
  have HT := latestq_I64 hg
  have D0 := Lib.hid (DI.start w p)
  clear hs hs2 hg hp
  by_cases hk : p.okP
  · have HC := Lib.hid (fun W => policy_Check p W)
    rw [polErr_ok hk] at HC
    by_cases h0 : len = 0
    · have HQ := Lib.hid (ofq_nil (past := past) hk (show l.length = 0 by rw [HL.out]; exact h0))
      subst h0
      clear hk
      go_enter Try.func64, Try.ntmps64
      go_wp2_with fail
      refine (HC.out _).mono ?_
      rintro e v1 ⟨rfl, hb1⟩
      have D1 := Lib.hid (D0.out.call hb1)
      clear hb1
      go_wp2_with fail
      refine (decide_latest_no cap A _).mono ?_
      rintro e v2 ⟨rfl, rfl⟩
      go_wp2_with (refine wpList_store_row rfl 26 (.tmp 6) (.tmp 31) rfl (w.heap.size + 1) _ _ _ rfl rfl D1.out.2.1 (by rfl) (by kernel_rfl) (by simp [Value.oneCell']) ?_; intro w9 hb9 hg9)
      refine bodyPost_ret (results_row_tmp rfl _ _ (w.heap.size + 1) _ _ _ rfl hb9 Try.underlying26 rfl (by kernel_rfl)) rfl ⟨by rw [HQ.out.1, HQ.out.2]; rfl, D1.out.2.2.trans (Only.below hg9 (by omega) D1.out.2.2.size)⟩
    · have HQ := Lib.hid (ofq_ok (past := past) hk (show l.length ≠ 0 by rw [HL.out]; exact h0))
      have h1 : 1 ≤ len := by omega
      have HDq := Lib.hid (show decq p l past = (let tick := latestq l; let load := meanq (valq (cutq l (fromq tick p.window) tick)); let now := nowq p past; let op := openq p load now; let want := boundq p op; let th := boundq p (steadyq p tick want past).1; (⟨tick, load, want, th, whyq p (steadyq p tick want past).2 op now th⟩ : Adv)) from rfl)
      have HLa := Lib.hid (fun W hW => decide_latest A len cap l W hW h1 (by omega))
      have HAt := Lib.hid (fun W hW => window_At A len cap l (latestq l) p.window W hW HG.out hn HT HP.out.2.2.2.2.1)
      have hM := statq_mean (cutq l (fromq (latestq l) p.window) (latestq l))
      have hMI : I64 (meanq (valq (cutq l (fromq (latestq l) p.window) (latestq l)))) := by
        have := mean_least (l := valq (cutq l (fromq (latestq l) p.window) (latestq l))) (fun x hx => by have := valq_bd (cutq_good HG.out _ _) x hx; unfold I64; omega) (fun x hx => (valq_bd (cutq_good HG.out _ _) x hx).1) 0
        unfold I64; omega
      dsimp only at HDq
      rw [← hM] at HDq hMI
      generalize statq (cutq l (fromq (latestq l) p.window) (latestq l)) = ST at *
      generalize latestq l = T at *
      have HNo := Lib.hid (fun W hW => decide_Now p B len2 cap2 past W hW hn2)
      generalize nowq p past = NW at *
      have HWa := Lib.hid (fun W => control_Want p ST.mean W HP.out hMI)
      have HNe := Lib.hid (fun W => control_Near p ST.mean NW W HP.out hMI)
      have HRa := Lib.hid (fun W => control_Raw p ST.mean NW W HP.out hMI)
      rw [raw_open2] at HRa
      have HOp := Lib.hid (show openq p ST.mean NW = if nearq p ST.mean NW then NW else wantq p ST.mean from rfl)
      generalize openq p ST.mean NW = OP at *
      generalize boundq p OP = WT at *
      have HSt := Lib.hid (fun W hW => steady_Of p T WT B len2 cap2 past W HP.out hW hn2 HT)
      generalize steadyq p T WT past = SQ at *
      obtain ⟨sn, sh⟩ := SQ
      dsimp only at HSt HDq
      have HBo := Lib.hid (fun W => control_Bound p sn W)
      generalize boundq p sn = TH at *
      have HWh := Lib.hid (fun W => decide_why p sh OP NW TH W)
      generalize whyq p sh OP NW TH = WY at *
      clear hM h0 hk HT hMI
      go_enter Try.func64, Try.ntmps64
      go_wp2_with fail
      refine (HC.out _).mono ?_
      rintro e v1 ⟨rfl, hb1⟩
      have D1 := Lib.hid (D0.out.call hb1)
      clear hb1
      go_wp2_with fail
      refine (HLa.out _ (slice_keep HS.out D1.out.2.2)).mono ?_
      rintro e v2 ⟨rfl, hb2⟩
      have D2 := Lib.hid (D1.out.call hb2)
      clear hb2
      go_wp2
      refine wp_region_any (by kernel_rfl) ?_; change wpAny _ _ _ _ _ _ _ (World.drew v2); refine any_of_anyG (late := fun _ => false) (S := fun wS => Below v2.heap.size v2 wS) _ _ _ _ ?_
      have S0 := (Below.refl v2.heap.size v2).drew
      refine anyG_take (i := 0) (v := _) rfl (by kernel_rfl) (by kernel_rfl) (by kernel_rfl) (by kernel_rfl) rfl (by kernel_rfl) (fun j hj => by first | (simp at hj; done) | (simp at hj; simp; omega)) (fun _ _ _ h => h) (Or.inl ⟨by rfl, fun W1 hW1 => by first | rfl | (go_simp; done) | (go_simp; with_reducible rfl)⟩) (S0) ?_
      refine anyG_take (i := 1) (v := _) rfl (by kernel_rfl) (by kernel_rfl) (by kernel_rfl) (by kernel_rfl) rfl (by kernel_rfl) (fun j hj => by first | (simp at hj; done) | (simp at hj; simp; omega)) (fun _ _ _ h => h) (Or.inl ⟨by rfl, fun W1 hW1 => by first | rfl | (go_simp; done) | (go_simp; with_reducible rfl)⟩) (S0) ?_
      refine anyG_take (i := 2) (v := _) rfl (by kernel_rfl) (by kernel_rfl) (by kernel_rfl) (by kernel_rfl) rfl (by kernel_rfl) (fun j hj => by first | (simp at hj; done) | (simp at hj; simp; omega)) (fun _ _ _ h => h) (Or.inl ⟨by rfl, fun W1 hW1 => by first | rfl | (go_simp; done) | (go_simp; with_reducible rfl)⟩) (S0) ?_
      refine anyG_take (i := 3) (v := .int .i64 p.window) rfl (by kernel_rfl) (by kernel_rfl) (by kernel_rfl) (by kernel_rfl) rfl (by kernel_rfl) (fun j hj => by first | (simp at hj; done) | (simp at hj; simp; omega)) (fun _ _ _ h => h) (Or.inl ⟨by rfl, fun W1 hW1 => by have c := (D2.out.1.call hW1).cellv (i := 4) (v := .int .i64 p.window) rfl; go_simp⟩) (S0) ?_
      refine anyG_take (i := 6) (v := _) rfl (by kernel_rfl) (by kernel_rfl) (by kernel_rfl) (by kernel_rfl) rfl (by kernel_rfl) (fun j hj => by first | (simp at hj; done) | (simp at hj; simp; omega)) (fun _ _ _ h => h) (Or.inl ⟨by rfl, fun W1 hW1 => exec_load (ty := 23) (x := .tmp 3) rfl rfl (run_loadAt_blk _ _ _ _ _ _ (D2.out.1.call hW1) Try.underlying23 rfl (by first | kernel_rfl | exact info_num _))⟩) (S0) ?_
      refine anyG_take (i := 7) (v := _) rfl (by kernel_rfl) (by kernel_rfl) (by kernel_rfl) (by kernel_rfl) rfl (by kernel_rfl) (fun j hj => by first | (simp at hj; done) | (simp at hj; simp; omega)) (fun _ _ _ h => h) (Or.inl ⟨by rfl, fun W1 hW1 => by first | rfl | (go_simp; done) | (go_simp; with_reducible rfl)⟩) (S0) ?_
      refine anyG_one (k := 4) (by kernel_rfl) rfl (by rfl) (fun Q2 hQ2 => ?_); go_wp2_with (go_at_call 94; refine (HAt.out _ (slice_keep HS.out (D2.out.call S0).2.2)).mono ?_; rintro e v3 ⟨rfl, hb3⟩); refine hQ2 _ _ (fun _ => S0.trans (hb3.mono S0.size)) ?_; clear hQ2 Q2
      have S3 := S0.trans (hb3.mono S0.size)
      refine anyG_take (i := 5) (v := .int .i64 ST.mean) rfl (by kernel_rfl) (by kernel_rfl) (by kernel_rfl) (by kernel_rfl) rfl (by kernel_rfl) (fun j hj => by first | (simp at hj; done) | (simp at hj; simp; omega)) (fun _ _ _ h => h) (Or.inl ⟨by rfl, fun W1 hW1 => by first | kernel_rfl | (go_simp; done)⟩) (S3) ?_
      refine anyG_one (k := 8) (by kernel_rfl) rfl (by rfl) (fun Q2 hQ2 => ?_); go_wp2_with (go_at_call 43; refine (HNo.out _ (slice_keep HS2.out (D2.out.call S3).2.2)).mono ?_; rintro e v4 ⟨rfl, hb4⟩); refine hQ2 _ _ (fun _ => S3.trans (hb4.mono S3.size)) ?_; clear hQ2 Q2
      have S4 := S3.trans (hb4.mono S3.size)
      refine anyG_one (k := 9) (by kernel_rfl) rfl (by rfl) (fun Q2 hQ2 => ?_); go_wp2_with fail; refine hQ2 _ _ (fun _ => S4) ?_; clear hQ2 Q2
      refine anyG_one (k := 10) (by kernel_rfl) rfl (by rfl) (fun Q2 hQ2 => ?_); go_wp2_with fail; refine hQ2 _ _ (fun _ => S4) ?_; clear hQ2 Q2
      refine anyG_done (by kernel_rfl) ?_ _
      have D4 := Lib.hid (D2.out.call S4)
      go_wp2_with (refine Blk.load rfl 23 (.tmp 3) rfl w.heap.size _ _ _ rfl D4.out.1 Try.underlying23 rfl (by kernel_rfl) ?_)
      refine (HWa.out _).mono ?_
      rintro e v5 ⟨rfl, hb5⟩
      have D5 := Lib.hid (D4.out.call hb5)
      clear hb5
      go_wp2_with (refine Blk.load rfl 23 (.tmp 3) rfl w.heap.size _ _ _ rfl D5.out.1 Try.underlying23 rfl (by kernel_rfl) ?_)
      refine (HNe.out _).mono ?_
      rintro e v6 ⟨rfl, hb6⟩
      have D6 := Lib.hid (D5.out.call hb6)
      clear hb6
      cases hnr : nearq p ST.mean NW
      all_goals
        rw [hnr] at HOp
        clear hnr
        simp only [Bool.false_eq_true, if_false, if_true] at HOp
        go_wp2_with (refine Blk.load rfl 23 (.tmp 3) rfl w.heap.size _ _ _ rfl D6.out.1 Try.underlying23 rfl (by kernel_rfl) ?_)
        refine (HRa.out _).mono ?_
        rintro e v7 ⟨rfl, hb7⟩
        have D7 := Lib.hid (D6.out.call hb7)
        clear hb7
        go_wp2_with (refine Blk.load rfl 23 (.tmp 3) rfl w.heap.size _ _ _ rfl D7.out.1 Try.underlying23 rfl (by kernel_rfl) ?_)
        refine (HSt.out _ (slice_keep HS2.out D7.out.2.2)).mono ?_
        rintro e v8 ⟨rfl, hb8⟩
        have D8 := Lib.hid (D7.out.call hb8)
        clear hb8
        go_wp2_with (refine Blk.load rfl 23 (.tmp 3) rfl w.heap.size _ _ _ rfl D8.out.1 Try.underlying23 rfl (by kernel_rfl) ?_)
        refine (HBo.out _).mono ?_
        rintro e v9 ⟨rfl, hb9⟩
        have D9 := Lib.hid (D8.out.call hb9)
        clear hb9
        first | (rw [HOp.out] at HWh) | skip
        go_wp2_with (refine Blk.load rfl 23 (.tmp 3) rfl w.heap.size _ _ _ rfl D9.out.1 Try.underlying23 rfl (by kernel_rfl) ?_)
        refine (HWh.out _).mono ?_
        rintro e v10 ⟨rfl, hb10⟩
        have D10 := Lib.hid (D9.out.call hb10)
        clear hb10
        go_wp2_with (refine wpList_store_row rfl 26 (.tmp 6) (.tmp 74) rfl (w.heap.size + 1) _ _ _ rfl rfl D10.out.2.1 (by rfl) (by kernel_rfl) (by simp [Value.oneCell']) ?_; intro w9 hb9 hg9)
        refine bodyPost_ret (results_row_tmp rfl _ _ (w.heap.size + 1) _ _ _ rfl hb9 Try.underlying26 rfl (by kernel_rfl)) rfl ⟨by rw [HQ.out.1, HQ.out.2, HDq.out]; rfl, D10.out.2.2.trans (Only.below hg9 (by omega) D10.out.2.2.size)⟩
  · have HC := Lib.hid (fun W => policy_Check p W)
    rw [polErr_no hk] at HC
    have HQ := Lib.hid (ofq_no (l := l) (past := past) hk)
    clear hk HT
    go_enter Try.func64, Try.ntmps64
    go_wp2_with fail
    refine (HC.out _).mono ?_
    rintro e v1 ⟨rfl, hb1⟩
    have D1 := Lib.hid (D0.out.call hb1)
    clear hb1
    go_wp2_with (refine wpList_store_row rfl 26 (.tmp 6) (.tmp 22) rfl (w.heap.size + 1) _ _ _ rfl rfl D1.out.2.1 (by rfl) (by kernel_rfl) (by simp [Value.oneCell']) ?_; intro w9 hb9 hg9)
    refine bodyPost_ret (results_row_tmp rfl _ _ (w.heap.size + 1) _ _ _ rfl hb9 Try.underlying26 rfl (by kernel_rfl)) rfl ⟨by rw [HQ.out.1, HQ.out.2]; rfl, D1.out.2.2.trans (Only.below hg9 (by omega) D1.out.2.2.size)⟩
end Go.Proofs.Ytjodpffdlggjgaa
/- flywheelref14.Put: the last decisions behind one more. -/
namespace Go.Proofs.Ytjodpffdlggjgaa
open Go.RowKit
set_option linter.unusedSimpArgs false
set_option linter.unusedVariables false
set_option maxHeartbeats 4000000
set_option maxRecDepth 100000
def PutA (w : World) (l : List Adv) (e : Ending) (w' : World) : Prop := ∃ A n c, e = .returned (.slice A n c) ∧ AdvsAre w' A n c l ∧ Below w.heap.size w w' ∧ (∀ a, A = some a → w.heap.size ≤ a.block ∧ a.block < w'.heap.size)
theorem ownA_is {w : World} {base : Nat} {A : Option Addr} {n c : Nat} {l : List Adv} (h : OwnA w base (.slice A n c) l) : AdvsAre w A n c l := by
  obtain ⟨A', n', c', he, _, hs⟩ := h.shape adv_len
  cases he; exact hs
theorem slice_tailA {w : World} {base h n c : Nat} {y : Adv} {l : List Adv} (ho : OwnA w base (.slice (some ⟨h, 0, none⟩) n c) (y :: l)) : (c = 1 → l = []) ∧ (c ≠ 1 → AdvsAre w (some ⟨h, 5, none⟩) (n - 1) (c - 1) l) ∧ (l = [] → AdvsAre w (some ⟨h, 0, none⟩) (n - 1) (c - 1) l) := by
  have hs := ownA_is ho
  have hl := hs.1
  have hnc := hs.2.1
  simp only [List.length_cons] at hl
  refine ⟨fun hc => List.eq_nil_of_length_eq_zero (by omega), fun hc => ⟨by omega, by omega, by have := hs.2.2.1; omega, (fun h => by cases h), fun a ha => ?_⟩, fun hl0 => ⟨by rw [hl0]; simp; rw [hl0] at hl; simp at hl; omega, by omega, by have := hs.2.2.1; omega, (fun h => by cases h), fun a ha => ?_⟩⟩
  · cases ha
    obtain ⟨h1, h2⟩ := hs.2.2.2.2 _ rfl
    refine ⟨fun i x hi j v hj => ?_, fun _ => h2 (by omega)⟩
    have := h1 (i + 1) x (by simpa using hi) j v hj
    rw [Addr.add_lit] at this ⊢
    rw [show 5 + (i * 5 + j) = 0 + ((i + 1) * 5 + j) by omega]
    exact this
  · cases ha
    obtain ⟨h1, h2⟩ := hs.2.2.2.2 _ rfl
    refine ⟨fun i x hi => by rw [hl0] at hi; simp at hi, fun hn => h2 (by omega)⟩
theorem Own.someA {α : Type} {w : World} {base e size : Nat} {cells : α → List Value} {v : Value} {l : List α} (h : Own w base e size cells v l) (hsz : ∀ x, (cells x).length = size) (hl : 0 < l.length) : ∃ g n c, v = .slice (some ⟨g, 0, none⟩) n c ∧ n = l.length := by
  rcases h.2 with ⟨rfl, hn⟩ | ⟨g, cap, cur, rfl, _⟩
  · omega
  · exact ⟨g, _, cap, rfl, rfl⟩
theorem ref14_Put (A : Option Addr) (len cap : Nat) (l : List Adv) (room : Nat) (x : Adv) (w : World) (hs : AdvsAre w A len cap l) (hn : len ≤ 10000) (hroom : room ≤ 1000000) :
    Calls Try.prog 62 #[.slice A len cap, .int .i64 room, .agg (rowA x)] w (PutA w (pushq l room x)) := by
  have hL : l.length = len := hs.1
  have HL := Lib.hid hL
  have HN := Lib.hid hn
  have B0 := Lib.hid (show Below w.heap.size w ((w.alloc (.cells (rowA x) 26)).alloc (.cells #[] 26)) by go_grown)
  have HS := Lib.hid (slice_keep hs B0.out)
  have HX := Lib.hid ((Blk.new w 26 (rowA x)).alloc (.cells #[] 26))
  have HO := Lib.hid (show OwnA ((w.alloc (.cells (rowA x) 26)).alloc (.cells #[] 26)) (w.alloc (.cells (rowA x) 26)).heap.size (.slice (some ⟨(w.alloc (.cells (rowA x) 26)).heap.size, 0, none⟩) 0 0) [] from World.ownsRow_made (w.alloc (.cells (rowA x) 26)) #[] 0 (Nat.le_refl _) (Nat.zero_le _) rfl)
  simp only [World.size_alloc] at HO
  have HQ := Lib.hid (show pushq l room x = if room < (l ++ [x]).length then (l ++ [x]).drop 1 else l ++ [x] from rfl)
  generalize pushq l room x = Q at *
  clear hs hL hn
  go_enter Try.func62, Try.ntmps62
  go_upto_region 3 with (first
    | (at_builtin; refine wpList_cat _ rfl (.tmp 8) (.tmp 9) 24 rfl (w.heap.size + 1) 26 _ 5 40 Adv.cells Try.underlying24 info_adv (by rfl) (by decide) (fun _ => rfl) adv_one (.slice (some ⟨w.heap.size + 1, 0, none⟩) 0 0) [] rfl HO.out A len cap l rfl HS.out (by have := HN.out; simp; omega) (by decide) (by simp) ?_; intro v1 w1 ho1 hb1 hg1; have H1 := Lib.hid ho1; have X1 := Lib.hid (HX.out.below hb1 (Nat.lt_succ_self _)); have E1 := Lib.hid (B0.out.trans (hb1.mono (Nat.le_succ _))); have Z1 := Lib.hid hb1.size; obtain ⟨A1, n1, c1, rfl, -, -⟩ := ho1.shape adv_len; have x0 := X1.out.cellv (i := 0) rfl; have x1 := X1.out.cellv (i := 1) rfl; have x2 := X1.out.cellv (i := 2) rfl; have x3 := X1.out.cellv (i := 3) rfl; have x4 := X1.out.cellv (i := 4) rfl; clear ho1 hb1 hg1)
    | (at_builtin; refine wpList_push _ rfl (.tmp 11) (.tmp 13) 24 rfl (w.heap.size + 1) 26 _ 5 40 Adv.cells Try.underlying24 info_adv (by rfl) (by decide) (fun _ => rfl) adv_one (.slice A1 n1 c1) ([] ++ l) rfl (Own.alloc H1.out _) ⟨w1.heap.size, 0, none⟩ 1 x rfl (blk_news (α := Adv) (vs := x.cells) (Blk.new _ _ _) rfl) (by have := HL.out; have := HN.out; simp; omega) (by decide) (by have := Z1.out; simp at *; omega) ?_; intro v2 w2 ho2 hb2 hg2; have H2 := Lib.hid ho2; have E2 := Lib.hid ((E1.out.alloc (Nat.le_trans B0.out.size Z1.out) _).trans (hb2.mono (Nat.le_succ _))); obtain ⟨h2, n2, c2, rfl, hn2⟩ := Own.someA ho2 adv_len (by simp); have HN2 := Lib.hid hn2; have HF := Lib.hid (show w.heap.size ≤ h2 ∧ h2 < _ from ⟨Nat.le_of_lt (World.ownsRow.lt ho2 h2 rfl).1, (World.ownsRow.lt ho2 h2 rfl).2⟩); clear ho2 hb2 hg2 hn2 x0 x1 x2 x3 x4))
  have hc2 := (ownA_is H2.out).2.1
  have hc3 : c2 ≤ 9223372036854775807 := by have := (ownA_is H2.out).2.2.1; unfold maxLen at this; omega
  have hl2 : n2 = (l ++ [x]).length := HN2.out
  have hn4 : 1 ≤ n2 := by rw [hl2]; simp
  have hn5 : n2 ≤ 20000 := by rw [hl2]; have := HL.out; have := HN.out; simp; omega
  obtain ⟨y, T, hyT⟩ : ∃ y T, l ++ [x] = y :: T := by cases l with | nil => exact ⟨_, _, rfl⟩ | cons a b => exact ⟨_, _, rfl⟩
  have H3 := Lib.hid (show OwnA w2 (w.heap.size + 1) (.slice (some ⟨h2, 0, none⟩) n2 c2) (y :: T) from hyT ▸ H2.out)
  have HT := Lib.hid hyT
  have HN3 := Lib.hid hl2
  clear hl2 hyT
  by_cases hr : room < n2
  · have H4 := Lib.hid (show Q = T by rw [HQ.out, ← HN3.out, if_pos hr, HT.out]; rfl)
    by_cases hc : c2 = 1
    · subst hc
      go_wp2
      go_ret
      refine ⟨_, _, _, rfl, ?_, E2.out, fun a ha => by cases ha; exact HF.out⟩
      have E5 := (slice_tailA H3.out).1 rfl
      have h0 : n2 - 1 = 0 := by omega
      have E6 := (slice_tailA H3.out).2.2 E5
      rw [h0] at E6
      rw [H4.out]
      exact E6
    · go_wp2
      go_ret
      refine ⟨_, _, _, rfl, ?_, E2.out, fun a ha => by cases ha; exact HF.out⟩
      rw [H4.out]
      exact (slice_tailA H3.out).2.1 hc
  · have H4 := Lib.hid (show Q = y :: T by rw [HQ.out, ← HN3.out, if_neg hr, HT.out])
    go_wp2
    go_ret
    refine ⟨_, _, _, rfl, ?_, E2.out, fun a ha => by cases ha; exact HF.out⟩
    rw [H4.out]
    exact ownA_is H3.out
end Go.Proofs.Ytjodpffdlggjgaa
/- loop's tick: the walk. (fast region) -/
namespace Go.Proofs.Ytjodpffdlggjgaa
open Go.RowKit
set_option linter.unusedSimpArgs false
set_option linter.unusedVariables false
set_option maxHeartbeats 8000000
set_option maxRecDepth 100000
abbrev stT : TypeId := 111
abbrev rwT : TypeId := 74
abbrev z5 : Array Value := #[.int .i64 0, .int .i64 0, .int .i64 0, .int .i64 0, .int .i64 0]
abbrev strow (p : Pol) (ps ph : Option Addr) (repl left : Int) : Array Value := #[.int .i64 p.min, .int .i64 p.max, .int .i64 p.target, .int .i64 p.tol, .int .i64 p.window, .int .i64 p.hold, .pointer ps, .pointer ph, .int .i64 repl, .int .i64 left]
/-- What tick keeps. -/
structure TI (w wr : World) (ps ph : Option Addr) (g : Nat) (F0 FS FH : Nat → Prop) (smps : List Smp) (past : List Adv) (cs row : Array Value) : Prop where
  ser : SerV wr ps FS smps 64
  hist : HistAt wr ph FH past 16
  blk : Blk wr g stT cs
  b6 : Blk wr w.heap.size rwT z5
  b9 : Blk wr (w.heap.size + 1) rwT row
  upd : Upd F0 w wr
  fs : ∀ k, FS k → (F0 k ∨ w.heap.size + 2 ≤ k) ∧ ¬ FH k ∧ k ≠ g
  fh : ∀ k, FH k → (F0 k ∨ w.heap.size + 2 ≤ k) ∧ k ≠ g
  f0 : F0 g
  g0 : g < w.heap.size
  flt : ∀ k, F0 k → k < w.heap.size
section ti
variable {w wr w' : World} {ps ph : Option Addr} {g : Nat} {F0 FS FH : Nat → Prop} {smps : List Smp} {past : List Adv} {cs row : Array Value}
theorem TI.call (h : TI w wr ps ph g F0 FS FH smps past cs row) (hb : Below wr.heap.size wr w') : TI w w' ps ph g F0 FS FH smps past cs row :=
  ⟨h.ser.call hb, h.hist.call hb, h.blk.call hb, h.b6.call hb, h.b9.call hb, h.upd.call hb, h.fs, h.fh, h.f0, h.g0, h.flt⟩
theorem TI.put (h : TI w wr ps ph g F0 FS FH smps past cs row) {x : Smp} {e : Ending} (hp : PutV ps FS smps 64 x wr e w') : ∃ FS', TI w w' ps ph g F0 FS' FH (putr smps 64 x) past cs row := by
  obtain ⟨F', rfl, k1, k2, k3⟩ := hp
  have hs := h.upd.size
  have nf : ∀ k, FS k → k ≠ w.heap.size ∧ k ≠ w.heap.size + 1 ∧ k ≠ g := fun k hk => by
    rcases (h.fs k hk).1 with h1 | h1
    · have := h.flt k h1; exact ⟨by omega, by omega, (h.fs k hk).2.2⟩
    · exact ⟨by omega, by omega, (h.fs k hk).2.2⟩
  refine ⟨F', k1, h.hist.upd k2 (fun k hk hs => (h.fs k hs).2.1 hk), h.blk.upd k2 (fun hk => (nf _ hk).2.2 rfl), h.b6.upd k2 (fun hk => (nf _ hk).1 rfl), h.b9.upd k2 (fun hk => (nf _ hk).2.1 rfl), ?_, ?_, h.fh, h.f0, h.g0, h.flt⟩
  · refine h.upd.trans k2 (fun k hk => ?_)
    rcases (h.fs k hk).1 with h1 | h1
    · exact .inl h1
    · exact .inr (by omega)
  · intro k hk
    have h9 := h.b9.lt
    rcases k3 k hk with hk | hk
    · exact h.fs k hk
    · refine ⟨.inr (by omega), fun hf => ?_, ?_⟩
      · have := h.hist.2 k hf; omega
      · have := h.blk.lt; omega
theorem TI.add (h : TI w wr ps ph g F0 FS FH smps past cs row) {x : Adv} {e : Ending} (hp : AddPost ph FH past 16 x wr e w') : ∃ FH', TI w w' ps ph g F0 FS FH' smps (hush past 16 x) cs row ∧ Upd FH wr w' := by
  obtain ⟨F', rfl, k1, k2, k3⟩ := hp
  have hs := h.upd.size
  have nf : ∀ k, FH k → k ≠ w.heap.size ∧ k ≠ w.heap.size + 1 ∧ k ≠ g := fun k hk => by
    rcases (h.fh k hk).1 with h1 | h1
    · have := h.flt k h1; exact ⟨by omega, by omega, (h.fh k hk).2⟩
    · exact ⟨by omega, by omega, (h.fh k hk).2⟩
  refine ⟨F', ⟨h.ser.upd k2 (fun k hk hs => (h.fs k hk).2.1 hs), k1, h.blk.upd k2 (fun hk => (nf _ hk).2.2 rfl), h.b6.upd k2 (fun hk => (nf _ hk).1 rfl), h.b9.upd k2 (fun hk => (nf _ hk).2.1 rfl), ?_, ?_, ?_, h.f0, h.g0, h.flt⟩, k2⟩
  · refine h.upd.trans k2 (fun k hk => ?_)
    rcases (h.fh k hk).1 with h1 | h1
    · exact .inl h1
    · exact .inr (by omega)
  · intro k hk
    refine ⟨(h.fs k hk).1, fun hf => ?_, (h.fs k hk).2.2⟩
    rcases k3 k hf with hf | hf
    · exact (h.fs k hk).2.1 hf
    · have := h.ser.2 k hk; omega
  · intro k hk
    have h9 := h.b9.lt
    rcases k3 k hk with hk | hk
    · exact h.fh k hk
    · exact ⟨.inr (by omega), by have := h.blk.lt; omega⟩
theorem TI.setg (h : TI w wr ps ph g F0 FS FH smps past cs row) (i : Nat) (u : Value) : TI w (wr.setCell ⟨g, i, none⟩ u) ps ph g F0 FS FH smps past (cs.setIfInBounds i u) row := by
  have hu : Upd (fun k => k = g) wr (wr.setCell ⟨g, i, none⟩ u) := (Upd.refl (fun k => k = g) wr).setCell (p := ⟨g, i, none⟩) (.inl rfl) u
  have hg := h.g0
  exact ⟨h.ser.upd hu (fun k hk => (h.fs k hk).2.2), h.hist.upd hu (fun k hk => (h.fh k hk).2), h.blk.set_ i u, h.b6.upd hu (by omega), h.b9.upd hu (by omega), h.upd.setCell (.inl h.f0) u, h.fs, h.fh, h.f0, h.g0, h.flt⟩
theorem TI.start (h1 : SerV w ps FS smps 64) (h2 : HistAt w ph FH past 16) (h3 : Blk w g stT cs) (h4 : ∀ k, FS k → ¬ FH k ∧ k ≠ g) (h5 : ∀ k, FH k → k ≠ g) (n : Nat) : TI w (((w.alloc (.cells z5 rwT)).drewN n).alloc (.cells row rwT)) ps ph g (fun k => FS k ∨ FH k ∨ k = g) FS FH smps past cs row := by
  have hb0 : Below w.heap.size w ((w.alloc (.cells z5 rwT)).drewN n) := below_drewN (by go_grown) n
  have hb : Below w.heap.size w (((w.alloc (.cells z5 rwT)).drewN n).alloc (.cells row rwT)) := hb0.alloc hb0.size _
  have h6 : Blk ((w.alloc (.cells z5 rwT)).drewN n) w.heap.size rwT z5 := Blk.new w _ _
  have h9 : Blk (((w.alloc (.cells z5 rwT)).drewN n).alloc (.cells row rwT)) (w.heap.size + 1) rwT row := by
    have h := Blk.new ((w.alloc (.cells z5 rwT)).drewN n) rwT row
    have e : ((w.alloc (.cells z5 rwT)).drewN n).heap.size = w.heap.size + 1 := by
      show (w.alloc (.cells z5 rwT)).heap.size = _
      simp
    rwa [e] at h
  refine ⟨h1.call hb, h2.call hb, h3.call hb, h6.alloc _, h9, Upd.of_below hb, fun k hk => ⟨.inl (.inl hk), h4 k hk⟩, fun k hk => ⟨.inl (.inr (.inl hk)), h5 k hk⟩, .inr (.inr rfl), h3.lt, fun k hk => ?_⟩
  rcases hk with hk | hk | rfl
  · exact h1.2 k hk
  · exact h2.2 k hk
  · exact h3.lt
theorem TI.done (h : TI w wr ps ph g F0 FS FH smps past cs row) (hg : wr.grownBy w' (some w.heap.size)) : SerV w' ps FS smps 64 ∧ HistAt w' ph FH past 16 ∧ Blk w' g stT cs ∧ Upd F0 w w' ∧ (∀ k, FS k → (F0 k ∨ w.heap.size ≤ k) ∧ ¬ FH k ∧ k ≠ g) ∧ (∀ k, FH k → (F0 k ∨ w.heap.size ≤ k) ∧ k ≠ g) := by
  have hu : Upd (fun k => k = w.heap.size) wr w' := (Upd.refl _ wr).grown hg (fun k hk => by injection hk with hk; exact .inl hk.symm)
  have hg0 := h.g0
  refine ⟨h.ser.upd hu (fun k hk e => ?_), h.hist.upd hu (fun k hk e => ?_), h.blk.upd hu (by omega), h.upd.trans hu (fun k hk => .inr (by omega)), fun k hk => ⟨(h.fs k hk).1.imp id (fun h2 => by omega), (h.fs k hk).2⟩, fun k hk => ⟨(h.fh k hk).1.imp id (fun h2 => by omega), (h.fh k hk).2⟩⟩
  · rcases (h.fs k hk).1 with h1 | h1
    · have := h.flt k h1; omega
    · omega
  · rcases (h.fh k hk).1 with h1 | h1
    · have := h.flt k h1; omega
    · omega
end ti
def TickPost (p : Pol) (ps ph : Option Addr) (g : Nat) (F0 : Nat → Prop) (row : Rw) (st' : Lst) (w : World) (e : Ending) (w' : World) : Prop := ∃ FS' FH', e = .returned (.agg row.row) ∧ SerV w' ps FS' st'.smps 64 ∧ HistAt w' ph FH' st'.past 16 ∧ Blk w' g stT (strow p ps ph st'.repl st'.left) ∧ Upd F0 w w' ∧ (∀ k, FS' k → (F0 k ∨ w.heap.size ≤ k) ∧ ¬ FH' k ∧ k ≠ g) ∧ (∀ k, FH' k → (F0 k ∨ w.heap.size ≤ k) ∧ k ≠ g)
theorem loop_tick (p : Pol) (ps ph : Option Addr) (g : Nat) (FS FH : Nat → Prop) (st : Lst) (at_ c : Int) (k : Nat) (w : World) (hp : p.fit) (hk : p.okP) (ho : LOk p k st) (ha : 0 ≤ at_) (ha2 : I64 at_) (hc : 0 ≤ c) (hc2 : I64 c) (h1 : SerV w ps FS st.smps 64) (h2 : HistAt w ph FH st.past 16) (h3 : Blk w g stT (strow p ps ph st.repl st.left)) (h4 : ∀ k, FS k → ¬ FH k ∧ k ≠ g) (h5 : ∀ k, FH k → k ≠ g) :
    Calls Try.prog 70 #[.pointer (some ⟨g, 0, none⟩), .int .i64 at_, .int .i64 c] w (TickPost p ps ph g (fun k => FS k ∨ FH k ∨ k = g) (lrow p st at_ c) (lstep p st at_ c) w) := by
  have HOk2 := (ho.next hk ha ha2 hc hc2)
  have HGd := Lib.hid (show ∀ x ∈ lsmps st at_ c, x.good from HOk2.good)
  have HLn := Lib.hid (show (lsmps st at_ c).length ≤ 64 from HOk2.len)
  obtain ⟨b1, b2, b3, b4⟩ := lrow_bd hk ho hc hc2
  obtain ⟨e1, e2⟩ := lerr hk ho ha hc hc2
  have e3 := lofe hk st at_ c
  have HRow := Lib.hid (show lrow p st at_ c = ⟨at_, c, st.repl, min (satq (st.left + c)) (satq (st.repl * p.target)), satq (st.left + c) - min (satq (st.left + c)) (satq (st.repl * p.target))⟩ from rfl)
  have HStep := Lib.hid (show lstep p st at_ c = ⟨lsmps st at_ c, pushq st.past 16 (ofq p (lsmps st at_ c) st.past), (ofq p (lsmps st at_ c) st.past).repl, satq (st.left + c) - min (satq (st.left + c)) (satq (st.repl * p.target))⟩ from rfl)
  have HAdd := Lib.hid (fun W => sat_Add st.left c W (by have := ho.left; unfold I64; omega) hc2)
  have HMul := Lib.hid (fun W => sat_Mul st.repl p.target W (by have h6 := ho.rlo; have h7 := ho.rhi; have h8 := hp.1; have h9 := hp.2.1; unfold I64 at *; omega) hp.2.2.1)
  have HOf := Lib.hid (fun W A n c2 B m d hW hW2 hn hm => (show Calls Try.prog 64 #[(.agg #[.int .i64 p.min, .int .i64 p.max, .int .i64 p.target, .int .i64 p.tol, .int .i64 p.window, .int .i64 p.hold]), .slice A n c2, .slice B m d] W fun e w' => e = .returned (.tuple #[.agg (rowA (ofq p (lsmps st at_ c) st.past)), .int .i64 (ofe p (lsmps st at_ c))]) ∧ Below W.heap.size W w' from decide_Of p A n c2 (lsmps st at_ c) B m d st.past W hp hW HGd.out hn hW2 hm))
  have HPast := Lib.hid ho.past
  obtain ⟨smps, past, repl, left⟩ := st
  simp only at *
  rw [e3] at HOf
  have HE2 := Lib.hid e2
  clear e3 e1 e2 HOk2 ho hk
  generalize lrow p ⟨smps, past, repl, left⟩ at_ c = ROW at *
  generalize lstep p ⟨smps, past, repl, left⟩ at_ c = STEP at *
  generalize lsmps ⟨smps, past, repl, left⟩ at_ c = NS at *
  generalize ofq p NS past = X at *
  generalize satq (left + c) = ALL at *
  generalize satq (repl * p.target) = MUL at *
  obtain ⟨SV, hSV, s1, s2⟩ : ∃ SV, min ALL MUL = SV ∧ 0 ≤ SV ∧ SV ≤ ALL := ⟨_, rfl, by omega, by omega⟩
  rw [hSV] at HRow HStep
  have B0 := Lib.hid (h3.alloc (.cells z5 rwT))
  have HI := Lib.hid (fun n row => TI.start (row := row) h1 h2 h3 h4 h5 n)
  clear h1 h2 h3 h4 h5
  generalize hF0 : (fun k => FS k ∨ FH k ∨ k = g) = F0 at *
  clear hF0
  have c9 := B0.out.cellv (i := 9) (v := .int .i64 left) rfl
  have c8 := B0.out.cellv (i := 8) (v := .int .i64 repl) rfl
  have c2 := B0.out.cellv (i := 2) (v := .int .i64 p.target) rfl
  go_enter Try.func70, Try.ntmps70
  focus (go_upto_region 2 with (go_at_call 72; refine (HAdd.out _).mono ?_; rintro e v1 ⟨rfl, rfl⟩))
  go_quiet ((go_at_call 102; exact Calls.quiet_of_same ((HMul.out _).mono fun _ _ h => ⟨h.1, h.2.symm⟩)))
  (try rw [hSV])
  clear hSV
  have I3 := Lib.hid (TI.setg (HI.out nq #[.int .i64 at_, .int .i64 c, .int .i64 repl, .int .i64 SV, .int .i64 (ALL - SV)]) 9 (.int .i64 (ALL - SV)))
  have B1 := Lib.hid (HI.out nq #[.int .i64 at_, .int .i64 c, .int .i64 repl, .int .i64 SV, .int .i64 (ALL - SV)]).blk
  have f9 := B1.out.frozen 9
  have g9 := B1.out.cellv (i := 9) (v := .int .i64 left) rfl
  clear HI
  have c6 := I3.out.blk.cellv (i := 6) (v := .pointer ps) rfl
  go_wp2_with fail
  refine (serv_Put ps FS smps 64 ⟨at_, ALL⟩ _ I3.out.ser).mono ?_
  intro e v5 hp
  obtain ⟨FS5, hI5⟩ := I3.out.put hp
  obtain ⟨-, rfl, -⟩ := hp
  rw [HE2.out] at hI5
  have I5 := Lib.hid (show TI w v5 ps ph g F0 FS5 FH NS past (strow p ps ph repl (ALL - SV)) #[.int .i64 at_, .int .i64 c, .int .i64 repl, .int .i64 SV, .int .i64 (ALL - SV)] from hI5)
  clear hI5 I3 B1 f9 g9 c6 c9 c8 c2 B0
  focus (go_upto_region 6 with (fail))
  refine wp_region_any (by kernel_rfl) ?_; change wpAny _ _ _ _ _ _ _ (World.drew v5); refine any_of_anyG (late := fun _ => false) (S := fun wS => Below v5.heap.size v5 wS) _ _ _ _ ?_
  have S0 := (Below.refl v5.heap.size v5).drew
  refine anyG_takes (is := [0, 1, 2, 3, 4]) (vs := [_, _, _, .agg #[.int .i64 p.min, .int .i64 p.max, .int .i64 p.target, .int .i64 p.tol, .int .i64 p.window, .int .i64 p.hold], _]) (m := 16) (listed2 := #[true, true, true, true, true, false, false, false, false, false, false, false, false, false, false, false, false, false, false, false, false]) (a2 := ⟨#[_, _, _, _, _, _, _, _, _, _, _, _, _, _, _, _, _, _, _, _, _, _, _, _, _, _, _, _, _, _, _, _, _, _, _, _, _, _, _, _, _, _, _, _, _, _, _, _, _, _, _, _, _, _, _, _, _, _, _, _, _, _, _, _, _, _, _, _, _, _, _, _, _, _, _, _, _, _, _, _, _, _, _, _, _], _⟩) (by kernel_rfl) (fun j hj => by simp at hj) (by kernel_rfl) (fun _ _ _ _ _ h => h) (Ys.cons rfl (Or.inl ⟨by rfl, fun W1 hW1 => by first | rfl | (go_simp; done) | (go_simp; with_reducible rfl)⟩) (Ys.cons rfl (Or.inl ⟨by rfl, fun W1 hW1 => by first | rfl | (go_simp; done) | (go_simp; with_reducible rfl)⟩) (Ys.cons rfl (Or.inl ⟨by rfl, fun W1 hW1 => by first | rfl | (go_simp; done) | (go_simp; with_reducible rfl)⟩) (Ys.cons rfl (Or.inl ⟨by rfl, fun W1 hW1 => by have c0 := (I5.out.call hW1).blk.cellv (i := 0) (v := .int .i64 p.min) rfl; have c1 := (I5.out.call hW1).blk.cellv (i := 1) (v := .int .i64 p.max) rfl; have c2 := (I5.out.call hW1).blk.cellv (i := 2) (v := .int .i64 p.target) rfl; have c3 := (I5.out.call hW1).blk.cellv (i := 3) (v := .int .i64 p.tol) rfl; have c4 := (I5.out.call hW1).blk.cellv (i := 4) (v := .int .i64 p.window) rfl; have c5 := (I5.out.call hW1).blk.cellv (i := 5) (v := .int .i64 p.hold) rfl; go_simp⟩) (Ys.cons rfl (Or.inl ⟨by rfl, fun W1 hW1 => by first | rfl | (go_simp; done) | (go_simp; with_reducible rfl)⟩) (Ys.nil)))))) (S0) (by rfl) (by rfl) ?_
  refine anyG_takes (is := [5, 6, 7, 9, 10]) (vs := [_, _, .pointer ps, _, _]) (m := 11) (listed2 := #[true, true, true, true, true, true, true, true, false, true, true, false, false, false, false, false, false, false, false, false, false]) (a2 := ⟨#[_, _, _, _, _, _, _, _, _, _, _, _, _, _, _, _, _, _, _, _, _, _, _, _, _, _, _, _, _, _, _, _, _, _, _, _, _, _, _, _, _, _, _, _, _, _, _, _, _, _, _, _, _, _, _, _, _, _, _, _, _, _, _, _, _, _, _, _, _, _, _, _, _, _, _, _, _, _, _, _, _, _, _, _, _], _⟩) (by kernel_rfl) (fun j hj => by simp at hj) (by kernel_rfl) (fun _ _ _ _ _ h => h) (Ys.cons rfl (Or.inl ⟨by rfl, fun W1 hW1 => by first | rfl | (go_simp; done) | (go_simp; with_reducible rfl)⟩) (Ys.cons rfl (Or.inl ⟨by rfl, fun W1 hW1 => by first | rfl | (go_simp; done) | (go_simp; with_reducible rfl)⟩) (Ys.cons rfl (Or.inl ⟨by rfl, fun W1 hW1 => by have c6 := (I5.out.call hW1).blk.cellv (i := 6) (v := .pointer ps) rfl; go_simp⟩) (Ys.cons rfl (Or.inl ⟨by rfl, fun W1 hW1 => by first | rfl | (go_simp; done) | (go_simp; with_reducible rfl)⟩) (Ys.cons rfl (Or.inl ⟨by rfl, fun W1 hW1 => by first | rfl | (go_simp; done) | (go_simp; with_reducible rfl)⟩) (Ys.nil)))))) (S0) (by rfl) (by rfl) ?_
  refine anyG_takes (is := [11, 12]) (vs := [_, .pointer ph]) (m := 9) (listed2 := #[true, true, true, true, true, true, true, true, false, true, true, true, true, false, false, false, false, false, false, false, false]) (a2 := ⟨#[_, _, _, _, _, _, _, _, _, _, _, _, _, _, _, _, _, _, _, _, _, _, _, _, _, _, _, _, _, _, _, _, _, _, _, _, _, _, _, _, _, _, _, _, _, _, _, _, _, _, _, _, _, _, _, _, _, _, _, _, _, _, _, _, _, _, _, _, _, _, _, _, _, _, _, _, _, _, _, _, _, _, _, _, _], _⟩) (by kernel_rfl) (fun j hj => by simp at hj) (by kernel_rfl) (fun _ _ _ _ _ h => h) (Ys.cons rfl (Or.inl ⟨by rfl, fun W1 hW1 => by first | rfl | (go_simp; done) | (go_simp; with_reducible rfl)⟩) (Ys.cons rfl (Or.inl ⟨by rfl, fun W1 hW1 => by have c7 := (I5.out.call hW1).blk.cellv (i := 7) (v := .pointer ph) rfl; go_simp⟩) (Ys.nil))) (S0) (by rfl) (by rfl) ?_
  refine anyG_two (i := 8) (j := 18) (by kernel_rfl) rfl (by rfl) rfl (by rfl) (fun Q2 hQ2 => ?_) (fun Q2 hQ2 => ?_)
  ·
    go_wp2_with (go_at_call 54; refine (serv_List ps FS5 NS 64 _ (I5.out.ser.call S0)).mono ?_; rintro e v6 ⟨A6, n6, c6, rfl, ho6, hb6⟩; have L6 := Lib.hid (ho6.is smp_len); clear ho6; (try have bG := bG.call hb6))
    refine hQ2 _ _ (fun _ => S0.trans (hb6.mono S0.size)) ?_
    clear hQ2 Q2
    have S6 := S0.trans (hb6.mono S0.size)
    refine anyG_two (i := 13) (j := 18) (by kernel_rfl) rfl (by rfl) rfl (by rfl) (fun Q2 hQ2 => ?_) (fun Q2 hQ2 => ?_)
    ·
      go_wp2_with (go_at_call 60; refine (history_List ph FH past 16 _ (I5.out.hist.call S6)).mono ?_; rintro e v7 ⟨u7, rfl, ho7, hb7⟩; obtain ⟨A7, n7, c7, rfl, -, -⟩ := ho7.shape adv_len; have L7 := Lib.hid (ownA_is ho7); have M6 := Lib.hid (by first | exact slice_keep L6.out hb7 | exact slice_keep (slice_keep L6.out (by go_grown)) hb7); clear L6 ho7; (try have bG := bG.call hb7))
      refine hQ2 _ _ (fun _ => S6.trans (hb7.mono S6.size)) ?_
      clear hQ2 Q2
      have S7 := S6.trans (hb7.mono S6.size)
      refine anyG_two (i := 14) (j := 18) (by kernel_rfl) rfl (by rfl) rfl (by rfl) (fun Q2 hQ2 => ?_) (fun Q2 hQ2 => ?_)
      ·
        go_wp2_with (go_at_call 64; refine (HOf.out _ A6 n6 c6 A7 n7 c7 (by first | exact M6.out | exact slice_keep M6.out (by go_grown)) (by first | exact L7.out | exact slice_keep L7.out (by go_grown)) (by rw [← M6.out.1]; have := HLn.out; omega) (by rw [← L7.out.1]; have := HPast.out; omega)).mono ?_; rintro e v8 ⟨rfl, hb8⟩; (try have bG := bG.call hb8))
        refine hQ2 _ _ (fun _ => S7.trans (hb8.mono S7.size)) ?_
        clear hQ2 Q2
        have S8 := S7.trans (hb8.mono S7.size)
        refine anyG_takes (is := [15, 16, 17]) (vs := [_, _, _]) (m := 3) (listed2 := #[true, true, true, true, true, true, true, true, true, true, true, true, true, true, true, true, true, true, false, false, false]) (a2 := ⟨#[_, _, _, _, _, _, _, _, _, _, _, _, _, _, _, _, _, _, _, _, _, _, _, _, _, _, _, _, _, _, _, _, _, _, _, _, _, _, _, _, _, _, _, _, _, _, _, _, _, _, _, _, _, _, _, _, _, _, _, _, _, _, _, _, _, _, _, _, _, _, _, _, _, _, _, _, _, _, _, _, _, _, _, _, _], _⟩) (by kernel_rfl) (fun j hj => by simp at hj) (by kernel_rfl) (fun _ _ _ _ _ h => h) (Ys.cons rfl (Or.inl ⟨by rfl, fun W1 hW1 => by first | rfl | (go_simp; done) | (go_simp; with_reducible rfl)⟩) (Ys.cons rfl (Or.inl ⟨by rfl, fun W1 hW1 => by first | rfl | (go_simp; done) | (go_simp; with_reducible rfl)⟩) (Ys.cons rfl (Or.inl ⟨by rfl, fun W1 hW1 => by first | rfl | (go_simp; done) | (go_simp; with_reducible rfl)⟩) (Ys.nil)))) (S8) (by rfl) (by rfl) ?_
        refine anyG_one (k := 18) (by kernel_rfl) rfl (by rfl) (fun Q2 hQ2 => ?_)
        have nG := new_at (S := S8) (zA) 26
        obtain ⟨G, hG, bG, lG⟩ := nG
        go_wp2_with fail
        refine hQ2 _ _ (fun _ => S8.alloc S8.size _) ?_
        clear hQ2 Q2
        (try simp only [hG])
        clear hG
        have SG := S8.alloc S8.size (.cells (zA) 26)
        refine anyG_one (k := 19) (by kernel_rfl) rfl (by rfl) (fun Q2 hQ2 => ?_); go_wp2_with (refine wpList_store_row rfl 26 (.tmp 10) _ rfl _ _ _ _ rfl rfl (bG) (by rfl) (by kernel_rfl) (by simp [Value.oneCell']) ?_; intro uG huG hwG); refine hQ2 _ _ (fun _ => SG.trans (Only.below hwG lG SG.size)) ?_; clear hQ2 Q2
        have SsG := SG.trans (Only.below hwG lG SG.size)
        refine anyG_takes (is := [20]) (vs := [.int .i64 0]) (m := 0) (listed2 := #[true, true, true, true, true, true, true, true, true, true, true, true, true, true, true, true, true, true, true, true, true]) (a2 := ⟨#[_, _, _, _, _, _, _, _, _, _, _, _, _, _, _, _, _, _, _, _, _, _, _, _, _, _, _, _, _, _, _, _, _, _, _, _, _, _, _, _, _, _, _, _, _, _, _, _, _, _, _, _, _, _, _, _, _, _, _, _, _, _, _, _, _, _, _, _, _, _, _, _, _, _, _, _, _, _, _, _, _, _, _, _, _], _⟩) (by kernel_rfl) (fun j hj => by simp at hj) (by kernel_rfl) (fun _ _ _ _ _ h => h) (Ys.cons rfl (Or.inl ⟨by rfl, fun W1 hW1 => by rfl⟩) (Ys.nil)) (SsG) (by rfl) (by rfl) ?_
        refine anyG_done (by kernel_rfl) ?_ _
        have G9 := Lib.hid huG
        have I9 := Lib.hid (I5.out.call (SsG))
        have lG9 := Lib.hid lG
        clear hb6 hb7 hb8
        focus (go_upto_region 8 with (fail))
        refine wp_region_any (by kernel_rfl) ?_; change wpAny _ _ _ _ _ _ _ (World.drew uG); refine any_of_anyG (late := fun j => [5].contains j) (S := fun wS => Below uG.heap.size uG wS) _ _ _ _ ?_
        have S0 := (Below.refl uG.heap.size uG).drew
        refine anyG_takes (is := [4]) (vs := [_]) (m := 5) (listed2 := #[false, false, false, false, true, false]) (a2 := ⟨#[_, _, _, _, _, _, _, _, _, _, _, _, _, _, _, _, _, _, _, _, _, _, _, _, _, _, _, _, _, _, _, _, _, _, _, _, _, _, _, _, _, _, _, _, _, _, _, _, _, _, _, _, _, _, _, _, _, _, _, _, _, _, _, _, _, _, _, _, _, _, _, _, _, _, _, _, _, _, _, _, _, _, _, _, _], _⟩) (by kernel_rfl) (fun j hj => by first | (simp at hj; done) | (simp at hj; simp; omega)) (by kernel_rfl) (fun _ _ _ _ _ h => h) (Ys.cons rfl (Or.inl ⟨by rfl, fun W1 hW1 => exec_load (ty := 26) (x := .tmp 10) rfl rfl (run_loadAt_blk _ _ _ _ _ _ (G9.out.call hW1) Try.underlying26 rfl (by first | kernel_rfl | exact info_num _))⟩) (Ys.nil)) (S0) (by rfl) (by rfl) ?_
        refine anyG_one (k := 0) (by kernel_rfl) rfl (by rfl) (fun Q2 hQ2 => ?_); go_wp2_with fail; refine hQ2 _ _ (fun _ => S0) ?_; clear hQ2 Q2
        refine anyG_one (k := 1) (by kernel_rfl) rfl (by rfl) (fun Q2 hQ2 => ?_); go_wp2_with fail; refine hQ2 _ _ (fun _ => S0) ?_; clear hQ2 Q2
        refine anyG_one (k := 2) (by kernel_rfl) rfl (by rfl) (fun Q2 hQ2 => ?_); go_wp2_with fail; refine hQ2 _ _ (fun _ => S0) ?_; clear hQ2 Q2
        refine anyG_takes (is := [3]) (vs := [.pointer ph]) (m := 1) (listed2 := #[true, true, true, true, true, false]) (a2 := ⟨#[_, _, _, _, _, _, _, _, _, _, _, _, _, _, _, _, _, _, _, _, _, _, _, _, _, _, _, _, _, _, _, _, _, _, _, _, _, _, _, _, _, _, _, _, _, _, _, _, _, _, _, _, _, _, _, _, _, _, _, _, _, _, _, _, _, _, _, _, _, _, _, _, _, _, _, _, _, _, _, _, _, _, _, _, _], _⟩) (by kernel_rfl) (fun j hj => by first | (simp at hj; done) | (simp at hj; simp; omega)) (by kernel_rfl) (fun _ _ _ _ _ h => h) (Ys.cons rfl (Or.inl ⟨by rfl, fun W1 hW1 => by have c7 := (I9.out.call hW1).blk.cellv (i := 7) (v := .pointer ph) rfl; go_simp⟩) (Ys.nil)) (S0) (by rfl) (by rfl) ?_
        refine anyG_of_any _ _ _ _ (by kernel_rfl) ?_
        refine any_one (k := 5) (by kernel_rfl) rfl (by rfl) (fun Q2 hQ2 => ?_); go_wp2_with (go_at_call 61; refine (history_Add ph FH past 16 X _ (I9.out.call S0).hist).mono ?_; intro e v10 hp; obtain ⟨FH2, hI10, hU10⟩ := (I9.out.call S0).add hp; obtain ⟨-, rfl, -⟩ := hp; have I10 := Lib.hid hI10; have G10 := Lib.hid ((G9.out.call S0).upd hU10 (fun hf => (by have h1 := I5.out.hist.2 _ hf; have h2 := lG9.out; omega)))); (try refine hQ2 _ _ ?_); (try clear hQ2 Q2)
        refine wpAny_done (by kernel_rfl) ?_ _
        rw [lhush] at I10
        have g3 := G10.out.cellv (i := 3) (v := .int .i64 X.repl) rfl
        have f8 := I10.out.blk.frozen 8
        have r8 := I10.out.blk.cellv (i := 8) (v := .int .i64 repl) rfl
        have I11 := Lib.hid (show TI w (v10.setCell ⟨g, 8, none⟩ (.int .i64 X.repl)) ps ph g F0 FS5 FH2 NS (pushq past 16 X) (strow p ps ph X.repl (ALL - SV)) #[.int .i64 at_, .int .i64 c, .int .i64 repl, .int .i64 SV, .int .i64 (ALL - SV)] from I10.out.setg 8 (.int .i64 X.repl))
        clear hI10 hU10 I9 I5 I10 G9 G10
        go_wp2_with (first
          | (refine Blk.load rfl 74 (.tmp 9) rfl _ _ _ _ rfl I11.out.b9 Try.underlying74 rfl (by kernel_rfl) ?_)
          | (refine wpList_store_row rfl 74 (.tmp 6) (.tmp 84) rfl w.heap.size _ _ _ rfl rfl I11.out.b6 (by rfl) (by kernel_rfl) (by simp [Value.oneCell']) ?_; intro w9 hb9 hg9))
        have hdone := I11.out.done hg9
        refine bodyPost_ret (results_row rfl _ _ w.heap.size _ _ _ rfl hb9 Try.underlying74 rfl (by kernel_rfl)) rfl ?_
        unfold TickPost
        rw [HRow.out, HStep.out]
        exact ⟨FS5, FH2, rfl, hdone.1, hdone.2.1, hdone.2.2.1, hdone.2.2.2.1, hdone.2.2.2.2.1, hdone.2.2.2.2.2⟩
      ·
        skip
        have nG := new_at (S := S7) (zA) 26
        obtain ⟨G, hG, bG, lG⟩ := nG
        go_wp2_with fail
        refine hQ2 _ _ (fun _ => S7.alloc S7.size _) ?_
        clear hQ2 Q2
        (try simp only [hG])
        clear hG
        have SG := S7.alloc S7.size (.cells (zA) 26)
        refine anyG_one (k := 14) (by kernel_rfl) rfl (by rfl) (fun Q2 hQ2 => ?_); go_wp2_with (go_at_call 64; refine (HOf.out _ A6 n6 c6 A7 n7 c7 (by first | exact M6.out | exact slice_keep M6.out (by go_grown)) (by first | exact L7.out | exact slice_keep L7.out (by go_grown)) (by rw [← M6.out.1]; have := HLn.out; omega) (by rw [← L7.out.1]; have := HPast.out; omega)).mono ?_; rintro e v8 ⟨rfl, hb8⟩; (try have bG := bG.call hb8)); refine hQ2 _ _ (fun _ => SG.trans (hb8.mono SG.size)) ?_; clear hQ2 Q2
        have S8 := SG.trans (hb8.mono SG.size)
        refine anyG_takes (is := [15, 16, 17]) (vs := [_, _, _]) (m := 2) (listed2 := #[true, true, true, true, true, true, true, true, true, true, true, true, true, true, true, true, true, true, true, false, false]) (a2 := ⟨#[_, _, _, _, _, _, _, _, _, _, _, _, _, _, _, _, _, _, _, _, _, _, _, _, _, _, _, _, _, _, _, _, _, _, _, _, _, _, _, _, _, _, _, _, _, _, _, _, _, _, _, _, _, _, _, _, _, _, _, _, _, _, _, _, _, _, _, _, _, _, _, _, _, _, _, _, _, _, _, _, _, _, _, _, _], _⟩) (by kernel_rfl) (fun j hj => by simp at hj) (by kernel_rfl) (fun _ _ _ _ _ h => h) (Ys.cons rfl (Or.inl ⟨by rfl, fun W1 hW1 => by first | rfl | (go_simp; done) | (go_simp; with_reducible rfl)⟩) (Ys.cons rfl (Or.inl ⟨by rfl, fun W1 hW1 => by first | rfl | (go_simp; done) | (go_simp; with_reducible rfl)⟩) (Ys.cons rfl (Or.inl ⟨by rfl, fun W1 hW1 => by first | rfl | (go_simp; done) | (go_simp; with_reducible rfl)⟩) (Ys.nil)))) (S8) (by rfl) (by rfl) ?_
        refine anyG_one (k := 19) (by kernel_rfl) rfl (by rfl) (fun Q2 hQ2 => ?_); go_wp2_with (refine wpList_store_row rfl 26 (.tmp 10) _ rfl _ _ _ _ rfl rfl (bG) (by rfl) (by kernel_rfl) (by simp [Value.oneCell']) ?_; intro uG huG hwG); refine hQ2 _ _ (fun _ => S8.trans (Only.below hwG lG S8.size)) ?_; clear hQ2 Q2
        have SsG := S8.trans (Only.below hwG lG S8.size)
        refine anyG_takes (is := [20]) (vs := [.int .i64 0]) (m := 0) (listed2 := #[true, true, true, true, true, true, true, true, true, true, true, true, true, true, true, true, true, true, true, true, true]) (a2 := ⟨#[_, _, _, _, _, _, _, _, _, _, _, _, _, _, _, _, _, _, _, _, _, _, _, _, _, _, _, _, _, _, _, _, _, _, _, _, _, _, _, _, _, _, _, _, _, _, _, _, _, _, _, _, _, _, _, _, _, _, _, _, _, _, _, _, _, _, _, _, _, _, _, _, _, _, _, _, _, _, _, _, _, _, _, _, _], _⟩) (by kernel_rfl) (fun j hj => by simp at hj) (by kernel_rfl) (fun _ _ _ _ _ h => h) (Ys.cons rfl (Or.inl ⟨by rfl, fun W1 hW1 => by rfl⟩) (Ys.nil)) (SsG) (by rfl) (by rfl) ?_
        refine anyG_done (by kernel_rfl) ?_ _
        have G9 := Lib.hid huG
        have I9 := Lib.hid (I5.out.call (SsG))
        have lG9 := Lib.hid lG
        clear hb6 hb7 hb8
        focus (go_upto_region 8 with (fail))
        refine wp_region_any (by kernel_rfl) ?_; change wpAny _ _ _ _ _ _ _ (World.drew uG); refine any_of_anyG (late := fun j => [5].contains j) (S := fun wS => Below uG.heap.size uG wS) _ _ _ _ ?_
        have S0 := (Below.refl uG.heap.size uG).drew
        refine anyG_takes (is := [4]) (vs := [_]) (m := 5) (listed2 := #[false, false, false, false, true, false]) (a2 := ⟨#[_, _, _, _, _, _, _, _, _, _, _, _, _, _, _, _, _, _, _, _, _, _, _, _, _, _, _, _, _, _, _, _, _, _, _, _, _, _, _, _, _, _, _, _, _, _, _, _, _, _, _, _, _, _, _, _, _, _, _, _, _, _, _, _, _, _, _, _, _, _, _, _, _, _, _, _, _, _, _, _, _, _, _, _, _], _⟩) (by kernel_rfl) (fun j hj => by first | (simp at hj; done) | (simp at hj; simp; omega)) (by kernel_rfl) (fun _ _ _ _ _ h => h) (Ys.cons rfl (Or.inl ⟨by rfl, fun W1 hW1 => exec_load (ty := 26) (x := .tmp 10) rfl rfl (run_loadAt_blk _ _ _ _ _ _ (G9.out.call hW1) Try.underlying26 rfl (by first | kernel_rfl | exact info_num _))⟩) (Ys.nil)) (S0) (by rfl) (by rfl) ?_
        refine anyG_one (k := 0) (by kernel_rfl) rfl (by rfl) (fun Q2 hQ2 => ?_); go_wp2_with fail; refine hQ2 _ _ (fun _ => S0) ?_; clear hQ2 Q2
        refine anyG_one (k := 1) (by kernel_rfl) rfl (by rfl) (fun Q2 hQ2 => ?_); go_wp2_with fail; refine hQ2 _ _ (fun _ => S0) ?_; clear hQ2 Q2
        refine anyG_one (k := 2) (by kernel_rfl) rfl (by rfl) (fun Q2 hQ2 => ?_); go_wp2_with fail; refine hQ2 _ _ (fun _ => S0) ?_; clear hQ2 Q2
        refine anyG_takes (is := [3]) (vs := [.pointer ph]) (m := 1) (listed2 := #[true, true, true, true, true, false]) (a2 := ⟨#[_, _, _, _, _, _, _, _, _, _, _, _, _, _, _, _, _, _, _, _, _, _, _, _, _, _, _, _, _, _, _, _, _, _, _, _, _, _, _, _, _, _, _, _, _, _, _, _, _, _, _, _, _, _, _, _, _, _, _, _, _, _, _, _, _, _, _, _, _, _, _, _, _, _, _, _, _, _, _, _, _, _, _, _, _], _⟩) (by kernel_rfl) (fun j hj => by first | (simp at hj; done) | (simp at hj; simp; omega)) (by kernel_rfl) (fun _ _ _ _ _ h => h) (Ys.cons rfl (Or.inl ⟨by rfl, fun W1 hW1 => by have c7 := (I9.out.call hW1).blk.cellv (i := 7) (v := .pointer ph) rfl; go_simp⟩) (Ys.nil)) (S0) (by rfl) (by rfl) ?_
        refine anyG_of_any _ _ _ _ (by kernel_rfl) ?_
        refine any_one (k := 5) (by kernel_rfl) rfl (by rfl) (fun Q2 hQ2 => ?_); go_wp2_with (go_at_call 61; refine (history_Add ph FH past 16 X _ (I9.out.call S0).hist).mono ?_; intro e v10 hp; obtain ⟨FH2, hI10, hU10⟩ := (I9.out.call S0).add hp; obtain ⟨-, rfl, -⟩ := hp; have I10 := Lib.hid hI10; have G10 := Lib.hid ((G9.out.call S0).upd hU10 (fun hf => (by have h1 := I5.out.hist.2 _ hf; have h2 := lG9.out; omega)))); (try refine hQ2 _ _ ?_); (try clear hQ2 Q2)
        refine wpAny_done (by kernel_rfl) ?_ _
        rw [lhush] at I10
        have g3 := G10.out.cellv (i := 3) (v := .int .i64 X.repl) rfl
        have f8 := I10.out.blk.frozen 8
        have r8 := I10.out.blk.cellv (i := 8) (v := .int .i64 repl) rfl
        have I11 := Lib.hid (show TI w (v10.setCell ⟨g, 8, none⟩ (.int .i64 X.repl)) ps ph g F0 FS5 FH2 NS (pushq past 16 X) (strow p ps ph X.repl (ALL - SV)) #[.int .i64 at_, .int .i64 c, .int .i64 repl, .int .i64 SV, .int .i64 (ALL - SV)] from I10.out.setg 8 (.int .i64 X.repl))
        clear hI10 hU10 I9 I5 I10 G9 G10
        go_wp2_with (first
          | (refine Blk.load rfl 74 (.tmp 9) rfl _ _ _ _ rfl I11.out.b9 Try.underlying74 rfl (by kernel_rfl) ?_)
          | (refine wpList_store_row rfl 74 (.tmp 6) (.tmp 84) rfl w.heap.size _ _ _ rfl rfl I11.out.b6 (by rfl) (by kernel_rfl) (by simp [Value.oneCell']) ?_; intro w9 hb9 hg9))
        have hdone := I11.out.done hg9
        refine bodyPost_ret (results_row rfl _ _ w.heap.size _ _ _ rfl hb9 Try.underlying74 rfl (by kernel_rfl)) rfl ?_
        unfold TickPost
        rw [HRow.out, HStep.out]
        exact ⟨FS5, FH2, rfl, hdone.1, hdone.2.1, hdone.2.2.1, hdone.2.2.2.1, hdone.2.2.2.2.1, hdone.2.2.2.2.2⟩
    ·
      skip
      have nG := new_at (S := S6) (zA) 26
      obtain ⟨G, hG, bG, lG⟩ := nG
      go_wp2_with fail
      refine hQ2 _ _ (fun _ => S6.alloc S6.size _) ?_
      clear hQ2 Q2
      (try simp only [hG])
      clear hG
      have SG := S6.alloc S6.size (.cells (zA) 26)
      refine anyG_one (k := 13) (by kernel_rfl) rfl (by rfl) (fun Q2 hQ2 => ?_); go_wp2_with (go_at_call 60; refine (history_List ph FH past 16 _ (I5.out.hist.call SG)).mono ?_; rintro e v7 ⟨u7, rfl, ho7, hb7⟩; obtain ⟨A7, n7, c7, rfl, -, -⟩ := ho7.shape adv_len; have L7 := Lib.hid (ownA_is ho7); have M6 := Lib.hid (by first | exact slice_keep L6.out hb7 | exact slice_keep (slice_keep L6.out (by go_grown)) hb7); clear L6 ho7; (try have bG := bG.call hb7)); refine hQ2 _ _ (fun _ => SG.trans (hb7.mono SG.size)) ?_; clear hQ2 Q2
      have S7 := SG.trans (hb7.mono SG.size)
      refine anyG_one (k := 14) (by kernel_rfl) rfl (by rfl) (fun Q2 hQ2 => ?_); go_wp2_with (go_at_call 64; refine (HOf.out _ A6 n6 c6 A7 n7 c7 (by first | exact M6.out | exact slice_keep M6.out (by go_grown)) (by first | exact L7.out | exact slice_keep L7.out (by go_grown)) (by rw [← M6.out.1]; have := HLn.out; omega) (by rw [← L7.out.1]; have := HPast.out; omega)).mono ?_; rintro e v8 ⟨rfl, hb8⟩; (try have bG := bG.call hb8)); refine hQ2 _ _ (fun _ => S7.trans (hb8.mono S7.size)) ?_; clear hQ2 Q2
      have S8 := S7.trans (hb8.mono S7.size)
      refine anyG_takes (is := [15, 16, 17]) (vs := [_, _, _]) (m := 2) (listed2 := #[true, true, true, true, true, true, true, true, true, true, true, true, true, true, true, true, true, true, true, false, false]) (a2 := ⟨#[_, _, _, _, _, _, _, _, _, _, _, _, _, _, _, _, _, _, _, _, _, _, _, _, _, _, _, _, _, _, _, _, _, _, _, _, _, _, _, _, _, _, _, _, _, _, _, _, _, _, _, _, _, _, _, _, _, _, _, _, _, _, _, _, _, _, _, _, _, _, _, _, _, _, _, _, _, _, _, _, _, _, _, _, _], _⟩) (by kernel_rfl) (fun j hj => by simp at hj) (by kernel_rfl) (fun _ _ _ _ _ h => h) (Ys.cons rfl (Or.inl ⟨by rfl, fun W1 hW1 => by first | rfl | (go_simp; done) | (go_simp; with_reducible rfl)⟩) (Ys.cons rfl (Or.inl ⟨by rfl, fun W1 hW1 => by first | rfl | (go_simp; done) | (go_simp; with_reducible rfl)⟩) (Ys.cons rfl (Or.inl ⟨by rfl, fun W1 hW1 => by first | rfl | (go_simp; done) | (go_simp; with_reducible rfl)⟩) (Ys.nil)))) (S8) (by rfl) (by rfl) ?_
      refine anyG_one (k := 19) (by kernel_rfl) rfl (by rfl) (fun Q2 hQ2 => ?_); go_wp2_with (refine wpList_store_row rfl 26 (.tmp 10) _ rfl _ _ _ _ rfl rfl (bG) (by rfl) (by kernel_rfl) (by simp [Value.oneCell']) ?_; intro uG huG hwG); refine hQ2 _ _ (fun _ => S8.trans (Only.below hwG lG S8.size)) ?_; clear hQ2 Q2
      have SsG := S8.trans (Only.below hwG lG S8.size)
      refine anyG_takes (is := [20]) (vs := [.int .i64 0]) (m := 0) (listed2 := #[true, true, true, true, true, true, true, true, true, true, true, true, true, true, true, true, true, true, true, true, true]) (a2 := ⟨#[_, _, _, _, _, _, _, _, _, _, _, _, _, _, _, _, _, _, _, _, _, _, _, _, _, _, _, _, _, _, _, _, _, _, _, _, _, _, _, _, _, _, _, _, _, _, _, _, _, _, _, _, _, _, _, _, _, _, _, _, _, _, _, _, _, _, _, _, _, _, _, _, _, _, _, _, _, _, _, _, _, _, _, _, _], _⟩) (by kernel_rfl) (fun j hj => by simp at hj) (by kernel_rfl) (fun _ _ _ _ _ h => h) (Ys.cons rfl (Or.inl ⟨by rfl, fun W1 hW1 => by rfl⟩) (Ys.nil)) (SsG) (by rfl) (by rfl) ?_
      refine anyG_done (by kernel_rfl) ?_ _
      have G9 := Lib.hid huG
      have I9 := Lib.hid (I5.out.call (SsG))
      have lG9 := Lib.hid lG
      clear hb6 hb7 hb8
      focus (go_upto_region 8 with (fail))
      refine wp_region_any (by kernel_rfl) ?_; change wpAny _ _ _ _ _ _ _ (World.drew uG); refine any_of_anyG (late := fun j => [5].contains j) (S := fun wS => Below uG.heap.size uG wS) _ _ _ _ ?_
      have S0 := (Below.refl uG.heap.size uG).drew
      refine anyG_takes (is := [4]) (vs := [_]) (m := 5) (listed2 := #[false, false, false, false, true, false]) (a2 := ⟨#[_, _, _, _, _, _, _, _, _, _, _, _, _, _, _, _, _, _, _, _, _, _, _, _, _, _, _, _, _, _, _, _, _, _, _, _, _, _, _, _, _, _, _, _, _, _, _, _, _, _, _, _, _, _, _, _, _, _, _, _, _, _, _, _, _, _, _, _, _, _, _, _, _, _, _, _, _, _, _, _, _, _, _, _, _], _⟩) (by kernel_rfl) (fun j hj => by first | (simp at hj; done) | (simp at hj; simp; omega)) (by kernel_rfl) (fun _ _ _ _ _ h => h) (Ys.cons rfl (Or.inl ⟨by rfl, fun W1 hW1 => exec_load (ty := 26) (x := .tmp 10) rfl rfl (run_loadAt_blk _ _ _ _ _ _ (G9.out.call hW1) Try.underlying26 rfl (by first | kernel_rfl | exact info_num _))⟩) (Ys.nil)) (S0) (by rfl) (by rfl) ?_
      refine anyG_one (k := 0) (by kernel_rfl) rfl (by rfl) (fun Q2 hQ2 => ?_); go_wp2_with fail; refine hQ2 _ _ (fun _ => S0) ?_; clear hQ2 Q2
      refine anyG_one (k := 1) (by kernel_rfl) rfl (by rfl) (fun Q2 hQ2 => ?_); go_wp2_with fail; refine hQ2 _ _ (fun _ => S0) ?_; clear hQ2 Q2
      refine anyG_one (k := 2) (by kernel_rfl) rfl (by rfl) (fun Q2 hQ2 => ?_); go_wp2_with fail; refine hQ2 _ _ (fun _ => S0) ?_; clear hQ2 Q2
      refine anyG_takes (is := [3]) (vs := [.pointer ph]) (m := 1) (listed2 := #[true, true, true, true, true, false]) (a2 := ⟨#[_, _, _, _, _, _, _, _, _, _, _, _, _, _, _, _, _, _, _, _, _, _, _, _, _, _, _, _, _, _, _, _, _, _, _, _, _, _, _, _, _, _, _, _, _, _, _, _, _, _, _, _, _, _, _, _, _, _, _, _, _, _, _, _, _, _, _, _, _, _, _, _, _, _, _, _, _, _, _, _, _, _, _, _, _], _⟩) (by kernel_rfl) (fun j hj => by first | (simp at hj; done) | (simp at hj; simp; omega)) (by kernel_rfl) (fun _ _ _ _ _ h => h) (Ys.cons rfl (Or.inl ⟨by rfl, fun W1 hW1 => by have c7 := (I9.out.call hW1).blk.cellv (i := 7) (v := .pointer ph) rfl; go_simp⟩) (Ys.nil)) (S0) (by rfl) (by rfl) ?_
      refine anyG_of_any _ _ _ _ (by kernel_rfl) ?_
      refine any_one (k := 5) (by kernel_rfl) rfl (by rfl) (fun Q2 hQ2 => ?_); go_wp2_with (go_at_call 61; refine (history_Add ph FH past 16 X _ (I9.out.call S0).hist).mono ?_; intro e v10 hp; obtain ⟨FH2, hI10, hU10⟩ := (I9.out.call S0).add hp; obtain ⟨-, rfl, -⟩ := hp; have I10 := Lib.hid hI10; have G10 := Lib.hid ((G9.out.call S0).upd hU10 (fun hf => (by have h1 := I5.out.hist.2 _ hf; have h2 := lG9.out; omega)))); (try refine hQ2 _ _ ?_); (try clear hQ2 Q2)
      refine wpAny_done (by kernel_rfl) ?_ _
      rw [lhush] at I10
      have g3 := G10.out.cellv (i := 3) (v := .int .i64 X.repl) rfl
      have f8 := I10.out.blk.frozen 8
      have r8 := I10.out.blk.cellv (i := 8) (v := .int .i64 repl) rfl
      have I11 := Lib.hid (show TI w (v10.setCell ⟨g, 8, none⟩ (.int .i64 X.repl)) ps ph g F0 FS5 FH2 NS (pushq past 16 X) (strow p ps ph X.repl (ALL - SV)) #[.int .i64 at_, .int .i64 c, .int .i64 repl, .int .i64 SV, .int .i64 (ALL - SV)] from I10.out.setg 8 (.int .i64 X.repl))
      clear hI10 hU10 I9 I5 I10 G9 G10
      go_wp2_with (first
        | (refine Blk.load rfl 74 (.tmp 9) rfl _ _ _ _ rfl I11.out.b9 Try.underlying74 rfl (by kernel_rfl) ?_)
        | (refine wpList_store_row rfl 74 (.tmp 6) (.tmp 84) rfl w.heap.size _ _ _ rfl rfl I11.out.b6 (by rfl) (by kernel_rfl) (by simp [Value.oneCell']) ?_; intro w9 hb9 hg9))
      have hdone := I11.out.done hg9
      refine bodyPost_ret (results_row rfl _ _ w.heap.size _ _ _ rfl hb9 Try.underlying74 rfl (by kernel_rfl)) rfl ?_
      unfold TickPost
      rw [HRow.out, HStep.out]
      exact ⟨FS5, FH2, rfl, hdone.1, hdone.2.1, hdone.2.2.1, hdone.2.2.2.1, hdone.2.2.2.2.1, hdone.2.2.2.2.2⟩
  ·
    skip
    have nG := new_at (S := S0) (zA) 26
    obtain ⟨G, hG, bG, lG⟩ := nG
    go_wp2_with fail
    refine hQ2 _ _ (fun _ => S0.alloc S0.size _) ?_
    clear hQ2 Q2
    (try simp only [hG])
    clear hG
    have SG := S0.alloc S0.size (.cells (zA) 26)
    refine anyG_one (k := 8) (by kernel_rfl) rfl (by rfl) (fun Q2 hQ2 => ?_); go_wp2_with (go_at_call 54; refine (serv_List ps FS5 NS 64 _ (I5.out.ser.call SG)).mono ?_; rintro e v6 ⟨A6, n6, c6, rfl, ho6, hb6⟩; have L6 := Lib.hid (ho6.is smp_len); clear ho6; (try have bG := bG.call hb6)); refine hQ2 _ _ (fun _ => SG.trans (hb6.mono SG.size)) ?_; clear hQ2 Q2
    have S6 := SG.trans (hb6.mono SG.size)
    refine anyG_one (k := 13) (by kernel_rfl) rfl (by rfl) (fun Q2 hQ2 => ?_); go_wp2_with (go_at_call 60; refine (history_List ph FH past 16 _ (I5.out.hist.call S6)).mono ?_; rintro e v7 ⟨u7, rfl, ho7, hb7⟩; obtain ⟨A7, n7, c7, rfl, -, -⟩ := ho7.shape adv_len; have L7 := Lib.hid (ownA_is ho7); have M6 := Lib.hid (by first | exact slice_keep L6.out hb7 | exact slice_keep (slice_keep L6.out (by go_grown)) hb7); clear L6 ho7; (try have bG := bG.call hb7)); refine hQ2 _ _ (fun _ => S6.trans (hb7.mono S6.size)) ?_; clear hQ2 Q2
    have S7 := S6.trans (hb7.mono S6.size)
    refine anyG_one (k := 14) (by kernel_rfl) rfl (by rfl) (fun Q2 hQ2 => ?_); go_wp2_with (go_at_call 64; refine (HOf.out _ A6 n6 c6 A7 n7 c7 (by first | exact M6.out | exact slice_keep M6.out (by go_grown)) (by first | exact L7.out | exact slice_keep L7.out (by go_grown)) (by rw [← M6.out.1]; have := HLn.out; omega) (by rw [← L7.out.1]; have := HPast.out; omega)).mono ?_; rintro e v8 ⟨rfl, hb8⟩; (try have bG := bG.call hb8)); refine hQ2 _ _ (fun _ => S7.trans (hb8.mono S7.size)) ?_; clear hQ2 Q2
    have S8 := S7.trans (hb8.mono S7.size)
    refine anyG_takes (is := [15, 16, 17]) (vs := [_, _, _]) (m := 2) (listed2 := #[true, true, true, true, true, true, true, true, true, true, true, true, true, true, true, true, true, true, true, false, false]) (a2 := ⟨#[_, _, _, _, _, _, _, _, _, _, _, _, _, _, _, _, _, _, _, _, _, _, _, _, _, _, _, _, _, _, _, _, _, _, _, _, _, _, _, _, _, _, _, _, _, _, _, _, _, _, _, _, _, _, _, _, _, _, _, _, _, _, _, _, _, _, _, _, _, _, _, _, _, _, _, _, _, _, _, _, _, _, _, _, _], _⟩) (by kernel_rfl) (fun j hj => by simp at hj) (by kernel_rfl) (fun _ _ _ _ _ h => h) (Ys.cons rfl (Or.inl ⟨by rfl, fun W1 hW1 => by first | rfl | (go_simp; done) | (go_simp; with_reducible rfl)⟩) (Ys.cons rfl (Or.inl ⟨by rfl, fun W1 hW1 => by first | rfl | (go_simp; done) | (go_simp; with_reducible rfl)⟩) (Ys.cons rfl (Or.inl ⟨by rfl, fun W1 hW1 => by first | rfl | (go_simp; done) | (go_simp; with_reducible rfl)⟩) (Ys.nil)))) (S8) (by rfl) (by rfl) ?_
    refine anyG_one (k := 19) (by kernel_rfl) rfl (by rfl) (fun Q2 hQ2 => ?_); go_wp2_with (refine wpList_store_row rfl 26 (.tmp 10) _ rfl _ _ _ _ rfl rfl (bG) (by rfl) (by kernel_rfl) (by simp [Value.oneCell']) ?_; intro uG huG hwG); refine hQ2 _ _ (fun _ => S8.trans (Only.below hwG lG S8.size)) ?_; clear hQ2 Q2
    have SsG := S8.trans (Only.below hwG lG S8.size)
    refine anyG_takes (is := [20]) (vs := [.int .i64 0]) (m := 0) (listed2 := #[true, true, true, true, true, true, true, true, true, true, true, true, true, true, true, true, true, true, true, true, true]) (a2 := ⟨#[_, _, _, _, _, _, _, _, _, _, _, _, _, _, _, _, _, _, _, _, _, _, _, _, _, _, _, _, _, _, _, _, _, _, _, _, _, _, _, _, _, _, _, _, _, _, _, _, _, _, _, _, _, _, _, _, _, _, _, _, _, _, _, _, _, _, _, _, _, _, _, _, _, _, _, _, _, _, _, _, _, _, _, _, _], _⟩) (by kernel_rfl) (fun j hj => by simp at hj) (by kernel_rfl) (fun _ _ _ _ _ h => h) (Ys.cons rfl (Or.inl ⟨by rfl, fun W1 hW1 => by rfl⟩) (Ys.nil)) (SsG) (by rfl) (by rfl) ?_
    refine anyG_done (by kernel_rfl) ?_ _
    have G9 := Lib.hid huG
    have I9 := Lib.hid (I5.out.call (SsG))
    have lG9 := Lib.hid lG
    clear hb6 hb7 hb8
    focus (go_upto_region 8 with (fail))
    refine wp_region_any (by kernel_rfl) ?_; change wpAny _ _ _ _ _ _ _ (World.drew uG); refine any_of_anyG (late := fun j => [5].contains j) (S := fun wS => Below uG.heap.size uG wS) _ _ _ _ ?_
    have S0 := (Below.refl uG.heap.size uG).drew
    refine anyG_takes (is := [4]) (vs := [_]) (m := 5) (listed2 := #[false, false, false, false, true, false]) (a2 := ⟨#[_, _, _, _, _, _, _, _, _, _, _, _, _, _, _, _, _, _, _, _, _, _, _, _, _, _, _, _, _, _, _, _, _, _, _, _, _, _, _, _, _, _, _, _, _, _, _, _, _, _, _, _, _, _, _, _, _, _, _, _, _, _, _, _, _, _, _, _, _, _, _, _, _, _, _, _, _, _, _, _, _, _, _, _, _], _⟩) (by kernel_rfl) (fun j hj => by first | (simp at hj; done) | (simp at hj; simp; omega)) (by kernel_rfl) (fun _ _ _ _ _ h => h) (Ys.cons rfl (Or.inl ⟨by rfl, fun W1 hW1 => exec_load (ty := 26) (x := .tmp 10) rfl rfl (run_loadAt_blk _ _ _ _ _ _ (G9.out.call hW1) Try.underlying26 rfl (by first | kernel_rfl | exact info_num _))⟩) (Ys.nil)) (S0) (by rfl) (by rfl) ?_
    refine anyG_one (k := 0) (by kernel_rfl) rfl (by rfl) (fun Q2 hQ2 => ?_); go_wp2_with fail; refine hQ2 _ _ (fun _ => S0) ?_; clear hQ2 Q2
    refine anyG_one (k := 1) (by kernel_rfl) rfl (by rfl) (fun Q2 hQ2 => ?_); go_wp2_with fail; refine hQ2 _ _ (fun _ => S0) ?_; clear hQ2 Q2
    refine anyG_one (k := 2) (by kernel_rfl) rfl (by rfl) (fun Q2 hQ2 => ?_); go_wp2_with fail; refine hQ2 _ _ (fun _ => S0) ?_; clear hQ2 Q2
    refine anyG_takes (is := [3]) (vs := [.pointer ph]) (m := 1) (listed2 := #[true, true, true, true, true, false]) (a2 := ⟨#[_, _, _, _, _, _, _, _, _, _, _, _, _, _, _, _, _, _, _, _, _, _, _, _, _, _, _, _, _, _, _, _, _, _, _, _, _, _, _, _, _, _, _, _, _, _, _, _, _, _, _, _, _, _, _, _, _, _, _, _, _, _, _, _, _, _, _, _, _, _, _, _, _, _, _, _, _, _, _, _, _, _, _, _, _], _⟩) (by kernel_rfl) (fun j hj => by first | (simp at hj; done) | (simp at hj; simp; omega)) (by kernel_rfl) (fun _ _ _ _ _ h => h) (Ys.cons rfl (Or.inl ⟨by rfl, fun W1 hW1 => by have c7 := (I9.out.call hW1).blk.cellv (i := 7) (v := .pointer ph) rfl; go_simp⟩) (Ys.nil)) (S0) (by rfl) (by rfl) ?_
    refine anyG_of_any _ _ _ _ (by kernel_rfl) ?_
    refine any_one (k := 5) (by kernel_rfl) rfl (by rfl) (fun Q2 hQ2 => ?_); go_wp2_with (go_at_call 61; refine (history_Add ph FH past 16 X _ (I9.out.call S0).hist).mono ?_; intro e v10 hp; obtain ⟨FH2, hI10, hU10⟩ := (I9.out.call S0).add hp; obtain ⟨-, rfl, -⟩ := hp; have I10 := Lib.hid hI10; have G10 := Lib.hid ((G9.out.call S0).upd hU10 (fun hf => (by have h1 := I5.out.hist.2 _ hf; have h2 := lG9.out; omega)))); (try refine hQ2 _ _ ?_); (try clear hQ2 Q2)
    refine wpAny_done (by kernel_rfl) ?_ _
    rw [lhush] at I10
    have g3 := G10.out.cellv (i := 3) (v := .int .i64 X.repl) rfl
    have f8 := I10.out.blk.frozen 8
    have r8 := I10.out.blk.cellv (i := 8) (v := .int .i64 repl) rfl
    have I11 := Lib.hid (show TI w (v10.setCell ⟨g, 8, none⟩ (.int .i64 X.repl)) ps ph g F0 FS5 FH2 NS (pushq past 16 X) (strow p ps ph X.repl (ALL - SV)) #[.int .i64 at_, .int .i64 c, .int .i64 repl, .int .i64 SV, .int .i64 (ALL - SV)] from I10.out.setg 8 (.int .i64 X.repl))
    clear hI10 hU10 I9 I5 I10 G9 G10
    go_wp2_with (first
      | (refine Blk.load rfl 74 (.tmp 9) rfl _ _ _ _ rfl I11.out.b9 Try.underlying74 rfl (by kernel_rfl) ?_)
      | (refine wpList_store_row rfl 74 (.tmp 6) (.tmp 84) rfl w.heap.size _ _ _ rfl rfl I11.out.b6 (by rfl) (by kernel_rfl) (by simp [Value.oneCell']) ?_; intro w9 hb9 hg9))
    have hdone := I11.out.done hg9
    refine bodyPost_ret (results_row rfl _ _ w.heap.size _ _ _ rfl hb9 Try.underlying74 rfl (by kernel_rfl)) rfl ?_
    unfold TickPost
    rw [HRow.out, HStep.out]
    exact ⟨FS5, FH2, rfl, hdone.1, hdone.2.1, hdone.2.2.1, hdone.2.2.2.1, hdone.2.2.2.2.1, hdone.2.2.2.2.2⟩
end Go.Proofs.Ytjodpffdlggjgaa
