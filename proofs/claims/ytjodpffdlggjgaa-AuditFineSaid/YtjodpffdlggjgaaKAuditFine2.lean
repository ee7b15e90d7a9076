/- Several texts in one. -/
import Derived.Test.YtjodpffdlggjgaaKDecideFollows5
import Derived.Test.YtjodpffdlggjgaaKAuditFine1
import Derived.Test.YtjodpffdlggjgaaRegT
/- Which rules decisions break, one after the other; those that are made break none. -/
namespace Go.Proofs.Ytjodpffdlggjgaa
open Go.RowKit
set_option linter.unusedSimpArgs false
set_option linter.unusedVariables false
def pastq (room : Int) (past l : List Adv) : List Adv := l.foldl (fun q a => hush q room a) past
def ruls (p : Pol) (room : Int) : List Adv → List Adv → List Int
  | past, [] => []
  | past, a :: l => ruleq p past a :: ruls p room (hush past room a) l
theorem ruls_snoc (p : Pol) (room : Int) (l : List Adv) (x : Adv) : ∀ past, ruls p room past (l ++ [x]) = ruls p room past l ++ [ruleq p (pastq room past l) x] := by
  induction l with
  | nil => intro past; rfl
  | cons a l ih => intro past; show _ :: ruls p room _ (l ++ [x]) = _; rw [ih]; rfl
theorem pastq_snoc (room : Int) (l : List Adv) (x : Adv) (past : List Adv) : pastq room past (l ++ [x]) = hush (pastq room past l) room x := by
  unfold pastq; rw [List.foldl_append]; rfl
theorem ruls_next (p : Pol) (room : Int) {l : List Adv} {k : Nat} {x : Adv} (h : l[k]? = some x) : ruls p room [] (l.take (k + 1)) = ruls p room [] (l.take k) ++ [ruleq p (pastq room [] (l.take k)) x] ∧ pastq room [] (l.take (k + 1)) = hush (pastq room [] (l.take k)) room x := by
  rw [take_snoc2 h]; exact ⟨ruls_snoc p room _ x [], pastq_snoc room _ x []⟩
theorem ruls_len (p : Pol) (room : Int) (l : List Adv) : ∀ past, (ruls p room past l).length = l.length := by
  induction l with
  | nil => intro past; rfl
  | cons a l ih => intro past; show (_ :: ruls p room _ l).length = _; rw [List.length_cons, ih]; rfl
theorem ruls_take (p : Pol) (room : Int) (l : List Adv) (k : Nat) : ∀ past, (ruls p room past l).take k = ruls p room past (l.take k) := by
  induction l generalizing k with
  | nil => intro past; simp [ruls]
  | cons a l ih =>
    intro past
    cases k with
    | zero => rfl
    | succ k => show _ :: (ruls p room _ l).take k = _ :: ruls p room _ (l.take k); rw [ih]
theorem pastq_len (room : Int) (l : List Adv) : (pastq room [] l).length ≤ 64 := by
  have key : ∀ (l past : List Adv), past.length ≤ 64 → (pastq room past l).length ≤ 64 := by
    intro l
    induction l with
    | nil => intro past h; exact h
    | cons a l ih =>
      intro past h
      refine ih _ ?_
      show (hush past room a).length ≤ 64
      unfold hush
      split
      · unfold pushq
        split
        · rw [List.length_drop, List.length_append]; simp; omega
        · omega
      · simp
  exact key l [] (by simp)
/-- i is the place of the first number of rs that is not 0, which is r; or there is none. -/
def IsFirst (rs : List Int) (i r : Int) : Prop := (i = -1 ∧ r = 0 ∧ ∀ x ∈ rs, x = 0) ∨ ∃ k : Nat, i = k ∧ rs[k]? = some r ∧ r ≠ 0 ∧ ∀ j, j < k → rs[j]? = some 0
theorem IsFirst.zero {rs : List Int} {i r : Int} (h : IsFirst rs i r) (hz : ∀ x ∈ rs, x = 0) : i = -1 ∧ r = 0 := by
  rcases h with ⟨h1, h2, -⟩ | ⟨k, -, h2, h3, -⟩
  · exact ⟨h1, h2⟩
  · exact absurd (hz r (List.mem_of_getElem? h2)) h3
theorem IsFirst.same {rs : List Int} {i r i' r' : Int} (h : IsFirst rs i r) (h' : IsFirst rs i' r') : i = i' ∧ r = r' := by
  rcases h with ⟨rfl, rfl, hz⟩ | ⟨k, rfl, h2, h3, h4⟩
  · obtain ⟨h1, h2⟩ := h'.zero hz; exact ⟨h1.symm, h2.symm⟩
  · rcases h' with ⟨-, -, hz⟩ | ⟨k', rfl, h2', h3', h4'⟩
    · exact absurd (hz r (List.mem_of_getElem? h2)) h3
    · have : k = k' := by
        rcases Nat.lt_trichotomy k k' with hlt | he | hgt
        · have := h4' k hlt; rw [h2] at this; injection this with this; exact absurd this h3
        · exact he
        · have := h4 k' hgt; rw [h2'] at this; injection this with this; exact absurd this h3'
      subst this
      rw [h2] at h2'; injection h2' with h2'
      exact ⟨rfl, h2'⟩
theorem meanq_I64 (l : List Int) : I64 (meanq l) := by
  unfold meanq smallQ I64
  split
  · omega
  · split <;> omega
theorem made_fine (p : Pol) (l : List Smp) (past : List Adv) (hk : p.okP) (hg : ∀ x ∈ l, x.good) : ruleq p past (decq p l past) = 0 ∧ (decq p l past).good := by
  obtain ⟨k1, k2, k3, k4, k5, k6, k7, k8, k9⟩ := id hk
  have hb : ∀ n, p.min ≤ boundq p n ∧ boundq p n ≤ p.max := fun n => by
    unfold boundq clampq
    rw [if_pos hk]
    split
    · omega
    · split <;> omega
  have hT := latestq_I64 hg
  unfold decq
  dsimp only
  generalize latestq l = T at *
  have hM := meanq_I64 (valq (cutq l (fromq T p.window) T))
  generalize meanq (valq (cutq l (fromq T p.window) T)) = load at *
  have hr := raw_open2 p load (nowq p past)
  generalize openq p load (nowq p past) = op at *
  generalize hS : steadyq p T (boundq p op) past = S
  obtain ⟨s1, s2⟩ := S
  have h1 := hb op
  have h2 := hb s1
  refine ⟨?_, ?_⟩
  · unfold ruleq
    dsimp only
    rw [hS]
    have hw : 1 ≤ whyq p s2 op (nowq p past) (boundq p s1) ∧ whyq p s2 op (nowq p past) (boundq p s1) ≤ 6 ∧ (s2 = decide (whyq p s2 op (nowq p past) (boundq p s1) = 4)) ∧ (whyq p s2 op (nowq p past) (boundq p s1) = 2 → nowq p past < boundq p s1) ∧ (whyq p s2 op (nowq p past) (boundq p s1) = 3 → boundq p s1 < nowq p past) ∧ (whyq p s2 op (nowq p past) (boundq p s1) = 1 → boundq p s1 = nowq p past) := by
      unfold whyq
      cases s2
      · simp only [Bool.false_eq_true, if_false]
        split
        · simp
        · split
          · simp
          · split
            · simp; omega
            · split
              · simp; omega
              · simp; omega
      · simp
    generalize whyq p s2 op (nowq p past) (boundq p s1) = y at *
    obtain ⟨w1, w2, w3, w4, w5, w6⟩ := hw
    rw [if_neg (by omega), if_neg (by omega)]
    have hh : polHas p (boundq p s1) = true := by unfold polHas; exact decide_eq_true ⟨hk, h2.1, h2.2⟩
    rw [if_neg (by rw [hh]; simp), if_neg (by rw [hr]; simp), if_neg (by simp), if_neg (by simpa using w3)]
    refine if_neg ?_
    unfold whyOk
    dsimp only
    split
    · rename_i e; simp; exact w4 e
    · split
      · rename_i e; simp; exact w5 e
      · split
        · rename_i e; simp; exact w6 e
        · simp
  · refine ⟨hT, hM, ?_, ?_, ?_⟩
    · show I64 (boundq p op); unfold I64; omega
    · show I64 (boundq p s1); unfold I64; omega
    · show I64 (whyq p s2 op (nowq p past) (boundq p s1)); unfold I64 whyq
      split
      · omega
      · split
        · omega
        · split
          · omega
          · split
            · omega
            · split <;> omega
theorem fine_next (p : Pol) (sm rm : Int) (st : Fst) (x : Smp) (hg : ∀ y ∈ st.smps, y.good) (hx : x.good) (h1 : st.past = pastq rm [] st.out) (h2 : ∀ r ∈ ruls p rm [] st.out, r = 0) (h3 : ∀ a ∈ st.out, a.good) (hr : 1 ≤ rm ∧ rm ≤ 64) :
    (fstep p sm rm st x).past = pastq rm [] (fstep p sm rm st x).out ∧ (∀ r ∈ ruls p rm [] (fstep p sm rm st x).out, r = 0) ∧ ∀ a ∈ (fstep p sm rm st x).out, a.good := by
  by_cases he : errr sm x = 0
  · by_cases ho : ofe p (putr st.smps sm x) = 0
    · rw [fstep_ok he ho hr]
      have hk : p.okP := Classical.byContradiction fun hn => by rw [(ofq_no (past := st.past) hn).2] at ho; omega
      have hl : (putr st.smps sm x).length ≠ 0 := fun hn => by rw [(ofq_nil (past := st.past) hk hn).2] at ho; omega
      rw [(ofq_ok (past := st.past) hk hl).1]
      obtain ⟨m1, m2⟩ := made_fine p (putr st.smps sm x) st.past hk (good_putr hg hx sm)
      refine ⟨?_, fun r hr => ?_, fun a ha => ?_⟩
      · show hush st.past rm _ = _
        rw [pastq_snoc, ← h1]
      · replace hr : r ∈ ruls p rm [] (st.out ++ [decq p (putr st.smps sm x) st.past]) := hr
        rw [ruls_snoc, ← h1, m1] at hr
        rcases List.mem_append.1 hr with hr | hr
        · exact h2 r hr
        · simpa using hr
      · rcases List.mem_append.1 ha with ha | ha
        · exact h3 a ha
        · simp at ha; subst ha; exact m2
    · rw [fstep_skip he ho]; exact ⟨h1, h2, h3⟩
  · rw [fstep_no he]; exact ⟨h1, h2, h3⟩
theorem fol_fine (p : Pol) (sm rm : Int) (l : List Smp) (hg : ∀ x ∈ l, x.good) : (∀ r ∈ ruls p rm [] (folq p sm rm l).out, r = 0) ∧ ∀ a ∈ (folq p sm rm l).out, a.good := by
  by_cases hr : 1 ≤ rm ∧ rm ≤ 64
  · have h := folq_all (fun n st => (∀ y ∈ st.smps, y.good) ∧ st.past = pastq rm [] st.out ∧ (∀ r ∈ ruls p rm [] st.out, r = 0) ∧ ∀ a ∈ st.out, a.good) p sm rm l ⟨fun y hy => (by cases hy), rfl, fun r hr => (by cases hr), fun a ha => (by cases ha)⟩ (fun n st x hx h => ⟨by rw [fstep_smps]; exact good_putr h.1 (hg x hx) sm, fine_next p sm rm st x h.1 (hg x hx) h.2.1 h.2.2.1 h.2.2.2 hr⟩) l.length (Nat.le_refl _)
    rw [List.take_length] at h
    exact ⟨h.2.2.1, h.2.2.2⟩
  · rw [folq_bad p sm rm l (.inr hr)]
    exact ⟨fun r hr => (by cases hr), fun a ha => (by cases ha)⟩
end Go.Proofs.Ytjodpffdlggjgaa
/- audit.Check: the walk. (fast region) -/
namespace Go.Proofs.Ytjodpffdlggjgaa
open Go.RowKit
set_option linter.unusedSimpArgs false
set_option linter.unusedVariables false
set_option maxHeartbeats 8000000
set_option maxRecDepth 100000
/-- A history of the call's own. -/
def ChkIn (w1 wr : World) (ph : Option Addr) (past : List Adv) (rm : Int) : Prop := ∃ F, HistAt wr ph F past rm ∧ (∀ k, F k → w1.heap.size ≤ k) ∧ Below w1.heap.size w1 wr ∧ w1.heap.size ≤ wr.heap.size
theorem ChkIn.call {w1 wr w' : World} {ph : Option Addr} {past : List Adv} {rm : Int} (h : ChkIn w1 wr ph past rm) (hb : Below wr.heap.size wr w') : ChkIn w1 w' ph past rm := by
  obtain ⟨F, h1, h2, h3, h4⟩ := h
  exact ⟨F, h1.call hb, h2, h3.trans (hb.mono h4), Nat.le_trans h4 hb.size⟩
theorem ChkIn.bel {w1 wr : World} {ph : Option Addr} {past : List Adv} {rm : Int} (h : ChkIn w1 wr ph past rm) : Below w1.heap.size w1 wr := by
  obtain ⟨F, h1, h2, h3, h4⟩ := h; exact h3
theorem ChkIn.hist {w1 wr : World} {ph : Option Addr} {past : List Adv} {rm : Int} (h : ChkIn w1 wr ph past rm) : ∃ F, HistAt wr ph F past rm ∧ ∀ x e w', AddPost ph F past rm x wr e w' → e = .returned (.bool (decide (1 ≤ rm ∧ rm ≤ 64))) ∧ ChkIn w1 w' ph (hush past rm x) rm := by
  obtain ⟨F, h1, h2, h3, h4⟩ := h
  refine ⟨F, h1, ?_⟩
  rintro x e w' ⟨F', rfl, k1, k2, k3⟩
  exact ⟨rfl, F', k1, fun k hk => (k3 k hk).elim (h2 k) (fun h => Nat.le_trans h4 h), h3.trans (k2.below h2 h4), Nat.le_trans h4 k2.size⟩
def ChkPost (p : Pol) (rm : Int) (l : List Adv) (w : World) (e : Ending) (w' : World) : Prop := ∃ i r, e = .returned (.tuple #[.int .i64 i, .int .i64 r]) ∧ IsFirst (ruls p rm [] l) i r ∧ Below w.heap.size w w'
theorem isFirst_at {p : Pol} {rm : Int} {l : List Adv} {k : Nat} {x : Adv} (hx : l[k]? = some x) (hz : ∀ r ∈ ruls p rm [] (l.take k), r = 0) (hr : ruleq p (pastq rm [] (l.take k)) x ≠ 0) : IsFirst (ruls p rm [] l) k (ruleq p (pastq rm [] (l.take k)) x) := by
  have hk : k < l.length := (List.getElem?_eq_some_iff.1 hx).1
  have h1 := (ruls_next p rm hx).1
  have h2 := ruls_take p rm l (k + 1) []
  have hlen : (ruls p rm [] (l.take k)).length = k := by rw [ruls_len, List.length_take]; omega
  refine .inr ⟨k, rfl, ?_, hr, fun j hj => ?_⟩
  · have : ((ruls p rm [] l).take (k + 1))[k]? = some (ruleq p (pastq rm [] (l.take k)) x) := by
      rw [h2, h1, List.getElem?_append_right (by omega), hlen]; simp
    rwa [List.getElem?_take, if_pos (by omega)] at this
  · have h3 := ruls_take p rm l k []
    have h4 : j < (ruls p rm [] (l.take k)).length := by omega
    have h5 : (ruls p rm [] (l.take k))[j]? = some ((ruls p rm [] (l.take k))[j]) := List.getElem?_eq_getElem h4
    rw [hz _ (List.getElem_mem h4), ← h3, List.getElem?_take, if_pos hj] at h5
    exact h5
theorem audit_Check (p : Pol) (A : Option Addr) (len cap : Nat) (l : List Adv) (rm : Int) (w : World) (hp : p.fit) (hs : AdvsAre w A len cap l) (hg : ∀ x ∈ l, x.good) (hn : len ≤ 1000) (hrm : I64 rm) :
    Calls Try.prog 28 #[(.agg #[.int .i64 p.min, .int .i64 p.max, .int .i64 p.target, .int .i64 p.tol, .int .i64 p.window, .int .i64 p.hold]), .slice A len cap, .int .i64 rm] w (ChkPost p rm l w) := by
  have HS := Lib.hid hs
  have HL := Lib.hid hs.1
  have HG := Lib.hid hg
  have HP := Lib.hid hp
  have HR := Lib.hid hrm
  have HN := Lib.hid (fun (k : Nat) (x : Adv) (h : l[k]? = some x) => ruls_next p rm h)
  have HAt := Lib.hid (fun (k : Nat) (x : Adv) (h : l[k]? = some x) hz hr => isFirst_at (p := p) (rm := rm) h hz hr)
  have HPl := Lib.hid (fun k => pastq_len rm (l.take k))
  clear hs hg hp hrm
  obtain ⟨w1, hw1⟩ : ∃ w1, w1 = w.alloc (.cells #[.int .i64 p.min, .int .i64 p.max, .int .i64 p.target, .int .i64 p.tol, .int .i64 p.window, .int .i64 p.hold] 23) := ⟨_, rfl⟩
  have B1 := Lib.hid (show Blk w1 w.heap.size 23 #[.int .i64 p.min, .int .i64 p.max, .int .i64 p.target, .int .i64 p.tol, .int .i64 p.window, .int .i64 p.hold] by rw [hw1]; exact Blk.new _ _ _)
  have E1 := Lib.hid (show Below w.heap.size w w1 by rw [hw1]; go_grown)
  go_enter Try.func28, Try.ntmps28
  go_upto_region 1 with (fail)
  rw [← hw1]
  clear hw1
  go_wp2_with (go_at_call 59; refine (history_New rm _ HR.out).mono ?_; rintro e v2 ⟨ph, FH, rfl, k1, k2, k3⟩; have F2 := Lib.hid (show ChkIn w1 v2 ph [] rm from ⟨FH, k1, k2, k3, k3.size⟩); clear k1 k2 k3)
  go_loopw [16] (fun i wr => ∃ k : Nat, k ≤ len ∧ i = .int .i64 k ∧ ChkIn w1 wr ph (pastq rm [] (l.take k)) rm ∧ ∀ r ∈ ruls p rm [] (l.take k), r = 0) (fun i _ => len - (intOf i).toNat)
  case atStart => exact ⟨0, Nat.zero_le _, rfl, F2.out, fun r hr => (by cases hr)⟩
  case round =>
    obtain ⟨k, hk, rfl, hin, hz⟩ := hrel
    have HI := Lib.hid hin
    have HZ := Lib.hid hz
    clear hin hz
    by_cases hlt : k < len
    · obtain ⟨b, off, x, rfl, hx, hb, t0, t1, t2, t3, t4⟩ := HS.out.at_ hlt
      have hbw := E1.out.trans (HI.out.bel.mono E1.out.size)
      have kt0 := (hbw.cell (p := ⟨b, off + k * 5, none⟩) hb).trans t0
      have kt1 := (hbw.cell (p := ⟨b, off + k * 5 + 1, none⟩) hb).trans t1
      have kt2 := (hbw.cell (p := ⟨b, off + k * 5 + 2, none⟩) hb).trans t2
      have kt3 := (hbw.cell (p := ⟨b, off + k * 5 + 3, none⟩) hb).trans t3
      have kt4 := (hbw.cell (p := ⟨b, off + k * 5 + 4, none⟩) hb).trans t4
      have hki : (k : Int) < (len : Int) := by omega
      have HN1 := Lib.hid (HN.out k x hx)
      have HAt1 := Lib.hid (HAt.out k x hx HZ.out)
      have HX := Lib.hid (HG.out x (List.mem_of_getElem? hx))
      have HPk := Lib.hid (HPl.out k)
      have I1 := Lib.hid (HI.out.call (w' := wr.alloc (.cells (rowA x) 26)) ((Below.refl _ wr).alloc (Nat.le_refl _) _))
      have X1 := Lib.hid (Blk.new wr 26 (rowA x))
      have B2 := Lib.hid (B1.out.call I1.out.bel)
      clear hx hb t0 t1 t2 t3 t4 hbw HI
      go_upto_region 5 with (fail)
      generalize pastq rm [] (l.take k) = past at *
      generalize wr.heap.size = g at *
      generalize wr.alloc (.cells (rowA x) 26) = w2 at *
      obtain ⟨F3, hH3, -⟩ := I1.out.hist
      have HH3 := Lib.hid hH3
      clear hH3
      have HRu := Lib.hid (fun W A n c hW hn => audit_Rule p A n c past x W HP.out HX.out hW hn)
      generalize ruleq p past x = RR at *
      refine wp_region_any (by kernel_rfl) ?_; change wpAny _ _ _ _ _ _ _ (World.drew w2); refine any_of_anyG (late := fun _ => false) (S := fun wS => Below w2.heap.size w2 wS) _ _ _ _ ?_
      have S0 := (Below.refl w2.heap.size w2).drew
      refine anyG_takes (is := [0, 1, 3]) (vs := [_, _, _]) (m := 3) (listed2 := #[true, true, false, true, false, false]) (a2 := ⟨#[_, _, _, _, _, _, _, _, _, _, _, _, _, _, _, _, _, _, _, _, _, _, _, _, _, _, _, _, _, _, _, _, _, _], _⟩) (by kernel_rfl) (fun j hj => by simp at hj) (by kernel_rfl) (fun _ _ _ _ _ h => h) (Ys.cons rfl (Or.inl ⟨by rfl, fun W1 hW1 => exec_load (ty := 23) (x := .tmp 3) rfl rfl (run_loadAt_blk _ _ _ _ _ _ (B2.out.call hW1) Try.underlying23 rfl (by first | kernel_rfl | exact info_num _))⟩) (Ys.cons rfl (Or.inl ⟨by rfl, fun W1 hW1 => by first | rfl | (go_simp; done) | (go_simp; with_reducible rfl)⟩) (Ys.cons rfl (Or.inl ⟨by rfl, fun W1 hW1 => exec_load (ty := 26) (x := .tmp 10) rfl rfl (run_loadAt_blk _ _ _ _ _ _ (X1.out.call hW1) Try.underlying26 rfl (by first | kernel_rfl | exact info_num _))⟩) (Ys.nil)))) (S0) (by rfl) (by rfl) ?_
      refine anyG_one (k := 2) (by kernel_rfl) rfl (by rfl) (fun Q2 hQ2 => ?_); go_wp2_with (go_at_call 60; refine (history_List ph F3 past rm _ (HH3.out.call S0)).mono ?_; rintro e v4 ⟨u4, rfl, ho4, hb4⟩; obtain ⟨A4, n4, c4, rfl, -, -⟩ := ho4.shape adv_len; have L4 := Lib.hid (ownA_is ho4); clear ho4); refine hQ2 _ _ (fun _ => S0.trans (hb4.mono S0.size)) ?_; clear hQ2 Q2
      have S4 := S0.trans (hb4.mono S0.size)
      refine anyG_one (k := 4) (by kernel_rfl) rfl (by rfl) (fun Q2 hQ2 => ?_); go_wp2_with (go_at_call 12; refine (HRu.out _ A4 n4 c4 L4.out (Nat.le_trans (Nat.le_of_eq L4.out.1.symm) (Nat.le_trans HPk.out (by decide)))).mono ?_; rintro e v5 ⟨rfl, hb5⟩); refine hQ2 _ _ (fun _ => S4.trans (hb5.mono S4.size)) ?_; clear hQ2 Q2
      have S5 := S4.trans (hb5.mono S4.size)
      refine anyG_takes (is := [5]) (vs := [.int .i64 RR]) (m := 0) (listed2 := #[true, true, true, true, true, true]) (a2 := ⟨#[_, _, _, _, _, _, _, _, _, _, _, _, _, _, _, _, _, _, _, _, _, _, _, _, _, _, _, _, _, _, _, _, _, _], _⟩) (by kernel_rfl) (fun j hj => by simp at hj) (by kernel_rfl) (fun _ _ _ _ _ h => h) (Ys.cons rfl (Or.inl ⟨by rfl, fun W1 hW1 => by rfl⟩) (Ys.nil)) (S5) (by rfl) (by rfl) ?_
      refine anyG_done (by kernel_rfl) ?_ _
      have I5 := Lib.hid (I1.out.call S5)
      have X5 := Lib.hid (X1.out.call S5)
      by_cases hr : RR = 0
      · have d1 : (RR != 0) = false := by rw [hr]; rfl
        have HR0 := Lib.hid hr
        obtain ⟨F6, hH6, hA6⟩ := I5.out.hist
        have HH6 := Lib.hid hH6
        have HA6 := Lib.hid hA6
        clear hr hH6 hA6
        go_wp2_with (first
          | (refine Blk.load rfl 26 (.tmp 10) rfl _ _ _ _ rfl X5.out Try.underlying26 rfl (by kernel_rfl) ?_)
          | (go_at_call 61; refine (history_Add ph F6 past rm x _ HH6.out).mono ?_; intro e w6 hp; obtain ⟨rfl, hI6⟩ := HA6.out x _ _ hp; have I6 := Lib.hid hI6; clear hp hI6))
        go_roundw
        case rel => exact ⟨k + 1, by omega, by go_num, by rw [HN1.out.2]; exact I6.out, fun r hr => by
          rw [HN1.out.1] at hr
          rcases List.mem_append.1 hr with hr | hr
          · exact HZ.out r hr
          · rw [List.mem_singleton.1 hr]; exact HR0.out⟩
        case measure => simp [intOf]; omega
      · have d1 : (RR != 0) = true := by simpa using hr
        have HF := Lib.hid (HAt1.out hr)
        clear hr
        go_wp2
        go_returns
        exact ⟨_, _, rfl, HF.out, E1.out.trans (I5.out.bel.mono E1.out.size)⟩
    · have hE : l.take k = l := List.take_of_length_le (by have := HL.out; omega)
      rw [hE] at HI HZ
      go_wp2
      go_returns
      exact ⟨-1, 0, rfl, .inl ⟨rfl, rfl, HZ.out⟩, E1.out.trans (HI.out.bel.mono E1.out.size)⟩
end Go.Proofs.Ytjodpffdlggjgaa
/- Chapter 48's laws: AuditFine. (fast region) -/
namespace Go.Proofs.Ytjodpffdlggjgaa
open Go.RowKit
set_option linter.unusedSimpArgs false
set_option linter.unusedVariables false
set_option maxHeartbeats 8000000
set_option maxRecDepth 100000
theorem walk_AuditFine (a0 a1 a2 a3 a4 a5 : Int) (A : Option Addr) (len cap : Nat) (l : List Smp) (a6 a7 : Int) (w : World) (h0 : I64 a0) (h1 : I64 a1) (h2 : I64 a2) (h3 : I64 a3) (h4 : I64 a4) (h5 : I64 a5) (hs : SmpsAre w A len cap l) (hg : ∀ x ∈ l, x.good) (h6 : I64 a6) (h7 : I64 a7) :
    Calls Try.prog 8 #[.agg #[.int .i64 a0, .int .i64 a1, .int .i64 a2, .int .i64 a3, .int .i64 a4, .int .i64 a5], .slice A len cap, .int .i64 a6, .int .i64 a7] w fun e w' => e = .returned (.bool true) ∧ Below w.heap.size w w' := by
  obtain ⟨p, rfl, rfl, rfl, rfl, rfl, rfl⟩ : ∃ p : Pol, a0 = p.min ∧ a1 = p.max ∧ a2 = p.target ∧ a3 = p.tol ∧ a4 = p.window ∧ a5 = p.hold := ⟨⟨a0, a1, a2, a3, a4, a5⟩, rfl, rfl, rfl, rfl, rfl, rfl⟩
  have HP := Lib.hid (show p.fit from ⟨h0, h1, h2, h3, h4, h5⟩)
  have HS := Lib.hid hs
  have HG := Lib.hid hg
  have H7 := Lib.hid h7
  have hle : len ≤ cap := hs.2.1
  have hm : cap ≤ 9223372036854775807 := by have := hs.2.2.1; unfold maxLen at this; omega
  clear hs hg h0 h1 h2 h3 h4 h5 h6 h7
  have B0 := Lib.hid (Blk.new w 23 #[.int .i64 p.min, .int .i64 p.max, .int .i64 p.target, .int .i64 p.tol, .int .i64 p.window, .int .i64 p.hold])
  have E0 := Lib.hid (show Below w.heap.size w (w.alloc (.cells #[.int .i64 p.min, .int .i64 p.max, .int .i64 p.target, .int .i64 p.tol, .int .i64 p.window, .int .i64 p.hold] 23)) by go_grown)
  by_cases hl : 20 < len
  · go_enter Try.func8, Try.ntmps8
    go_wp2_with (go_at_call 11; refine (awake48 _).mono ?_; rintro e v1 ⟨rfl, hb1⟩; have E1 := Lib.hid (E0.out.trans (hb1.mono E0.out.size)); clear hb1)
    all_goals first | (exfalso; omega) | skip
    go_ret
    exact ⟨rfl, E1.out⟩
  · have HF := Lib.hid (fun W hW => decide_Follow p A len cap l a6 a7 W HP.out hW HG.out (by omega) H7.out)
    have HFi := Lib.hid (fol_fine p a6 a7 l HG.out)
    have HLo := Lib.hid (show (folq p a6 a7 l).out.length ≤ 20 by
      have h := (folq_len p a6 a7 l l.length (Nat.le_refl _)).2
      rw [List.take_length] at h
      have := HS.out.1
      omega)
    go_enter Try.func8, Try.ntmps8
    focus (go_upto_region 5 with (go_at_call 11; refine (awake48 _).mono ?_; rintro e v1 ⟨rfl, hb1⟩; have E1 := Lib.hid (E0.out.trans (hb1.mono E0.out.size)); have B1 := Lib.hid (B0.out.call hb1); clear hb1))
    all_goals first | (exfalso; omega) | skip
    have HCh := Lib.hid (fun W C n c hW hn => audit_Check p C n c (folq p a6 a7 l).out a7 W HP.out hW HFi.out.2 hn H7.out)
    refine wp_region_any (by kernel_rfl) ?_; change wpAny _ _ _ _ _ _ _ (World.drew v1); refine any_of_anyG (late := fun _ => false) (S := fun wS => Below v1.heap.size v1 wS) _ _ _ _ ?_
    have S0 := (Below.refl v1.heap.size v1).drew
    refine anyG_takes (is := [0, 1, 2, 3, 4]) (vs := [_, _, _, _, _]) (m := 8) (listed2 := #[true, true, true, true, true, false, false, false, false, false, false, false, false]) (a2 := ⟨#[_, _, _, _, _, _, _, _, _, _, _, _, _, _, _, _, _, _, _, _, _, _, _, _, _, _, _, _, _, _, _, _, _], _⟩) (by kernel_rfl) (fun j hj => by simp at hj) (by kernel_rfl) (fun _ _ _ _ _ h => h) (Ys.cons rfl (Or.inl ⟨by rfl, fun W1 hW1 => exec_load (ty := 23) (x := .tmp 4) rfl rfl (run_loadAt_blk _ _ _ _ _ _ (B1.out.call hW1) Try.underlying23 rfl (by first | kernel_rfl | exact info_num _))⟩) (Ys.cons rfl (Or.inl ⟨by rfl, fun W1 hW1 => exec_load (ty := 23) (x := .tmp 4) rfl rfl (run_loadAt_blk _ _ _ _ _ _ (B1.out.call hW1) Try.underlying23 rfl (by first | kernel_rfl | exact info_num _))⟩) (Ys.cons rfl (Or.inl ⟨by rfl, fun W1 hW1 => by first | rfl | (go_simp; done) | (go_simp; with_reducible rfl)⟩) (Ys.cons rfl (Or.inl ⟨by rfl, fun W1 hW1 => by first | rfl | (go_simp; done) | (go_simp; with_reducible rfl)⟩) (Ys.cons rfl (Or.inl ⟨by rfl, fun W1 hW1 => by first | rfl | (go_simp; done) | (go_simp; with_reducible rfl)⟩) (Ys.nil)))))) (S0) (by rfl) (by rfl) ?_
    refine anyG_takes (is := [6]) (vs := [_]) (m := 7) (listed2 := #[true, true, true, true, true, false, true, false, false, false, false, false, false]) (a2 := ⟨#[_, _, _, _, _, _, _, _, _, _, _, _, _, _, _, _, _, _, _, _, _, _, _, _, _, _, _, _, _, _, _, _, _], _⟩) (by kernel_rfl) (fun j hj => by simp at hj) (by kernel_rfl) (fun _ _ _ _ _ h => h) (Ys.cons rfl (Or.inl ⟨by rfl, fun W1 hW1 => by first | rfl | (go_simp; done) | (go_simp; with_reducible rfl)⟩) (Ys.nil)) (S0) (by rfl) (by rfl) ?_
    refine anyG_one (k := 5) (by kernel_rfl) rfl (by rfl) (fun Q2 hQ2 => ?_); go_wp2_with (go_at_call 32; refine (HF.out _ (slice_keep HS.out (E1.out.trans (S0.mono E1.out.size)))).mono ?_; rintro e v2 ⟨A2, n2, c2, rfl, ho2, hb2⟩; have O2 := Lib.hid (ownA_is ho2); clear ho2); refine hQ2 _ _ (fun _ => S0.trans (hb2.mono S0.size)) ?_; clear hQ2 Q2
    have S2 := S0.trans (hb2.mono S0.size)
    refine anyG_one (k := 7) (by kernel_rfl) rfl (by rfl) (fun Q2 hQ2 => ?_); go_wp2_with (go_at_call 28; refine (HCh.out _ A2 n2 c2 O2.out (Nat.le_trans (Nat.le_of_eq O2.out.1.symm) (Nat.le_trans HLo.out (by decide)))).mono ?_; rintro e v3 ⟨i3, r3, rfl, hf3, hb3⟩; obtain ⟨rfl, rfl⟩ := hf3.zero HFi.out.1; clear hf3); refine hQ2 _ _ (fun _ => S2.trans (hb3.mono S2.size)) ?_; clear hQ2 Q2
    have S3 := S2.trans (hb3.mono S2.size)
    refine anyG_takes (is := [8, 9, 10, 11, 12]) (vs := [_, _, _, .int .i64 (-1), .int .i64 0]) (m := 0) (listed2 := #[true, true, true, true, true, true, true, true, true, true, true, true, true]) (a2 := ⟨#[_, _, _, _, _, _, _, _, _, _, _, _, _, _, _, _, _, _, _, _, _, _, _, _, _, _, _, _, _, _, _, _, _], _⟩) (by kernel_rfl) (fun j hj => by simp at hj) (by kernel_rfl) (fun _ _ _ _ _ h => h) (Ys.cons rfl (Or.inl ⟨by rfl, fun W1 hW1 => by first | rfl | (go_simp; done) | (go_simp; with_reducible rfl)⟩) (Ys.cons rfl (Or.inl ⟨by rfl, fun W1 hW1 => by first | rfl | (go_simp; done) | (go_simp; with_reducible rfl)⟩) (Ys.cons rfl (Or.inl ⟨by rfl, fun W1 hW1 => by first | rfl | (go_simp; done) | (go_simp; with_reducible rfl)⟩) (Ys.cons rfl (Or.inl ⟨by rfl, fun W1 hW1 => by rfl⟩) (Ys.cons rfl (Or.inl ⟨by rfl, fun W1 hW1 => by rfl⟩) (Ys.nil)))))) (S3) (by rfl) (by rfl) ?_
    refine anyG_done (by kernel_rfl) ?_ _
    go_wp2
    go_ret
    exact ⟨rfl, E1.out.trans (S3.mono E1.out.size)⟩
end Go.Proofs.Ytjodpffdlggjgaa
