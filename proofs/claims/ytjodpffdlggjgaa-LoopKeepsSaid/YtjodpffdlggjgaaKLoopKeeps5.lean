/- Several texts in one. -/
import Derived.Test.YtjodpffdlggjgaaKLoopKeeps4
import Derived.Test.YtjodpffdlggjgaaKLoopKeeps3
import Derived.Test.YtjodpffdlggjgaaKLoopKeeps1
import Derived.Test.YtjodpffdlggjgaaRegT
import Derived.Test.YtjodpffdlggjgaaRegL
import Derived.Test.YtjodpffdlggjgaaShp
import Derived.Test.YtjodpffdlggjgaaPush2
import Derived.Test.YtjodpffdlggjgaaPolicy
import Derived.Test.YtjodpffdlggjgaaKLoopKeeps2
/- decide.Of and the reference's. -/
namespace Go.Proofs.Ytjodpffdlggjgaa
open Go.RowKit
set_option linter.unusedSimpArgs false
set_option linter.unusedVariables false
set_option maxHeartbeats 8000000
set_option maxRecDepth 100000
/-- What is decided, where the policy may be and there are samples. -/
def decq (p : Pol) (l : List Smp) (past : List Adv) : Adv :=
  let tick := latestq l
  let load := meanq (valq (cutq l (fromq tick p.window) tick))
  let now := nowq p past
  let op := openq p load now
  let want := boundq p op
  let th := boundq p (steadyq p tick want past).1
  ⟨tick, load, want, th, whyq p (steadyq p tick want past).2 op now th⟩
def zAdv : Adv := ⟨0, 0, 0, 0, 0⟩
def ofq (p : Pol) (l : List Smp) (past : List Adv) : Adv := if ¬ p.okP then zAdv else if l.length = 0 then zAdv else decq p l past
def ofe (p : Pol) (l : List Smp) : Int := if ¬ p.okP then 7 else if l.length = 0 then 5 else 0
theorem statq_mean (l : List Smp) : (statq l).mean = meanq (valq l) := by
  unfold statq
  split
  · rename_i h
    rw [List.eq_nil_of_length_eq_zero h]; rfl
  · rfl
theorem latestq_I64 {l : List Smp} (hg : ∀ x ∈ l, x.good) : I64 (latestq l) := by
  unfold latestq
  cases l with
  | nil => unfold maxq I64; simp
  | cons a l =>
    show I64 ((l.map Smp.tick).foldl max a.tick)
    have key : ∀ (l : List Smp), (∀ x ∈ l, x.good) → ∀ m, I64 m → I64 ((l.map Smp.tick).foldl max m) := by
      intro l
      induction l with
      | nil => intro _ m hm; exact hm
      | cons x l ih =>
        intro hx m hm
        refine ih (fun y hy => hx y (by simp [hy])) _ ?_
        have := (hx x (by simp)).1
        unfold I64 at *
        omega
    exact key l (fun x hx => hg x (by simp [hx])) _ (hg a (by simp)).1
theorem boundq_I64 (p : Pol) (n : Int) (hp : p.fit) (hn : I64 n) : I64 (boundq p n) := by
  unfold boundq clampq
  have h1 := hp.1
  have h2 := hp.2.1
  unfold I64 at *
  split
  · split
    · omega
    · split <;> omega
  · omega
theorem ofq_nil {p : Pol} {l : List Smp} {past : List Adv} (hk : p.okP) (h : l.length = 0) : ofq p l past = zAdv ∧ ofe p l = 5 := by
  unfold ofq ofe
  exact ⟨by rw [if_neg (not_not_intro hk), if_pos h], by rw [if_neg (not_not_intro hk), if_pos h]⟩
theorem ofq_ok {p : Pol} {l : List Smp} {past : List Adv} (hk : p.okP) (h : l.length ≠ 0) : ofq p l past = decq p l past ∧ ofe p l = 0 := by
  unfold ofq ofe
  exact ⟨by rw [if_neg (not_not_intro hk), if_neg h], by rw [if_neg (not_not_intro hk), if_neg h]⟩
theorem ofq_no {p : Pol} {l : List Smp} {past : List Adv} (hk : ¬ p.okP) : ofq p l past = zAdv ∧ ofe p l = 7 := by
  unfold ofq ofe
  exact ⟨if_pos hk, if_pos hk⟩
theorem raw_open2 (p : Pol) (load now : Int) : rawq p load now = boundq p (openq p load now) := by
  unfold rawq openq; split <;> rfl
abbrev z28 : Array Value := #[.int .i64 0, .int .i64 0, .int .i64 0, .int .i64 0, .int .i64 0]
def DI (w wr : World) (p : Pol) : Prop := Blk wr w.heap.size 23 p.row ∧ Blk wr (w.heap.size + 1) 26 z28 ∧ Below w.heap.size w wr
theorem DI.call {w wr w' : World} {p : Pol} (h : DI w wr p) (hb : Below wr.heap.size wr w') : DI w w' p := ⟨h.1.call hb, h.2.1.call hb, h.2.2.trans (hb.mono h.2.2.size)⟩
theorem DI.start (w : World) (p : Pol) : DI w ((w.alloc (.cells p.row 23)).alloc (.cells z28 26)) p :=
  ⟨(Blk.new w _ _).alloc _, Blk.new2 w _ _ _, by go_grown⟩
end Go.Proofs.Ytjodpffdlggjgaa
/- Decisions made sample by sample: what they are; what the call keeps. -/
namespace Go.Proofs.Ytjodpffdlggjgaa
open Go.RowKit
set_option linter.unusedSimpArgs false
set_option linter.unusedVariables false
structure Fst where
  smps : List Smp
  past : List Adv
  out : List Adv
def fstep (p : Pol) (sm rm : Int) (st : Fst) (x : Smp) : Fst :=
  if errr sm x = 0 then
    if ofe p (putr st.smps sm x) = 0 then ⟨putr st.smps sm x, hush st.past rm (ofq p (putr st.smps sm x) st.past), if 1 ≤ rm ∧ rm ≤ 64 then st.out ++ [ofq p (putr st.smps sm x) st.past] else st.out⟩
    else ⟨putr st.smps sm x, st.past, st.out⟩
  else st
def folq (p : Pol) (sm rm : Int) (l : List Smp) : Fst := l.foldl (fstep p sm rm) ⟨[], [], []⟩
theorem folq_next (p : Pol) (sm rm : Int) {l : List Smp} {k : Nat} {x : Smp} (h : l[k]? = some x) : folq p sm rm (l.take (k + 1)) = fstep p sm rm (folq p sm rm (l.take k)) x := by
  unfold folq; rw [take_snoc2 h, List.foldl_append]; rfl
theorem fstep_no {p : Pol} {sm rm : Int} {st : Fst} {x : Smp} (h : errr sm x ≠ 0) : fstep p sm rm st x = st := if_neg h
theorem putr_no {l : List Smp} {sm : Int} {x : Smp} (h : errr sm x ≠ 0) : putr l sm x = l := by
  unfold putr
  split
  · rename_i hg
    unfold errr at h
    unfold putv
    split
    · rename_i h0
      rw [if_pos h0, if_pos hg] at h
      exact absurd rfl h
    · rfl
  · rfl
theorem len_putr (l : List Smp) (sm : Int) (x : Smp) : (putr l sm x).length ≤ l.length + 1 := by
  unfold putr putv putq
  split
  · split
    · split
      · rw [List.length_drop]; have := len_putL l x; omega
      · exact len_putL l x
    · omega
  · omega
theorem good_putr {l : List Smp} (h : ∀ y ∈ l, y.good) {x : Smp} (hx : x.good) (sm : Int) : ∀ y ∈ putr l sm x, y.good := by
  unfold putr
  split
  · exact good_putv h hx _
  · exact h
theorem fstep_smps (p : Pol) (sm rm : Int) (st : Fst) (x : Smp) : (fstep p sm rm st x).smps = putr st.smps sm x := by
  unfold fstep
  split
  · split <;> rfl
  · rename_i h; exact (putr_no h).symm
/-- What holds of all states along the way. -/
theorem folq_all (P : Nat → Fst → Prop) (p : Pol) (sm rm : Int) (l : List Smp) (h0 : P 0 ⟨[], [], []⟩) (hs : ∀ n st x, x ∈ l → P n st → P (n + 1) (fstep p sm rm st x)) : ∀ k, k ≤ l.length → P k (folq p sm rm (l.take k)) := by
  intro k
  induction k with
  | zero => intro _; exact h0
  | succ k ih =>
    intro hk
    have hx : l[k]? = some l[k] := List.getElem?_eq_getElem (by omega)
    rw [folq_next p sm rm hx]
    exact hs k _ _ (List.getElem_mem _) (ih (by omega))
theorem folq_len (p : Pol) (sm rm : Int) (l : List Smp) (k : Nat) (hk : k ≤ l.length) : (folq p sm rm (l.take k)).smps.length ≤ k ∧ (folq p sm rm (l.take k)).out.length ≤ k := by
  refine folq_all (fun n st => st.smps.length ≤ n ∧ st.out.length ≤ n) p sm rm l ⟨Nat.le_refl _, Nat.le_refl _⟩ (fun n st x _ h => ⟨?_, ?_⟩) k hk
  · rw [fstep_smps]; have := len_putr st.smps sm x; omega
  · unfold fstep
    split
    · split
      · dsimp only
        split
        · rw [List.length_append]; simp; omega
        · omega
      · dsimp only; omega
    · omega
theorem folq_good (p : Pol) (sm rm : Int) (l : List Smp) (hg : ∀ x ∈ l, x.good) (k : Nat) (hk : k ≤ l.length) : ∀ x ∈ (folq p sm rm (l.take k)).smps, x.good :=
  folq_all (fun n st => ∀ x ∈ st.smps, x.good) p sm rm l (fun x hx => by cases hx) (fun n st x hx h => by rw [fstep_smps]; exact good_putr h (hg x hx) sm) k hk
theorem folq_bad (p : Pol) (sm rm : Int) (l : List Smp) (hb : ¬ goodS sm ∨ ¬ (1 ≤ rm ∧ rm ≤ 64)) : (folq p sm rm l).out = [] := by
  have h := folq_all (fun n st => st.out = []) p sm rm l rfl (fun n st x _ h => by
    unfold fstep
    split
    · rename_i he
      split
      · dsimp only
        rw [if_neg]
        · exact h
        · rcases hb with hb | hb
          · unfold errr at he; rw [if_neg hb] at he
            split at he
            · cases he
            · rename_i h1; exact absurd he h1
          · exact hb
      · exact h
    · exact h) l.length (Nat.le_refl _)
  rwa [List.take_length] at h
/-- A series, a history and a list of the call's own, each by itself. -/
def FolIn (w1 wr : World) (ps ph : Option Addr) (v : Value) (st : Fst) (sm rm : Int) : Prop :=
  ∃ FS FH, SerV wr ps FS st.smps sm ∧ HistAt wr ph FH st.past rm ∧ OwnA wr w1.heap.size v st.out ∧ (∀ k, FS k → w1.heap.size ≤ k ∧ ¬ FH k ∧ v.ownBlock ≠ some k) ∧ (∀ k, FH k → w1.heap.size ≤ k ∧ v.ownBlock ≠ some k) ∧ Below w1.heap.size w1 wr ∧ w1.heap.size ≤ wr.heap.size
theorem FolIn.call {w1 wr w' : World} {ps ph : Option Addr} {v : Value} {st : Fst} {sm rm : Int} (h : FolIn w1 wr ps ph v st sm rm) (hb : Below wr.heap.size wr w') : FolIn w1 w' ps ph v st sm rm := by
  obtain ⟨FS, FH, h1, h2, h3, h4, h5, h6, h7⟩ := h
  exact ⟨FS, FH, h1.call hb, h2.call hb, h3.call hb, h4, h5, h6.trans (hb.mono h7), Nat.le_trans h7 hb.size⟩
theorem FolIn.ser {w1 wr : World} {ps ph : Option Addr} {v : Value} {st : Fst} {sm rm : Int} (h : FolIn w1 wr ps ph v st sm rm) : ∃ F, SerV wr ps F st.smps sm ∧ ∀ x e w', PutV ps F st.smps sm x wr e w' → e = .returned (.int .i64 (errr sm x)) ∧ FolIn w1 w' ps ph v ⟨putr st.smps sm x, st.past, st.out⟩ sm rm := by
  obtain ⟨FS, FH, h1, h2, h3, h4, h5, h6, h7⟩ := h
  refine ⟨FS, h1, ?_⟩
  rintro x e w' ⟨F', rfl, k1, k2, k3⟩
  have hlt := World.ownsRow.lt h3
  refine ⟨rfl, F', FH, k1, h2.upd k2 (fun k hk hs => (h4 k hs).2.1 hk), h3.upd k2 (fun k hk hs => (h4 k hs).2.2 hk), ?_, h5, h6.trans (k2.below (fun k hk => (h4 k hk).1) h7), Nat.le_trans h7 k2.size⟩
  intro k hk
  rcases k3 k hk with hk | hk
  · exact h4 k hk
  · exact ⟨Nat.le_trans h7 hk, fun hf => by have := h2.2 k hf; omega, fun hv => by have := (hlt k hv).2; omega⟩
theorem FolIn.hist {w1 wr : World} {ps ph : Option Addr} {v : Value} {st : Fst} {sm rm : Int} (h : FolIn w1 wr ps ph v st sm rm) : ∃ F, HistAt wr ph F st.past rm ∧ ∀ x e w', AddPost ph F st.past rm x wr e w' → e = .returned (.bool (decide (1 ≤ rm ∧ rm ≤ 64))) ∧ FolIn w1 w' ps ph v ⟨st.smps, hush st.past rm x, st.out⟩ sm rm := by
  obtain ⟨FS, FH, h1, h2, h3, h4, h5, h6, h7⟩ := h
  refine ⟨FH, h2, ?_⟩
  rintro x e w' ⟨F', rfl, k1, k2, k3⟩
  have hlt := World.ownsRow.lt h3
  refine ⟨rfl, FS, F', h1.upd k2 (fun k hk hs => (h4 k hk).2.1 hs), k1, h3.upd k2 (fun k hk hs => (h5 k hs).2 hk), ?_, ?_, h6.trans (k2.below (fun k hk => (h5 k hk).1) h7), Nat.le_trans h7 k2.size⟩
  · intro k hk
    refine ⟨(h4 k hk).1, fun hf => ?_, (h4 k hk).2.2⟩
    rcases k3 k hf with hf | hf
    · exact (h4 k hk).2.1 hf
    · have := h1.2 k hk; omega
  · intro k hk
    rcases k3 k hk with hk | hk
    · exact h5 k hk
    · exact ⟨Nat.le_trans h7 hk, fun hv => by have := (hlt k hv).2; omega⟩
theorem FolIn.hist2 {w1 wr : World} {ps ph : Option Addr} {v : Value} {st : Fst} {sm rm : Int} (h : FolIn w1 wr ps ph v st sm rm) : ∃ F, (∀ k, F k → k < wr.heap.size) ∧ ∀ wS, Below wr.heap.size wr wS → HistAt wS ph F st.past rm ∧ ∀ x e w', AddPost ph F st.past rm x wS e w' → e = .returned (.bool (decide (1 ≤ rm ∧ rm ≤ 64))) ∧ FolIn w1 w' ps ph v ⟨st.smps, hush st.past rm x, st.out⟩ sm rm ∧ Upd F wS w' := by
  obtain ⟨FS, FH, h1, h2, h3, h4, h5, h6, h7⟩ := h
  refine ⟨FH, h2.2, fun wS hb => ⟨h2.call hb, ?_⟩⟩
  rintro x e w' ⟨F', rfl, k1, k2, k3⟩
  have h3' := h3.call hb
  have h1' := h1.call hb
  have h7' := Nat.le_trans h7 hb.size
  have hlt := World.ownsRow.lt h3'
  refine ⟨rfl, ⟨FS, F', h1'.upd k2 (fun k hk hs => (h4 k hk).2.1 hs), k1, h3'.upd k2 (fun k hk hs => (h5 k hs).2 hk), ?_, ?_, (h6.trans (hb.mono h7)).trans (k2.below (fun k hk => (h5 k hk).1) h7'), Nat.le_trans h7' k2.size⟩, k2⟩
  · intro k hk
    refine ⟨(h4 k hk).1, fun hf => ?_, (h4 k hk).2.2⟩
    rcases k3 k hf with hf | hf
    · exact (h4 k hk).2.1 hf
    · have := h1'.2 k hk; omega
  · intro k hk
    rcases k3 k hk with hk | hk
    · exact h5 k hk
    · exact ⟨Nat.le_trans h7' hk, fun hv => by have := (hlt k hv).2; omega⟩
theorem FolIn.ser2 {w1 wr : World} {ps ph : Option Addr} {v : Value} {st : Fst} {sm rm : Int} (h : FolIn w1 wr ps ph v st sm rm) : ∃ FS FH, SerV wr ps FS st.smps sm ∧ HistAt wr ph FH st.past rm := by
  obtain ⟨FS, FH, h1, h2, h3, h4, h5, h6, h7⟩ := h; exact ⟨FS, FH, h1, h2⟩
theorem fstep_ok {p : Pol} {sm rm : Int} {st : Fst} {x : Smp} (h : errr sm x = 0) (h2 : ofe p (putr st.smps sm x) = 0) (h3 : 1 ≤ rm ∧ rm ≤ 64) : fstep p sm rm st x = ⟨putr st.smps sm x, hush st.past rm (ofq p (putr st.smps sm x) st.past), st.out ++ [ofq p (putr st.smps sm x) st.past]⟩ := by
  unfold fstep; rw [if_pos h, if_pos h2, if_pos h3]
theorem fstep_full {p : Pol} {sm rm : Int} {st : Fst} {x : Smp} (h : errr sm x = 0) (h2 : ofe p (putr st.smps sm x) = 0) (h3 : ¬ (1 ≤ rm ∧ rm ≤ 64)) : fstep p sm rm st x = ⟨putr st.smps sm x, hush st.past rm (ofq p (putr st.smps sm x) st.past), st.out⟩ := by
  unfold fstep; rw [if_pos h, if_pos h2, if_neg h3]
theorem fstep_skip {p : Pol} {sm rm : Int} {st : Fst} {x : Smp} (h : errr sm x = 0) (h2 : ofe p (putr st.smps sm x) ≠ 0) : fstep p sm rm st x = ⟨putr st.smps sm x, st.past, st.out⟩ := by
  unfold fstep; rw [if_pos h, if_neg h2]
theorem FolIn.push {w1 wr w' : World} {ps ph : Option Addr} {v v' : Value} {st : Fst} {sm rm : Int} {a : Adv} (h : FolIn w1 wr ps ph v st sm rm) (ho : OwnA w' w1.heap.size v' (st.out ++ [a])) (hu : Upd (fun k => v.ownBlock = some k) wr w') (hw : v'.ownBlock = v.ownBlock ∨ v'.ownBlock = some wr.heap.size) : FolIn w1 w' ps ph v' ⟨st.smps, st.past, st.out ++ [a]⟩ sm rm := by
  obtain ⟨FS, FH, h1, h2, h3, h4, h5, h6, h7⟩ := h
  have hlt := World.ownsRow.lt h3
  refine ⟨FS, FH, h1.upd hu (fun k hk hs => (h4 k hk).2.2 hs), h2.upd hu (fun k hk hs => (h5 k hk).2 hs), ho, fun k hk => ⟨(h4 k hk).1, (h4 k hk).2.1, fun e => ?_⟩, fun k hk => ⟨(h5 k hk).1, fun e => ?_⟩, h6.trans (hu.below (fun k hk => (hlt k hk).1) h7), Nat.le_trans h7 hu.size⟩
  · rcases hw with hw | hw
    · exact (h4 k hk).2.2 (hw.symm.trans e)
    · rw [hw] at e; injection e with e; have := h1.2 k hk; omega
  · rcases hw with hw | hw
    · exact (h5 k hk).2 (hw.symm.trans e)
    · rw [hw] at e; injection e with e; have := h2.2 k hk; omega
theorem FolIn.own {w1 wr : World} {ps ph : Option Addr} {v : Value} {st : Fst} {sm rm : Int} (h : FolIn w1 wr ps ph v st sm rm) : OwnA wr w1.heap.size v st.out := by
  obtain ⟨FS, FH, h1, h2, h3, h4, h5, h6, h7⟩ := h; exact h3
theorem FolIn.bel {w1 wr : World} {ps ph : Option Addr} {v : Value} {st : Fst} {sm rm : Int} (h : FolIn w1 wr ps ph v st sm rm) : Below w1.heap.size w1 wr := by
  obtain ⟨FS, FH, h1, h2, h3, h4, h5, h6, h7⟩ := h; exact h6
theorem FolIn.size {w1 wr : World} {ps ph : Option Addr} {v : Value} {st : Fst} {sm rm : Int} (h : FolIn w1 wr ps ph v st sm rm) : w1.heap.size ≤ wr.heap.size := by
  obtain ⟨FS, FH, h1, h2, h3, h4, h5, h6, h7⟩ := h; exact h7
theorem FolIn.start {w1 v1 v2 : World} {ps ph : Option Addr} {sm rm : Int} {FS FH : Nat → Prop} (h1 : SerV v1 ps FS [] sm) (h2 : ∀ k, FS k → w1.heap.size ≤ k) (h3 : Below w1.heap.size w1 v1) (h4 : HistAt v2 ph FH [] rm) (h5 : ∀ k, FH k → v1.heap.size ≤ k) (h6 : Below v1.heap.size v1 v2) : FolIn w1 v2 ps ph (.slice none 0 0) ⟨[], [], []⟩ sm rm :=
  ⟨FS, FH, h1.call h6, h4, Own.nil _ _ _ _ _, fun k hk => ⟨h2 k hk, fun hf => by have := h5 k hf; have := h1.2 k hk; omega, by simp [Value.ownBlock]⟩, fun k hk => ⟨Nat.le_trans h3.size (h5 k hk), by simp [Value.ownBlock]⟩, h3.trans (h6.mono h3.size), Nat.le_trans h3.size h6.size⟩
end Go.Proofs.Ytjodpffdlggjgaa
/- Package audit and its reference: which rule a decision breaks. (fast region) -/
namespace Go.Proofs.Ytjodpffdlggjgaa
open Go.RowKit
set_option linter.unusedSimpArgs false
set_option linter.unusedVariables false
set_option maxHeartbeats 4000000
set_option maxRecDepth 100000
def whyOk (a : Adv) (now : Int) : Bool := if a.why = 2 then decide (now < a.repl) else if a.why = 3 then decide (a.repl < now) else if a.why = 1 then a.repl == now else true
def polHas (p : Pol) (n : Int) : Bool := decide (p.okP ∧ p.min ≤ n ∧ n ≤ p.max)
def ruleq (p : Pol) (past : List Adv) (a : Adv) : Int :=
  if a.why < 1 then 1 else if 6 < a.why then 1 else if polHas p a.repl = false then 2 else if a.want ≠ rawq p a.load (nowq p past) then 3
  else if a.repl ≠ boundq p (steadyq p a.tick a.want past).1 then 4 else if (steadyq p a.tick a.want past).2 ≠ decide (a.why = 4) then 4
  else if whyOk a (nowq p past) = false then 5 else 0
abbrev Adv.row (a : Adv) : Array Value := #[.int .i64 a.tick, .int .i64 a.load, .int .i64 a.want, .int .i64 a.repl, .int .i64 a.why]
def DA (w wr : World) (p : Pol) (a : Adv) : Prop := Blk wr w.heap.size 23 p.row ∧ Blk wr (w.heap.size + 1) 26 a.row ∧ Below w.heap.size w wr
theorem DA.call {w wr w' : World} {p : Pol} {a : Adv} (h : DA w wr p a) (hb : Below wr.heap.size wr w') : DA w w' p a := ⟨h.1.call hb, h.2.1.call hb, h.2.2.trans (hb.mono h.2.2.size)⟩
theorem DA.start (w : World) (p : Pol) (a : Adv) : DA w ((w.alloc (.cells p.row 23)).alloc (.cells a.row 26)) p a :=
  ⟨(Blk.new w _ _).alloc _, Blk.new2 w _ _ _, by go_grown⟩
theorem DA.cells {w wr : World} {p : Pol} {a : Adv} (h : DA w wr p a) : wr.cell? ⟨w.heap.size + 1, 0, none⟩ = some (.int .i64 a.tick) ∧ wr.cell? ⟨w.heap.size + 1, 1, none⟩ = some (.int .i64 a.load) ∧ wr.cell? ⟨w.heap.size + 1, 2, none⟩ = some (.int .i64 a.want) ∧ wr.cell? ⟨w.heap.size + 1, 3, none⟩ = some (.int .i64 a.repl) ∧ wr.cell? ⟨w.heap.size + 1, 4, none⟩ = some (.int .i64 a.why) ∧ wr.cell? ⟨w.heap.size, 0, none⟩ = some (.int .i64 p.min) ∧ wr.cell? ⟨w.heap.size, 1, none⟩ = some (.int .i64 p.max) :=
  ⟨h.2.1.cellv rfl, h.2.1.cellv rfl, h.2.1.cellv rfl, h.2.1.cellv rfl, h.2.1.cellv rfl, h.1.cellv rfl, h.1.cellv rfl⟩
theorem audit_why (p : Pol) (a : Adv) (now : Int) (w : World) :
    Calls Try.prog 48 #[(.agg #[.int .i64 p.min, .int .i64 p.max, .int .i64 p.target, .int .i64 p.tol, .int .i64 p.window, .int .i64 p.hold]), .agg a.row, .int .i64 now] w fun e w' => e = .returned (.bool (whyOk a now)) ∧ Below w.heap.size w w' := by
  have HQ := Lib.hid (show whyOk a now = if a.why = 2 then decide (now < a.repl) else if a.why = 3 then decide (a.repl < now) else if a.why = 1 then a.repl == now else true from rfl)
  by_cases k2 : a.why = 2
  · have HE := Lib.hid (show whyOk a now = decide (now < a.repl) by rw [HQ.out, if_pos k2])
    have d2 : (a.why == 2) = true := by simpa using k2
    clear k2 HQ
    go_enter Try.func48, Try.ntmps48
    go_wp2
    go_ret
    exact ⟨ret_bool HE.out.symm, by go_grown⟩
  have d2 : (a.why == 2) = false := by simpa using k2
  by_cases k3 : a.why = 3
  · have HE := Lib.hid (show whyOk a now = decide (a.repl < now) by rw [HQ.out, if_neg k2, if_pos k3])
    have d3 : (a.why == 3) = true := by simpa using k3
    clear k2 k3 HQ
    go_enter Try.func48, Try.ntmps48
    go_wp2
    go_ret
    exact ⟨ret_bool HE.out.symm, by go_grown⟩
  have d3 : (a.why == 3) = false := by simpa using k3
  by_cases k1 : a.why = 1
  · have HE := Lib.hid (show whyOk a now = (a.repl == now) by rw [HQ.out, if_neg k2, if_neg k3, if_pos k1])
    have d1 : (a.why == 1) = true := by simpa using k1
    clear k1 k2 k3 HQ
    go_enter Try.func48, Try.ntmps48
    go_wp2
    go_ret
    exact ⟨ret_bool HE.out.symm, by go_grown⟩
  · have HE := Lib.hid (show whyOk a now = true by rw [HQ.out, if_neg k2, if_neg k3, if_neg k1])
    have d1 : (a.why == 1) = false := by simpa using k1
    clear k1 k2 k3 HQ
    go_enter Try.func48, Try.ntmps48
    go_wp2
    go_ret
    exact ⟨ret_bool HE.out.symm, by go_grown⟩
theorem polHas_eq (p : Pol) (n : Int) (b : Bool) (h : b = decide p.okP) : (b && decide (p.min ≤ n) && decide (n ≤ p.max)) = polHas p n := by
  subst h; unfold polHas; rw [Bool.eq_iff_iff]; simp [and_assoc]
theorem policy_Has (p : Pol) (n : Int) (w : World) :
    Calls Try.prog 45 #[(.agg #[.int .i64 p.min, .int .i64 p.max, .int .i64 p.target, .int .i64 p.tol, .int .i64 p.window, .int .i64 p.hold]), .int .i64 n] w fun e w' => e = .returned (.bool (polHas p n)) ∧ Below w.heap.size w w' := by
  by_cases hk : p.okP
  · have HC := Lib.hid (fun W => policy_Check p W)
    rw [polErr_ok hk] at HC
    have HE := Lib.hid (polHas_eq p n true (by simp [hk]))
    clear hk
    by_cases h1 : p.min ≤ n
    · have d1 : decide (p.min ≤ n) = true := by simpa using h1
      rw [d1] at HE
      go_enter Try.func45, Try.ntmps45
      go_wp2_with fail
      refine (HC.out _).mono ?_
      rintro e v1 ⟨rfl, hb1⟩
      have B1 := (Blk.new w 23 p.row).call hb1
      have E1 := Lib.hid (Below.trans (show Below w.heap.size w (w.alloc (.cells p.row 23)) by go_grown) (hb1.mono (by simp)))
      have c0 := B1.cellv (i := 0) (v := .int .i64 p.min) rfl
      have c1 := B1.cellv (i := 1) (v := .int .i64 p.max) rfl
      clear hb1 B1
      go_wp2
      go_ret
      exact ⟨ret_bool (by rw [← HE.out]; simp), E1.out⟩
    · have d1 : decide (p.min ≤ n) = false := by simpa using h1
      rw [d1] at HE
      go_enter Try.func45, Try.ntmps45
      go_wp2_with fail
      refine (HC.out _).mono ?_
      rintro e v1 ⟨rfl, hb1⟩
      have B1 := (Blk.new w 23 p.row).call hb1
      have E1 := Lib.hid (Below.trans (show Below w.heap.size w (w.alloc (.cells p.row 23)) by go_grown) (hb1.mono (by simp)))
      have c0 := B1.cellv (i := 0) (v := .int .i64 p.min) rfl
      clear hb1 B1
      go_wp2
      go_ret
      exact ⟨ret_bool (by rw [← HE.out]; simp), E1.out⟩
  · have HC := Lib.hid (fun W => policy_Check p W)
    rw [polErr_no hk] at HC
    have HE := Lib.hid (show polHas p n = false by unfold polHas; simp [hk])
    clear hk
    go_enter Try.func45, Try.ntmps45
    go_wp2_with fail
    refine (HC.out _).mono ?_
    rintro e v1 ⟨rfl, hb1⟩
    have E1 := Lib.hid (Below.trans (show Below w.heap.size w (w.alloc (.cells p.row 23)) by go_grown) (hb1.mono (by simp)))
    clear hb1
    go_wp2
    go_ret
    exact ⟨ret_bool HE.out.symm, E1.out⟩
end Go.Proofs.Ytjodpffdlggjgaa
/- Which rules decisions break, one after the other; those that are made break none. -/
namespace Go.Proofs.Ytjodpffdlggjgaa
open Go.RowKit
set_option linter.unusedSimpArgs false
set_option linter.unusedVariables false
def pastq (room : Int) (past l : List Adv) : List Adv := l.foldl (fun q a => hush q room a) past
def ruls (p : Pol) (room : Int) : List Adv → List Adv → List Int
  | past, [] => []
  | past, a :: l => ruleq p past a :: ruls p room (hush past room a) l
theorem ruls_snoc (p : Pol) (room : Int) (l : List Adv) (x : Adv) : ∀ past, ruls p room past (l ++ [x]) = ruls p room past l ++ [ruleq p (pastq room past l) x] := by
  induction l with
  | nil => intro past; rfl
  | cons a l ih => intro past; show _ :: ruls p room _ (l ++ [x]) = _; rw [ih]; rfl
theorem pastq_snoc (room : Int) (l : List Adv) (x : Adv) (past : List Adv) : pastq room past (l ++ [x]) = hush (pastq room past l) room x := by
  unfold pastq; rw [List.foldl_append]; rfl
theorem ruls_next (p : Pol) (room : Int) {l : List Adv} {k : Nat} {x : Adv} (h : l[k]? = some x) : ruls p room [] (l.take (k + 1)) = ruls p room [] (l.take k) ++ [ruleq p (pastq room [] (l.take k)) x] ∧ pastq room [] (l.take (k + 1)) = hush (pastq room [] (l.take k)) room x := by
  rw [take_snoc2 h]; exact ⟨ruls_snoc p room _ x [], pastq_snoc room _ x []⟩
theorem ruls_len (p : Pol) (room : Int) (l : List Adv) : ∀ past, (ruls p room past l).length = l.length := by
  induction l with
  | nil => intro past; rfl
  | cons a l ih => intro past; show (_ :: ruls p room _ l).length = _; rw [List.length_cons, ih]; rfl
theorem ruls_take (p : Pol) (room : Int) (l : List Adv) (k : Nat) : ∀ past, (ruls p room past l).take k = ruls p room past (l.take k) := by
  induction l generalizing k with
  | nil => intro past; simp [ruls]
  | cons a l ih =>
    intro past
    cases k with
    | zero => rfl
    | succ k => show _ :: (ruls p room _ l).take k = _ :: ruls p room _ (l.take k); rw [ih]
theorem pastq_len (room : Int) (l : List Adv) : (pastq room [] l).length ≤ 64 := by
  have key : ∀ (l past : List Adv), past.length ≤ 64 → (pastq room past l).length ≤ 64 := by
    intro l
    induction l with
    | nil => intro past h; exact h
    | cons a l ih =>
      intro past h
      refine ih _ ?_
      show (hush past room a).length ≤ 64
      unfold hush
      split
      · unfold pushq
        split
        · rw [List.length_drop, List.length_append]; simp; omega
        · omega
      · simp
  exact key l [] (by simp)
/-- i is the place of the first number of rs that is not 0, which is r; or there is none. -/
def IsFirst (rs : List Int) (i r : Int) : Prop := (i = -1 ∧ r = 0 ∧ ∀ x ∈ rs, x = 0) ∨ ∃ k : Nat, i = k ∧ rs[k]? = some r ∧ r ≠ 0 ∧ ∀ j, j < k → rs[j]? = some 0
theorem IsFirst.zero {rs : List Int} {i r : Int} (h : IsFirst rs i r) (hz : ∀ x ∈ rs, x = 0) : i = -1 ∧ r = 0 := by
  rcases h with ⟨h1, h2, -⟩ | ⟨k, -, h2, h3, -⟩
  · exact ⟨h1, h2⟩
  · exact absurd (hz r (List.mem_of_getElem? h2)) h3
theorem IsFirst.same {rs : List Int} {i r i' r' : Int} (h : IsFirst rs i r) (h' : IsFirst rs i' r') : i = i' ∧ r = r' := by
  rcases h with ⟨rfl, rfl, hz⟩ | ⟨k, rfl, h2, h3, h4⟩
  · obtain ⟨h1, h2⟩ := h'.zero hz; exact ⟨h1.symm, h2.symm⟩
  · rcases h' with ⟨-, -, hz⟩ | ⟨k', rfl, h2', h3', h4'⟩
    · exact absurd (hz r (List.mem_of_getElem? h2)) h3
    · have : k = k' := by
        rcases Nat.lt_trichotomy k k' with hlt | he | hgt
        · have := h4' k hlt; rw [h2] at this; injection this with this; exact absurd this h3
        · exact he
        · have := h4 k' hgt; rw [h2'] at this; injection this with this; exact absurd this h3'
      subst this
      rw [h2] at h2'; injection h2' with h2'
      exact ⟨rfl, h2'⟩
theorem meanq_I64 (l : List Int) : I64 (meanq l) := by
  unfold meanq smallQ I64
  split
  · omega
  · split <;> omega
theorem made_fine (p : Pol) (l : List Smp) (past : List Adv) (hk : p.okP) (hg : ∀ x ∈ l, x.good) : ruleq p past (decq p l past) = 0 ∧ (decq p l past).good := by
  obtain ⟨k1, k2, k3, k4, k5, k6, k7, k8, k9⟩ := id hk
  have hb : ∀ n, p.min ≤ boundq p n ∧ boundq p n ≤ p.max := fun n => by
    unfold boundq clampq
    rw [if_pos hk]
    split
    · omega
    · split <;> omega
  have hT := latestq_I64 hg
  unfold decq
  dsimp only
  generalize latestq l = T at *
  have hM := meanq_I64 (valq (cutq l (fromq T p.window) T))
  generalize meanq (valq (cutq l (fromq T p.window) T)) = load at *
  have hr := raw_open2 p load (nowq p past)
  generalize openq p load (nowq p past) = op at *
  generalize hS : steadyq p T (boundq p op) past = S
  obtain ⟨s1, s2⟩ := S
  have h1 := hb op
  have h2 := hb s1
  refine ⟨?_, ?_⟩
  · unfold ruleq
    dsimp only
    rw [hS]
    have hw : 1 ≤ whyq p s2 op (nowq p past) (boundq p s1) ∧ whyq p s2 op (nowq p past) (boundq p s1) ≤ 6 ∧ (s2 = decide (whyq p s2 op (nowq p past) (boundq p s1) = 4)) ∧ (whyq p s2 op (nowq p past) (boundq p s1) = 2 → nowq p past < boundq p s1) ∧ (whyq p s2 op (nowq p past) (boundq p s1) = 3 → boundq p s1 < nowq p past) ∧ (whyq p s2 op (nowq p past) (boundq p s1) = 1 → boundq p s1 = nowq p past) := by
      unfold whyq
      cases s2
      · simp only [Bool.false_eq_true, if_false]
        split
        · simp
        · split
          · simp
          · split
            · simp; omega
            · split
              · simp; omega
              · simp; omega
      · simp
    generalize whyq p s2 op (nowq p past) (boundq p s1) = y at *
    obtain ⟨w1, w2, w3, w4, w5, w6⟩ := hw
    rw [if_neg (by omega), if_neg (by omega)]
    have hh : polHas p (boundq p s1) = true := by unfold polHas; exact decide_eq_true ⟨hk, h2.1, h2.2⟩
    rw [if_neg (by rw [hh]; simp), if_neg (by rw [hr]; simp), if_neg (by simp), if_neg (by simpa using w3)]
    refine if_neg ?_
    unfold whyOk
    dsimp only
    split
    · rename_i e; simp; exact w4 e
    · split
      · rename_i e; simp; exact w5 e
      · split
        · rename_i e; simp; exact w6 e
        · simp
  · refine ⟨hT, hM, ?_, ?_, ?_⟩
    · show I64 (boundq p op); unfold I64; omega
    · show I64 (boundq p s1); unfold I64; omega
    · show I64 (whyq p s2 op (nowq p past) (boundq p s1)); unfold I64 whyq
      split
      · omega
      · split
        · omega
        · split
          · omega
          · split
            · omega
            · split <;> omega
theorem fine_next (p : Pol) (sm rm : Int) (st : Fst) (x : Smp) (hg : ∀ y ∈ st.smps, y.good) (hx : x.good) (h1 : st.past = pastq rm [] st.out) (h2 : ∀ r ∈ ruls p rm [] st.out, r = 0) (h3 : ∀ a ∈ st.out, a.good) (hr : 1 ≤ rm ∧ rm ≤ 64) :
    (fstep p sm rm st x).past = pastq rm [] (fstep p sm rm st x).out ∧ (∀ r ∈ ruls p rm [] (fstep p sm rm st x).out, r = 0) ∧ ∀ a ∈ (fstep p sm rm st x).out, a.good := by
  by_cases he : errr sm x = 0
  · by_cases ho : ofe p (putr st.smps sm x) = 0
    · rw [fstep_ok he ho hr]
      have hk : p.okP := Classical.byContradiction fun hn => by rw [(ofq_no (past := st.past) hn).2] at ho; omega
      have hl : (putr st.smps sm x).length ≠ 0 := fun hn => by rw [(ofq_nil (past := st.past) hk hn).2] at ho; omega
      rw [(ofq_ok (past := st.past) hk hl).1]
      obtain ⟨m1, m2⟩ := made_fine p (putr st.smps sm x) st.past hk (good_putr hg hx sm)
      refine ⟨?_, fun r hr => ?_, fun a ha => ?_⟩
      · show hush st.past rm _ = _
        rw [pastq_snoc, ← h1]
      · replace hr : r ∈ ruls p rm [] (st.out ++ [decq p (putr st.smps sm x) st.past]) := hr
        rw [ruls_snoc, ← h1, m1] at hr
        rcases List.mem_append.1 hr with hr | hr
        · exact h2 r hr
        · simpa using hr
      · rcases List.mem_append.1 ha with ha | ha
        · exact h3 a ha
        · simp at ha; subst ha; exact m2
    · rw [fstep_skip he ho]; exact ⟨h1, h2, h3⟩
  · rw [fstep_no he]; exact ⟨h1, h2, h3⟩
theorem fol_fine (p : Pol) (sm rm : Int) (l : List Smp) (hg : ∀ x ∈ l, x.good) : (∀ r ∈ ruls p rm [] (folq p sm rm l).out, r = 0) ∧ ∀ a ∈ (folq p sm rm l).out, a.good := by
  by_cases hr : 1 ≤ rm ∧ rm ≤ 64
  · have h := folq_all (fun n st => (∀ y ∈ st.smps, y.good) ∧ st.past = pastq rm [] st.out ∧ (∀ r ∈ ruls p rm [] st.out, r = 0) ∧ ∀ a ∈ st.out, a.good) p sm rm l ⟨fun y hy => (by cases hy), rfl, fun r hr => (by cases hr), fun a ha => (by cases ha)⟩ (fun n st x hx h => ⟨by rw [fstep_smps]; exact good_putr h.1 (hg x hx) sm, fine_next p sm rm st x h.1 (hg x hx) h.2.1 h.2.2.1 h.2.2.2 hr⟩) l.length (Nat.le_refl _)
    rw [List.take_length] at h
    exact ⟨h.2.2.1, h.2.2.2⟩
  · rw [folq_bad p sm rm l (.inr hr)]
    exact ⟨fun r hr => (by cases hr), fun a ha => (by cases ha)⟩
end Go.Proofs.Ytjodpffdlggjgaa
/- A loop of control, plain: rows, one after the other. -/
namespace Go.Proofs.Ytjodpffdlggjgaa
open Go.RowKit
set_option linter.unusedVariables false
set_option linter.unusedSimpArgs false
structure Rw where
  tick : Int
  comes : Int
  repl : Int
  serves : Int
  left : Int
def Rw.cells (x : Rw) : List Value := [.int .i64 x.tick, .int .i64 x.comes, .int .i64 x.repl, .int .i64 x.serves, .int .i64 x.left]
abbrev Rw.row (x : Rw) : Array Value := #[.int .i64 x.tick, .int .i64 x.comes, .int .i64 x.repl, .int .i64 x.serves, .int .i64 x.left]
def Rw.good (x : Rw) : Prop := I64 x.tick ∧ I64 x.comes ∧ I64 x.repl ∧ I64 x.serves ∧ I64 x.left
abbrev RwsAre (w : World) (A : Option Addr) (len cap : Nat) (l : List Rw) : Prop := SliceIs w 5 Rw.cells A len cap l
structure Lst where
  smps : List Smp
  past : List Adv
  repl : Int
  left : Int
def lrow (p : Pol) (st : Lst) (at_ comes : Int) : Rw := ⟨at_, comes, st.repl, min (satq (st.left + comes)) (satq (st.repl * p.target)), satq (st.left + comes) - min (satq (st.left + comes)) (satq (st.repl * p.target))⟩
def lsmps (st : Lst) (at_ comes : Int) : List Smp := putq st.smps 64 ⟨at_, satq (st.left + comes)⟩
def lstep (p : Pol) (st : Lst) (at_ comes : Int) : Lst :=
  ⟨lsmps st at_ comes, pushq st.past 16 (ofq p (lsmps st at_ comes) st.past), (ofq p (lsmps st at_ comes) st.past).repl, (lrow p st at_ comes).left⟩
def lst0 (p : Pol) : Lst := ⟨[], [], p.min, 0⟩
/-- The state behind k rounds, and the rows. -/
def lrun (p : Pol) (c : Nat → Int) : Nat → Lst × List Rw
  | 0 => (lst0 p, [])
  | k + 1 => (lstep p (lrun p c k).1 k (c k), (lrun p c k).2 ++ [lrow p (lrun p c k).1 k (c k)])
/-- What holds of each state. -/
structure LOk (p : Pol) (k : Nat) (st : Lst) : Prop where
  srt : Srt st.smps
  len : st.smps.length ≤ 64
  lenk : st.smps.length ≤ k
  good : ∀ x ∈ st.smps, x.good
  past : st.past.length ≤ 16
  rlo : p.min ≤ st.repl
  rhi : st.repl ≤ p.max
  left : 0 ≤ st.left ∧ st.left ≤ 9223372036854775807
theorem lrow_bd {p : Pol} (hk : p.okP) {k : Nat} {st : Lst} (h : LOk p k st) {c : Int} (hc : 0 ≤ c) (hc2 : I64 c) : 0 ≤ satq (st.left + c) ∧ satq (st.left + c) ≤ 9223372036854775807 ∧ 0 ≤ satq (st.repl * p.target) ∧ satq (st.repl * p.target) ≤ 9223372036854775807 := by
  have h1 := satq_I64 (st.left + c)
  have h2 := satq_I64 (st.repl * p.target)
  unfold I64 at h1 h2
  have h3 : 0 ≤ st.repl * p.target := Int.mul_nonneg (by have := h.rlo; have := hk.1; omega) (by have := hk.2.2.2.2.1; omega)
  have h4 := h.left
  have h5 : ∀ x : Int, 0 ≤ x → 0 ≤ satq x := fun x hx => by unfold satq; (repeat' split) <;> omega
  exact ⟨h5 _ (by omega), h1.2, h5 _ h3, h2.2⟩
theorem putq_pos (l : List Smp) (x : Smp) : (putq l 64 x).length ≠ 0 := by
  have h : (putL l x).length ≠ 0 := by unfold putL; rw [List.length_append, List.length_cons]; omega
  unfold putq; split
  · rw [List.length_drop]; omega
  · exact h
theorem repl_bd {p : Pol} (hk : p.okP) (l : List Smp) (past : List Adv) (hl : l.length ≠ 0) : p.min ≤ (ofq p l past).repl ∧ (ofq p l past).repl ≤ p.max := by
  rw [(ofq_ok (past := past) hk hl).1]
  have key : ∀ n, p.min ≤ boundq p n ∧ boundq p n ≤ p.max := fun n => by
    have h3 := hk.2.2.1
    unfold boundq clampq
    rw [if_pos hk]
    split
    · omega
    · split <;> omega
  exact key _
theorem pushq_len (l : List Adv) (x : Adv) (h : l.length ≤ 16) : (pushq l 16 x).length ≤ 16 := by
  unfold pushq; split
  · rw [List.length_drop, List.length_append]; simp; omega
  · rename_i h2; omega
theorem LOk.next {p : Pol} (hk : p.okP) {k : Nat} {st : Lst} (h : LOk p k st) {at_ c : Int} (ha : 0 ≤ at_) (ha2 : I64 at_) (hc : 0 ≤ c) (hc2 : I64 c) : LOk p (k + 1) (lstep p st at_ c) := by
  obtain ⟨b1, b2, b3, b4⟩ := lrow_bd hk h hc hc2
  have hr := repl_bd hk (lsmps st at_ c) st.past (putq_pos _ _)
  refine ⟨srt_putq h.srt _ _, len_putq h.len (by omega) _, ?_, good_putq h.good (show Smp.good ⟨at_, satq (st.left + c)⟩ from ⟨ha2, satq_I64 _⟩) 64, pushq_len _ _ h.past, hr.1, hr.2, ?_⟩
  · show (putq st.smps 64 _).length ≤ k + 1
    have := len_putL st.smps ⟨at_, satq (st.left + c)⟩
    have := h.lenk
    unfold putq; split
    · rw [List.length_drop]; omega
    · omega
  · show 0 ≤ satq (st.left + c) - min (satq (st.left + c)) (satq (st.repl * p.target)) ∧ _ ≤ _
    have : (lstep p st at_ c).left = satq (st.left + c) - min (satq (st.left + c)) (satq (st.repl * p.target)) := rfl
    omega
theorem lok_zero {p : Pol} (hk : p.okP) : LOk p 0 (lst0 p) :=
  ⟨List.Pairwise.nil, by simp [lst0], by simp [lst0], fun x hx => by simp [lst0] at hx, by simp [lst0], Int.le_refl _, hk.2.2.1, by simp [lst0]⟩
theorem lrun_ok {p : Pol} (hk : p.okP) {c : Nat → Int} : ∀ k : Nat, k ≤ 2000 → (∀ i, i < k → 0 ≤ c i ∧ I64 (c i)) → LOk p k (lrun p c k).1
  | 0, _, _ => lok_zero hk
  | k + 1, h2, hc => (lrun_ok hk k (by omega) (fun i hi => hc i (by omega))).next hk (by omega) (by unfold I64; omega) (hc k (by omega)).1 (hc k (by omega)).2
theorem lrun_len (p : Pol) (c : Nat → Int) : ∀ k, (lrun p c k).2.length = k
  | 0 => rfl
  | k + 1 => by show (_ ++ [_]).length = _; rw [List.length_append, lrun_len p c k]; rfl
theorem lerr {p : Pol} (hk : p.okP) {k : Nat} {st : Lst} (h : LOk p k st) {at_ c : Int} (ha : 0 ≤ at_) (hc : 0 ≤ c) (hc2 : I64 c) : errr 64 ⟨at_, satq (st.left + c)⟩ = 0 ∧ putr st.smps 64 ⟨at_, satq (st.left + c)⟩ = lsmps st at_ c := by
  have e : serErr at_ (satq (st.left + c)) = 0 := serErr_ok ha (lrow_bd hk h hc hc2).1
  have g : goodS (64 : Int) := by unfold goodS; omega
  constructor
  · unfold errr; rw [if_pos e, if_pos g]
  · unfold putr; rw [if_pos g]; unfold putv; rw [if_pos e]; rfl
theorem lofe {p : Pol} (hk : p.okP) (st : Lst) (at_ c : Int) : ofe p (lsmps st at_ c) = 0 := (ofq_ok (past := []) hk (putq_pos _ _)).2
theorem lhush (past : List Adv) (x : Adv) : hush past 16 x = pushq past 16 x := by
  unfold hush; rw [if_pos (by omega)]; rfl
end Go.Proofs.Ytjodpffdlggjgaa
/- loop.Check, flywheelref55.Check: the walks. -/
namespace Go.Proofs.Ytjodpffdlggjgaa
open Go.RowKit
set_option linter.unusedSimpArgs false
set_option linter.unusedVariables false
set_option maxHeartbeats 4000000
set_option maxRecDepth 100000
def errS : List Shp → Int
  | [] => 0
  | s :: l => if shpErr s ≠ 0 then shpErr s else errS l
def lchk (p : Pol) (ticks : Int) (l : List Shp) : Int := if ¬ p.okP then 7 else if errS l ≠ 0 then errS l else if ticks < 0 ∨ 1024 < ticks then 12 else 0
theorem errS_at {l : List Shp} {k : Nat} {s : Shp} (h : l[k]? = some s) : errS (l.drop k) = if shpErr s ≠ 0 then shpErr s else errS (l.drop (k + 1)) := by
  have hlt := (List.getElem?_eq_some_iff.1 h).1
  rw [List.drop_eq_getElem_cons hlt, (List.getElem?_eq_some_iff.1 h).2]; rfl
theorem lchk_ok {p : Pol} {ticks : Int} {l : List Shp} (h : lchk p ticks l = 0) : p.okP ∧ errS l = 0 ∧ 0 ≤ ticks ∧ ticks ≤ 1024 := by
  unfold lchk at h
  split at h
  · omega
  · rename_i h1
    split at h
    · omega
    · split at h
      · omega
      · exact ⟨Classical.byContradiction h1, by omega, by omega, by omega⟩
theorem errS_ok : ∀ {l : List Shp}, errS l = 0 → ∀ s ∈ l, s.ok
  | [], _, s, hs => by cases hs
  | x :: l, h, s, hs => by
    unfold errS at h
    by_cases hx : shpErr x = 0
    · rw [if_neg (by omega)] at h
      rcases List.mem_cons.1 hs with rfl | hs
      · exact shpErr_ok.1 hx
      · exact errS_ok h s hs
    · rw [if_pos hx] at h; exact absurd h hx
def PL (w wr : World) (p : Pol) : Prop := Blk wr w.heap.size 23 p.row ∧ Below w.heap.size w wr
theorem PL.start (w : World) (p : Pol) : PL w (w.alloc (.cells p.row 23)) p := ⟨Blk.new w _ _, by go_grown⟩
theorem PL.call {w wr w' : World} {p : Pol} (h : PL w wr p) (hb : Below wr.heap.size wr w') : PL w w' p := ⟨h.1.call hb, h.2.trans (hb.mono h.2.size)⟩
theorem PL.alloc {w wr : World} {p : Pol} (h : PL w wr p) (o : Obj) : PL w (wr.alloc o) p := h.call ((Below.refl _ wr).alloc (Nat.le_refl _) o)
theorem loop_Check (p : Pol) (ticks : Int) (A : Option Addr) (len cap : Nat) (l : List Shp) (w : World) (hs : ShpsAre w A len cap l) (hn : len ≤ 1000) :
    Calls Try.prog 69 #[(.agg #[.int .i64 p.min, .int .i64 p.max, .int .i64 p.target, .int .i64 p.tol, .int .i64 p.window, .int .i64 p.hold]), .int .i64 ticks, .slice A len cap] w fun e w' => e = .returned (.int .i64 (lchk p ticks l)) ∧ Below w.heap.size w w' := by
  have HS := Lib.hid hs
  have HL := Lib.hid hs.1
  have D0 := Lib.hid (PL.start w p)
  have HC := Lib.hid (fun W => policy_Check p W)
  clear hs
  by_cases hk : p.okP
  · rw [polErr_ok hk] at HC
    have HQ := Lib.hid (show lchk p ticks l = if errS l ≠ 0 then errS l else if ticks < 0 ∨ 1024 < ticks then 12 else 0 from if_neg (not_not_intro hk))
    generalize lchk p ticks l = R at *
    clear hk
    go_enter Try.func69, Try.ntmps69
    go_wp2_with (first
      | (refine Blk.load rfl 23 (.tmp 3) rfl _ _ _ _ rfl D0.out.1 Try.underlying23 rfl (by kernel_rfl) ?_)
      | (go_at_call 75; refine (HC.out _).mono ?_; rintro e v1 ⟨rfl, hb1⟩; have D1 := Lib.hid (D0.out.call hb1); clear hb1))
    go_loopw [18] (fun i wr => ∃ k : Nat, k ≤ len ∧ i = .int .i64 k ∧ errS l = errS (l.drop k) ∧ Below w.heap.size w wr) (fun i _ => len - (intOf i).toNat)
    case atStart => exact ⟨0, Nat.zero_le _, rfl, rfl, D1.out.2⟩
    case round =>
      obtain ⟨k, hk, rfl, he, hbel⟩ := hrel
      have HE := Lib.hid he
      have HB := Lib.hid hbel
      clear he
      by_cases hlt : k < len
      · obtain ⟨b, off, s, rfl, hx, hb, t0, t1, t2, t3, t4⟩ := ShpsAre.row HS.out hlt
        have k0 := (hbel.cell (p := ⟨b, off + k * 5, none⟩) hb).trans t0
        have k1 := (hbel.cell (p := ⟨b, off + k * 5 + 1, none⟩) hb).trans t1
        have k2 := (hbel.cell (p := ⟨b, off + k * 5 + 2, none⟩) hb).trans t2
        have k3 := (hbel.cell (p := ⟨b, off + k * 5 + 3, none⟩) hb).trans t3
        have k4 := (hbel.cell (p := ⟨b, off + k * 5 + 4, none⟩) hb).trans t4
        have hki : (k : Int) < (len : Int) := by omega
        have HN := Lib.hid (errS_at hx)
        have HCk := Lib.hid (fun W => shape_Check s W)
        generalize shpErr s = E at *
        have N1 := Lib.hid (Blk.new wr 106 s.row)
        have HB2 := Lib.hid (HB.out.alloc HB.out.size (.cells s.row 106))
        clear hx hb t0 t1 t2 t3 t4 hbel
        by_cases h0 : E = 0
        · subst h0
          go_wp2_with (first
            | (refine Blk.load rfl 106 (.tmp 9) rfl _ _ _ _ rfl N1.out Try.underlying106 rfl (by kernel_rfl) ?_)
            | (go_at_call 101; refine (HCk.out _).mono ?_; rintro e v2 ⟨rfl, hb2⟩; have E2 := Lib.hid (HB2.out.trans (hb2.mono HB2.out.size)); clear hb2))
          go_roundw
          case rel => exact ⟨k + 1, by omega, by go_num, by rw [HE.out, HN.out]; rfl, E2.out⟩
          case measure => simp [intOf]; omega
        · have dE : (E == 0) = false := by simpa using h0
          have dE2 : (E != 0) = true := by simpa using h0
          have HR := Lib.hid (show R = E by rw [HQ.out, HE.out, HN.out, if_pos h0, if_pos h0])
          clear h0
          go_wp2_with (first
            | (refine Blk.load rfl 106 (.tmp 9) rfl _ _ _ _ rfl N1.out Try.underlying106 rfl (by kernel_rfl) ?_)
            | (go_at_call 101; refine (HCk.out _).mono ?_; rintro e v2 ⟨rfl, hb2⟩; have E2 := Lib.hid (HB2.out.trans (hb2.mono HB2.out.size)); clear hb2))
          go_ret
          exact ⟨ret_int HR.out.symm, E2.out⟩
      · have h0 : errS l = 0 := by rw [HE.out, List.drop_eq_nil_of_le (by have := HL.out; omega)]; rfl
        have HR := Lib.hid (show R = if ticks < 0 ∨ 1024 < ticks then 12 else 0 by rw [HQ.out, if_neg (by omega)])
        clear h0 hbel
        rcases (show (decide (ticks < 0) = true) ∨ (decide (ticks < 0) = false ∧ decide (1024 < ticks) = true) ∨ (decide (ticks < 0) = false ∧ decide (1024 < ticks) = false) by simp only [decide_eq_true_eq, decide_eq_false_iff_not]; omega) with d1 | ⟨d1, d2⟩ | ⟨d1, d2⟩
        all_goals
          go_wp2
          go_ret
          exact ⟨ret_int (by rw [HR.out]; simp only [decide_eq_true_eq, decide_eq_false_iff_not] at *; first | rw [if_pos (by omega)] | rw [if_neg (by omega)]), HB.out⟩
  · rw [polErr_no hk] at HC
    rw [show lchk p ticks l = 7 from if_pos hk]
    clear hk
    go_enter Try.func69, Try.ntmps69
    go_wp2_with (first
      | (refine Blk.load rfl 23 (.tmp 3) rfl _ _ _ _ rfl D0.out.1 Try.underlying23 rfl (by kernel_rfl) ?_)
      | (go_at_call 75; refine (HC.out _).mono ?_; rintro e v1 ⟨rfl, hb1⟩; have D1 := Lib.hid (D0.out.call hb1); clear hb1))
    go_ret
    exact ⟨rfl, D1.out.2⟩
theorem ref55_Check (p : Pol) (ticks : Int) (A : Option Addr) (len cap : Nat) (l : List Shp) (w : World) (hs : ShpsAre w A len cap l) (hn : len ≤ 1000) :
    Calls Try.prog 36 #[(.agg #[.int .i64 p.min, .int .i64 p.max, .int .i64 p.target, .int .i64 p.tol, .int .i64 p.window, .int .i64 p.hold]), .int .i64 ticks, .slice A len cap] w fun e w' => e = .returned (.int .i64 (lchk p ticks l)) ∧ Below w.heap.size w w' := by
  have HS := Lib.hid hs
  have HL := Lib.hid hs.1
  have D0 := Lib.hid (PL.start w p)
  have HC := Lib.hid (fun W => ref_Right p W)
  clear hs
  by_cases hk : p.okP
  · rw [polOk_true hk] at HC
    have HQ := Lib.hid (show lchk p ticks l = if errS l ≠ 0 then errS l else if ticks < 0 ∨ 1024 < ticks then 12 else 0 from if_neg (not_not_intro hk))
    generalize lchk p ticks l = R at *
    clear hk
    go_enter Try.func36, Try.ntmps36
    go_wp2_with (first
      | (refine Blk.load rfl 23 (.tmp 3) rfl _ _ _ _ rfl D0.out.1 Try.underlying23 rfl (by kernel_rfl) ?_)
      | (go_at_call 49; refine (HC.out _).mono ?_; rintro e v1 ⟨rfl, hb1⟩; have D1 := Lib.hid (D0.out.call hb1); clear hb1))
    go_loopw [7] (fun i wr => ∃ k : Nat, k ≤ len ∧ i = .int .i64 k ∧ errS l = errS (l.drop k) ∧ Below w.heap.size w wr) (fun i _ => len - (intOf i).toNat)
    case atStart => exact ⟨0, Nat.zero_le _, rfl, rfl, D1.out.2⟩
    case round =>
      obtain ⟨k, hk, rfl, he, hbel⟩ := hrel
      have HE := Lib.hid he
      have HB := Lib.hid hbel
      clear he
      by_cases hlt : k < len
      · obtain ⟨b, off, s, rfl, hx, hb, t0, t1, t2, t3, t4⟩ := ShpsAre.row HS.out hlt
        have k0 := (hbel.cell (p := ⟨b, off + k * 5, none⟩) hb).trans t0
        have k1 := (hbel.cell (p := ⟨b, off + k * 5 + 1, none⟩) hb).trans t1
        have k2 := (hbel.cell (p := ⟨b, off + k * 5 + 2, none⟩) hb).trans t2
        have k3 := (hbel.cell (p := ⟨b, off + k * 5 + 3, none⟩) hb).trans t3
        have k4 := (hbel.cell (p := ⟨b, off + k * 5 + 4, none⟩) hb).trans t4
        have hki : (k : Int) < (len : Int) := by omega
        have HN := Lib.hid (errS_at hx)
        have HCk := Lib.hid (fun W => ref54_Check s W)
        generalize shpErr s = E at *
        clear hx hb t0 t1 t2 t3 t4 hbel
        by_cases h0 : E = 0
        · subst h0
          go_wp2_with (go_at_call 68; refine (HCk.out _).mono ?_; rintro e v2 ⟨rfl, hb2⟩; have E2 := Lib.hid (HB.out.trans (hb2.mono HB.out.size)); clear hb2)
          go_roundw
          case rel => exact ⟨k + 1, by omega, by go_num, by rw [HE.out, HN.out]; rfl, E2.out⟩
          case measure => simp [intOf]; omega
        · have dE : (E == 0) = false := by simpa using h0
          have dE2 : (E != 0) = true := by simpa using h0
          have HR := Lib.hid (show R = E by rw [HQ.out, HE.out, HN.out, if_pos h0, if_pos h0])
          clear h0
          go_wp2_with (go_at_call 68; refine (HCk.out _).mono ?_; rintro e v2 ⟨rfl, hb2⟩; have E2 := Lib.hid (HB.out.trans (hb2.mono HB.out.size)); clear hb2)
          go_ret
          exact ⟨ret_int HR.out.symm, E2.out⟩
      · have h0 : errS l = 0 := by rw [HE.out, List.drop_eq_nil_of_le (by have := HL.out; omega)]; rfl
        have HR := Lib.hid (show R = if ticks < 0 ∨ 1024 < ticks then 12 else 0 by rw [HQ.out, if_neg (by omega)])
        clear h0 hbel
        rcases (show (decide (ticks < 0) = true) ∨ (decide (ticks < 0) = false ∧ decide (1024 < ticks) = true) ∨ (decide (ticks < 0) = false ∧ decide (1024 < ticks) = false) by simp only [decide_eq_true_eq, decide_eq_false_iff_not]; omega) with d1 | ⟨d1, d2⟩ | ⟨d1, d2⟩
        all_goals
          go_wp2
          go_ret
          exact ⟨ret_int (by rw [HR.out]; simp only [decide_eq_true_eq, decide_eq_false_iff_not] at *; first | rw [if_pos (by omega)] | rw [if_neg (by omega)]), HB.out⟩
  · rw [polOk_false hk] at HC
    rw [show lchk p ticks l = 7 from if_pos hk]
    clear hk
    go_enter Try.func36, Try.ntmps36
    go_wp2_with (first
      | (refine Blk.load rfl 23 (.tmp 3) rfl _ _ _ _ rfl D0.out.1 Try.underlying23 rfl (by kernel_rfl) ?_)
      | (go_at_call 49; refine (HC.out _).mono ?_; rintro e v1 ⟨rfl, hb1⟩; have D1 := Lib.hid (D0.out.call hb1); clear hb1))
    go_ret
    exact ⟨rfl, D1.out.2⟩
end Go.Proofs.Ytjodpffdlggjgaa
/- Rows and shapes of the call's own; the law's shapes. -/
namespace Go.Proofs.Ytjodpffdlggjgaa
open Go.RowKit
set_option linter.unusedSimpArgs false
set_option linter.unusedVariables false
set_option maxHeartbeats 4000000
set_option maxRecDepth 100000
theorem shp_len (x : Shp) : x.cells.length = 5 := rfl
theorem shp_one : ∀ x : Shp, ∀ u ∈ x.cells, u.oneCell' = true := by
  intro x u hu
  simp [Shp.cells] at hu
  rcases hu with rfl | rfl | rfl | rfl | rfl <;> rfl
theorem info_shp : (Try.prog.info? 106).map (fun i => (i.zero, i.size, i.bytes)) = some (some (.agg #[.int .i64 0, .int .i64 0, .int .i64 0, .int .i64 0, .int .i64 0]), 5, 40) := by kernel_rfl
theorem rw_len (x : Rw) : x.cells.length = 5 := rfl
theorem rw_one : ∀ x : Rw, ∀ u ∈ x.cells, u.oneCell' = true := by
  intro x u hu
  simp [Rw.cells] at hu
  rcases hu with rfl | rfl | rfl | rfl | rfl <;> rfl
theorem info_lrow : (Try.prog.info? 74).map (fun i => (i.zero, i.size, i.bytes)) = some (some (.agg #[.int .i64 0, .int .i64 0, .int .i64 0, .int .i64 0, .int .i64 0]), 5, 40) := by kernel_rfl
theorem info_rrow : (Try.prog.info? 79).map (fun i => (i.zero, i.size, i.bytes)) = some (some (.agg #[.int .i64 0, .int .i64 0, .int .i64 0, .int .i64 0, .int .i64 0]), 5, 40) := by kernel_rfl
theorem dec_shp : ∀ vs : List Value, AllOk [.int .i64, .int .i64, .int .i64, .int .i64, .int .i64] vs → ∃ x : Shp, x.cells = vs ∧ x.good := by
  rintro _ ⟨_, _, rfl, ⟨a, rfl, wa⟩, _, _, rfl, ⟨b, rfl, wb⟩, _, _, rfl, ⟨c, rfl, wc⟩, _, _, rfl, ⟨d, rfl, wd⟩, _, _, rfl, ⟨e, rfl, we⟩, h⟩
  cases h
  exact ⟨⟨a, b, c, d, e⟩, rfl, I64_of_wf wa, I64_of_wf wb, I64_of_wf wc, I64_of_wf wd, I64_of_wf we⟩
theorem dec_rw : ∀ vs : List Value, AllOk [.int .i64, .int .i64, .int .i64, .int .i64, .int .i64] vs → ∃ x : Rw, x.cells = vs ∧ x.good := by
  rintro _ ⟨_, _, rfl, ⟨a, rfl, wa⟩, _, _, rfl, ⟨b, rfl, wb⟩, _, _, rfl, ⟨c, rfl, wc⟩, _, _, rfl, ⟨d, rfl, wd⟩, _, _, rfl, ⟨e, rfl, we⟩, h⟩
  cases h
  exact ⟨⟨a, b, c, d, e⟩, rfl, I64_of_wf wa, I64_of_wf wb, I64_of_wf wc, I64_of_wf wd, I64_of_wf we⟩
def ShapesP (w : World) (l : List Shp) (e : Ending) (w' : World) : Prop := ∃ A n c, e = .returned (.slice A n c) ∧ ShpsAre w' A n c l ∧ Below w.heap.size w w'
theorem law_shapes (A : Option Addr) (len cap : Nat) (l : List Shp) (w : World) (hs : ShpsAre w A len cap l) (hn : len ≤ 1000) :
    Calls Try.prog 38 #[.slice A len cap] w (ShapesP w l) := by
  have HS := Lib.hid hs
  have HL := Lib.hid hs.1
  clear hs
  go_enter Try.func38, Try.ntmps38
  go_wp2
  go_loopw [3, 8] (fun v i wr => ∃ k : Nat, ∃ A2 n2 c2, k ≤ len ∧ i = .int .i64 k ∧ v = .slice A2 n2 c2 ∧ Own wr w.heap.size 106 5 Shp.cells (.slice A2 n2 c2) (l.take k) ∧ Below w.heap.size w wr) (fun _ i _ => len - (intOf i).toNat)
  case atStart => exact ⟨0, none, 0, 0, Nat.zero_le _, rfl, rfl, Own.nil _ _ _ _ _, Below.refl _ _⟩
  case round =>
    obtain ⟨k, A2, n2, c2, hk, rfl, rfl, ho, hbel⟩ := hrel
    have HO := Lib.hid ho
    have HB := Lib.hid hbel
    clear ho
    by_cases hlt : k < len
    · obtain ⟨b, off, s, rfl, hx, hb, t0, t1, t2, t3, t4⟩ := ShpsAre.row HS.out hlt
      have k0 := (hbel.cell (p := ⟨b, off + k * 5, none⟩) hb).trans t0
      have k1 := (hbel.cell (p := ⟨b, off + k * 5 + 1, none⟩) hb).trans t1
      have k2 := (hbel.cell (p := ⟨b, off + k * 5 + 2, none⟩) hb).trans t2
      have k3 := (hbel.cell (p := ⟨b, off + k * 5 + 3, none⟩) hb).trans t3
      have k4 := (hbel.cell (p := ⟨b, off + k * 5 + 4, none⟩) hb).trans t4
      have hki : (k : Int) < (len : Int) := by omega
      have HN := Lib.hid (take_snoc2 hx)
      have HLk := Lib.hid (show (l.take k).length < 1000000 by rw [List.length_take]; omega)
      have N1 := Lib.hid (Blk.new wr 71 s.row)
      have N2 := Lib.hid (fun o1 o2 => (HB.out.alloc HB.out.size o1).alloc (HB.out.alloc HB.out.size o1).size o2)
      have NL := Lib.hid (fun k e => (World.ownsRow.lt HO.out k e).1)
      clear hx hb t0 t1 t2 t3 t4 hbel
      go_wp2_with (first
        | (refine Blk.load rfl 71 (.tmp 5) rfl _ _ _ _ rfl N1.out Try.underlying71 rfl (by kernel_rfl) ?_)
        | (at_builtin; refine wpList_push2 _ rfl (.tmp 12) (.tmp 14) 68 rfl w.heap.size 106 _ 5 40 _ Try.underlying68 info_shp (by rfl) (by decide) (fun _ => rfl) shp_one (.slice A2 n2 c2) (l.take k) rfl (Own.alloc (Own.alloc HO.out _) _) ⟨_, 0, none⟩ 1 s rfl (blk_news (α := Shp) (vs := s.cells) (Blk.new2 _ _ _ _) rfl) HLk.out (by decide) (by have := HB.out.size; simp; omega) ?_; intro v' w7 ho7 hu7 hw7; obtain ⟨A7, n7, c7, rfl, -, -⟩ := ho7.shape shp_len; have O7 := Lib.hid ho7; have B7 := Lib.hid ((N2.out _ _).trans (hu7.below (fun k hk => NL.out k hk) (N2.out _ _).size)); clear ho7 hu7 hw7))
      go_roundw
      case rel => exact ⟨k + 1, A7, n7, c7, by omega, by go_num, rfl, by rw [HN.out]; exact O7.out, B7.out⟩
      case measure => simp [intOf]; omega
    · have hE : l.take k = l := List.take_of_length_le (by have := HL.out; omega)
      rw [hE] at HO
      have HSl := Lib.hid (HO.out.is shp_len)
      clear hE HO hbel
      go_wp2
      go_ret
      exact ⟨A2, n2, c2, rfl, HSl.out, HB.out⟩
end Go.Proofs.Ytjodpffdlggjgaa
/- decide.Of: the walk. -/
namespace Go.Proofs.Ytjodpffdlggjgaa
open Go.RowKit
set_option linter.unusedSimpArgs false
set_option linter.unusedVariables false
set_option maxHeartbeats 8000000
set_option maxRecDepth 100000
theorem decide_Of (p : Pol) (A : Option Addr) (len cap : Nat) (l : List Smp) (B : Option Addr) (len2 cap2 : Nat) (past : List Adv) (w : World) (hp : p.fit) (hs : SmpsAre w A len cap l) (hg : ∀ x ∈ l, x.good) (hn : len ≤ 200) (hs2 : AdvsAre w B len2 cap2 past) (hn2 : len2 ≤ 1000) :
    Calls Try.prog 64 #[(.agg #[.int .i64 p.min, .int .i64 p.max, .int .i64 p.target, .int .i64 p.tol, .int .i64 p.window, .int .i64 p.hold]), .slice A len cap, .slice B len2 cap2] w fun e w' => e = .returned (.tuple #[.agg (ofq p l past).cells.toArray, .int .i64 (ofe p l)]) ∧ Below w.heap.size w w' := by
  have HS := Lib.hid hs
  have HS2 := Lib.hid hs2
  have HL := Lib.hid hs.1
  have HG := Lib.hid hg
  have HP := Lib.hid hp
  have HT := latestq_I64 hg
  have D0 := Lib.hid (DI.start w p)
  clear hs hs2 hg hp
  by_cases hk : p.okP
  · have HC := Lib.hid (fun W => policy_Check p W)
    rw [polErr_ok hk] at HC
    by_cases h0 : len = 0
    · have HQ := Lib.hid (ofq_nil (past := past) hk (show l.length = 0 by rw [HL.out]; exact h0))
      subst h0
      clear hk
      go_enter Try.func64, Try.ntmps64
      go_wp2_with fail
      refine (HC.out _).mono ?_
      rintro e v1 ⟨rfl, hb1⟩
      have D1 := Lib.hid (D0.out.call hb1)
      clear hb1
      go_wp2_with fail
      refine (decide_latest_no cap A _).mono ?_
      rintro e v2 ⟨rfl, rfl⟩
      go_wp2_with (refine wpList_store_row rfl 26 (.tmp 6) (.tmp 31) rfl (w.heap.size + 1) _ _ _ rfl rfl D1.out.2.1 (by rfl) (by kernel_rfl) (by simp [Value.oneCell']) ?_; intro w9 hb9 hg9)
      refine bodyPost_ret (results_row_tmp rfl _ _ (w.heap.size + 1) _ _ _ rfl hb9 Try.underlying26 rfl (by kernel_rfl)) rfl ⟨by rw [HQ.out.1, HQ.out.2]; rfl, D1.out.2.2.trans (Only.below hg9 (by omega) D1.out.2.2.size)⟩
    · have HQ := Lib.hid (ofq_ok (past := past) hk (show l.length ≠ 0 by rw [HL.out]; exact h0))
      have h1 : 1 ≤ len := by omega
      have HDq := Lib.hid (show decq p l past = (let tick := latestq l; let load := meanq (valq (cutq l (fromq tick p.window) tick)); let now := nowq p past; let op := openq p load now; let want := boundq p op; let th := boundq p (steadyq p tick want past).1; (⟨tick, load, want, th, whyq p (steadyq p tick want past).2 op now th⟩ : Adv)) from rfl)
      have HLa := Lib.hid (fun W hW => decide_latest A len cap l W hW h1 (by omega))
      have HAt := Lib.hid (fun W hW => window_At A len cap l (latestq l) p.window W hW HG.out hn HT HP.out.2.2.2.2.1)
      have hM := statq_mean (cutq l (fromq (latestq l) p.window) (latestq l))
      have hMI : I64 (meanq (valq (cutq l (fromq (latestq l) p.window) (latestq l)))) := by
        have := mean_least (l := valq (cutq l (fromq (latestq l) p.window) (latestq l))) (fun x hx => by have := valq_bd (cutq_good HG.out _ _) x hx; unfold I64; omega) (fun x hx => (valq_bd (cutq_good HG.out _ _) x hx).1) 0
        unfold I64; omega
      dsimp only at HDq
      rw [← hM] at HDq hMI
      generalize statq (cutq l (fromq (latestq l) p.window) (latestq l)) = ST at *
      generalize latestq l = T at *
      have HNo := Lib.hid (fun W hW => decide_Now p B len2 cap2 past W hW hn2)
      generalize nowq p past = NW at *
      have HWa := Lib.hid (fun W => control_Want p ST.mean W HP.out hMI)
      have HNe := Lib.hid (fun W => control_Near p ST.mean NW W HP.out hMI)
      have HRa := Lib.hid (fun W => control_Raw p ST.mean NW W HP.out hMI)
      rw [raw_open2] at HRa
      have HOp := Lib.hid (show openq p ST.mean NW = if nearq p ST.mean NW then NW else wantq p ST.mean from rfl)
      generalize openq p ST.mean NW = OP at *
      generalize boundq p OP = WT at *
      have HSt := Lib.hid (fun W hW => steady_Of p T WT B len2 cap2 past W HP.out hW hn2 HT)
      generalize steadyq p T WT past = SQ at *
      obtain ⟨sn, sh⟩ := SQ
      dsimp only at HSt HDq
      have HBo := Lib.hid (fun W => control_Bound p sn W)
      generalize boundq p sn = TH at *
      have HWh := Lib.hid (fun W => decide_why p sh OP NW TH W)
      generalize whyq p sh OP NW TH = WY at *
      clear hM h0 hk HT hMI
      go_enter Try.func64, Try.ntmps64
      go_wp2_with fail
      refine (HC.out _).mono ?_
      rintro e v1 ⟨rfl, hb1⟩
      have D1 := Lib.hid (D0.out.call hb1)
      clear hb1
      go_wp2_with fail
      refine (HLa.out _ (slice_keep HS.out D1.out.2.2)).mono ?_
      rintro e v2 ⟨rfl, hb2⟩
      have D2 := Lib.hid (D1.out.call hb2)
      clear hb2
      go_wp2
      refine wp_region_any (by kernel_rfl) ?_; change wpAny _ _ _ _ _ _ _ (World.drew v2); refine any_of_anyG (late := fun _ => false) (S := fun wS => Below v2.heap.size v2 wS) _ _ _ _ ?_
      have S0 := (Below.refl v2.heap.size v2).drew
      refine anyG_take (i := 0) (v := _) rfl (by kernel_rfl) (by kernel_rfl) (by kernel_rfl) (by kernel_rfl) rfl (by kernel_rfl) (fun j hj => by first | (simp at hj; done) | (simp at hj; simp; omega)) (fun _ _ _ h => h) (Or.inl ⟨by rfl, fun W1 hW1 => by first | rfl | (go_simp; done) | (go_simp; with_reducible rfl)⟩) (S0) ?_
      refine anyG_take (i := 1) (v := _) rfl (by kernel_rfl) (by kernel_rfl) (by kernel_rfl) (by kernel_rfl) rfl (by kernel_rfl) (fun j hj => by first | (simp at hj; done) | (simp at hj; simp; omega)) (fun _ _ _ h => h) (Or.inl ⟨by rfl, fun W1 hW1 => by first | rfl | (go_simp; done) | (go_simp; with_reducible rfl)⟩) (S0) ?_
      refine anyG_take (i := 2) (v := _) rfl (by kernel_rfl) (by kernel_rfl) (by kernel_rfl) (by kernel_rfl) rfl (by kernel_rfl) (fun j hj => by first | (simp at hj; done) | (simp at hj; simp; omega)) (fun _ _ _ h => h) (Or.inl ⟨by rfl, fun W1 hW1 => by first | rfl | (go_simp; done) | (go_simp; with_reducible rfl)⟩) (S0) ?_
      refine anyG_take (i := 3) (v := .int .i64 p.window) rfl (by kernel_rfl) (by kernel_rfl) (by kernel_rfl) (by kernel_rfl) rfl (by kernel_rfl) (fun j hj => by first | (simp at hj; done) | (simp at hj; simp; omega)) (fun _ _ _ h => h) (Or.inl ⟨by rfl, fun W1 hW1 => by have c := (D2.out.1.call hW1).cellv (i := 4) (v := .int .i64 p.window) rfl; go_simp⟩) (S0) ?_
      refine anyG_take (i := 6) (v := _) rfl (by kernel_rfl) (by kernel_rfl) (by kernel_rfl) (by kernel_rfl) rfl (by kernel_rfl) (fun j hj => by first | (simp at hj; done) | (simp at hj; simp; omega)) (fun _ _ _ h => h) (Or.inl ⟨by rfl, fun W1 hW1 => exec_load (ty := 23) (x := .tmp 3) rfl rfl (run_loadAt_blk _ _ _ _ _ _ (D2.out.1.call hW1) Try.underlying23 rfl (by first | kernel_rfl | exact info_num _))⟩) (S0) ?_
      refine anyG_take (i := 7) (v := _) rfl (by kernel_rfl) (by kernel_rfl) (by kernel_rfl) (by kernel_rfl) rfl (by kernel_rfl) (fun j hj => by first | (simp at hj; done) | (simp at hj; simp; omega)) (fun _ _ _ h => h) (Or.inl ⟨by rfl, fun W1 hW1 => by first | rfl | (go_simp; done) | (go_simp; with_reducible rfl)⟩) (S0) ?_
      refine anyG_one (k := 4) (by kernel_rfl) rfl (by rfl) (fun Q2 hQ2 => ?_); go_wp2_with (go_at_call 94; refine (HAt.out _ (slice_keep HS.out (D2.out.call S0).2.2)).mono ?_; rintro e v3 ⟨rfl, hb3⟩); refine hQ2 _ _ (fun _ => S0.trans (hb3.mono S0.size)) ?_; clear hQ2 Q2
      have S3 := S0.trans (hb3.mono S0.size)
      refine anyG_take (i := 5) (v := .int .i64 ST.mean) rfl (by kernel_rfl) (by kernel_rfl) (by kernel_rfl) (by kernel_rfl) rfl (by kernel_rfl) (fun j hj => by first | (simp at hj; done) | (simp at hj; simp; omega)) (fun _ _ _ h => h) (Or.inl ⟨by rfl, fun W1 hW1 => by first | kernel_rfl | (go_simp; done)⟩) (S3) ?_
      refine anyG_one (k := 8) (by kernel_rfl) rfl (by rfl) (fun Q2 hQ2 => ?_); go_wp2_with (go_at_call 43; refine (HNo.out _ (slice_keep HS2.out (D2.out.call S3).2.2)).mono ?_; rintro e v4 ⟨rfl, hb4⟩); refine hQ2 _ _ (fun _ => S3.trans (hb4.mono S3.size)) ?_; clear hQ2 Q2
      have S4 := S3.trans (hb4.mono S3.size)
      refine anyG_one (k := 9) (by kernel_rfl) rfl (by rfl) (fun Q2 hQ2 => ?_); go_wp2_with fail; refine hQ2 _ _ (fun _ => S4) ?_; clear hQ2 Q2
      refine anyG_one (k := 10) (by kernel_rfl) rfl (by rfl) (fun Q2 hQ2 => ?_); go_wp2_with fail; refine hQ2 _ _ (fun _ => S4) ?_; clear hQ2 Q2
      refine anyG_done (by kernel_rfl) ?_ _
      have D4 := Lib.hid (D2.out.call S4)
      go_wp2_with (refine Blk.load rfl 23 (.tmp 3) rfl w.heap.size _ _ _ rfl D4.out.1 Try.underlying23 rfl (by kernel_rfl) ?_)
      refine (HWa.out _).mono ?_
      rintro e v5 ⟨rfl, hb5⟩
      have D5 := Lib.hid (D4.out.call hb5)
      clear hb5
      go_wp2_with (refine Blk.load rfl 23 (.tmp 3) rfl w.heap.size _ _ _ rfl D5.out.1 Try.underlying23 rfl (by kernel_rfl) ?_)
      refine (HNe.out _).mono ?_
      rintro e v6 ⟨rfl, hb6⟩
      have D6 := Lib.hid (D5.out.call hb6)
      clear hb6
      cases hnr : nearq p ST.mean NW
      all_goals
        rw [hnr] at HOp
        clear hnr
        simp only [Bool.false_eq_true, if_false, if_true] at HOp
        go_wp2_with (refine Blk.load rfl 23 (.tmp 3) rfl w.heap.size _ _ _ rfl D6.out.1 Try.underlying23 rfl (by kernel_rfl) ?_)
        refine (HRa.out _).mono ?_
        rintro e v7 ⟨rfl, hb7⟩
        have D7 := Lib.hid (D6.out.call hb7)
        clear hb7
        go_wp2_with (refine Blk.load rfl 23 (.tmp 3) rfl w.heap.size _ _ _ rfl D7.out.1 Try.underlying23 rfl (by kernel_rfl) ?_)
        refine (HSt.out _ (slice_keep HS2.out D7.out.2.2)).mono ?_
        rintro e v8 ⟨rfl, hb8⟩
        have D8 := Lib.hid (D7.out.call hb8)
        clear hb8
        go_wp2_with (refine Blk.load rfl 23 (.tmp 3) rfl w.heap.size _ _ _ rfl D8.out.1 Try.underlying23 rfl (by kernel_rfl) ?_)
        refine (HBo.out _).mono ?_
        rintro e v9 ⟨rfl, hb9⟩
        have D9 := Lib.hid (D8.out.call hb9)
        clear hb9
        first | (rw [HOp.out] at HWh) | skip
        go_wp2_with (refine Blk.load rfl 23 (.tmp 3) rfl w.heap.size _ _ _ rfl D9.out.1 Try.underlying23 rfl (by kernel_rfl) ?_)
        refine (HWh.out _).mono ?_
        rintro e v10 ⟨rfl, hb10⟩
        have D10 := Lib.hid (D9.out.call hb10)
        clear hb10
        go_wp2_with (refine wpList_store_row rfl 26 (.tmp 6) (.tmp 74) rfl (w.heap.size + 1) _ _ _ rfl rfl D10.out.2.1 (by rfl) (by kernel_rfl) (by simp [Value.oneCell']) ?_; intro w9 hb9 hg9)
        refine bodyPost_ret (results_row_tmp rfl _ _ (w.heap.size + 1) _ _ _ rfl hb9 Try.underlying26 rfl (by kernel_rfl)) rfl ⟨by rw [HQ.out.1, HQ.out.2, HDq.out]; rfl, D10.out.2.2.trans (Only.below hg9 (by omega) D10.out.2.2.size)⟩
  · have HC := Lib.hid (fun W => policy_Check p W)
    rw [polErr_no hk] at HC
    have HQ := Lib.hid (ofq_no (l := l) (past := past) hk)
    clear hk HT
    go_enter Try.func64, Try.ntmps64
    go_wp2_with fail
    refine (HC.out _).mono ?_
    rintro e v1 ⟨rfl, hb1⟩
    have D1 := Lib.hid (D0.out.call hb1)
    clear hb1
    go_wp2_with (refine wpList_store_row rfl 26 (.tmp 6) (.tmp 22) rfl (w.heap.size + 1) _ _ _ rfl rfl D1.out.2.1 (by rfl) (by kernel_rfl) (by simp [Value.oneCell']) ?_; intro w9 hb9 hg9)
    refine bodyPost_ret (results_row_tmp rfl _ _ (w.heap.size + 1) _ _ _ rfl hb9 Try.underlying26 rfl (by kernel_rfl)) rfl ⟨by rw [HQ.out.1, HQ.out.2]; rfl, D1.out.2.2.trans (Only.below hg9 (by omega) D1.out.2.2.size)⟩
end Go.Proofs.Ytjodpffdlggjgaa
