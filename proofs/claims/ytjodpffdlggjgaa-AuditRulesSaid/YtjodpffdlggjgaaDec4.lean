/- decide.Of and the reference's. -/
import Derived.Test.YtjodpffdlggjgaaDec3
import Derived.Test.YtjodpffdlggjgaaNear2
import Derived.Test.YtjodpffdlggjgaaControl2
namespace Go.Proofs.Ytjodpffdlggjgaa
open Go.RowKit
set_option linter.unusedSimpArgs false
set_option linter.unusedVariables false
set_option maxHeartbeats 8000000
set_option maxRecDepth 100000
/-- What is decided, where the policy may be and there are samples. -/
def decq (p : Pol) (l : List Smp) (past : List Adv) : Adv :=
  let tick := latestq l
  let load := meanq (valq (cutq l (fromq tick p.window) tick))
  let now := nowq p past
  let op := openq p load now
  let want := boundq p op
  let th := boundq p (steadyq p tick want past).1
  ⟨tick, load, want, th, whyq p (steadyq p tick want past).2 op now th⟩
def zAdv : Adv := ⟨0, 0, 0, 0, 0⟩
def ofq (p : Pol) (l : List Smp) (past : List Adv) : Adv := if ¬ p.okP then zAdv else if l.length = 0 then zAdv else decq p l past
def ofe (p : Pol) (l : List Smp) : Int := if ¬ p.okP then 7 else if l.length = 0 then 5 else 0
theorem statq_mean (l : List Smp) : (statq l).mean = meanq (valq l) := by
  unfold statq
  split
  · rename_i h
    rw [List.eq_nil_of_length_eq_zero h]; rfl
  · rfl
theorem latestq_I64 {l : List Smp} (hg : ∀ x ∈ l, x.good) : I64 (latestq l) := by
  unfold latestq
  cases l with
  | nil => unfold maxq I64; simp
  | cons a l =>
    show I64 ((l.map Smp.tick).foldl max a.tick)
    have key : ∀ (l : List Smp), (∀ x ∈ l, x.good) → ∀ m, I64 m → I64 ((l.map Smp.tick).foldl max m) := by
      intro l
      induction l with
      | nil => intro _ m hm; exact hm
      | cons x l ih =>
        intro hx m hm
        refine ih (fun y hy => hx y (by simp [hy])) _ ?_
        have := (hx x (by simp)).1
        unfold I64 at *
        omega
    exact key l (fun x hx => hg x (by simp [hx])) _ (hg a (by simp)).1
theorem boundq_I64 (p : Pol) (n : Int) (hp : p.fit) (hn : I64 n) : I64 (boundq p n) := by
  unfold boundq clampq
  have h1 := hp.1
  have h2 := hp.2.1
  unfold I64 at *
  split
  · split
    · omega
    · split <;> omega
  · omega
theorem ofq_nil {p : Pol} {l : List Smp} {past : List Adv} (hk : p.okP) (h : l.length = 0) : ofq p l past = zAdv ∧ ofe p l = 5 := by
  unfold ofq ofe
  exact ⟨by rw [if_neg (not_not_intro hk), if_pos h], by rw [if_neg (not_not_intro hk), if_pos h]⟩
theorem ofq_ok {p : Pol} {l : List Smp} {past : List Adv} (hk : p.okP) (h : l.length ≠ 0) : ofq p l past = decq p l past ∧ ofe p l = 0 := by
  unfold ofq ofe
  exact ⟨by rw [if_neg (not_not_intro hk), if_neg h], by rw [if_neg (not_not_intro hk), if_neg h]⟩
theorem ofq_no {p : Pol} {l : List Smp} {past : List Adv} (hk : ¬ p.okP) : ofq p l past = zAdv ∧ ofe p l = 7 := by
  unfold ofq ofe
  exact ⟨if_pos hk, if_pos hk⟩
theorem raw_open2 (p : Pol) (load now : Int) : rawq p load now = boundq p (openq p load now) := by
  unfold rawq openq; split <;> rfl
abbrev z28 : Array Value := #[.int .i64 0, .int .i64 0, .int .i64 0, .int .i64 0, .int .i64 0]
def DI (w wr : World) (p : Pol) : Prop := Blk wr w.heap.size 23 p.row ∧ Blk wr (w.heap.size + 1) 26 z28 ∧ Below w.heap.size w wr
theorem DI.call {w wr w' : World} {p : Pol} (h : DI w wr p) (hb : Below wr.heap.size wr w') : DI w w' p := ⟨h.1.call hb, h.2.1.call hb, h.2.2.trans (hb.mono h.2.2.size)⟩
theorem DI.start (w : World) (p : Pol) : DI w ((w.alloc (.cells p.row 23)).alloc (.cells z28 26)) p :=
  ⟨(Blk.new w _ _).alloc _, Blk.new2 w _ _ _, by go_grown⟩
end Go.Proofs.Ytjodpffdlggjgaa
