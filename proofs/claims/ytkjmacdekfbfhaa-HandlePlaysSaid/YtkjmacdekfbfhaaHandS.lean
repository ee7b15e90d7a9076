/- Handles: the state of HandlePlays' loop. -/
import Derived.Test.YtkjmacdekfbfhaaHandP
namespace Go.Proofs.Ytkjmacdekfbfhaa
open Go.RowKit
set_option linter.unusedSimpArgs false
set_option linter.unusedVariables false
abbrev tCut : TypeId := 128
structure HSt (w0 w : World) (g b : Nat) (fp : Int → Option Nat) (ks : List Int) (E : List Int) : Prop where
  tab : TabAt w g b fp ks ((E.length : Int) + 1)
  fof : FpOf fp E
  cuts : ∀ n gn, fp n = some gn → ∃ e, E[(n - 1).toNat]? = some e ∧ Blk w gn tCut (cutRow e) ∧ gn ≠ g ∧ gn ≠ b
  bel : Below w0.heap.size w0 w
  gw : w0.heap.size ≤ g
  bw : w0.heap.size ≤ b
theorem TabAt.keys {w : World} {g b : Nat} {fp : Int → Option Nat} {ks : List Int} {next : Int} (h : TabAt w g b fp ks next) : ks.Nodup ∧ ∀ x, x ∈ ks ↔ fp x ≠ none := by
  obtain ⟨D, -, hv⟩ := h.2.1
  refine ⟨hv.2.1, fun x => ?_⟩
  rw [hv.2.2.1 x]
  unfold tabF
  cases fp x <;> simp
section
variable {w0 w w' : World} {g b : Nat} {fp : Int → Option Nat} {ks ks' : List Int} {E : List Int}
theorem HSt.len (h : HSt w0 w g b fp ks E) : (ks.length : Int) = liveq E := ks_len h.tab.keys.1 h.tab.keys.2 h.fof
theorem HSt.srt (h : HSt w0 w g b fp ks E) : srt ks = liveNs 0 E := srt_live (ks_perm h.tab.keys.1 h.tab.keys.2 h.fof)
theorem HSt.find (h : HSt w0 w g b fp ks E) (n : Int) : ferr fp ((E.length : Int) + 1) n = findq E n := find_of h.fof n
theorem HSt.call (h : HSt w0 w g b fp ks E) (hb : Below w.heap.size w w') : HSt w0 w' g b fp ks E :=
  ⟨h.tab.call hb, h.fof, fun n gn hn => by obtain ⟨e, h1, h2, h3⟩ := h.cuts n gn hn; exact ⟨e, h1, h2.call hb, h3⟩, h.bel.trans (hb.mono h.bel.size), h.gw, h.bw⟩
theorem HSt.there (h : HSt w0 w g b fp ks E) {n : Int} (hn : findq E n = 0) : ∃ gn e, fp n = some gn ∧ E[(n - 1).toNat]? = some e ∧ Blk w gn tCut (cutRow e) := by
  cases hf : fp n with
  | none => exact absurd hn ((h.fof n).1 hf)
  | some gn => obtain ⟨e, h1, h2, -⟩ := h.cuts n gn hf; exact ⟨gn, e, rfl, h1, h2⟩
theorem HSt.free (h : HSt w0 w g b fp ks E) {m : Nat} (hm : m < E.length) (ht : TabAt w' g b (fpDel fp ((m : Int) + 1)) ks' ((E.length : Int) + 1)) (hg : w.grownBy w' (some b)) :
    HSt w0 w' g b (fpDel fp ((m : Int) + 1)) ks' (E.set m (-1)) := by
  refine ⟨by rw [List.length_set]; exact ht, h.fof.del hm, fun n gn hn => ?_, h.bel.trans (Only.below hg h.bw h.bel.size), h.gw, h.bw⟩
  unfold fpDel at hn
  by_cases c : n = (m : Int) + 1
  · rw [if_pos c] at hn; cases hn
  · rw [if_neg c] at hn
    obtain ⟨e, h1, h2, h3, h4⟩ := h.cuts n gn hn
    have hz : findq E n = 0 := by
      by_cases d : findq E n = 0
      · exact d
      · have := (h.fof n).2 d; rw [this] at hn; cases hn
    have h5 : 1 ≤ n := by
      unfold findq at hz
      by_cases d : n < 1 ∨ (E.length : Int) < n
      · rw [if_pos d] at hz; cases hz
      · omega
    exact ⟨e, by rw [List.getElem?_set_ne (by omega)]; exact h1, h2.grown hg (by simpa using h4), h3, h4⟩
theorem HSt.opens (h : HSt w0 w g b fp ks E) {e : Int} (he : 0 ≤ e) {g1 : Nat} (hg1 : Blk w g1 tCut (cutRow e)) (n1 : g1 ≠ g) (n2 : g1 ≠ b)
    (ht : TabAt w' g b (fpPut fp ((E.length : Int) + 1) g1) ks' ((E.length : Int) + 1 + 1)) (hu : Upd (fun k => k = g ∨ k = b) w w') :
    HSt w0 w' g b (fpPut fp ((E.length : Int) + 1) g1) ks' (E ++ [e]) := by
  have hl : ((E ++ [e]).length : Int) = (E.length : Int) + 1 := by simp
  refine ⟨by rw [hl]; exact ht, h.fof.put he g1, fun n gn hn => ?_, h.bel.trans (hu.below (fun k hk => by have := h.gw; have := h.bw; omega) h.bel.size), h.gw, h.bw⟩
  unfold fpPut at hn
  by_cases c : n = (E.length : Int) + 1
  · rw [if_pos c] at hn
    cases hn
    subst c
    exact ⟨e, by rw [show ((E.length : Int) + 1 - 1).toNat = E.length by omega]; simp, hg1.upd hu (by omega), n1, n2⟩
  · rw [if_neg c] at hn
    obtain ⟨x, h1, h2, h3, h4⟩ := h.cuts n gn hn
    exact ⟨x, by rw [List.getElem?_append_left (List.getElem?_eq_some_iff.1 h1).1]; exact h1, h2.upd hu (by omega), h3, h4⟩
end
theorem HSt.start {w0 w : World} {g b : Nat} (ht : TabAt w g b (fun _ => none) [] 1) (hb : Below w0.heap.size w0 w) (gw : w0.heap.size ≤ g) (bw : w0.heap.size ≤ b) : HSt w0 w g b (fun _ => none) [] [] :=
  ⟨ht, FpOf.nil, fun n gn hn => (by cases hn), hb, gw, bw⟩
end Go.Proofs.Ytkjmacdekfbfhaa
