/- SeriesPlays: the walk. -/
import Derived.Test.YtjodpffdlggjgaaW08
namespace Go.Proofs.Ytjodpffdlggjgaa
open Go.RowKit
set_option linter.unusedSimpArgs false
set_option linter.unusedVariables false
set_option maxHeartbeats 8000000
set_option maxRecDepth 100000
structure Act where
  kind : Int
  tick : Int
  value : Int
def Act.cells (a : Act) : List Value := [.int .i64 a.kind, .int .i64 a.tick, .int .i64 a.value]
def Act.good (a : Act) : Prop := I64 a.kind ∧ I64 a.tick ∧ I64 a.value
abbrev ActsAre (w : World) (A : Option Addr) (len cap : Nat) (l : List Act) : Prop := SliceIs w 3 Act.cells A len cap l
theorem ActsAre.at_ {w : World} {A : Option Addr} {len cap : Nat} {l : List Act} (h : ActsAre w A len cap l) {k : Nat} (hk : k < len) :
    ∃ (b off : Nat) (x : Act), A = some ⟨b, off, none⟩ ∧ l[k]? = some x ∧ b < w.heap.size ∧ w.cell? ⟨b, off + k * 3, none⟩ = some (.int .i64 x.kind) ∧ w.cell? ⟨b, off + k * 3 + 1, none⟩ = some (.int .i64 x.tick) ∧ w.cell? ⟨b, off + k * 3 + 2, none⟩ = some (.int .i64 x.value) := by
  obtain ⟨b, off, x, h1, h2, h3, h4⟩ := SliceIs.at_ h hk
  exact ⟨b, off, x, h1, h2, h3, h4 0 _ rfl, by rw [Nat.add_assoc]; exact h4 1 _ rfl, by rw [Nat.add_assoc]; exact h4 2 _ rfl⟩
theorem dec_act : ∀ vs : List Value, AllOk [.int .i64, .int .i64, .int .i64] vs → ∃ x : Act, x.cells = vs ∧ x.good := by
  rintro _ ⟨_, _, rfl, ⟨a, rfl, wa⟩, _, _, rfl, ⟨b, rfl, wb⟩, _, _, rfl, ⟨c, rfl, wc⟩, h⟩
  cases h
  exact ⟨⟨a, b, c⟩, rfl, I64_of_wf wa, I64_of_wf wb, I64_of_wf wc⟩
def actq (room : Nat) (l : List Smp) (a : Act) : List Smp := if a.kind = 2 then froms l a.tick else putv l room ⟨a.tick, a.value⟩
def playq (room : Nat) (l : List Act) : List Smp := l.foldl (actq room) []
theorem playq_next {l : List Act} {k : Nat} {x : Act} (room : Nat) (h : l[k]? = some x) : playq room (l.take (k + 1)) = actq room (playq room (l.take k)) x := by
  unfold playq; rw [take_snoc2 h, List.foldl_append]; rfl
theorem srt_playq (room : Nat) (l : List Act) : Srt (playq room l) := by
  have key : ∀ (l : List Act) (a : List Smp), Srt a → Srt (l.foldl (actq room) a) := by
    intro l
    induction l with
    | nil => intro a h; exact h
    | cons x l ih =>
      intro a h
      refine ih _ ?_
      unfold actq; split
      · exact srt_froms h _
      · exact srt_putv h room _
  exact key l [] List.Pairwise.nil
theorem len_playq {room : Nat} (h1 : 1 ≤ room) (l : List Act) : (playq room l).length ≤ room := by
  have key : ∀ (l : List Act) (a : List Smp), a.length ≤ room → (l.foldl (actq room) a).length ≤ room := by
    intro l
    induction l with
    | nil => intro a h; exact h
    | cons x l ih =>
      intro a h
      refine ih _ ?_
      unfold actq; split
      · exact Nat.le_trans (List.length_filter_le _ _) h
      · exact len_putv h h1 _
  exact key l [] (Nat.zero_le _)
/-- A series of the call's own, and the list that it has, beside it. -/
def PlayIn (B : Nat) (w wr : World) (g : Nat) (v : Value) (A : Option Addr) (n c : Nat) (l : List Smp) (room : Int) : Prop :=
  SerIn B w wr g v l room ∧ SmpsAre wr A n c l ∧ ∀ a, A = some a → a.block < wr.heap.size ∧ ¬ foot g v a.block
theorem PlayIn.call {B : Nat} {w wr w' : World} {g : Nat} {v : Value} {A : Option Addr} {n c : Nat} {l : List Smp} {room : Int} (h : PlayIn B w wr g v A n c l room) (hb : Below wr.heap.size wr w') : PlayIn B w w' g v A n c l room :=
  ⟨h.1.call hb, slice_keep h.2.1 hb, fun a ha => ⟨Nat.lt_of_lt_of_le (h.2.2 a ha).1 hb.size, (h.2.2 a ha).2⟩⟩
/-- The series has been changed while a list lay beside it. -/
theorem post2 {B : Nat} {w wr w' : World} {g : Nat} {v : Value} {A : Option Addr} {n c : Nat} {l l' lx : List Smp} {room : Int} {ret : Value} {e : Ending} (h : SerIn B w wr g v l room) (hs : SmpsAre wr A n c lx) (hA : ∀ a, A = some a → a.block < wr.heap.size ∧ ¬ foot g v a.block)
    (hp : SerPost g v l' room wr ret e w') : e = .returned ret ∧ ∃ v', SerIn B w w' g v' l' room ∧ SmpsAre w' A n c lx ∧ ∀ a, A = some a → a.block < w'.heap.size ∧ ¬ foot g v' a.block := by
  obtain ⟨v', he, h1, h2, h3⟩ := hp
  refine ⟨he, v', ⟨h1, fun k hk => (h3 k hk).elim (fun hk => h.2.1 k hk) (fun hk => Nat.le_trans h.2.2.2 hk), h.2.2.1.trans (h2.below h.2.1 h.2.2.2), Nat.le_trans h.2.2.2 h2.size⟩, slice_upd hs h2 (fun a ha => (hA a ha).2), fun a ha => ⟨Nat.lt_of_lt_of_le (hA a ha).1 h2.size, fun hf => ?_⟩⟩
  rcases h3 _ hf with hk | hk
  · exact (hA a ha).2 hk
  · have := (hA a ha).1; omega
theorem SerIn.fresh {B : Nat} {w wr : World} {g : Nat} {v : Value} {l : List Smp} {room : Int} (h : SerIn B w wr g v l room) {a : Addr} (ha : wr.heap.size ≤ a.block) : ¬ foot g v a.block := fun hf => by
  have := h.1.lt _ hf; omega
theorem Own.block_lt {α : Type} {w : World} {base e size : Nat} {cells : α → List Value} {A : Option Addr} {n c : Nat} {l : List α} (h : Own w base e size cells (.slice A n c) l) : ∀ a, A = some a → base ≤ a.block ∧ a.block < w.heap.size := fun a ha => by
  subst ha; exact World.ownsRow.lt h a.block rfl
theorem walk_SeriesPlays (room : Int) (C : Option Addr) (len cap : Nat) (acts : List Act) (w : World) (h0 : I64 room) (hs : ActsAre w C len cap acts) (hg : ∀ x ∈ acts, x.good) :
    Calls Try.prog 4 #[.int .i64 room, .slice C len cap] w fun e w' => e = .returned (.bool true) ∧ Below w.heap.size w w' := by
  have HS := Lib.hid hs
  have HL := Lib.hid hs.1
  have hle : len ≤ cap := hs.2.1
  have hm : cap ≤ 9223372036854775807 := by have := hs.2.2.1; unfold maxLen at this; omega
  clear hs hg
  by_cases hr : room < 1 ∨ 256 < room
  · have HO := Lib.hid (fun W => series_New_no room W hr)
    have hr2 : (decide (room < 1) = true) ∨ (decide (room < 1) = false ∧ decide (256 < room) = true) := by
      rcases hr with h | h
      · exact .inl (by simp; omega)
      · by_cases h1 : room < 1
        · exact .inl (by simp; omega)
        · exact .inr ⟨by simp; omega, by simp; omega⟩
    clear hr
    rcases hr2 with r1 | ⟨r1, r2⟩
    all_goals
      go_enter Try.func4, Try.ntmps4
      go_wp2_with fail
      refine (awake08 _).mono ?_
      rintro e v1 ⟨rfl, hb1⟩
      have E1 := Lib.hid hb1
      clear hb1
      go_wp2_with fail
      refine (HO.out _).mono ?_
      rintro e v2 ⟨rfl, rfl⟩
      go_wp2
      go_ret
      exact ⟨rfl, E1.out⟩
  · obtain ⟨R, rfl⟩ : ∃ R : Nat, room = R := ⟨room.toNat, by omega⟩
    have r1 : 1 ≤ R := by omega
    have r2 : R ≤ 256 := by omega
    have HR := Lib.hid (And.intro r1 r2)
    have HO := Lib.hid (fun W => series_New R W (by omega) (by omega))
    have HLn := Lib.hid (fun l => len_playq r1 l)
    have d1 : decide ((R : Int) < 1) = false := by simp; omega
    have d1' : decide (R < 1) = false := by simp; omega
    have d2 : decide ((256 : Int) < (R : Int)) = false := by simp; omega
    clear hr h0
    by_cases hl : 60 < len
    · have d0 : decide ((60 : Int) < (len : Int)) = true := by simp; omega
      clear r1 r2
      go_enter Try.func4, Try.ntmps4
      go_wp2_with fail
      refine (awake08 _).mono ?_
      rintro e v1 ⟨rfl, hb1⟩
      have E1 := Lib.hid hb1
      clear hb1
      go_wp2_with fail
      refine (HO.out _).mono ?_
      rintro e v2 ⟨rfl, rfl⟩
      go_wp2
      go_ret
      exact ⟨rfl, E1.out.alloc E1.out.size _⟩
    have d0 : decide ((60 : Int) < (len : Int)) = false := by simp; omega
    clear r1 r2
    go_enter Try.func4, Try.ntmps4
    go_wp2_with fail
    refine (awake08 _).mono ?_
    rintro e v1 ⟨rfl, hb1⟩
    have E1 := Lib.hid hb1
    clear hb1
    go_wp2_with fail
    refine (HO.out _).mono ?_
    rintro e v2 ⟨rfl, rfl⟩
    go_wp2
    clear d0 d1 d1' d2
    go_loopw [6, 34] (fun lv i wr => ∃ k : Nat, ∃ (v : Value) (A : Option Addr) (n c : Nat), k ≤ len ∧ i = .int .i64 k ∧ lv = .slice A n c ∧ PlayIn v1.heap.size v1 wr v1.heap.size v A n c (playq R (acts.take k)) R) (fun _ i _ => len - (intOf i).toNat)
    case atStart => exact ⟨0, _, none, 0, 0, Nat.zero_le _, rfl, rfl, SerIn.new v1 R, slice_nil _ _ _, fun a ha => by cases ha⟩
    case round =>
      obtain ⟨k, v, A, n, c, hk, rfl, rfl, hin⟩ := hrel
      have HI := Lib.hid hin
      clear hin
      by_cases hlt : k < len
      · obtain ⟨b, off, x, rfl, hx, hb, t0, t1, t2⟩ := ActsAre.at_ HS.out hlt
        have hb2 : b < v1.heap.size := Nat.lt_of_lt_of_le hb E1.out.size
        have kt0 := (HI.out.1.2.2.1.cell (p := ⟨b, off + k * 3, none⟩) hb2).trans ((E1.out.cell (p := ⟨b, off + k * 3, none⟩) hb).trans t0)
        have kt1 := (HI.out.1.2.2.1.cell (p := ⟨b, off + k * 3 + 1, none⟩) hb2).trans ((E1.out.cell (p := ⟨b, off + k * 3 + 1, none⟩) hb).trans t1)
        have kt2 := (HI.out.1.2.2.1.cell (p := ⟨b, off + k * 3 + 2, none⟩) hb2).trans ((E1.out.cell (p := ⟨b, off + k * 3 + 2, none⟩) hb).trans t2)
        have hki : (k : Int) < (len : Int) := by omega
        have HN := Lib.hid (playq_next R hx)
        have I1 := Lib.hid (HI.out.call (w' := wr.alloc (.cells #[.int .i64 x.kind, .int .i64 x.tick, .int .i64 x.value] 37)) ((Below.refl _ wr).alloc (Nat.le_refl _) _))
        have BX := Lib.hid (Blk.new wr 37 #[.int .i64 x.kind, .int .i64 x.tick, .int .i64 x.value])
        have HSr := Lib.hid (srt_playq R (acts.take k))
        have HLk := Lib.hid (HLn.out (acts.take k))
        clear hx hb hb2 t0 t1 t2
        generalize playq R (acts.take k) = L at *
        have hnL : n = L.length := HI.out.2.1.1.symm
        have HnL := Lib.hid hnL
        have hn256 : n ≤ 256 := by have := HLk.out; have := HR.out.2; omega
        clear hnL
        by_cases hk2 : x.kind = 2
        · have HQ := Lib.hid (show actq R L x = froms L x.tick from if_pos hk2)
          have dk : (x.kind == 2) = true := by simpa using hk2
          have HT := Lib.hid (fun W hW => ref08_Trim A n c L x.tick W hW (by omega))
          have HPl := Lib.hid (len_froms HSr.out x.tick)
          clear hk2
          go_wp2_with fail
          refine (HT.out _ I1.out.2.1).mono ?_
          rintro e w3 ⟨A3, n3, c3, rfl, ho3, hb3⟩
          have hn3 := (ho3.is smp_len).1.symm
          have I3 := Lib.hid (I1.out.1.call hb3)
          have O3 := Lib.hid (ho3.is smp_len)
          have F3 := Lib.hid (fun a ha => (⟨(ho3.block_lt a ha).2, I1.out.1.fresh (ho3.block_lt a ha).1⟩ : a.block < w3.heap.size ∧ ¬ foot v1.heap.size v a.block))
          have B3 := Lib.hid (BX.out.call hb3)
          have x1 := B3.out.cellv (i := 1) (v := .int .i64 x.tick) rfl
          have N3 := Lib.hid hn3
          have hn4 : n3 ≤ n := by rw [hn3, HnL.out]; exact HPl.out.2
          have dd : ((placeq L x.tick : Int) != (n : Int) - (n3 : Int)) = false := by
            have h1 := HPl.out.1
            have h2 := HnL.out
            simp only [bne_eq_false_iff_eq]
            omega
          have hTr := Lib.hid (series_Trim v1.heap.size v L R x.tick _ I3.out.1 HSr.out (by have := HnL.out; omega))
          generalize placeq L x.tick = PQ at *
          clear ho3 hb3 hn3 HPl
          go_wp2_with fail
          refine hTr.out.mono ?_
          intro e w4 hp
          obtain ⟨rfl, u, p1, p2, p3⟩ := post2 I3.out O3.out F3.out hp
          have P1 := Lib.hid p1
          have P2 := Lib.hid p2
          have P3 := Lib.hid p3
          clear hp p1 p2 p3 x1 kt0 kt1 kt2
          go_wp2_with fail
          refine (told_true v1.heap.size u _ _ A3 n3 c3 _ P1.out.1 P2.out (by have := N3.out; omega)).mono ?_
          rintro e w5 ⟨rfl, hb5⟩
          have Q5 := Lib.hid (PlayIn.call ⟨P1.out, P2.out, P3.out⟩ hb5)
          clear hb5
          go_wp2
          go_roundw
          case rel => exact ⟨k + 1, u, A3, n3, c3, by omega, by go_num, rfl, by rw [HN.out, HQ.out]; exact Q5.out⟩
          case measure => simp [intOf]; omega
        · have HQ := Lib.hid (show actq R L x = putv L R ⟨x.tick, x.value⟩ from if_neg hk2)
          have dk : (x.kind == 2) = false := by simpa using hk2
          have x0 := BX.out.cellv (i := 0) (v := .int .i64 x.kind) rfl
          have x1 := BX.out.cellv (i := 1) (v := .int .i64 x.tick) rfl
          have x2 := BX.out.cellv (i := 2) (v := .int .i64 x.value) rfl
          have HRr := Lib.hid (fun W => ref08_Right x.tick x.value W)
          have HRs := Lib.hid (fun W => series_Right x.tick x.value W)
          have HPt := Lib.hid (series_Putv v1.heap.size v L R ⟨x.tick, x.value⟩ _ I1.out.1.1 HSr.out HLk.out HR.out.1 (by have := HR.out.2; omega))
          have HEz := Lib.hid (fun (h : serErr x.tick x.value = 0) => show putv L R ⟨x.tick, x.value⟩ = putq L R ⟨x.tick, x.value⟩ from if_pos h)
          have HEn := Lib.hid (fun (h : serErr x.tick x.value ≠ 0) => show putv L R ⟨x.tick, x.value⟩ = L from if_neg h)
          dsimp only at HPt
          clear hk2
          generalize serErr x.tick x.value = ER at *
          have de : (ER != ER) = false := by simp
          go_wp2_with fail
          refine (HRr.out _).mono ?_
          rintro e w3 ⟨rfl, rfl⟩
          go_wp2_with fail
          refine HPt.out.mono ?_
          intro e w4 hp
          obtain ⟨rfl, u, p1, p2, p3⟩ := post2 I1.out.1 I1.out.2.1 I1.out.2.2 hp
          have hsz : wr.heap.size + 1 ≤ w4.heap.size := by
            obtain ⟨_, _, _, h2, _⟩ := hp
            have := h2.size; simpa using this
          have B4 : Blk w4 wr.heap.size 37 #[.int .i64 x.kind, .int .i64 x.tick, .int .i64 x.value] := by
            obtain ⟨_, _, _, h2, _⟩ := hp
            refine BX.out.upd h2 (fun hf => ?_)
            have := HI.out.1.1.lt _ hf
            omega
          have y1 := B4.cellv (i := 1) (v := .int .i64 x.tick) rfl
          have y2 := B4.cellv (i := 2) (v := .int .i64 x.value) rfl
          have P1 := Lib.hid p1
          have P2 := Lib.hid p2
          have P3 := Lib.hid p3
          clear hp p1 p2 p3 x0 x1 x2 B4 kt0 kt1 kt2 hsz
          go_wp2_with fail
          refine (HRs.out _).mono ?_
          rintro e w5 ⟨rfl, rfl⟩
          by_cases he : ER = 0
          · have HV := Lib.hid (HEz.out he)
            have de0 : (ER == 0) = true := by simpa using he
            have HPr := Lib.hid (fun W hW => ref08_Put A n c L R ⟨x.tick, x.value⟩ W hW (by omega) HSr.out (by have := HR.out.2; omega))
            dsimp only at HPr
            clear he
            go_wp2_with fail
            refine (HPr.out _ P2.out).mono ?_
            rintro e w6 ⟨A6, n6, c6, rfl, hs6, hb6, hf6⟩
            have P6 := Lib.hid (P1.out.call hb6)
            have O6 := Lib.hid (show SmpsAre w6 A6 n6 c6 (putv L R ⟨x.tick, x.value⟩) by rw [HV.out]; exact hs6)
            have F6 := Lib.hid (fun a ha => (⟨(hf6 a ha).2, P1.out.fresh (hf6 a ha).1⟩ : a.block < w6.heap.size ∧ ¬ foot v1.heap.size u a.block))
            have N6 := Lib.hid (show (putv L R ⟨x.tick, x.value⟩).length ≤ 9999 by have := len_putv HLk.out HR.out.1 (⟨x.tick, x.value⟩ : Smp); have := HR.out.2; omega)
            clear hs6 hb6 hf6 y1 y2
            go_wp2_with fail
            refine (told_true v1.heap.size u _ _ A6 n6 c6 _ P6.out.1 O6.out N6.out).mono ?_
            rintro e w7 ⟨rfl, hb7⟩
            have Q7 := Lib.hid (PlayIn.call ⟨P6.out, O6.out, F6.out⟩ hb7)
            clear hb7
            go_wp2
            go_roundw
            case rel => exact ⟨k + 1, u, A6, n6, c6, by omega, by go_num, rfl, by rw [HN.out, HQ.out]; exact Q7.out⟩
            case measure => simp [intOf]; omega
          · have HV := Lib.hid (HEn.out he)
            have de0 : (ER == 0) = false := by simpa using he
            have N6 := Lib.hid (show L.length ≤ 9999 by have := HLk.out; have := HR.out.2; omega)
            rw [HV.out] at P1 HQ
            clear he
            go_wp2_with fail
            refine (told_true v1.heap.size u _ _ A n c _ P1.out.1 P2.out N6.out).mono ?_
            rintro e w7 ⟨rfl, hb7⟩
            have Q7 := Lib.hid (PlayIn.call ⟨P1.out, P2.out, P3.out⟩ hb7)
            clear hb7
            go_wp2
            go_roundw
            case rel => exact ⟨k + 1, u, A, n, c, by omega, by go_num, rfl, by rw [HN.out, HQ.out]; exact Q7.out⟩
            case measure => simp [intOf]; omega
      · go_wp2
        go_ret
        exact ⟨rfl, E1.out.trans (HI.out.1.2.2.1.mono E1.out.size)⟩
end Go.Proofs.Ytjodpffdlggjgaa
