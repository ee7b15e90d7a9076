/- Package series: Put, Of; the reference's Of. -/
import Derived.Test.YtfeccjjheiillaaSer5
import Derived.Test.YtfeccjjheiillaaRef08b
namespace Go.Proofs.Ytfeccjjheiillaa
open Go.RowKit
set_option linter.unusedSimpArgs false
set_option linter.unusedVariables false
set_option maxHeartbeats 4000000
set_option maxRecDepth 100000
theorem putL_len_of {l : List Smp} (hs : Srt l) (x : Smp) : ((∃ y, l[placeq l x.tick]? = some y ∧ y.tick = x.tick) ∧ (putL l x).length = l.length) ∨ ((∀ y, l[placeq l x.tick]? = some y → y.tick ≠ x.tick) ∧ (putL l x).length = l.length + 1) := by
  by_cases h : ∃ y, l[placeq l x.tick]? = some y ∧ y.tick = x.tick
  · obtain ⟨y, h1, h2⟩ := h
    exact .inl ⟨⟨y, h1, h2⟩, by rw [← put_set hs h1 h2, List.length_set]⟩
  · have h2 : ∀ y, l[placeq l x.tick]? = some y → y.tick ≠ x.tick := fun y h1 h3 => h ⟨y, h1, h3⟩
    have := place_le l x.tick
    exact .inr ⟨h2, by rw [← put_ins hs h2]; simp; omega⟩
theorem series_Put (g : Nat) (v : Value) (l : List Smp) (room : Nat) (x : Smp) (w : World) (h : SerAt w g v l room) (hs : Srt l) (hlr : l.length ≤ room) (h1 : 1 ≤ room) (h2 : room ≤ 10000) (he : serErr x.tick x.value = 0) :
    Calls Try.prog 47 #[.pointer (some ⟨g, 0, none⟩), .int .i64 x.tick, .int .i64 x.value] w (SerPost g v (putq l room x) room w (.int .i64 0)) := by
  rcases putL_len_of hs x with ⟨⟨y, hy, hyt⟩, hl⟩ | ⟨hy, hl⟩
  · have e : putq l room x = l.set (placeq l x.tick) x := by
      unfold putq
      rw [if_neg (by omega), put_set hs hy hyt]
    rw [e]
    exact series_Put_set g v l room x.tick x.value y w h hs (by omega) he (by omega) hy hyt
  · have e : putq l room x = insq l room x.tick x.value := by
      unfold putq insq
      rw [hl]
      show _ = if (room : Int).toNat < l.length + 1 then (l.take (placeq l x.tick) ++ x :: l.drop (placeq l x.tick)).drop 1 else l.take (placeq l x.tick) ++ x :: l.drop (placeq l x.tick)
      rw [put_ins hs hy, Int.toNat_natCast]
    rw [e]
    exact series_Put_ins g v l room x.tick x.value w h hs (by omega) he (by omega) (by simpa using hlr) hy
theorem SerPost.same {g : Nat} {v : Value} {l : List Smp} {room : Int} {w : World} {ret : Value} (h : SerAt w g v l room) : SerPost g v l room w ret (.returned ret) w := ⟨v, rfl, h, Upd.refl _ _, fun _ hk => .inl hk⟩
/-- Put of whatever sample. -/
theorem series_Putv (g : Nat) (v : Value) (l : List Smp) (room : Nat) (x : Smp) (w : World) (h : SerAt w g v l room) (hs : Srt l) (hlr : l.length ≤ room) (h1 : 1 ≤ room) (h2 : room ≤ 10000) :
    Calls Try.prog 47 #[.pointer (some ⟨g, 0, none⟩), .int .i64 x.tick, .int .i64 x.value] w (SerPost g v (putv l room x) room w (.int .i64 (serErr x.tick x.value))) := by
  by_cases he : serErr x.tick x.value = 0
  · have := series_Put g v l room x w h hs hlr h1 h2 he
    unfold putv
    rw [if_pos he, he]
    exact this
  · unfold putv
    rw [if_neg he]
    refine (series_Put_bad (some ⟨g, 0, none⟩) x.tick x.value _ w he rfl).mono ?_
    rintro e w' ⟨rfl, rfl⟩
    exact SerPost.same h
theorem series_Putv_nil (x : Smp) (w : World) :
    Calls Try.prog 47 #[.pointer none, .int .i64 x.tick, .int .i64 x.value] w fun e w' => e = .returned (.int .i64 (if serErr x.tick x.value = 0 then 5 else serErr x.tick x.value)) ∧ w = w' := by
  by_cases he : serErr x.tick x.value = 0
  · rw [if_pos he]; exact series_Put_nil x.tick x.value w he
  · rw [if_neg he]; exact series_Put_bad none x.tick x.value _ w he rfl
theorem srt_putv {l : List Smp} (hs : Srt l) (room : Nat) (x : Smp) : Srt (putv l room x) := by
  unfold putv; split
  · exact srt_putq hs room x
  · exact hs
theorem len_putv {l : List Smp} {room : Nat} (h : l.length ≤ room) (h1 : 1 ≤ room) (x : Smp) : (putv l room x).length ≤ room := by
  unfold putv; split
  · exact len_putq h h1 x
  · exact h
theorem good_putv {l : List Smp} (h : ∀ y ∈ l, y.good) {x : Smp} (hx : x.good) (room : Nat) : ∀ y ∈ putv l room x, y.good := by
  unfold putv; split
  · exact good_putq h hx room
  · exact h
theorem serq_next {l : List Smp} {k : Nat} {x : Smp} (room : Nat) (h : l[k]? = some x) : serq room (l.take (k + 1)) = putv (serq room (l.take k)) room x := by
  unfold serq; rw [take_snoc2 h, List.foldl_append]; rfl
theorem fold_all {P : List Smp → Prop} {room : Nat} (hp : ∀ a x, P a → P (putv a room x)) : ∀ (l a : List Smp), P a → P (l.foldl (fun a x => putv a room x) a)
  | [], a, h => h
  | x :: l, a, h => fold_all hp l _ (hp a x h)
theorem srt_serq (room : Nat) (l : List Smp) : Srt (serq room l) := fold_all (P := Srt) (fun a x h => srt_putv h room x) l [] List.Pairwise.nil
theorem len_serq {room : Nat} (h1 : 1 ≤ room) (l : List Smp) : (serq room l).length ≤ room := fold_all (P := fun a => a.length ≤ room) (fun a x h => len_putv h h1 x) l [] (Nat.zero_le _)
theorem good_serq (room : Nat) {l : List Smp} (hg : ∀ y ∈ l, y.good) : ∀ y ∈ serq room l, y.good := by
  have key : ∀ (l a : List Smp), (∀ y ∈ l, y.good) → (∀ y ∈ a, y.good) → ∀ y ∈ l.foldl (fun a x => putv a room x) a, y.good := by
    intro l
    induction l with
    | nil => intro a _ h; exact h
    | cons x l ih => intro a hl ha; exact ih _ (fun y hy => hl y (by simp [hy])) (good_putv ha (hl x (by simp)) room)
  exact key l [] hg (fun y hy => by simp at hy)
/-- A series of the call's own. -/
def SerIn (B : Nat) (w wr : World) (g : Nat) (v : Value) (l : List Smp) (room : Int) : Prop := SerAt wr g v l room ∧ (∀ k, foot g v k → B ≤ k) ∧ Below B w wr ∧ B ≤ wr.heap.size
theorem SerIn.call {B : Nat} {w wr w' : World} {g : Nat} {v : Value} {l : List Smp} {room : Int} (h : SerIn B w wr g v l room) (hb : Below wr.heap.size wr w') : SerIn B w w' g v l room :=
  ⟨h.1.call hb, h.2.1, h.2.2.1.trans (hb.mono h.2.2.2), Nat.le_trans h.2.2.2 hb.size⟩
theorem SerIn.post {B : Nat} {w wr w' : World} {g : Nat} {v : Value} {l l' : List Smp} {room : Int} {ret : Value} {e : Ending} (h : SerIn B w wr g v l room) (hp : SerPost g v l' room wr ret e w') : e = .returned ret ∧ ∃ v', SerIn B w w' g v' l' room := by
  obtain ⟨v', he, h1, h2, h3⟩ := hp
  refine ⟨he, v', h1, fun k hk => (h3 k hk).elim (fun hk => h.2.1 k hk) (fun hk => Nat.le_trans h.2.2.2 hk), h.2.2.1.trans (h2.below h.2.1 h.2.2.2), Nat.le_trans h.2.2.2 h2.size⟩
theorem series_Of_nil (room : Int) (A : Option Addr) (len cap : Nat) (l : List Smp) (w : World) (hs : SmpsAre w A len cap l) (hn : len ≤ 10000) (hr : room < 1 ∨ 256 < room) :
    Calls Try.prog 18 #[.int .i64 room, .slice A len cap] w fun e w' => e = .returned (.pointer none) ∧ Below w.heap.size w w' := by
  have HS := Lib.hid hs
  have HC := Lib.hid (fun w => series_New_no room w hr)
  clear hs hr
  go_enter Try.func18, Try.ntmps18
  go_wp2_with (go_at_call 48; refine (HC.out _).mono ?_; rintro e w1 ⟨rfl, rfl⟩)
  go_loopw [12] (fun i wr => ∃ k : Nat, k ≤ len ∧ i = .int .i64 k ∧ Below w.heap.size w wr) (fun i _ => len - (intOf i).toNat)
  case atStart => exact ⟨0, Nat.zero_le _, rfl, Below.refl _ _⟩
  case round =>
    obtain ⟨k, hk, rfl, hbel⟩ := hrel
    by_cases hlt : k < len
    · obtain ⟨b, off, x, rfl, hx, hb, t0, t1⟩ := HS.out.at_ hlt
      have kt0 := (hbel.cell (p := ⟨b, off + k * 2, none⟩) hb).trans t0
      have kt1 := (hbel.cell (p := ⟨b, off + k * 2 + 1, none⟩) hb).trans t1
      have hki : (k : Int) < (len : Int) := by omega
      have HB := Lib.hid hbel
      have HP := Lib.hid (fun w => series_Putv_nil x w)
      clear hx hb t0 t1 hbel
      go_wp2_with (go_at_call 47; refine (HP.out _).mono ?_; rintro e w1 ⟨rfl, rfl⟩)
      go_roundw
      case rel => exact ⟨k + 1, by omega, by go_num, HB.out.alloc HB.out.size _⟩
      case measure => simp [intOf]; omega
    · have HB := Lib.hid hbel
      clear hbel
      go_wp2
      go_ret
      exact ⟨rfl, HB.out⟩
theorem SerIn.new (w : World) (room : Int) : SerIn w.heap.size w (w.alloc (.cells #[.slice none 0 0, .int .i64 room] 94)) w.heap.size (.slice none 0 0) [] room :=
  ⟨SerAt.new w room, fun k hk => by
    rcases hk with rfl | hk
    · exact Nat.le_refl _
    · simp [Value.ownBlock] at hk, by go_grown, by simp⟩
def OfS (w : World) (l : List Smp) (room : Int) (e : Ending) (w' : World) : Prop := ∃ g v, e = .returned (.pointer (some ⟨g, 0, none⟩)) ∧ SerIn w.heap.size w w' g v l room
theorem series_Of (room : Nat) (A : Option Addr) (len cap : Nat) (l : List Smp) (w : World) (hs : SmpsAre w A len cap l) (hn : len ≤ 10000) (h1 : 1 ≤ room) (h2 : room ≤ 256) :
    Calls Try.prog 18 #[.int .i64 room, .slice A len cap] w (OfS w (serq room l) room) := by
  have HS := Lib.hid hs
  have HL := Lib.hid hs.1
  have HC := Lib.hid (fun w => series_New room w (by omega) (by omega))
  have HP := Lib.hid (fun g v l x w h hs hlr => series_Putv g v l room x w h hs hlr h1 (by omega))
  have HLn := Lib.hid (fun k => len_serq h1 (l.take k))
  clear hs
  go_enter Try.func18, Try.ntmps18
  go_wp2_with (go_at_call 48; refine (HC.out _).mono ?_; rintro e w1 ⟨rfl, rfl⟩)
  go_loopw [12] (fun i wr => ∃ k : Nat, ∃ v : Value, k ≤ len ∧ i = .int .i64 k ∧ SerIn w.heap.size w wr w.heap.size v (serq room (l.take k)) room) (fun i _ => len - (intOf i).toNat)
  case atStart => exact ⟨0, _, Nat.zero_le _, rfl, SerIn.new w room⟩
  case round =>
    obtain ⟨k, v, hk, rfl, hin⟩ := hrel
    have HI := Lib.hid hin
    clear hin
    by_cases hlt : k < len
    · obtain ⟨b, off, x, rfl, hx, hb, t0, t1⟩ := HS.out.at_ hlt
      have kt0 := (HI.out.2.2.1.cell (p := ⟨b, off + k * 2, none⟩) hb).trans t0
      have kt1 := (HI.out.2.2.1.cell (p := ⟨b, off + k * 2 + 1, none⟩) hb).trans t1
      have hki : (k : Int) < (len : Int) := by omega
      have HN := Lib.hid (serq_next room hx)
      have I2 := Lib.hid (HI.out.call (w' := wr.alloc (.cells #[.int .i64 x.tick, .int .i64 x.value] 34)) ((Below.refl _ wr).alloc (Nat.le_refl _) _))
      clear hx hb t0 t1
      go_wp2_with (go_at_call 47; refine (HP.out w.heap.size v _ x _ I2.out.1 (srt_serq _ _) (HLn.out k)).mono ?_; intro e w1 hp; obtain ⟨rfl, v', hi⟩ := I2.out.post hp; have I3 := Lib.hid hi; clear hi hp)
      go_roundw
      case rel => exact ⟨k + 1, v', by omega, by go_num, by rw [HN.out]; exact I3.out⟩
      case measure => simp [intOf]; omega
    · have hE : l.take k = l := List.take_of_length_le (by have := HL.out; omega)
      rw [hE] at HI
      clear hE
      go_wp2
      go_ret
      exact ⟨_, v, rfl, HI.out⟩
theorem ref08_Of (room : Nat) (A : Option Addr) (len cap : Nat) (l : List Smp) (w : World) (hs : SmpsAre w A len cap l) (hn : len ≤ 10000) (h1 : 1 ≤ room) (h2 : room ≤ 256) :
    Calls Try.prog 21 #[.int .i64 room, .slice A len cap] w (PutS w (serq room l)) := by
  have HS := Lib.hid hs
  have HL := Lib.hid hs.1
  have HLn := Lib.hid (fun k => len_serq h1 (l.take k))
  have H2 := Lib.hid h2
  clear hs
  go_enter Try.func21, Try.ntmps21
  go_wp2
  go_loopw [5, 6] (fun v i wr => ∃ k : Nat, ∃ (A2 : Option Addr) (n2 c2 : Nat), k ≤ len ∧ i = .int .i64 k ∧ v = .slice A2 n2 c2 ∧ SmpsAre wr A2 n2 c2 (serq room (l.take k)) ∧ Below w.heap.size w wr ∧ (∀ a, A2 = some a → w.heap.size ≤ a.block ∧ a.block < wr.heap.size)) (fun _ i _ => len - (intOf i).toNat)
  case atStart => exact ⟨0, none, 0, 0, Nat.zero_le _, rfl, rfl, slice_nil _ _ _, Below.refl _ _, fun a ha => by cases ha⟩
  case round =>
    obtain ⟨k, A2, n2, c2, hk, rfl, rfl, hsm, hbel, hfr⟩ := hrel
    have HFr := Lib.hid hfr
    clear hfr
    have HM := Lib.hid hsm
    have HB := Lib.hid hbel
    clear hsm
    by_cases hlt : k < len
    · obtain ⟨b, off, x, rfl, hx, hb, t0, t1⟩ := HS.out.at_ hlt
      have kt0 := (hbel.cell (p := ⟨b, off + k * 2, none⟩) hb).trans t0
      have kt1 := (hbel.cell (p := ⟨b, off + k * 2 + 1, none⟩) hb).trans t1
      have hki : (k : Int) < (len : Int) := by omega
      have HN := Lib.hid (serq_next room hx)
      have HP := Lib.hid (fun W hW => ref08_Put A2 n2 c2 (serq room (l.take k)) room x W hW (by have := HM.out.1; have := HLn.out k; have := H2.out; omega) (srt_serq _ _) (by have := H2.out; omega))
      clear hx hb t0 t1 hbel
      by_cases he : serErr x.tick x.value = 0
      · have HV := Lib.hid (show putv (serq room (l.take k)) room x = putq (serq room (l.take k)) room x from if_pos he)
        have HR := Lib.hid (fun w => ref08_Right x.tick x.value w)
        rw [he] at HR
        clear he
        go_wp2
        go_quiet ((go_at_call 50; exact Calls.quiet_of_same ((HR.out _).mono fun _ _ h => ⟨h.1, h.2.symm⟩)))
        go_wp2_with fail
        refine (HP.out _ (slice_keep HM.out (below_drewN (Below.refl _ _) _))).mono ?_
        rintro e w1 ⟨A3, n3, c3, rfl, hs3, hb3, hf3⟩
        have E3 := Lib.hid (fun a ha => (⟨Nat.le_trans HB.out.size (hf3 a ha).1, (hf3 a ha).2⟩ : w.heap.size ≤ a.block ∧ a.block < w1.heap.size))
        clear hf3
        have E1 := Lib.hid (HN.out ▸ HV.out ▸ hs3)
        have E2 := Lib.hid ((below_drewN HB.out _).trans (hb3.mono HB.out.size))
        clear hs3 hb3
        go_wp2
        go_roundw
        case rel => exact ⟨k + 1, A3, n3, c3, by omega, by go_num, rfl, E1.out, E2.out, E3.out⟩
        case measure => simp [intOf]; omega
      · have HV := Lib.hid (show putv (serq room (l.take k)) room x = serq room (l.take k) from if_neg he)
        have HR := Lib.hid (fun w => ref08_Right x.tick x.value w)
        generalize serErr x.tick x.value = E at *
        have d0 : (E == 0) = false := by simpa using he
        clear he
        go_wp2
        go_quiet ((go_at_call 50; exact Calls.quiet_of_same ((HR.out _).mono fun _ _ h => ⟨h.1, h.2.symm⟩)))
        go_wp2
        go_roundw
        case rel => exact ⟨k + 1, A2, n2, c2, by omega, by go_num, rfl, by rw [HN.out, HV.out]; exact slice_keep HM.out (below_drewN (Below.refl _ _) _), below_drewN HB.out _, HFr.out⟩
        case measure => simp [intOf]; omega
    · have hE : l.take k = l := List.take_of_length_le (by have := HL.out; omega)
      rw [hE] at HM
      clear hE hbel
      go_wp2
      go_ret
      exact ⟨_, _, _, rfl, HM.out, HB.out, HFr.out⟩
end Go.Proofs.Ytfeccjjheiillaa
