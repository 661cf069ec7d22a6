/- custodylaw25.JournalWears, walked. -/
import Derived.Deep.Cut
import Derived.Deep.CutRange
import Derived.Test.YtcdgbdojopfkgaaDoorLawPut
namespace Go.Proofs.YtcdgbdojopfkgaaDoor.P
open Go.RowKit Go.Shelf Go.Lib Go.Proofs.YtcdgbdojopfkgaaDoorW.PrintWords Go.Proofs.YtcdgbdojopfkgaaDoorW.PrintMore Go.Proofs.YtcdgbdojopfkgaaDoorW.PrintLast
attribute [local go_sem] max2_int min2_int max_two min_two

/-- What holds ahead of each round. -/
structure WearAt (w0 w : World) (bj bd bm bs c bh : Nat) (k : Nat) (J : Jour) (D : Dev) : Prop where
  live : Live w0 w bj bd bm bs c J D
  hist : Hist w0 w bj bd bm bs bh (J.l.map (·.2)) (lastOf 0 J.l)
  next : J.next ≤ 1 + (k : Int)
theorem WearAt.below {w0 w w' : World} {bj bd bm bs c bh k : Nat} {J : Jour} {D : Dev} (h : WearAt w0 w bj bd bm bs c bh k J D) (hb : Below w.heap.size w w') : WearAt w0 w' bj bd bm bs c bh k J D := ⟨h.live.more hb, h.hist.below hb, h.next⟩
theorem WearAt.lts {w0 w : World} {bj bd bm bs c bh k : Nat} {J : Jour} {D : Dev} (h : WearAt w0 w bj bd bm bs c bh k J D) : ∀ q, InJour bj bd bs q ∨ q = bh → q < w.heap.size := by
  obtain ⟨lv, hrep⟩ := h.live.rep
  obtain ⟨lh, hbh, -⟩ := h.hist.ex
  rintro q ((rfl | rfl | rfl) | rfl)
  · exact hrep.jour.lt
  · exact hrep.dev.dev.lt
  · exact hrep.dev.mem.hs.lt
  · exact hbh.blk.lt
/-- Another journal of the same device, that is new. -/
theorem Hist.other {w0 w : World} {bj bj' bd bm bs bh : Nat} {l : List ByteArray} {last : Int} (_h : Hist w0 w bj bd bm bs bh l last) (hw : World) (hb : Below hw.heap.size hw w) (hh : Hist w0 hw bj bd bm bs bh l last) (hge : hw.heap.size ≤ bj') : Hist w0 w bj' bd bm bs bh l last := by
  obtain ⟨⟨lv, h1, h2, h3⟩, h4, h5, h6, h7, h8⟩ := hh
  have hlt := h1.blk.lt
  refine ⟨⟨lv, h1.below hb, pw_own_below h2 hb, fun g hg => ?_⟩, by omega, h5, h6, h7, h8⟩
  have hgl := own_lt h2 g hg
  rintro (z | z | z)
  · omega
  · exact h3 g hg (.inr (.inl z))
  · exact h3 g hg (.inr (.inr z))
/-- A step of a script, read in a later world; its picks as they lay at the beginning. -/
theorem at_stp_from {w W : World} {A : Option Addr} {l : List Stp} (h : Kd.C kStp w A l.length l) (hb : Below w.heap.size w W) {i : Nat} {x : Stp} (hx : l[i]? = some x) :
    ∃ b off B c, A = some ⟨b, off, none⟩ ∧ W.cell? ⟨b, off + i * 5, none⟩ = some (.int .i64 x.kind) ∧ W.cell? ⟨b, off + i * 5 + 1, none⟩ = some (.int .i64 x.n) ∧ W.cell? ⟨b, off + i * 5 + 2, none⟩ = some (.int .i64 x.size) ∧ W.cell? ⟨b, off + i * 5 + 3, none⟩ = some (.int .u8 x.fill) ∧ W.cell? ⟨b, off + i * 5 + 4, none⟩ = some (.slice B x.picks.length c) ∧ x.picks.length ≤ c ∧ Kd.C (Kd.int .i64) w B x.picks.length x.picks := by
  obtain ⟨b, off, B, c, hA, q0, q1, q2, q3, q4, hl, hr⟩ := at_stp h hx
  have up : ∀ {j : Nat} {v : Value}, w.cell? ⟨b, j, none⟩ = some v → W.cell? ⟨b, j, none⟩ = some v := fun hc => (hb.cell (World.block_lt_of_cell? w _ hc)).trans hc
  exact ⟨b, off, B, c, hA, up q0, up q1, up q2, up q3, up q4, hl, hr⟩
theorem drawn_cell {w w' : World} (h : Drawn0 w w') {a : Addr} {v : Value} (hc : w.cell? a = some v) : w'.cell? a = some v :=
  (h.below.cell (World.block_lt_of_cell? w a hc)).trans hc
theorem live_open_new {w0 w : World} {bj bd bm bs c : Nat} {J : Jour} {D : Dev} (h : Live w0 w bj bd bm bs c J D) :
    Calls Tryd.prog 17 #[.pointer (some ⟨bd, 0, none⟩)] w fun e w' => ∃ bk, e = .returned (.tuple #[.pointer (some ⟨bk, 0, none⟩), .int .i64 0]) ∧ Live w0 w' bk bd bm bs c (openOf D) D ∧ w.heap.size ≤ bk ∧ Below w.heap.size w w' := by
  obtain ⟨⟨lv, hr⟩, h1, h2, h3, h4, h5, hi⟩ := h
  refine (open_calls hr.dev hi.clean.up hi.clean.ok (by have := hr.dev.mem.small; omega) (by have := hi.lenD; have := hi.half1; omega)).mono ?_
  rintro e w' ⟨bk, lv', he, hge, hrep, hb⟩
  have := h5.size
  exact ⟨bk, he, ⟨⟨lv', hrep⟩, h1, h2, h3, by omega, h5.trans (hb.mono h5.size), (open_inv hi).1⟩, hge, hb⟩
set_option maxRecDepth 100000 in
set_option maxHeartbeats 16000000 in
theorem wears_calls (n : Int) (A : Option Addr) (c : Nat) (ss : List Stp) (w : World) (hr : Kd.C kStp w A ss.length ss) (hc : ss.length ≤ c) :
    Calls Tryd.prog 5 #[.int .i64 n, .slice A ss.length c] w fun e w' => e = .returned (.bool true) ∧ Below w.heap.size w w' := by
  have hsan := sanity_calls w
  have HR := Aside0.mk hr
  have HC := Aside0.mk hc
  clear hr hc
  by_cases h2 : n < 2
  · have d1 : decide (n < 2) = true := decide_eq_true h2
    go_enter Tryd.func5, Tryd.ntmps5
    go_wp2_with fail
    refine hsan.mono ?_
    rintro e w1 ⟨rfl, hb⟩
    go_wp2
    go_ret
    exact ⟨rfl, hb⟩
  by_cases h40 : 40 < n
  · have d1 : decide (n < 2) = false := decide_eq_false h2
    have d2 : decide (40 < n) = true := decide_eq_true h40
    go_enter Tryd.func5, Tryd.ntmps5
    go_wp2_with fail
    refine hsan.mono ?_
    rintro e w1 ⟨rfl, hb⟩
    go_wp2
    go_ret
    exact ⟨rfl, hb⟩
  by_cases hlen : 40 < ss.length
  · have d1 : decide (n < 2) = false := decide_eq_false h2
    have d2 : decide (40 < n) = false := decide_eq_false h40
    have d3 : decide (40 < (ss.length : Int)) = true := decide_eq_true (by omega)
    go_enter Tryd.func5, Tryd.ntmps5
    go_wp2_with fail
    refine hsan.mono ?_
    rintro e w1 ⟨rfl, hb⟩
    go_wp2
    go_ret
    exact ⟨rfl, hb⟩
  clear hsan
  obtain ⟨m, rfl⟩ : ∃ m : Nat, n = (m : Int) := ⟨n.toNat, by omega⟩
  have d1 : decide ((m : Int) < 2) = false := decide_eq_false h2
  have d2 : decide (40 < (m : Int)) = false := decide_eq_false h40
  have d3 : decide (40 < (ss.length : Int)) = false := decide_eq_false (by omega)
  have hst := start_calls m (by omega) (by omega) w
  go_enter Tryd.func5, Tryd.ntmps5
  go_wp2_with fail
  refine hst.mono ?_
  rintro e w1 ⟨bj, bd, bm, bs, bl, bf, rfl, hL⟩
  obtain ⟨-, s1, s2, s3, s4, s5, s6⟩ := start_inv m bl bf (by omega) (by omega)
  have hss : ss.length ≤ 40 := by omega
  generalize openOf (newDev m 1 1 bl bf) = J0 at hL s1 s2 s3 s4 s5 s6
  generalize newDev m 1 1 bl bf = D0 at hL
  obtain ⟨w2, hw2⟩ : ∃ w2, w1.alloc (.cells #[.slice none 0 0, .int .i64 0] 42 (0, 0)) = w2 := ⟨_, rfl⟩
  have hb2 : Below w1.heap.size w1 w2 := by rw [← hw2]; exact below_alloc (Below.refl _ _) _
  have hbh : HBlk w2 w1.heap.size (.slice none 0 0) 0 := by rw [← hw2]; exact blk_new w1 _
  have H1 : Aside0 (WearAt w w2 bj bd bm bs m w1.heap.size 0 J0 D0) := ⟨by
    obtain ⟨lv, hrep⟩ := hL.rep
    have z1 := hrep.jour.lt
    have z2 := hrep.dev.dev.lt
    have z3 := hrep.dev.mem.hm.lt
    have z4 := hrep.dev.mem.hs.lt
    refine ⟨hL.more hb2, ?_, by rw [s5]; omega⟩
    rw [s4]
    exact ⟨⟨_, hbh, World.ownsRow_nil _ _ _ _, fun g hg => by cases hg⟩, by omega, by omega, by omega, by omega, hL.below.size⟩⟩
  obtain ⟨bh, hbhe⟩ : ∃ bh, w1.heap.size = bh := ⟨_, rfl⟩
  rw [hbhe] at H1
  clear hst hL s1 s2 s3 s4 s5 s6 h2 h40 hlen d1 d2 d3 hb2 hbh
  go_wp2_with fail
  go_loopg [6, 37] ss.length (fun gg s6 s37 wr => ∃ (k bjx : Nat), k ≤ ss.length ∧ ss.length - k ≤ gg ∧ s6 = .pointer (some ⟨bjx, 0, none⟩) ∧ s37 = .int .i64 k ∧ ∃ J D, Aside0 (WearAt w wr bjx bd bm bs m bh k J D))
  case atStart => exact ⟨0, bj, Nat.zero_le _, by omega, rfl, rfl, J0, D0, H1⟩
  case round =>
    obtain ⟨k, bjx, hk, hg, rfl, rfl, J, D, H⟩ := hrel
    clear H1
    by_cases hlt : k < ss.length
    · have hltz : (k : Int) < (ss.length : Int) := by omega
      obtain ⟨x, hx⟩ : ∃ x, ss[k]? = some x := ⟨ss[k], List.getElem?_eq_getElem hlt⟩
      obtain ⟨b, off, B, cB, rfl, q0, q1, q2, q3, q4, hl4, hr4⟩ := at_stp_from HR.out H.out.live.below hx
      obtain ⟨W1, hW1⟩ : ∃ W1, wr.alloc (.cells #[.int .i64 x.kind, .int .i64 x.n, .int .i64 x.size, .int .u8 x.fill, .slice B x.picks.length cB] 30 (0, 0)) = W1 := ⟨_, rfl⟩
      have hb1 : Below wr.heap.size wr W1 := by rw [← hW1]; exact below_alloc (Below.refl _ _) _
      have hbx : Blk W1 wr.heap.size [.int .i64 x.kind, .int .i64 x.n, .int .i64 x.size, .int .u8 x.fill, .slice B x.picks.length cB] := by rw [← hW1]; exact Blk.new wr _ _
      obtain ⟨gx, hgx⟩ : ∃ gx, wr.heap.size = gx := ⟨_, rfl⟩
      rw [hgx] at hbx
      have HX := Aside0.mk (And.intro hl4 hr4)
      have H2 := Aside0.mk (H.out.below hb1)
      have HB2 := Aside0.mk hbx
      have HLT := Aside0.mk (show ∀ q, InJour bjx bd bs q ∨ q = bh → q < gx from fun q hq => by have := H.out.lts q hq; omega)
      have x0 := hbx.cell 0 rfl
      have x1 := hbx.cell 1 rfl
      have x2 := hbx.cell 2 rfl
      have x3 := hbx.cell 3 rfl
      have x4 := hbx.cell 4 rfl
      clear hl4 hr4 hx hb1 hbx H
      go_upto_if 43 with (fail)
      go_cut [] from 38 to 95 (fun wx => ∃ D', Aside0 (WearAt w wx bjx bd bm bs m bh k J D') ∧ Aside0 (Blk wx gx [.int .i64 x.kind, .int .i64 x.n, .int .i64 x.size, .int .u8 x.fill, .slice B x.picks.length cB]))
      case first =>
        by_cases k6 : x.kind = 6
        · have dk6 : (x.kind == 6) = true := by simpa using k6
          clear k6
          have hwr := live_wear H2.out.live x.n
          go_wp2_with fail
          refine hwr.mono ?_
          rintro e W5 ⟨rfl, hl, hm⟩
          have H5 := Aside0.mk (show WearAt w W5 bjx bd bm bs m bh k J { D with secs := wearSec D.secs x.n } from ⟨hl, H2.out.hist.mod hm, H2.out.next⟩)
          have HB5 := Aside0.mk (HB2.out.mod hm (fun z => by have := HLT.out _ (.inl z); omega))
          clear hwr hl hm
          go_wp2
          go_meet
          case rel => exact ⟨_, H5, HB5⟩
        · have dk6 : (x.kind == 6) = false := by simpa using k6
          clear k6
          go_wp2
          go_meet
          case rel => exact ⟨_, H2, HB2⟩
      case rest =>
        obtain ⟨D', H3, HB3⟩ := hcut
        clear H2 HB2 hW1 x0 x1 x2 x3 x4 q0 q1 q2 q3 q4
        have x0 := HB3.out.cell 0 rfl
        have x4 := HB3.out.cell 4 rfl
        go_upto_if 50 with (fail)
        go_cut [6] from 38 to 95 (fun s6 wx => ∃ bk J' D', s6 = .pointer (some ⟨bk, 0, none⟩) ∧ Aside0 (WearAt w wx bk bd bm bs m bh k J' D') ∧ Aside0 (Blk wx gx [.int .i64 x.kind, .int .i64 x.n, .int .i64 x.size, .int .u8 x.fill, .slice B x.picks.length cB]))
        case first =>
          by_cases k4 : x.kind = 4
          · have dk4 : (x.kind == 4) = true := by simpa using k4
            clear k4
            have hmo := live_mount H3.out.live B x.picks.length cB
            go_wp2_with fail
            refine hmo.mono ?_
            rintro e W3 ⟨rfl, hl, hm⟩
            have H4 := Aside0.mk (show WearAt w W3 bjx bd bm bs m bh k J D' from ⟨hl, H3.out.hist.mod hm, H3.out.next⟩)
            have HB4 := Aside0.mk (HB3.out.mod hm (fun z => by have := HLT.out _ (.inl z); omega))
            clear hmo hl hm H3 HB3 x0 x4
            have hop := live_open_new H4.out.live
            go_wp2_with fail
            refine hop.mono ?_
            rintro e W5 ⟨bk, rfl, hl, hge, hb⟩
            obtain ⟨-, -, -, -, o5, o6, -⟩ := open_inv H4.out.live.inv
            have H5 := Aside0.mk (show WearAt w W5 bk bd bm bs m bh k (openOf D') D' from ⟨hl, by rw [o5]; exact Hist.other (H4.out.hist.below hb) W3 hb H4.out.hist hge, by have := H4.out.next; omega⟩)
            have HB5 := Aside0.mk (HB4.out.below hb)
            clear hop hl hb hge o5 o6 H4 HB4
            go_wp2
            go_meet
            case rel => exact ⟨bk, _, _, rfl, H5, HB5⟩
          · have dk4 : (x.kind == 4) = false := by simpa using k4
            clear k4
            go_wp2
            go_meet
            case rel => exact ⟨bjx, _, _, rfl, H3, HB3⟩
        case rest =>
          obtain ⟨bk, J5, D5, rfl, H5, HB5⟩ := hcut
          clear H3 HB3 x0 x4
          have hput := put_hist H5.out.live H5.out.hist (by have := H5.out.next; omega) x B cB HX.out.1 HX.out.2
          have x0 := HB5.out.cell 0 rfl
          have x1 := HB5.out.cell 1 rfl
          have x2 := HB5.out.cell 2 rfl
          have x3 := HB5.out.cell 3 rfl
          have x4 := HB5.out.cell 4 rfl
          clear HB5
          go_wp2_with fail
          refine hput.mono ?_
          rintro e W6 ⟨er, rfl, hP⟩
          obtain ⟨hok, ⟨J6, D6, hl6, hh6, -, hn6⟩, -⟩ := hP
          have H6 := Aside0.mk (show WearAt w W6 bk bd bm bs m bh (k + 1) J6 D6 from ⟨hl6, hh6, by have := H5.out.next; omega⟩)
          clear hput hl6 hh6 hn6 x0 x1 x2 x3 x4 H5
          obtain ⟨L, hLL⟩ : ∃ L, J6.l.map (·.2) = L := ⟨_, rfl⟩
          have hLlen : L.length ≤ 4096 := by rw [← hLL, List.length_map]; have := H6.out.live.inv.len; have := H6.out.live.inv.used; have := H6.out.live.inv.half2; omega
          obtain ⟨lv, hbh, hown, -⟩ := H6.out.hist.ex
          rw [hLL] at hown
          obtain ⟨A6, cap, rfl, hcap, -, hC, -⟩ := own_reads hown rfl (by omega)
          have hrec2 : Calls Tryd.prog 15 #[.pointer (some ⟨bk, 0, none⟩)] W6.drew fun e w' => ∃ A7 c7, e = .returned (.slice A7 L.length c7) ∧ L.length ≤ c7 ∧ Kd.C Kd.string w' A7 L.length L ∧ Below W6.heap.size W6 w' ∧ w'.cell? ⟨bh, 0, none⟩ = some (.slice A6 L.length cap) := by
            have h1 := live_recs H6.out.live.drew
            rw [hLL] at h1
            refine h1.mono ?_
            rintro e w' ⟨A7, c7, he, h2, h3, hb⟩
            have hb' : Below W6.heap.size W6 w' := (Below.refl _ _).drew.trans hb
            exact ⟨A7, c7, he, h2, h3, hb', hb'.cell_of hbh.blk 0 rfl⟩
          have k0 := hbh.blk.cell 0 rfl
          have HG := Aside0.mk (And.intro hcap (And.intro hC (same_texts L (by omega))))
          clear hLL hLlen hbh hown hcap hC
          rcases hok with rfl | rfl | rfl
          · go_wp2_with fail
            refine start_ (n := 22) (S := (fun W' => W'.cell? ⟨bh, 0, none⟩ = some (.slice A6 L.length cap))) (ds := []) #[false, false, false, false, false, false, false, false, false, false, false, false, false, false, false, false, false, false, false, false, false, false] (by kernel_rfl) rfl rfl k0 (fun hHeld => ?_)
            refine pure_ (i := 0) (N := some 73) (v := ?_) (a' := ?_) #[true, false, false, false, false, false, false, false, false, false, false, false, false, false, false, false, false, false, false, false, false, false] rfl rfl (by kernel_rfl) (fun _ _ _ h => h) (Or.inl ⟨by rfl, ?_⟩) ?_ ?_
            rotate_left
            · intro w'
              go_simp
              with_reducible rfl
            rotate_left
            · simp only [Act.put, List.setIfInBounds_toArray, List.set_cons_zero, List.set_cons_succ]
              rfl
            refine pure_ (i := 1) (N := some 74) (v := ?_) (a' := ?_) #[true, true, false, false, false, false, false, false, false, false, false, false, false, false, false, false, false, false, false, false, false, false] rfl rfl (by kernel_rfl) (fun _ _ _ h => h) (Or.inl ⟨by rfl, ?_⟩) ?_ ?_
            rotate_left
            · intro w'
              go_simp
              with_reducible rfl
            rotate_left
            · simp only [Act.put, List.setIfInBounds_toArray, List.set_cons_zero, List.set_cons_succ]
              rfl
            refine pure_ (i := 2) (N := some 75) (v := ?_) (a' := ?_) #[true, true, true, false, false, false, false, false, false, false, false, false, false, false, false, false, false, false, false, false, false, false] rfl rfl (by kernel_rfl) (fun _ _ _ h => h) (Or.inl ⟨by rfl, ?_⟩) ?_ ?_
            rotate_left
            · intro w'
              go_simp
              with_reducible rfl
            rotate_left
            · simp only [Act.put, List.setIfInBounds_toArray, List.set_cons_zero, List.set_cons_succ]
              rfl
            refine pure_ (i := 3) (N := some 76) (v := ?_) (a' := ?_) #[true, true, true, true, false, false, false, false, false, false, false, false, false, false, false, false, false, false, false, false, false, false] rfl rfl (by kernel_rfl) (fun _ _ _ h => h) (Or.inl ⟨by rfl, ?_⟩) ?_ ?_
            rotate_left
            · intro w'
              go_simp
              with_reducible rfl
            rotate_left
            · simp only [Act.put, List.setIfInBounds_toArray, List.set_cons_zero, List.set_cons_succ]
              rfl
            refine pure_ (i := 4) (N := some 77) (v := ?_) (a' := ?_) #[true, true, true, true, true, false, false, false, false, false, false, false, false, false, false, false, false, false, false, false, false, false] rfl rfl (by kernel_rfl) (fun _ _ _ h => h) (Or.inl ⟨by rfl, ?_⟩) ?_ ?_
            rotate_left
            · intro w'
              go_simp
              with_reducible rfl
            rotate_left
            · simp only [Act.put, List.setIfInBounds_toArray, List.set_cons_zero, List.set_cons_succ]
              rfl
            refine pure_ (i := 5) (N := some 78) (v := ?_) (a' := ?_) #[true, true, true, true, true, true, false, false, false, false, false, false, false, false, false, false, false, false, false, false, false, false] rfl rfl (by kernel_rfl) (fun _ _ _ h => h) (Or.inl ⟨by rfl, ?_⟩) ?_ ?_
            rotate_left
            · intro w'
              go_simp
              with_reducible rfl
            rotate_left
            · simp only [Act.put, List.setIfInBounds_toArray, List.set_cons_zero, List.set_cons_succ]
              rfl
            refine pure_ (i := 6) (N := some 79) (v := undef) (a' := ?_) #[true, true, true, true, true, true, true, false, false, false, false, false, false, false, false, false, false, false, false, false, false, false] rfl rfl (by kernel_rfl) (fun _ _ _ h => h) (Or.inr ⟨by rfl, rfl⟩) ?_ ?_
            rotate_left
            · simp only [Act.put, List.setIfInBounds_toArray, List.set_cons_zero, List.set_cons_succ]
              rfl
            refine pure_ (i := 7) (N := some 80) (v := undef) (a' := ?_) #[true, true, true, true, true, true, true, true, false, false, false, false, false, false, false, false, false, false, false, false, false, false] rfl rfl (by kernel_rfl) (fun _ _ _ h => h) (Or.inr ⟨by rfl, rfl⟩) ?_ ?_
            rotate_left
            · simp only [Act.put, List.setIfInBounds_toArray, List.set_cons_zero, List.set_cons_succ]
              rfl
            refine pure_ (i := 8) (N := some 81) (v := ?_) (a' := ?_) #[true, true, true, true, true, true, true, true, true, false, false, false, false, false, false, false, false, false, false, false, false, false] rfl rfl (by kernel_rfl) (fun _ _ _ h => h) (Or.inl ⟨by rfl, ?_⟩) ?_ ?_
            rotate_left
            · intro w'
              go_simp
              with_reducible rfl
            rotate_left
            · simp only [Act.put, List.setIfInBounds_toArray, List.set_cons_zero, List.set_cons_succ]
              rfl
            refine pure_ (i := 9) (N := some 82) (v := ?_) (a' := ?_) #[true, true, true, true, true, true, true, true, true, true, false, false, false, false, false, false, false, false, false, false, false, false] rfl rfl (by kernel_rfl) (fun _ _ _ h => h) (Or.inl ⟨by rfl, ?_⟩) ?_ ?_
            rotate_left
            · intro w'
              go_simp
              with_reducible rfl
            rotate_left
            · simp only [Act.put, List.setIfInBounds_toArray, List.set_cons_zero, List.set_cons_succ]
              rfl
            refine pure_ (i := 10) (N := some 83) (v := undef) (a' := ?_) #[true, true, true, true, true, true, true, true, true, true, true, false, false, false, false, false, false, false, false, false, false, false] rfl rfl (by kernel_rfl) (fun _ _ _ h => h) (Or.inr ⟨by rfl, rfl⟩) ?_ ?_
            rotate_left
            · simp only [Act.put, List.setIfInBounds_toArray, List.set_cons_zero, List.set_cons_succ]
              rfl
            refine pure_ (i := 11) (N := some 84) (v := undef) (a' := ?_) #[true, true, true, true, true, true, true, true, true, true, true, true, false, false, false, false, false, false, false, false, false, false] rfl rfl (by kernel_rfl) (fun _ _ _ h => h) (Or.inr ⟨by rfl, rfl⟩) ?_ ?_
            rotate_left
            · simp only [Act.put, List.setIfInBounds_toArray, List.set_cons_zero, List.set_cons_succ]
              rfl
            refine pure_ (i := 12) (N := some 85) (v := ?_) (a' := ?_) #[true, true, true, true, true, true, true, true, true, true, true, true, true, false, false, false, false, false, false, false, false, false] rfl rfl (by kernel_rfl) (fun _ _ _ h => h) (Or.inl ⟨by rfl, ?_⟩) ?_ ?_
            rotate_left
            · intro w'
              go_simp
              with_reducible rfl
            rotate_left
            · simp only [Act.put, List.setIfInBounds_toArray, List.set_cons_zero, List.set_cons_succ]
              rfl
            refine pure_ (i := 13) (N := some 86) (v := ?_) (a' := ?_) #[true, true, true, true, true, true, true, true, true, true, true, true, true, true, false, false, false, false, false, false, false, false] rfl rfl (by kernel_rfl) (fun _ _ _ h => h) (Or.inl ⟨by rfl, ?_⟩) ?_ ?_
            rotate_left
            · intro w'
              go_simp
              with_reducible rfl
            rotate_left
            · simp only [Act.put, List.setIfInBounds_toArray, List.set_cons_zero, List.set_cons_succ]
              rfl
            refine pure_ (i := 14) (N := some 87) (v := ?_) (a' := ?_) #[true, true, true, true, true, true, true, true, true, true, true, true, true, true, true, false, false, false, false, false, false, false] rfl rfl (by kernel_rfl) (fun _ _ _ h => h) (Or.inl ⟨by rfl, ?_⟩) ?_ ?_
            rotate_left
            · intro w'
              go_simp
              with_reducible rfl
            rotate_left
            · simp only [Act.put, List.setIfInBounds_toArray, List.set_cons_zero, List.set_cons_succ]
              rfl
            refine pure_ (i := 15) (N := some 88) (v := ?_) (a' := ?_) #[true, true, true, true, true, true, true, true, true, true, true, true, true, true, true, true, false, false, false, false, false, false] rfl rfl (by kernel_rfl) (fun _ _ _ h => h) (Or.inl ⟨by rfl, ?_⟩) ?_ ?_
            rotate_left
            · intro w'
              go_simp
              with_reducible rfl
            rotate_left
            · simp only [Act.put, List.setIfInBounds_toArray, List.set_cons_zero, List.set_cons_succ]
              rfl
            refine pure_ (i := 17) (N := some 90) (v := ?_) (a' := ?_) #[true, true, true, true, true, true, true, true, true, true, true, true, true, true, true, true, false, true, false, false, false, false] rfl rfl (by kernel_rfl) (fun _ _ _ h => h) (Or.inl ⟨by rfl, ?_⟩) ?_ ?_
            rotate_left
            · intro w'
              go_simp
              with_reducible rfl
            rotate_left
            · simp only [Act.put, List.setIfInBounds_toArray, List.set_cons_zero, List.set_cons_succ]
              rfl
            refine take_ (i := 18) (N := some 91) (v := ?_) (a' := ?_) #[true, true, true, true, true, true, true, true, true, true, true, true, true, true, true, true, false, true, true, false, false, false] rfl rfl (by kernel_rfl) (fun _ _ _ h => h) (Or.inl ⟨by rfl, ?_⟩) hHeld ?_ ?_
            rotate_left
            · rintro w' s0
              go_simp
              with_reducible rfl
            rotate_left
            · simp only [Act.put, List.setIfInBounds_toArray, List.set_cons_zero, List.set_cons_succ]
              rfl
            refine one_ (i := 16) (N := some 89) #[true, true, true, true, true, true, true, true, true, true, true, true, true, true, true, true, true, true, true, false, false, false] rfl rfl (by kernel_rfl) (by decide) (fun K hK => ?_)
            refine goes_ Tryd.func15 (by kernel_rfl) rfl #[.pointer (some ⟨bk, 0, none⟩)] (by rfl) rfl rfl (by (try simp only [List.map_toArray, List.map_cons, List.map_nil]); first | done | rfl) ?_
            refine hrec2.mono ?_
            rintro e w7 ⟨A7, c7, rfl, hl7, hC7, hb7, q7⟩
            refine ⟨_, rfl, ?_⟩
            refine hK.out _ _ q7 (fun hHeld => ?_)
            clear hK K
            refine norm_ (a' := ?_) ?_ ?_
            rotate_left
            · show Act.put _ (some 89) _ = _
              simp only [Act.put, List.setIfInBounds_toArray, List.set_cons_zero, List.set_cons_succ]
              rfl
            refine one_ (i := 19) (N := some 92) #[true, true, true, true, true, true, true, true, true, true, true, true, true, true, true, true, true, true, true, true, false, false] rfl rfl (by kernel_rfl) (by decide) (fun K hK => ?_)
            refine goes_ Tryd.func19 (by kernel_rfl) rfl #[.slice A7 L.length c7, .slice A6 L.length cap] (by rfl) rfl rfl (by (try simp only [List.map_toArray, List.map_cons, List.map_nil]); first | done | rfl) ?_
            refine (custodyref22_SameTexts.calls 100001 A7 c7 L A6 cap L true w7 hC7 hl7 (Kd.C_below HG.out.2.1 hb7) HG.out.1 HG.out.2.2).mono ?_
            rintro e w8 ⟨rfl, hd⟩
            refine ⟨_, rfl, ?_⟩
            refine hK.out _ _ (drawn_cell hd q7) (fun hHeld => ?_)
            clear hK K
            refine norm_ (a' := ?_) ?_ ?_
            rotate_left
            · show Act.put _ (some 92) _ = _
              simp only [Act.put, List.setIfInBounds_toArray, List.set_cons_zero, List.set_cons_succ]
              rfl
            refine pure_ (i := 20) (N := some 93) (v := ?_) (a' := ?_) #[true, true, true, true, true, true, true, true, true, true, true, true, true, true, true, true, true, true, true, true, true, false] rfl rfl (by kernel_rfl) (fun _ _ _ h => h) (Or.inl ⟨by rfl, ?_⟩) ?_ ?_
            rotate_left
            · intro w'
              go_simp
              with_reducible rfl
            rotate_left
            · simp only [Act.put, List.setIfInBounds_toArray, List.set_cons_zero, List.set_cons_succ]
              rfl
            refine pure_ (i := 21) (N := some 94) (v := ?_) (a' := ?_) #[true, true, true, true, true, true, true, true, true, true, true, true, true, true, true, true, true, true, true, true, true, true] rfl rfl (by kernel_rfl) (fun _ _ _ h => h) (Or.inl ⟨by rfl, ?_⟩) ?_ ?_
            rotate_left
            · intro w'
              go_simp
              with_reducible rfl
            rotate_left
            · simp only [Act.put, List.setIfInBounds_toArray, List.set_cons_zero, List.set_cons_succ]
              rfl
            refine done_ (by kernel_rfl) ?_
            have H8 := Aside0.mk ((H6.out.below hb7).below hd.below)
            clear H6 hrec2 k0 q7 hC7 hl7 hb7 hd HG hHeld
            go_wp2
            go_roundg (ss.length - (k + 1))
            case measure => omega
            case rel => exact ⟨k + 1, bk, by omega, by omega, rfl, by go_num, J6, D6, H8⟩
          · go_wp2_with fail
            refine start_ (n := 22) (S := (fun W' => W'.cell? ⟨bh, 0, none⟩ = some (.slice A6 L.length cap))) (ds := []) #[false, false, false, false, false, false, false, false, false, false, false, false, false, false, false, false, false, false, false, false, false, false] (by kernel_rfl) rfl rfl k0 (fun hHeld => ?_)
            refine pure_ (i := 0) (N := some 73) (v := ?_) (a' := ?_) #[true, false, false, false, false, false, false, false, false, false, false, false, false, false, false, false, false, false, false, false, false, false] rfl rfl (by kernel_rfl) (fun _ _ _ h => h) (Or.inl ⟨by rfl, ?_⟩) ?_ ?_
            rotate_left
            · intro w'
              go_simp
              with_reducible rfl
            rotate_left
            · simp only [Act.put, List.setIfInBounds_toArray, List.set_cons_zero, List.set_cons_succ]
              rfl
            refine pure_ (i := 1) (N := some 74) (v := ?_) (a' := ?_) #[true, true, false, false, false, false, false, false, false, false, false, false, false, false, false, false, false, false, false, false, false, false] rfl rfl (by kernel_rfl) (fun _ _ _ h => h) (Or.inl ⟨by rfl, ?_⟩) ?_ ?_
            rotate_left
            · intro w'
              go_simp
              with_reducible rfl
            rotate_left
            · simp only [Act.put, List.setIfInBounds_toArray, List.set_cons_zero, List.set_cons_succ]
              rfl
            refine pure_ (i := 2) (N := some 75) (v := ?_) (a' := ?_) #[true, true, true, false, false, false, false, false, false, false, false, false, false, false, false, false, false, false, false, false, false, false] rfl rfl (by kernel_rfl) (fun _ _ _ h => h) (Or.inl ⟨by rfl, ?_⟩) ?_ ?_
            rotate_left
            · intro w'
              go_simp
              with_reducible rfl
            rotate_left
            · simp only [Act.put, List.setIfInBounds_toArray, List.set_cons_zero, List.set_cons_succ]
              rfl
            refine pure_ (i := 3) (N := some 76) (v := ?_) (a' := ?_) #[true, true, true, true, false, false, false, false, false, false, false, false, false, false, false, false, false, false, false, false, false, false] rfl rfl (by kernel_rfl) (fun _ _ _ h => h) (Or.inl ⟨by rfl, ?_⟩) ?_ ?_
            rotate_left
            · intro w'
              go_simp
              with_reducible rfl
            rotate_left
            · simp only [Act.put, List.setIfInBounds_toArray, List.set_cons_zero, List.set_cons_succ]
              rfl
            refine pure_ (i := 4) (N := some 77) (v := ?_) (a' := ?_) #[true, true, true, true, true, false, false, false, false, false, false, false, false, false, false, false, false, false, false, false, false, false] rfl rfl (by kernel_rfl) (fun _ _ _ h => h) (Or.inl ⟨by rfl, ?_⟩) ?_ ?_
            rotate_left
            · intro w'
              go_simp
              with_reducible rfl
            rotate_left
            · simp only [Act.put, List.setIfInBounds_toArray, List.set_cons_zero, List.set_cons_succ]
              rfl
            refine pure_ (i := 5) (N := some 78) (v := ?_) (a' := ?_) #[true, true, true, true, true, true, false, false, false, false, false, false, false, false, false, false, false, false, false, false, false, false] rfl rfl (by kernel_rfl) (fun _ _ _ h => h) (Or.inl ⟨by rfl, ?_⟩) ?_ ?_
            rotate_left
            · intro w'
              go_simp
              with_reducible rfl
            rotate_left
            · simp only [Act.put, List.setIfInBounds_toArray, List.set_cons_zero, List.set_cons_succ]
              rfl
            refine pure_ (i := 6) (N := some 79) (v := ?_) (a' := ?_) #[true, true, true, true, true, true, true, false, false, false, false, false, false, false, false, false, false, false, false, false, false, false] rfl rfl (by kernel_rfl) (fun _ _ _ h => h) (Or.inl ⟨by rfl, ?_⟩) ?_ ?_
            rotate_left
            · intro w'
              go_simp
              with_reducible rfl
            rotate_left
            · simp only [Act.put, List.setIfInBounds_toArray, List.set_cons_zero, List.set_cons_succ]
              rfl
            refine pure_ (i := 7) (N := some 80) (v := ?_) (a' := ?_) #[true, true, true, true, true, true, true, true, false, false, false, false, false, false, false, false, false, false, false, false, false, false] rfl rfl (by kernel_rfl) (fun _ _ _ h => h) (Or.inl ⟨by rfl, ?_⟩) ?_ ?_
            rotate_left
            · intro w'
              go_simp
              with_reducible rfl
            rotate_left
            · simp only [Act.put, List.setIfInBounds_toArray, List.set_cons_zero, List.set_cons_succ]
              rfl
            refine pure_ (i := 8) (N := some 81) (v := ?_) (a' := ?_) #[true, true, true, true, true, true, true, true, true, false, false, false, false, false, false, false, false, false, false, false, false, false] rfl rfl (by kernel_rfl) (fun _ _ _ h => h) (Or.inl ⟨by rfl, ?_⟩) ?_ ?_
            rotate_left
            · intro w'
              go_simp
              with_reducible rfl
            rotate_left
            · simp only [Act.put, List.setIfInBounds_toArray, List.set_cons_zero, List.set_cons_succ]
              rfl
            refine pure_ (i := 9) (N := some 82) (v := ?_) (a' := ?_) #[true, true, true, true, true, true, true, true, true, true, false, false, false, false, false, false, false, false, false, false, false, false] rfl rfl (by kernel_rfl) (fun _ _ _ h => h) (Or.inl ⟨by rfl, ?_⟩) ?_ ?_
            rotate_left
            · intro w'
              go_simp
              with_reducible rfl
            rotate_left
            · simp only [Act.put, List.setIfInBounds_toArray, List.set_cons_zero, List.set_cons_succ]
              rfl
            refine pure_ (i := 10) (N := some 83) (v := undef) (a' := ?_) #[true, true, true, true, true, true, true, true, true, true, true, false, false, false, false, false, false, false, false, false, false, false] rfl rfl (by kernel_rfl) (fun _ _ _ h => h) (Or.inr ⟨by rfl, rfl⟩) ?_ ?_
            rotate_left
            · simp only [Act.put, List.setIfInBounds_toArray, List.set_cons_zero, List.set_cons_succ]
              rfl
            refine pure_ (i := 11) (N := some 84) (v := undef) (a' := ?_) #[true, true, true, true, true, true, true, true, true, true, true, true, false, false, false, false, false, false, false, false, false, false] rfl rfl (by kernel_rfl) (fun _ _ _ h => h) (Or.inr ⟨by rfl, rfl⟩) ?_ ?_
            rotate_left
            · simp only [Act.put, List.setIfInBounds_toArray, List.set_cons_zero, List.set_cons_succ]
              rfl
            refine pure_ (i := 12) (N := some 85) (v := ?_) (a' := ?_) #[true, true, true, true, true, true, true, true, true, true, true, true, true, false, false, false, false, false, false, false, false, false] rfl rfl (by kernel_rfl) (fun _ _ _ h => h) (Or.inl ⟨by rfl, ?_⟩) ?_ ?_
            rotate_left
            · intro w'
              go_simp
              with_reducible rfl
            rotate_left
            · simp only [Act.put, List.setIfInBounds_toArray, List.set_cons_zero, List.set_cons_succ]
              rfl
            refine pure_ (i := 13) (N := some 86) (v := ?_) (a' := ?_) #[true, true, true, true, true, true, true, true, true, true, true, true, true, true, false, false, false, false, false, false, false, false] rfl rfl (by kernel_rfl) (fun _ _ _ h => h) (Or.inl ⟨by rfl, ?_⟩) ?_ ?_
            rotate_left
            · intro w'
              go_simp
              with_reducible rfl
            rotate_left
            · simp only [Act.put, List.setIfInBounds_toArray, List.set_cons_zero, List.set_cons_succ]
              rfl
            refine pure_ (i := 14) (N := some 87) (v := ?_) (a' := ?_) #[true, true, true, true, true, true, true, true, true, true, true, true, true, true, true, false, false, false, false, false, false, false] rfl rfl (by kernel_rfl) (fun _ _ _ h => h) (Or.inl ⟨by rfl, ?_⟩) ?_ ?_
            rotate_left
            · intro w'
              go_simp
              with_reducible rfl
            rotate_left
            · simp only [Act.put, List.setIfInBounds_toArray, List.set_cons_zero, List.set_cons_succ]
              rfl
            refine pure_ (i := 15) (N := some 88) (v := ?_) (a' := ?_) #[true, true, true, true, true, true, true, true, true, true, true, true, true, true, true, true, false, false, false, false, false, false] rfl rfl (by kernel_rfl) (fun _ _ _ h => h) (Or.inl ⟨by rfl, ?_⟩) ?_ ?_
            rotate_left
            · intro w'
              go_simp
              with_reducible rfl
            rotate_left
            · simp only [Act.put, List.setIfInBounds_toArray, List.set_cons_zero, List.set_cons_succ]
              rfl
            refine pure_ (i := 17) (N := some 90) (v := ?_) (a' := ?_) #[true, true, true, true, true, true, true, true, true, true, true, true, true, true, true, true, false, true, false, false, false, false] rfl rfl (by kernel_rfl) (fun _ _ _ h => h) (Or.inl ⟨by rfl, ?_⟩) ?_ ?_
            rotate_left
            · intro w'
              go_simp
              with_reducible rfl
            rotate_left
            · simp only [Act.put, List.setIfInBounds_toArray, List.set_cons_zero, List.set_cons_succ]
              rfl
            refine take_ (i := 18) (N := some 91) (v := ?_) (a' := ?_) #[true, true, true, true, true, true, true, true, true, true, true, true, true, true, true, true, false, true, true, false, false, false] rfl rfl (by kernel_rfl) (fun _ _ _ h => h) (Or.inl ⟨by rfl, ?_⟩) hHeld ?_ ?_
            rotate_left
            · rintro w' s0
              go_simp
              with_reducible rfl
            rotate_left
            · simp only [Act.put, List.setIfInBounds_toArray, List.set_cons_zero, List.set_cons_succ]
              rfl
            refine one_ (i := 16) (N := some 89) #[true, true, true, true, true, true, true, true, true, true, true, true, true, true, true, true, true, true, true, false, false, false] rfl rfl (by kernel_rfl) (by decide) (fun K hK => ?_)
            refine goes_ Tryd.func15 (by kernel_rfl) rfl #[.pointer (some ⟨bk, 0, none⟩)] (by rfl) rfl rfl (by (try simp only [List.map_toArray, List.map_cons, List.map_nil]); first | done | rfl) ?_
            refine hrec2.mono ?_
            rintro e w7 ⟨A7, c7, rfl, hl7, hC7, hb7, q7⟩
            refine ⟨_, rfl, ?_⟩
            refine hK.out _ _ q7 (fun hHeld => ?_)
            clear hK K
            refine norm_ (a' := ?_) ?_ ?_
            rotate_left
            · show Act.put _ (some 89) _ = _
              simp only [Act.put, List.setIfInBounds_toArray, List.set_cons_zero, List.set_cons_succ]
              rfl
            refine one_ (i := 19) (N := some 92) #[true, true, true, true, true, true, true, true, true, true, true, true, true, true, true, true, true, true, true, true, false, false] rfl rfl (by kernel_rfl) (by decide) (fun K hK => ?_)
            refine goes_ Tryd.func19 (by kernel_rfl) rfl #[.slice A7 L.length c7, .slice A6 L.length cap] (by rfl) rfl rfl (by (try simp only [List.map_toArray, List.map_cons, List.map_nil]); first | done | rfl) ?_
            refine (custodyref22_SameTexts.calls 100001 A7 c7 L A6 cap L true w7 hC7 hl7 (Kd.C_below HG.out.2.1 hb7) HG.out.1 HG.out.2.2).mono ?_
            rintro e w8 ⟨rfl, hd⟩
            refine ⟨_, rfl, ?_⟩
            refine hK.out _ _ (drawn_cell hd q7) (fun hHeld => ?_)
            clear hK K
            refine norm_ (a' := ?_) ?_ ?_
            rotate_left
            · show Act.put _ (some 92) _ = _
              simp only [Act.put, List.setIfInBounds_toArray, List.set_cons_zero, List.set_cons_succ]
              rfl
            refine pure_ (i := 20) (N := some 93) (v := ?_) (a' := ?_) #[true, true, true, true, true, true, true, true, true, true, true, true, true, true, true, true, true, true, true, true, true, false] rfl rfl (by kernel_rfl) (fun _ _ _ h => h) (Or.inl ⟨by rfl, ?_⟩) ?_ ?_
            rotate_left
            · intro w'
              go_simp
              with_reducible rfl
            rotate_left
            · simp only [Act.put, List.setIfInBounds_toArray, List.set_cons_zero, List.set_cons_succ]
              rfl
            refine pure_ (i := 21) (N := some 94) (v := ?_) (a' := ?_) #[true, true, true, true, true, true, true, true, true, true, true, true, true, true, true, true, true, true, true, true, true, true] rfl rfl (by kernel_rfl) (fun _ _ _ h => h) (Or.inl ⟨by rfl, ?_⟩) ?_ ?_
            rotate_left
            · intro w'
              go_simp
              with_reducible rfl
            rotate_left
            · simp only [Act.put, List.setIfInBounds_toArray, List.set_cons_zero, List.set_cons_succ]
              rfl
            refine done_ (by kernel_rfl) ?_
            have H8 := Aside0.mk ((H6.out.below hb7).below hd.below)
            clear H6 hrec2 k0 q7 hC7 hl7 hb7 hd HG hHeld
            go_wp2
            go_roundg (ss.length - (k + 1))
            case measure => omega
            case rel => exact ⟨k + 1, bk, by omega, by omega, rfl, by go_num, J6, D6, H8⟩
          · go_wp2_with fail
            refine start_ (n := 22) (S := (fun W' => W'.cell? ⟨bh, 0, none⟩ = some (.slice A6 L.length cap))) (ds := []) #[false, false, false, false, false, false, false, false, false, false, false, false, false, false, false, false, false, false, false, false, false, false] (by kernel_rfl) rfl rfl k0 (fun hHeld => ?_)
            refine pure_ (i := 0) (N := some 73) (v := ?_) (a' := ?_) #[true, false, false, false, false, false, false, false, false, false, false, false, false, false, false, false, false, false, false, false, false, false] rfl rfl (by kernel_rfl) (fun _ _ _ h => h) (Or.inl ⟨by rfl, ?_⟩) ?_ ?_
            rotate_left
            · intro w'
              go_simp
              with_reducible rfl
            rotate_left
            · simp only [Act.put, List.setIfInBounds_toArray, List.set_cons_zero, List.set_cons_succ]
              rfl
            refine pure_ (i := 1) (N := some 74) (v := ?_) (a' := ?_) #[true, true, false, false, false, false, false, false, false, false, false, false, false, false, false, false, false, false, false, false, false, false] rfl rfl (by kernel_rfl) (fun _ _ _ h => h) (Or.inl ⟨by rfl, ?_⟩) ?_ ?_
            rotate_left
            · intro w'
              go_simp
              with_reducible rfl
            rotate_left
            · simp only [Act.put, List.setIfInBounds_toArray, List.set_cons_zero, List.set_cons_succ]
              rfl
            refine pure_ (i := 2) (N := some 75) (v := ?_) (a' := ?_) #[true, true, true, false, false, false, false, false, false, false, false, false, false, false, false, false, false, false, false, false, false, false] rfl rfl (by kernel_rfl) (fun _ _ _ h => h) (Or.inl ⟨by rfl, ?_⟩) ?_ ?_
            rotate_left
            · intro w'
              go_simp
              with_reducible rfl
            rotate_left
            · simp only [Act.put, List.setIfInBounds_toArray, List.set_cons_zero, List.set_cons_succ]
              rfl
            refine pure_ (i := 3) (N := some 76) (v := ?_) (a' := ?_) #[true, true, true, true, false, false, false, false, false, false, false, false, false, false, false, false, false, false, false, false, false, false] rfl rfl (by kernel_rfl) (fun _ _ _ h => h) (Or.inl ⟨by rfl, ?_⟩) ?_ ?_
            rotate_left
            · intro w'
              go_simp
              with_reducible rfl
            rotate_left
            · simp only [Act.put, List.setIfInBounds_toArray, List.set_cons_zero, List.set_cons_succ]
              rfl
            refine pure_ (i := 4) (N := some 77) (v := ?_) (a' := ?_) #[true, true, true, true, true, false, false, false, false, false, false, false, false, false, false, false, false, false, false, false, false, false] rfl rfl (by kernel_rfl) (fun _ _ _ h => h) (Or.inl ⟨by rfl, ?_⟩) ?_ ?_
            rotate_left
            · intro w'
              go_simp
              with_reducible rfl
            rotate_left
            · simp only [Act.put, List.setIfInBounds_toArray, List.set_cons_zero, List.set_cons_succ]
              rfl
            refine pure_ (i := 5) (N := some 78) (v := ?_) (a' := ?_) #[true, true, true, true, true, true, false, false, false, false, false, false, false, false, false, false, false, false, false, false, false, false] rfl rfl (by kernel_rfl) (fun _ _ _ h => h) (Or.inl ⟨by rfl, ?_⟩) ?_ ?_
            rotate_left
            · intro w'
              go_simp
              with_reducible rfl
            rotate_left
            · simp only [Act.put, List.setIfInBounds_toArray, List.set_cons_zero, List.set_cons_succ]
              rfl
            refine pure_ (i := 6) (N := some 79) (v := ?_) (a' := ?_) #[true, true, true, true, true, true, true, false, false, false, false, false, false, false, false, false, false, false, false, false, false, false] rfl rfl (by kernel_rfl) (fun _ _ _ h => h) (Or.inl ⟨by rfl, ?_⟩) ?_ ?_
            rotate_left
            · intro w'
              go_simp
              with_reducible rfl
            rotate_left
            · simp only [Act.put, List.setIfInBounds_toArray, List.set_cons_zero, List.set_cons_succ]
              rfl
            refine pure_ (i := 7) (N := some 80) (v := ?_) (a' := ?_) #[true, true, true, true, true, true, true, true, false, false, false, false, false, false, false, false, false, false, false, false, false, false] rfl rfl (by kernel_rfl) (fun _ _ _ h => h) (Or.inl ⟨by rfl, ?_⟩) ?_ ?_
            rotate_left
            · intro w'
              go_simp
              with_reducible rfl
            rotate_left
            · simp only [Act.put, List.setIfInBounds_toArray, List.set_cons_zero, List.set_cons_succ]
              rfl
            refine pure_ (i := 8) (N := some 81) (v := ?_) (a' := ?_) #[true, true, true, true, true, true, true, true, true, false, false, false, false, false, false, false, false, false, false, false, false, false] rfl rfl (by kernel_rfl) (fun _ _ _ h => h) (Or.inl ⟨by rfl, ?_⟩) ?_ ?_
            rotate_left
            · intro w'
              go_simp
              with_reducible rfl
            rotate_left
            · simp only [Act.put, List.setIfInBounds_toArray, List.set_cons_zero, List.set_cons_succ]
              rfl
            refine pure_ (i := 9) (N := some 82) (v := ?_) (a' := ?_) #[true, true, true, true, true, true, true, true, true, true, false, false, false, false, false, false, false, false, false, false, false, false] rfl rfl (by kernel_rfl) (fun _ _ _ h => h) (Or.inl ⟨by rfl, ?_⟩) ?_ ?_
            rotate_left
            · intro w'
              go_simp
              with_reducible rfl
            rotate_left
            · simp only [Act.put, List.setIfInBounds_toArray, List.set_cons_zero, List.set_cons_succ]
              rfl
            refine pure_ (i := 10) (N := some 83) (v := ?_) (a' := ?_) #[true, true, true, true, true, true, true, true, true, true, true, false, false, false, false, false, false, false, false, false, false, false] rfl rfl (by kernel_rfl) (fun _ _ _ h => h) (Or.inl ⟨by rfl, ?_⟩) ?_ ?_
            rotate_left
            · intro w'
              go_simp
              with_reducible rfl
            rotate_left
            · simp only [Act.put, List.setIfInBounds_toArray, List.set_cons_zero, List.set_cons_succ]
              rfl
            refine pure_ (i := 11) (N := some 84) (v := ?_) (a' := ?_) #[true, true, true, true, true, true, true, true, true, true, true, true, false, false, false, false, false, false, false, false, false, false] rfl rfl (by kernel_rfl) (fun _ _ _ h => h) (Or.inl ⟨by rfl, ?_⟩) ?_ ?_
            rotate_left
            · intro w'
              go_simp
              with_reducible rfl
            rotate_left
            · simp only [Act.put, List.setIfInBounds_toArray, List.set_cons_zero, List.set_cons_succ]
              rfl
            refine pure_ (i := 12) (N := some 85) (v := ?_) (a' := ?_) #[true, true, true, true, true, true, true, true, true, true, true, true, true, false, false, false, false, false, false, false, false, false] rfl rfl (by kernel_rfl) (fun _ _ _ h => h) (Or.inl ⟨by rfl, ?_⟩) ?_ ?_
            rotate_left
            · intro w'
              go_simp
              with_reducible rfl
            rotate_left
            · simp only [Act.put, List.setIfInBounds_toArray, List.set_cons_zero, List.set_cons_succ]
              rfl
            refine pure_ (i := 13) (N := some 86) (v := ?_) (a' := ?_) #[true, true, true, true, true, true, true, true, true, true, true, true, true, true, false, false, false, false, false, false, false, false] rfl rfl (by kernel_rfl) (fun _ _ _ h => h) (Or.inl ⟨by rfl, ?_⟩) ?_ ?_
            rotate_left
            · intro w'
              go_simp
              with_reducible rfl
            rotate_left
            · simp only [Act.put, List.setIfInBounds_toArray, List.set_cons_zero, List.set_cons_succ]
              rfl
            refine pure_ (i := 14) (N := some 87) (v := ?_) (a' := ?_) #[true, true, true, true, true, true, true, true, true, true, true, true, true, true, true, false, false, false, false, false, false, false] rfl rfl (by kernel_rfl) (fun _ _ _ h => h) (Or.inl ⟨by rfl, ?_⟩) ?_ ?_
            rotate_left
            · intro w'
              go_simp
              with_reducible rfl
            rotate_left
            · simp only [Act.put, List.setIfInBounds_toArray, List.set_cons_zero, List.set_cons_succ]
              rfl
            refine pure_ (i := 15) (N := some 88) (v := ?_) (a' := ?_) #[true, true, true, true, true, true, true, true, true, true, true, true, true, true, true, true, false, false, false, false, false, false] rfl rfl (by kernel_rfl) (fun _ _ _ h => h) (Or.inl ⟨by rfl, ?_⟩) ?_ ?_
            rotate_left
            · intro w'
              go_simp
              with_reducible rfl
            rotate_left
            · simp only [Act.put, List.setIfInBounds_toArray, List.set_cons_zero, List.set_cons_succ]
              rfl
            refine pure_ (i := 17) (N := some 90) (v := ?_) (a' := ?_) #[true, true, true, true, true, true, true, true, true, true, true, true, true, true, true, true, false, true, false, false, false, false] rfl rfl (by kernel_rfl) (fun _ _ _ h => h) (Or.inl ⟨by rfl, ?_⟩) ?_ ?_
            rotate_left
            · intro w'
              go_simp
              with_reducible rfl
            rotate_left
            · simp only [Act.put, List.setIfInBounds_toArray, List.set_cons_zero, List.set_cons_succ]
              rfl
            refine take_ (i := 18) (N := some 91) (v := ?_) (a' := ?_) #[true, true, true, true, true, true, true, true, true, true, true, true, true, true, true, true, false, true, true, false, false, false] rfl rfl (by kernel_rfl) (fun _ _ _ h => h) (Or.inl ⟨by rfl, ?_⟩) hHeld ?_ ?_
            rotate_left
            · rintro w' s0
              go_simp
              with_reducible rfl
            rotate_left
            · simp only [Act.put, List.setIfInBounds_toArray, List.set_cons_zero, List.set_cons_succ]
              rfl
            refine one_ (i := 16) (N := some 89) #[true, true, true, true, true, true, true, true, true, true, true, true, true, true, true, true, true, true, true, false, false, false] rfl rfl (by kernel_rfl) (by decide) (fun K hK => ?_)
            refine goes_ Tryd.func15 (by kernel_rfl) rfl #[.pointer (some ⟨bk, 0, none⟩)] (by rfl) rfl rfl (by (try simp only [List.map_toArray, List.map_cons, List.map_nil]); first | done | rfl) ?_
            refine hrec2.mono ?_
            rintro e w7 ⟨A7, c7, rfl, hl7, hC7, hb7, q7⟩
            refine ⟨_, rfl, ?_⟩
            refine hK.out _ _ q7 (fun hHeld => ?_)
            clear hK K
            refine norm_ (a' := ?_) ?_ ?_
            rotate_left
            · show Act.put _ (some 89) _ = _
              simp only [Act.put, List.setIfInBounds_toArray, List.set_cons_zero, List.set_cons_succ]
              rfl
            refine one_ (i := 19) (N := some 92) #[true, true, true, true, true, true, true, true, true, true, true, true, true, true, true, true, true, true, true, true, false, false] rfl rfl (by kernel_rfl) (by decide) (fun K hK => ?_)
            refine goes_ Tryd.func19 (by kernel_rfl) rfl #[.slice A7 L.length c7, .slice A6 L.length cap] (by rfl) rfl rfl (by (try simp only [List.map_toArray, List.map_cons, List.map_nil]); first | done | rfl) ?_
            refine (custodyref22_SameTexts.calls 100001 A7 c7 L A6 cap L true w7 hC7 hl7 (Kd.C_below HG.out.2.1 hb7) HG.out.1 HG.out.2.2).mono ?_
            rintro e w8 ⟨rfl, hd⟩
            refine ⟨_, rfl, ?_⟩
            refine hK.out _ _ (drawn_cell hd q7) (fun hHeld => ?_)
            clear hK K
            refine norm_ (a' := ?_) ?_ ?_
            rotate_left
            · show Act.put _ (some 92) _ = _
              simp only [Act.put, List.setIfInBounds_toArray, List.set_cons_zero, List.set_cons_succ]
              rfl
            refine pure_ (i := 20) (N := some 93) (v := ?_) (a' := ?_) #[true, true, true, true, true, true, true, true, true, true, true, true, true, true, true, true, true, true, true, true, true, false] rfl rfl (by kernel_rfl) (fun _ _ _ h => h) (Or.inl ⟨by rfl, ?_⟩) ?_ ?_
            rotate_left
            · intro w'
              go_simp
              with_reducible rfl
            rotate_left
            · simp only [Act.put, List.setIfInBounds_toArray, List.set_cons_zero, List.set_cons_succ]
              rfl
            refine pure_ (i := 21) (N := some 94) (v := ?_) (a' := ?_) #[true, true, true, true, true, true, true, true, true, true, true, true, true, true, true, true, true, true, true, true, true, true] rfl rfl (by kernel_rfl) (fun _ _ _ h => h) (Or.inl ⟨by rfl, ?_⟩) ?_ ?_
            rotate_left
            · intro w'
              go_simp
              with_reducible rfl
            rotate_left
            · simp only [Act.put, List.setIfInBounds_toArray, List.set_cons_zero, List.set_cons_succ]
              rfl
            refine done_ (by kernel_rfl) ?_
            have H8 := Aside0.mk ((H6.out.below hb7).below hd.below)
            clear H6 hrec2 k0 q7 hC7 hl7 hb7 hd HG hHeld
            go_wp2
            go_roundg (ss.length - (k + 1))
            case measure => omega
            case rel => exact ⟨k + 1, bk, by omega, by omega, rfl, by go_num, J6, D6, H8⟩
    · have hltz : ¬ (k : Int) < (ss.length : Int) := by omega
      have hsan := sanity_calls wr
      go_wp2_with fail
      refine hsan.mono ?_
      rintro e w9 ⟨rfl, hb⟩
      have HE := Aside0.mk (H.out.live.below.trans (hb.mono H.out.live.below.size))
      clear hsan hb
      go_wp2
      go_ret
      exact ⟨rfl, HE.out⟩
end Go.Proofs.YtcdgbdojopfkgaaDoor.P
