/- custodylaw25.JournalFull, walked. -/
import Derived.BigQuiet
import Derived.Test.YtcdgbdojopfkgaaDoorLawSanity
namespace Go.Proofs.YtcdgbdojopfkgaaDoor.P
open Go.RowKit Go.Shelf Go.Lib Go.Proofs.YtcdgbdojopfkgaaDoorW.PrintWords Go.Proofs.YtcdgbdojopfkgaaDoorW.PrintMore
attribute [local go_sem] max2_int min2_int max_two min_two

/-- What holds ahead of each round. -/
structure FullAt (w0 w : World) (bj bd bm bs c : Nat) (half : Nat) (k : Nat) (J : Jour) (D : Dev) : Prop where
  live : Live w0 w bj bd bm bs c J D
  fine : AllFine J D
  sp : J.spoiled = false
  half : J.half = half
  next : J.next ≤ 1 + (k : Int)
set_option maxRecDepth 100000 in
set_option maxHeartbeats 8000000 in
theorem full_calls (n : Int) (A : Option Addr) (c : Nat) (ss : List Stp) (w : World) (hr : Kd.C kStp w A ss.length ss) (hc : ss.length ≤ c) :
    Calls Tryd.prog 3 #[.int .i64 n, .slice A ss.length c] w fun e w' => e = .returned (.bool true) ∧ Below w.heap.size w w' := by
  have hsan := sanity_calls w
  have HR := Aside0.mk hr
  have HC := Aside0.mk hc
  clear hr hc
  by_cases h2 : n < 2
  · have d1 : decide (n < 2) = true := decide_eq_true h2
    go_enter Tryd.func3, Tryd.ntmps3
    go_wp2_with fail
    refine hsan.mono ?_
    rintro e w1 ⟨rfl, hb⟩
    go_wp2
    go_ret
    exact ⟨rfl, hb⟩
  by_cases h40 : 40 < n
  · have d1 : decide (n < 2) = false := decide_eq_false h2
    have d2 : decide (40 < n) = true := decide_eq_true h40
    go_enter Tryd.func3, Tryd.ntmps3
    go_wp2_with fail
    refine hsan.mono ?_
    rintro e w1 ⟨rfl, hb⟩
    go_wp2
    go_ret
    exact ⟨rfl, hb⟩
  by_cases hlen : 40 < ss.length
  · have d1 : decide (n < 2) = false := decide_eq_false h2
    have d2 : decide (40 < n) = false := decide_eq_false h40
    have d3 : decide (40 < (ss.length : Int)) = true := decide_eq_true (by omega)
    go_enter Tryd.func3, Tryd.ntmps3
    go_wp2_with fail
    refine hsan.mono ?_
    rintro e w1 ⟨rfl, hb⟩
    go_wp2
    go_ret
    exact ⟨rfl, hb⟩
  clear hsan
  obtain ⟨m, rfl⟩ : ∃ m : Nat, n = (m : Int) := ⟨n.toNat, by omega⟩
  have d1 : decide ((m : Int) < 2) = false := decide_eq_false h2
  have d2 : decide (40 < (m : Int)) = false := decide_eq_false h40
  have d3 : decide (40 < (ss.length : Int)) = false := decide_eq_false (by omega)
  have hst := start_calls m (by omega) (by omega) w
  go_enter Tryd.func3, Tryd.ntmps3
  go_wp2_with fail
  refine hst.mono ?_
  rintro e w1 ⟨bj, bd, bm, bs, bl, bf, rfl, hL⟩
  obtain ⟨-, s1, s2, s3, s4, s5, s6⟩ := start_inv m bl bf (by omega) (by omega)
  have H1 := Aside0.mk (show FullAt w w1 bj bd bm bs m (m / 2) 0 _ _ from ⟨hL, new_unworn m bl bf _ _, s6, s1, by rw [s5]; omega⟩)
  clear hst hL s1 s2 s3 s4 s5 s6
  generalize openOf (newDev m 1 1 bl bf) = J0 at H1
  generalize newDev m 1 1 bl bf = D0 at H1
  have HM := Aside0.mk (And.intro h2 (And.intro h40 hlen))
  have hss : ss.length ≤ 40 := by omega
  clear h2 h40 hlen d1 d2 d3
  go_wp2_with fail
  go_loopg [39] ss.length (fun gg s39 wr => ∃ k : Nat, k ≤ ss.length ∧ ss.length - k ≤ gg ∧ s39 = .int .i64 k ∧ ∃ J D, Aside0 (FullAt w wr bj bd bm bs m (m / 2) k J D))
  case atStart => exact ⟨0, Nat.zero_le _, by omega, rfl, J0, D0, H1⟩
  case round =>
    obtain ⟨k, hk, hg, rfl, J, D, H⟩ := hrel
    clear H1
    by_cases hlt : k < ss.length
    · have hltz : (k : Int) < (ss.length : Int) := by omega
      obtain ⟨x, hx⟩ : ∃ x, ss[k]? = some x := ⟨ss[k], List.getElem?_eq_getElem hlt⟩
      obtain ⟨b, off, B, cB, rfl, q0, q1, q2, q3, q4, hl4, hr4⟩ := at_stp (Kd.C_below HR.out H.out.live.below) hx
      have HX := Aside0.mk (And.intro hl4 hr4)
      clear hl4 hr4 hx
      have htx := text_some x
      obtain ⟨W1, hW1⟩ : ∃ W1, wr.alloc (.cells #[.int .i64 x.kind, .int .i64 x.n, .int .i64 x.size, .int .u8 x.fill, .slice B x.picks.length cB] 30 (0, 0)) = W1 := ⟨_, rfl⟩
      have hb1 : Below wr.heap.size wr W1 := by rw [← hW1]; exact below_alloc (Below.refl _ _) _
      have hbx : Blk W1 wr.heap.size [.int .i64 x.kind, .int .i64 x.n, .int .i64 x.size, .int .u8 x.fill, .slice B x.picks.length cB] := by rw [← hW1]; exact Blk.new wr _ _
      have htc := text_calls x B cB W1 HX.out.1 (Kd.C_below HX.out.2 hb1)
      obtain ⟨t, ht⟩ : ∃ t, textC x = t := ⟨_, rfl⟩
      rw [ht] at htc htx
      have hts := htx.2
      have H2 := Aside0.mk (And.intro (H.out.live.more hb1) (And.intro hbx (Kd.C_below HX.out.2 hb1)))
      have HB1 := Aside0.mk hb1
      have HT := Aside0.mk ht
      obtain ⟨q, hq⟩ : ∃ q, ((t.size : Int) + 43) / 44 = q := ⟨_, rfl⟩
      obtain ⟨nd, hnd⟩ : ∃ nd, cnt t.size = nd := ⟨_, rfl⟩
      have hmax : (if 1 < q then q else 1) = (nd : Int) := by rw [← hq, ← hnd]; unfold cnt; split <;> split <;> omega
      have HN := Aside0.mk hnd
      clear hnd
      have x0 := hbx.cell 0 rfl
      have x1 := hbx.cell 1 rfl
      have x2 := hbx.cell 2 rfl
      have x3 := hbx.cell 3 rfl
      have x4 := hbx.cell 4 rfl
      clear htx ht hb1 hbx
      go_wp2_with fail
      refine htc.mono ?_
      rintro e W2 ⟨rfl, hb⟩
      have H3 := Aside0.mk (And.intro (H2.out.1.more hb) (And.intro (H2.out.2.1.below hb) (Kd.C_below H2.out.2.2 hb)))
      clear H2 hb htc hW1 q0 q1 q2 q3 q4 x0 x1 x2 x3 x4
      go_wp2_with fail
      have hro := live_room H3.out.1
      obtain ⟨room, hroom⟩ : ∃ room : Int, (J.half : Int) - (J.used : Int) = room := ⟨_, rfl⟩
      rw [hroom] at hro
      refine hro.mono ?_
      rintro e W3 ⟨rfl, hb⟩
      have H4 := Aside0.mk (And.intro (H3.out.1.more hb) (And.intro (H3.out.2.1.below hb) (Kd.C_below H3.out.2.2 hb)))
      have HROOM := Aside0.mk hroom
      clear hro hb H3 hroom
      have hnx := live_next H4.out.1
      obtain ⟨nx, hnx'⟩ : ∃ nx : Int, J.next = nx := ⟨_, rfl⟩
      rw [hnx'] at hnx
      have HNX := Aside0.mk hnx'
      clear hnx'
      go_wp2_with fail
      refine hnx.mono ?_
      rintro e W4 ⟨rfl, hw⟩
      obtain rfl := hw
      clear hnx
      have HK : Aside0 (nx ≤ 41 ∧ 1 ≤ nx ∧ 0 ≤ room ∧ room ≤ 2048 ∧ 1 ≤ nd ∧ nd ≤ 100 ∧ J.half = m / 2) := ⟨by
        have h1 := H.out.next
        have h2 := HNX.out
        have h3 := H4.out.1.inv.next1
        have h4 := H4.out.1.inv.used
        have h5 := HROOM.out
        have h6 := HN.out
        have h7 := cnt_pos t.size
        have h8 := H4.out.1.inv.half2
        have h9 := cnt_le (n := t.size) (by omega)
        have h10 : nd ≤ 100 := by rw [← h6]; unfold cnt; split <;> omega
        have h11 := H.out.half
        omega⟩
      have x0 := H4.out.2.1.cell 0 rfl
      have x1 := H4.out.2.1.cell 1 rfl
      have x2 := H4.out.2.1.cell 2 rfl
      have x3 := H4.out.2.1.cell 3 rfl
      have x4 := H4.out.2.1.cell 4 rfl
      have htc := text_calls x B cB W4 HX.out.1 H4.out.2.2
      rw [HT.out] at htc
      by_cases k1 : x.kind = 1
      · rw [k1] at x0 htc
        go_wp2_with fail
        refine htc.mono ?_
        rintro e W5 ⟨rfl, hb⟩
        have H5 := Aside0.mk (H4.out.1.more hb)
        clear hb htc x0 x1 x2 x3 x4 H4
        have hap := live_app H5.out (by rw [HNX.out]; have := HK.out.1; omega) t (by omega)
        by_cases hfull : J.half < J.used + cnt t.size
        · rw [appOf_full H.out.sp hfull] at hap
          have d1 : decide (room < (nd : Int)) = true := decide_eq_true (by have := HROOM.out; have := HN.out; omega)
          have d2 : decide ((nd : Int) ≤ room) = false := decide_eq_false (by have := HROOM.out; have := HN.out; omega)
          go_wp2_with fail
          refine hap.mono ?_
          rintro e W6 ⟨rfl, hl, -⟩
          have H6 := Aside0.mk hl
          clear hap hl H5
          have hro := live_room H6.out
          rw [HROOM.out] at hro
          go_wp2_with fail
          refine hro.mono ?_
          rintro e W7 ⟨rfl, hb⟩
          have H7 := Aside0.mk (H6.out.more hb)
          clear hro hb H6
          have hnx := live_next H7.out
          rw [HNX.out] at hnx
          go_wp2_with fail
          refine hnx.mono ?_
          rintro e W8 ⟨rfl, hw⟩
          obtain rfl := hw
          have H8 := Aside0.mk (show FullAt w W8 bj bd bm bs m (m / 2) (k + 1) J D from ⟨H7.out, H.out.fine, H.out.sp, H.out.half, by have := H.out.next; omega⟩)
          clear hnx H H7
          go_wp2
          go_roundg (ss.length - (k + 1))
          case measure => omega
          case rel => exact ⟨k + 1, by omega, by omega, by go_num, J, D, H8⟩
        · obtain ⟨J', D', hA, hi, hw, hh, hbk, hn', hl', hu', hsp'⟩ := app_fine H5.out.inv (by rw [HNX.out]; have := HK.out.1; omega) t (by omega) H.out.sp (H.out.fine.own H5.out.inv.bank) (by omega)
          rw [hA, HNX.out] at hap
          have HJ := Aside0.mk (show FullAt w W5 bj bd bm bs m (m / 2) k J D ∧ AllFine J' D' ∧ J'.spoiled = false ∧ J'.half = m / 2 ∧ J'.next = nx + 1 ∧ (J'.half : Int) - (J'.used : Int) = room - nd from ⟨⟨H5.out, H.out.fine, H.out.sp, H.out.half, H.out.next⟩, H.out.fine.step H5.out.inv hw hh, hsp', by rw [hh]; exact H.out.half, by rw [hn', HNX.out], by have := HROOM.out; have := HN.out; omega⟩)
          have d1 : decide (room < (nd : Int)) = false := decide_eq_false (by have := HROOM.out; have := HN.out; omega)
          have d2 : decide ((nd : Int) ≤ room) = true := decide_eq_true (by have := HROOM.out; have := HN.out; omega)
          clear hA hi hw hh hbk hn' hl' hu' hsp'
          go_wp2_with fail
          refine hap.mono ?_
          rintro e W6 ⟨rfl, hl, -⟩
          have H6 := Aside0.mk hl
          clear hap hl H5
          have hro := live_room H6.out
          rw [show (J'.half : Int) - (J'.used : Int) = room - nd from HJ.out.2.2.2.2.2] at hro
          have e1 : IntKind.i64.wrap (room - (nd : Int)) = room - (nd : Int) := by have := HK.out; rw [IntKind.wrap_i64]; omega
          have e2 : IntKind.i64.wrap (nx + 1) = nx + 1 := by have := HK.out; rw [IntKind.wrap_i64]; omega
          go_wp2_with fail
          refine hro.mono ?_
          rintro e W7 ⟨rfl, hb⟩
          have H7 := Aside0.mk (H6.out.more hb)
          clear hro hb H6
          have hnx := live_next H7.out
          rw [show J'.next = nx + 1 from HJ.out.2.2.2.2.1] at hnx
          go_wp2_with fail
          refine hnx.mono ?_
          rintro e W8 ⟨rfl, hw⟩
          obtain rfl := hw
          have H8 := Aside0.mk (show FullAt w W8 bj bd bm bs m (m / 2) (k + 1) J' D' from ⟨H7.out, HJ.out.2.1, HJ.out.2.2.1, HJ.out.2.2.2.1, by have := HJ.out.2.2.2.2.1; have := HNX.out; have := H.out.next; omega⟩)
          clear hnx H H7 HJ
          go_wp2
          go_roundg (ss.length - (k + 1))
          case measure => omega
          case rel => exact ⟨k + 1, by omega, by omega, by go_num, J', D', H8⟩
      by_cases k2 : x.kind = 2
      · rw [k2] at x0 htc
        obtain ⟨hf, hhf⟩ : ∃ hf : Int, (m : Int) / 2 = hf := ⟨_, rfl⟩
        have HF : Aside0 ((J.half : Int) = hf ∧ hf ≤ 20) := ⟨by have := HK.out.2.2.2.2.2.2; have := HM.out.2.1; omega⟩
        have e0 : wrap64 hf = hf := by have := HF.out; unfold wrap64; omega
        go_wp2_with fail
        refine htc.mono ?_
        rintro e W5 ⟨rfl, hb⟩
        have H5 := Aside0.mk (H4.out.1.more hb)
        clear hb htc x0 x1 x2 x3 x4 H4
        have hap := live_comp H5.out (by rw [HNX.out]; have := HK.out.1; omega) t (by omega)
        by_cases hfull : J.half < cnt t.size
        · rw [compOf_full hfull] at hap
          have d1 : decide (hf < (nd : Int)) = true := decide_eq_true (by have := HF.out; have := HN.out; omega)
          have d2 : decide ((nd : Int) ≤ hf) = false := decide_eq_false (by have := HF.out; have := HN.out; omega)
          go_wp2_with fail
          refine hap.mono ?_
          rintro e W6 ⟨rfl, hl, -⟩
          have H6 := Aside0.mk hl
          clear hap hl H5
          have hro := live_room H6.out
          rw [HROOM.out] at hro
          go_wp2_with fail
          refine hro.mono ?_
          rintro e W7 ⟨rfl, hb⟩
          have H7 := Aside0.mk (H6.out.more hb)
          clear hro hb H6
          have hnx := live_next H7.out
          rw [HNX.out] at hnx
          go_wp2_with fail
          refine hnx.mono ?_
          rintro e W8 ⟨rfl, hw⟩
          obtain rfl := hw
          have H8 := Aside0.mk (show FullAt w W8 bj bd bm bs m (m / 2) (k + 1) J D from ⟨H7.out, H.out.fine, H.out.sp, H.out.half, by have := H.out.next; omega⟩)
          clear hnx H H7
          go_wp2
          go_roundg (ss.length - (k + 1))
          case measure => omega
          case rel => exact ⟨k + 1, by omega, by omega, by go_num, J, D, H8⟩
        · obtain ⟨J', D', hA, hi, hw, hh, hbk, hn', hl', hu', hsp'⟩ := comp_fine H5.out.inv (by rw [HNX.out]; have := HK.out.1; omega) t (by omega) (H.out.fine.other H5.out.inv.bank) (by omega)
          rw [hA, HNX.out] at hap
          have HJ := Aside0.mk (show FullAt w W5 bj bd bm bs m (m / 2) k J D ∧ AllFine J' D' ∧ J'.spoiled = false ∧ J'.half = m / 2 ∧ J'.next = nx + 1 ∧ (J'.half : Int) - (J'.used : Int) = hf - nd from ⟨⟨H5.out, H.out.fine, H.out.sp, H.out.half, H.out.next⟩, H.out.fine.step H5.out.inv hw hh, hsp', by rw [hh]; exact H.out.half, by rw [hn', HNX.out], by have := HF.out; have := HN.out; omega⟩)
          have d1 : decide (hf < (nd : Int)) = false := decide_eq_false (by have := HF.out; have := HN.out; omega)
          have d2 : decide ((nd : Int) ≤ hf) = true := decide_eq_true (by have := HF.out; have := HN.out; omega)
          clear hA hi hw hh hbk hn' hl' hu' hsp'
          go_wp2_with fail
          refine hap.mono ?_
          rintro e W6 ⟨rfl, hl, -⟩
          have H6 := Aside0.mk hl
          clear hap hl H5
          have hro := live_room H6.out
          rw [show (J'.half : Int) - (J'.used : Int) = hf - nd from HJ.out.2.2.2.2.2] at hro
          have e1 : IntKind.i64.wrap (hf - (nd : Int)) = hf - (nd : Int) := by have := HK.out; have := HF.out; rw [IntKind.wrap_i64]; omega
          have e2 : IntKind.i64.wrap (nx + 1) = nx + 1 := by have := HK.out; rw [IntKind.wrap_i64]; omega
          go_wp2_with fail
          refine hro.mono ?_
          rintro e W7 ⟨rfl, hb⟩
          have H7 := Aside0.mk (H6.out.more hb)
          clear hro hb H6
          have hnx := live_next H7.out
          rw [show J'.next = nx + 1 from HJ.out.2.2.2.2.1] at hnx
          go_wp2_with fail
          refine hnx.mono ?_
          rintro e W8 ⟨rfl, hw⟩
          obtain rfl := hw
          have H8 := Aside0.mk (show FullAt w W8 bj bd bm bs m (m / 2) (k + 1) J' D' from ⟨H7.out, HJ.out.2.1, HJ.out.2.2.1, HJ.out.2.2.2.1, by have := HJ.out.2.2.2.2.1; have := HNX.out; have := H.out.next; omega⟩)
          clear hnx H H7 HJ
          go_wp2
          go_roundg (ss.length - (k + 1))
          case measure => omega
          case rel => exact ⟨k + 1, by omega, by omega, by go_num, J', D', H8⟩
      have d1 : (x.kind == 1) = false := by simpa using k1
      have d2 : (x.kind == 2) = false := by simpa using k2
      have H5 := Aside0.mk (show FullAt w W4 bj bd bm bs m (m / 2) (k + 1) J D from ⟨H4.out.1, H.out.fine, H.out.sp, H.out.half, by have := H.out.next; omega⟩)
      clear H H4 htc x1 x2 x3 x4
      go_wp2
      go_roundg (ss.length - (k + 1))
      case measure => omega
      case rel => exact ⟨k + 1, by omega, by omega, by go_num, J, D, H5⟩
    · have hltz : ¬ (k : Int) < (ss.length : Int) := by omega
      have hsan := sanity_calls wr
      go_wp2_with fail
      refine hsan.mono ?_
      rintro e w9 ⟨rfl, hb⟩
      have HE := Aside0.mk (H.out.live.below.trans (hb.mono H.out.live.below.size))
      clear hsan hb
      go_wp2
      go_ret
      exact ⟨rfl, HE.out⟩
end Go.Proofs.YtcdgbdojopfkgaaDoor.P
