/- custodylaw25.JournalRecovers, walked (printed by genrecovers.py). -/
import Derived.BigQuiet
import Derived.Test.YtcdgbdojopfkgaaDoorLawSanity
namespace Go.Proofs.YtcdgbdojopfkgaaDoor.P
open Go.RowKit Go.Shelf Go.Lib Go.Proofs.YtcdgbdojopfkgaaDoorW.PrintWords Go.Proofs.YtcdgbdojopfkgaaDoorW.PrintMore
attribute [local go_sem] max2_int min2_int max_two min_two

/-- What holds ahead of each round, but that the journal may be spoiled. -/
structure RecAt (w0 w : World) (bj bd bm bs c : Nat) (half : Nat) (k : Nat) (J : Jour) (D : Dev) : Prop where
  live : Live w0 w bj bd bm bs c J D
  fine : Unworn D half (2 * half)
  half : J.half = half
  bank : J.bank = 0
  next : J.next ≤ 1 + (k : Int)
/-- What the law's two texts lie in. -/
structure RecBox (w0 w : World) (g : Nat) (x : Stp) (B : Option Addr) (c : Nat) : Prop where
  box : Blk w g [.int .i64 x.kind, .int .i64 x.n, .int .i64 x.size, .int .u8 x.fill, .slice B x.picks.length c]
  lt : g < w0.heap.size
  picks : Kd.C (Kd.int .i64) w0 B x.picks.length x.picks
theorem RecBox.below {w0 w w' : World} {g : Nat} {x : Stp} {B : Option Addr} {c : Nat} (h : RecBox w0 w g x B c) (hb : Below w0.heap.size w w') : RecBox w0 w' g x B c := by
  obtain ⟨⟨t, h1⟩, h2, h3⟩ := h
  exact ⟨⟨t, (hb.block g h2).trans h1⟩, h2, h3⟩
/-- The journal behind the image. -/
structure RecTwo (J : Jour) (D : Dev) (hh : Nat) (nn : Int) (ti : ByteArray) (u : Nat) : Prop where
  inv : Inv J D
  half : J.half = hh
  bank : J.bank = 1
  next : J.next = nn + 1
  l : J.l = [(nn, ti)]
  used : J.used = u
  sp : J.spoiled = false
  fine : Unworn D hh (2 * hh)
  pos : 1 ≤ nn
  lim : nn ≤ 4611686018427387000
  fits : u ≤ hh
theorem RecTwo.own {J : Jour} {D : Dev} {half : Nat} {nn : Int} {ti : ByteArray} {u : Nat} (h : RecTwo J D half nn ti u) : Unworn D (J.bank * J.half) (J.bank * J.half + J.half) := by
  rw [h.bank, h.half, Nat.one_mul]
  exact h.fine.sub (Nat.le_refl _) (by omega)
structure RecEnd (J : Jour) : Prop where
  bk : J.bank = 1
set_option maxRecDepth 100000 in
set_option maxHeartbeats 16000000 in
theorem recovers_calls (n : Int) (A : Option Addr) (c : Nat) (ss : List Stp) (xi : Stp) (Ai : Option Addr) (ci : Nat) (xr : Stp) (Ar : Option Addr) (cr : Nat) (w : World) (hr : Kd.C kStp w A ss.length ss) (hc : ss.length ≤ c)
    (hi1 : Kd.C (Kd.int .i64) w Ai xi.picks.length xi.picks) (hi2 : xi.picks.length ≤ ci) (hr1 : Kd.C (Kd.int .i64) w Ar xr.picks.length xr.picks) (hr2 : xr.picks.length ≤ cr) :
    Calls Tryd.prog 4 #[.int .i64 n, .slice A ss.length c, .agg #[.int .i64 xi.kind, .int .i64 xi.n, .int .i64 xi.size, .int .u8 xi.fill, .slice Ai xi.picks.length ci], .agg #[.int .i64 xr.kind, .int .i64 xr.n, .int .i64 xr.size, .int .u8 xr.fill, .slice Ar xr.picks.length cr]] w fun e w' => e = .returned (.bool true) ∧ Below w.heap.size w w' := by
  obtain ⟨wa, hwa⟩ : ∃ wa, w.alloc (.cells #[.int .i64 xi.kind, .int .i64 xi.n, .int .i64 xi.size, .int .u8 xi.fill, .slice Ai xi.picks.length ci] 30 (0, 0)) = wa := ⟨_, rfl⟩
  obtain ⟨wb, hwb⟩ : ∃ wb, wa.alloc (.cells #[.int .i64 xr.kind, .int .i64 xr.n, .int .i64 xr.size, .int .u8 xr.fill, .slice Ar xr.picks.length cr] 30 (0, 0)) = wb := ⟨_, rfl⟩
  have hsa : wa.heap.size = w.heap.size + 1 := by rw [← hwa]; simp
  have hsb : wb.heap.size = w.heap.size + 1 + 1 := by rw [← hwb]; simp [hsa]
  have hba : Below w.heap.size w wa := by rw [← hwa]; exact below_alloc (Below.refl _ _) _
  have hbb : Below wa.heap.size wa wb := by rw [← hwb]; exact below_alloc (Below.refl _ _) _
  have hbw : Below w.heap.size w wb := hba.trans (hbb.mono (by omega))
  have hxi : RecBox wb wb w.heap.size xi Ai ci := by
    refine ⟨?_, by omega, Kd.C_below hi1 hbw⟩
    have : Blk wa w.heap.size [.int .i64 xi.kind, .int .i64 xi.n, .int .i64 xi.size, .int .u8 xi.fill, .slice Ai xi.picks.length ci] := by rw [← hwa]; exact Blk.new w _ _
    exact this.below hbb
  have hxr : RecBox wb wb (w.heap.size + 1) xr Ar cr := by
    refine ⟨?_, by omega, Kd.C_below hr1 hbw⟩
    have : Blk wb wa.heap.size [.int .i64 xr.kind, .int .i64 xr.n, .int .i64 xr.size, .int .u8 xr.fill, .slice Ar xr.picks.length cr] := by rw [← hwb]; exact Blk.new wa _ _
    rw [hsa] at this
    exact this
  have HR := Aside0.mk (Kd.C_below hr hbw)
  have HC := Aside0.mk hc
  have HXI := Aside0.mk hxi
  have HXR := Aside0.mk hxr
  have HI2 := Aside0.mk hi2
  have HR2 := Aside0.mk hr2
  have HBW := Aside0.mk hbw
  clear hr hc hi1 hi2 hr1 hr2 hxi hxr hba hbb hbw
  have hsan := sanity_calls wb
  by_cases h2 : n < 2
  · have d1 : decide (n < 2) = true := decide_eq_true h2
    go_enter Tryd.func4, Tryd.ntmps4
    go_wp2_with fail
    refine hsan.mono ?_
    rintro e w1 ⟨rfl, hb⟩
    have HE := Aside0.mk (HBW.out.trans (hb.mono HBW.out.size))
    clear hb hsan
    go_wp2
    go_ret
    exact ⟨rfl, HE.out⟩
  by_cases h40 : 40 < n
  · have d1 : decide (n < 2) = false := decide_eq_false h2
    have d2 : decide (40 < n) = true := decide_eq_true h40
    go_enter Tryd.func4, Tryd.ntmps4
    go_wp2_with fail
    refine hsan.mono ?_
    rintro e w1 ⟨rfl, hb⟩
    have HE := Aside0.mk (HBW.out.trans (hb.mono HBW.out.size))
    clear hb hsan
    go_wp2
    go_ret
    exact ⟨rfl, HE.out⟩
  by_cases hlen : 40 < ss.length
  · have d1 : decide (n < 2) = false := decide_eq_false h2
    have d2 : decide (40 < n) = false := decide_eq_false h40
    have d3 : decide (40 < (ss.length : Int)) = true := decide_eq_true (by omega)
    go_enter Tryd.func4, Tryd.ntmps4
    go_wp2_with fail
    refine hsan.mono ?_
    rintro e w1 ⟨rfl, hb⟩
    have HE := Aside0.mk (HBW.out.trans (hb.mono HBW.out.size))
    clear hb hsan
    go_wp2
    go_ret
    exact ⟨rfl, HE.out⟩
  clear hsan
  obtain ⟨m, rfl⟩ : ∃ m : Nat, n = (m : Int) := ⟨n.toNat, by omega⟩
  have d1 : decide ((m : Int) < 2) = false := decide_eq_false h2
  have d2 : decide (40 < (m : Int)) = false := decide_eq_false h40
  have d3 : decide (40 < (ss.length : Int)) = false := decide_eq_false (by omega)
  have hst := start_calls m (by omega) (by omega) wb
  go_enter Tryd.func4, Tryd.ntmps4
  go_wp2_with fail
  refine hst.mono ?_
  rintro e w1 ⟨bj, bd, bm, bs, bl, bf, rfl, hL⟩
  obtain ⟨-, s1, s2, s3, s4, s5, s6⟩ := start_inv m bl bf (by omega) (by omega)
  have H1 := Aside0.mk (And.intro (show RecAt wb w1 bj bd bm bs m (m / 2) 0 _ _ from ⟨hL, new_unworn m bl bf _ _, s1, s2, by rw [s5]; omega⟩) s6)
  clear hst hL s1 s2 s3 s4 s5 s6
  generalize openOf (newDev m 1 1 bl bf) = J0 at H1
  generalize newDev m 1 1 bl bf = D0 at H1
  have hss : ss.length ≤ 40 := by omega
  obtain ⟨hf, hhf⟩ : ∃ hf : Int, (m : Int) / 2 = hf := ⟨_, rfl⟩
  have HF : Aside0 (((m / 2 : Nat) : Int) = hf ∧ hf ≤ 20 ∧ 1 ≤ m / 2) := ⟨by omega⟩
  have e0 : wrap64 hf = hf := by have := HF.out; unfold wrap64; omega
  clear h2 h40 hlen d1 d2 d3 hwa hwb
  go_wp2_with fail
  rw [e0]
  go_loopg [48] ss.length (fun gg s48 wr => ∃ k : Nat, k ≤ ss.length ∧ ss.length - k ≤ gg ∧ s48 = .int .i64 k ∧ ∃ J D, Aside0 (RecAt wb wr bj bd bm bs m (m / 2) k J D ∧ J.spoiled = false))
  case atStart => exact ⟨0, Nat.zero_le _, by omega, rfl, J0, D0, H1⟩
  case round =>
    obtain ⟨k, hk, hg, rfl, J, D, H⟩ := hrel
    clear H1
    by_cases hlt : k < ss.length
    · have hltz : (k : Int) < (ss.length : Int) := by omega
      obtain ⟨x, hx⟩ : ∃ x, ss[k]? = some x := ⟨ss[k], List.getElem?_eq_getElem hlt⟩
      obtain ⟨b, off, B, cB, rfl, q0, q1, q2, q3, q4, hl4, hr4⟩ := at_stp (Kd.C_below HR.out H.out.1.live.below) hx
      obtain ⟨W1, hW1⟩ : ∃ W1, wr.alloc (.cells #[.int .i64 x.kind, .int .i64 x.n, .int .i64 x.size, .int .u8 x.fill, .slice B x.picks.length cB] 30 (0, 0)) = W1 := ⟨_, rfl⟩
      have hb1 : Below wr.heap.size wr W1 := by rw [← hW1]; exact below_alloc (Below.refl _ _) _
      have hbx : Blk W1 wr.heap.size [.int .i64 x.kind, .int .i64 x.n, .int .i64 x.size, .int .u8 x.fill, .slice B x.picks.length cB] := by rw [← hW1]; exact Blk.new wr _ _
      have HX := Aside0.mk (And.intro hl4 (Kd.C_below hr4 hb1))
      have H2 := Aside0.mk (And.intro (H.out.1.live.more hb1) hbx)
      have x0 := hbx.cell 0 rfl
      have x1 := hbx.cell 1 rfl
      have x2 := hbx.cell 2 rfl
      have x3 := hbx.cell 3 rfl
      have x4 := hbx.cell 4 rfl
      clear hl4 hr4 hx hb1 hbx
      by_cases k6 : x.kind = 6
      · have dk : (x.kind == 6) = true := by simpa using k6
        have dk1 : (x.kind == 1) = false := by rw [k6]; rfl
        clear k6
        by_cases n0 : 0 ≤ x.n
        · have d1 : decide (0 ≤ x.n) = true := decide_eq_true n0
          by_cases nh : x.n < hf
          · have d2 : decide (x.n < hf) = true := decide_eq_true nh
            have hwr := live_wear H2.out.1 x.n
            go_wp2_with fail
            refine hwr.mono ?_
            rintro e W2 ⟨rfl, hl, hm⟩
            have H3 := Aside0.mk (show RecAt wb W2 bj bd bm bs m (m / 2) (k + 1) J { D with secs := wearSec D.secs x.n } from ⟨hl, wear_unworn H.out.1.fine (by have := HF.out; omega), H.out.1.half, H.out.1.bank, by have := H.out.1.next; omega⟩)
            have HSP := Aside0.mk H.out.2
            have hbx2 := H2.out.2.mod hm (by rintro (z | z | z) <;> (have := H.out.1.live; obtain ⟨lv, hrep⟩ := this.rep; have z1 := hrep.jour.lt; have z2 := hrep.dev.dev.lt; have z3 := hrep.dev.mem.hs.lt; omega))
            clear x0 x1 x2 x3 x4
            have x0 := hbx2.cell 0 rfl
            have x1 := hbx2.cell 1 rfl
            clear hwr hl hm H H2 hW1 hbx2
            go_wp2_with fail
            go_roundg (ss.length - (k + 1))
            case measure => omega
            case rel => exact ⟨k + 1, by omega, by omega, by go_num, J, _, ⟨H3.out, HSP.out⟩⟩
          · have d2 : decide (x.n < hf) = false := decide_eq_false nh
            have H3 := Aside0.mk (And.intro (show RecAt wb W1 bj bd bm bs m (m / 2) (k + 1) J D from ⟨H2.out.1, H.out.1.fine, H.out.1.half, H.out.1.bank, by have := H.out.1.next; omega⟩) H.out.2)
            clear H H2
            go_wp2_with fail
            go_roundg (ss.length - (k + 1))
            case measure => omega
            case rel => exact ⟨k + 1, by omega, by omega, by go_num, J, D, by first | exact H3 | (rw [hW1]; exact H3)⟩
        · have d1 : decide (0 ≤ x.n) = false := decide_eq_false n0
          have H3 := Aside0.mk (And.intro (show RecAt wb W1 bj bd bm bs m (m / 2) (k + 1) J D from ⟨H2.out.1, H.out.1.fine, H.out.1.half, H.out.1.bank, by have := H.out.1.next; omega⟩) H.out.2)
          clear H H2
          go_wp2_with fail
          go_roundg (ss.length - (k + 1))
          case measure => omega
          case rel => exact ⟨k + 1, by omega, by omega, by go_num, J, D, by first | exact H3 | (rw [hW1]; exact H3)⟩
      by_cases k1 : x.kind = 1
      · have dk : (x.kind == 6) = false := by rw [k1]; rfl
        have dk1 : (x.kind == 1) = true := by simpa using k1
        clear k1 k6
        have hbk := live_bank H2.out.1
        rw [H.out.1.bank, show ((0 : Nat) : Int) = 0 from rfl] at hbk
        go_wp2_with fail
        refine hbk.mono ?_
        rintro e W2 ⟨rfl, hw⟩
        obtain rfl := hw
        clear hbk
        have htx := text_some x
        have htc := text_calls x B cB W2 HX.out.1 HX.out.2
        obtain ⟨t, ht⟩ : ∃ t, textC x = t := ⟨_, rfl⟩
        rw [ht] at htc htx
        have hts := htx.2
        clear htx ht
        go_wp2_with fail
        refine htc.mono ?_
        rintro e W3 ⟨rfl, hb⟩
        have H3 := Aside0.mk (H2.out.1.more hb)
        clear hb htc x0 x1 x2 x3 x4 H2
        have hn : J.next ≤ 4611686018427387904 := by have := H.out.1.next; omega
        have hap := live_app H3.out hn t (by omega)
        by_cases hfull : J.half < J.used + cnt t.size
        · rw [appOf_full H.out.2 hfull] at hap
          go_wp2_with fail
          refine hap.mono ?_
          rintro e W4 ⟨rfl, hl, -⟩
          have H4 := Aside0.mk (And.intro (show RecAt wb W4 bj bd bm bs m (m / 2) (k + 1) J D from ⟨hl, H.out.1.fine, H.out.1.half, H.out.1.bank, by have := H.out.1.next; omega⟩) H.out.2)
          clear hap hl H H3 hn hfull
          go_wp2
          go_roundg (ss.length - (k + 1))
          case measure => omega
          case rel => exact ⟨k + 1, by omega, by omega, by go_num, J, D, H4⟩
        · obtain ⟨J', D', r, hi, hw, hh, hbk, hn', -, ⟨-, hA, -, -, hsp⟩ | ⟨-, hA, -, -, -⟩⟩ := app_inv H3.out.inv hn t (by omega) H.out.2 (by omega)
          · obtain ⟨nn, hnn⟩ : ∃ nn, J.next = nn := ⟨_, rfl⟩
            rw [hA, hnn] at hap
            go_wp2_with fail
            refine hap.mono ?_
            rintro e W4 ⟨rfl, hl, -⟩
            have H4 := Aside0.mk (And.intro (show RecAt wb W4 bj bd bm bs m (m / 2) (k + 1) J' D' from ⟨hl, hw.unworn (by have := H3.out.inv.lenD; have := H.out.1.half; omega) H.out.1.fine, by rw [hh]; exact H.out.1.half, by rw [hbk]; exact H.out.1.bank, by have := H.out.1.next; omega⟩) hsp)
            clear hap hl H H3 hn hfull hi hw hh hbk hn' hA hsp hnn
            go_wp2
            go_roundg (ss.length - (k + 1))
            case measure => omega
            case rel => exact ⟨k + 1, by omega, by omega, by go_num, J', D', H4⟩
          · rw [hA] at hap
            go_wp2_with fail
            refine hap.mono ?_
            rintro e W4 ⟨rfl, hl, -⟩
            have H4 := Aside0.mk (show RecAt wb W4 bj bd bm bs m (m / 2) (k + 1) J' D' from ⟨hl, hw.unworn (by have := H3.out.inv.lenD; have := H.out.1.half; omega) H.out.1.fine, by rw [hh]; exact H.out.1.half, by rw [hbk]; exact H.out.1.bank, by have := H.out.1.next; omega⟩)
            have HK : Aside0 (k + 1 ≤ 41) := ⟨by omega⟩
            clear hap hl H H3 hn hfull hi hw hh hbk hn' hA hW1 q0 q1 q2 q3 q4
            generalize k + 1 = kk at H4 HK
            generalize J' = J at H4
            generalize D' = D at H4
            have i0 := (HXI.out.below H4.out.live.below)
            have y0 := i0.box.cell 0 rfl
            have y1 := i0.box.cell 1 rfl
            have y2 := i0.box.cell 2 rfl
            have y3 := i0.box.cell 3 rfl
            have y4 := i0.box.cell 4 rfl
            have htx := text_some xi
            have htc := text_calls xi Ai ci W4 HI2.out (Kd.C_below HXI.out.picks H4.out.live.below)
            obtain ⟨ti, hti⟩ : ∃ t, textC xi = t := ⟨_, rfl⟩
            rw [hti] at htc htx
            have hsti := htx.2
            clear htx hti i0
            go_wp2_with fail
            refine htc.mono ?_
            rintro e W5 ⟨rfl, hb⟩
            have H5 := Aside0.mk (H4.out.live.more hb)
            clear hb htc y0 y1 y2 y3 y4
            have hn : J.next ≤ 4611686018427387000 := by have := H4.out.next; have := HK.out; omega
            have hcp := live_comp H5.out (by omega) ti (by omega)
            by_cases hfull : J.half < cnt ti.size
            · rw [compOf_full hfull] at hcp
              go_wp2_with fail
              refine hcp.mono ?_
              rintro e W6 ⟨rfl, hl, -⟩
              have H6 := Aside0.mk hl
              have hsan := sanity_calls W6
              clear hcp hl H5
              go_wp2_with fail
              refine hsan.mono ?_
              rintro e W7 ⟨rfl, hb⟩
              have H7 := Aside0.mk (H6.out.more hb)
              have hbk := live_bank H7.out
              rw [H4.out.bank, show ((0 : Nat) : Int) = 0 from rfl] at hbk
              clear hsan hb H6
              go_wp2_with fail
              refine hbk.mono ?_
              rintro e W8 ⟨rfl, hw⟩
              obtain rfl := hw
              go_wp2
              go_ret
              exact ⟨rfl, HBW.out.trans (H7.out.below.mono HBW.out.size)⟩
            · obtain ⟨J2, D2, hA, hi2, hw2, hh2, hbk2, hn2, hl2, hu2, hsp2⟩ := comp_fine H5.out.inv (by omega) ti (by omega) (by
                have e1 : (1 - J.bank) * J.half = m / 2 := by rw [H4.out.bank, H4.out.half]; omega
                rw [e1, H4.out.half]
                exact H4.out.fine.sub (Nat.le_refl _) (by omega)) (by omega)
              have hun2 : Unworn D2 (m / 2) (2 * (m / 2)) := hw2.unworn (by have := H5.out.inv.lenD; have := H4.out.half; omega) H4.out.fine
              obtain ⟨nn, hnn⟩ : ∃ nn, J.next = nn := ⟨_, rfl⟩
              rw [hA, hnn] at hcp
              have HP := Aside0.mk (show RecTwo J2 D2 (m / 2) nn ti (cnt ti.size) from ⟨hi2, by rw [hh2, H4.out.half], by rw [hbk2, H4.out.bank], by rw [hn2, hnn], by rw [hl2, hnn], hu2, hsp2, hun2, by rw [← hnn]; exact H5.out.inv.next1, by omega, by have := H4.out.half; omega⟩)
              clear hA hi2 hw2 hh2 hbk2 hn2 hl2 hu2 hsp2 hun2 hnn hn hfull H4
              go_wp2_with fail
              refine hcp.mono ?_
              rintro e W6 ⟨rfl, hl, -⟩
              have H6 := Aside0.mk hl
              clear hcp hl H5
              have hro := live_room H6.out
              obtain ⟨left, hleft⟩ : ∃ left : Int, (J2.half : Int) - (J2.used : Int) = left := ⟨_, rfl⟩
              rw [hleft] at hro
              have HL := Aside0.mk hleft
              clear hleft
              go_wp2_with fail
              refine hro.mono ?_
              rintro e W7 ⟨rfl, hb⟩
              have H7 := Aside0.mk (H6.out.more hb)
              clear hro hb H6
              have i0 := (HXR.out.below H7.out.below)
              have y0 := i0.box.cell 0 rfl
              have y1 := i0.box.cell 1 rfl
              have y2 := i0.box.cell 2 rfl
              have y3 := i0.box.cell 3 rfl
              have y4 := i0.box.cell 4 rfl
              have htx := text_some xr
              have htc := text_calls xr Ar cr W7 HR2.out (Kd.C_below HXR.out.picks H7.out.below)
              obtain ⟨tr, hti⟩ : ∃ t, textC xr = t := ⟨_, rfl⟩
              rw [hti] at htc htx
              have hstr := htx.2
              clear htx hti i0
              go_wp2_with fail
              refine htc.mono ?_
              rintro e W8 ⟨rfl, hb⟩
              have H8 := Aside0.mk (H7.out.more hb)
              clear hb htc y0 y1 y2 y3 y4
              have hap := live_app H8.out (by have := HP.out.next; have := HP.out.lim; omega) tr (by omega)
              by_cases hfit : J2.used + cnt tr.size ≤ J2.half
              · obtain ⟨J3, D3, hA, hi3, hw3, hh3, hbk3, hn3, hl3, hu3, hsp3⟩ := app_fine HP.out.inv (by have := HP.out.next; have := HP.out.lim; omega) tr (by omega) HP.out.sp HP.out.own hfit
                obtain ⟨n2, hn2⟩ : ∃ n2, J2.next = n2 := ⟨_, rfl⟩
                have hn2p : decide (0 < n2) = true := decide_eq_true (by have := HP.out.next; have := HP.out.pos; omega)
                have hlp : decide (0 < left) = true := decide_eq_true (by have := HL.out; have := cnt_pos tr.size; omega)
                rw [hA, hn2] at hap
                have H3 := Aside0.mk (And.intro hi3 (And.intro hw3 (And.intro hh3 (And.intro hbk3 (And.intro hn3 (And.intro hl3 (And.intro hu3 hsp3)))))))
                clear hA hi3 hw3 hh3 hbk3 hn3 hl3 hu3 hsp3 hn2
                go_wp2_with fail
                refine hap.mono ?_
                rintro e W9 ⟨rfl, hl, -⟩
                have H9 := Aside0.mk hl
                clear hap hl H8
                have hap := live_app H9.out (by have := H3.out.2.2.2.2.1; have := HP.out.next; have := HP.out.lim; omega) ⟨#[]⟩ (by decide)
                by_cases hfit2 : J3.used + 1 ≤ J3.half
                · obtain ⟨J4, D4, hA, hi4, hw4, hh4, hbk4, hn4, hl4, hu4, hsp4⟩ := app_fine H3.out.1 (by have := H3.out.2.2.2.2.1; have := HP.out.next; have := HP.out.lim; omega) ⟨#[]⟩ (by decide) H3.out.2.2.2.2.2.2.2 (by
                    obtain ⟨hi3, hw3, hh3, hbk3, -⟩ := H3.out
                    have := HP.out.own
                    rw [hh3, hbk3]
                    exact hw3.unworn (by have := HP.out.inv.lenD; rcases banks (half := J2.half) HP.out.inv.bank with ⟨a, -⟩ | ⟨a, -⟩ <;> omega) this) hfit2
                  obtain ⟨n3, hn3⟩ : ∃ n3, J3.next = n3 := ⟨_, rfl⟩
                  rw [hA, hn3] at hap
                  have hrl : J4.l = [(nn, ti), (J2.next, tr), (J3.next, ⟨#[]⟩)] := by rw [hl4, H3.out.2.2.2.2.2.1, HP.out.l]; rfl
                  have HRL := Aside0.mk hrl
                  have HP := Aside0.mk (show RecEnd J4 from ⟨by rw [hbk4, H3.out.2.2.2.1, HP.out.bank]⟩)
                  clear hA hi4 hw4 hh4 hbk4 hn4 hl4 hu4 hsp4 hn3 hrl
                  go_wp2_with fail
                  refine hap.mono ?_
                  rintro e WZ ⟨rfl, hl, -⟩
                  have HZ := Aside0.mk hl
                  clear hap hl H9
                  have hsan := sanity_calls WZ
                  go_wp2_with fail
                  refine hsan.mono ?_
                  rintro e WY ⟨rfl, hb⟩
                  have HY := Aside0.mk (HZ.out.more hb)
                  clear hsan hb
                  have hbk := live_bank HY.out
                  rw [HP.out.bk, show ((1 : Nat) : Int) = 1 from rfl] at hbk
                  go_wp2_with fail
                  refine hbk.mono ?_
                  rintro e WX ⟨rfl, hw⟩
                  obtain rfl := hw
                  clear hbk
                  have hrec := live_recs HY.out
                  rw [HRL.out] at hrec
                  go_wp2_with fail
                  refine hrec.mono ?_
                  rintro e WV ⟨AV, cV, rfl, -, -, hb⟩
                  have HV := Aside0.mk (HY.out.more hb)
                  clear hrec hb
                  go_wp2
                  go_ret
                  exact ⟨rfl, HBW.out.trans (HV.out.below.mono HBW.out.size)⟩
                · rw [appOf_full H3.out.2.2.2.2.2.2.2 (by show J3.half < J3.used + 1; omega)] at hap
                  have hrl : J3.l = [(nn, ti), (J2.next, tr)] := by rw [H3.out.2.2.2.2.2.1, HP.out.l]; rfl
                  have HRL := Aside0.mk hrl
                  have HP := Aside0.mk (show RecEnd J3 from ⟨by rw [H3.out.2.2.2.1, HP.out.bank]⟩)
                  clear hrl
                  go_wp2_with fail
                  refine hap.mono ?_
                  rintro e WZ ⟨rfl, hl, -⟩
                  have HZ := Aside0.mk hl
                  clear hap hl H9
                  have hsan := sanity_calls WZ
                  go_wp2_with fail
                  refine hsan.mono ?_
                  rintro e WY ⟨rfl, hb⟩
                  have HY := Aside0.mk (HZ.out.more hb)
                  clear hsan hb
                  have hbk := live_bank HY.out
                  rw [HP.out.bk, show ((1 : Nat) : Int) = 1 from rfl] at hbk
                  go_wp2_with fail
                  refine hbk.mono ?_
                  rintro e WX ⟨rfl, hw⟩
                  obtain rfl := hw
                  clear hbk
                  have hrec := live_recs HY.out
                  rw [HRL.out] at hrec
                  go_wp2_with fail
                  refine hrec.mono ?_
                  rintro e WV ⟨AV, cV, rfl, -, -, hb⟩
                  have HV := Aside0.mk (HY.out.more hb)
                  clear hrec hb
                  go_wp2
                  go_ret
                  exact ⟨rfl, HBW.out.trans (HV.out.below.mono HBW.out.size)⟩
              · rw [appOf_full HP.out.sp (by omega)] at hap
                go_wp2_with fail
                refine hap.mono ?_
                rintro e W9 ⟨rfl, hl, -⟩
                have H9 := Aside0.mk hl
                clear hap hl H8
                have hap := live_app H9.out (by have := HP.out.next; have := HP.out.lim; omega) ⟨#[]⟩ (by decide)
                by_cases hfit2 : J2.used + 1 ≤ J2.half
                · obtain ⟨J4, D4, hA, hi4, hw4, hh4, hbk4, hn4, hl4, hu4, hsp4⟩ := app_fine HP.out.inv (by have := HP.out.next; have := HP.out.lim; omega) ⟨#[]⟩ (by decide) HP.out.sp HP.out.own hfit2
                  obtain ⟨n3, hn3⟩ : ∃ n3, J2.next = n3 := ⟨_, rfl⟩
                  have hlp : decide (0 < left) = true := decide_eq_true (by have := HL.out; omega)
                  rw [hA, hn3] at hap
                  have HP := Aside0.mk (show RecEnd J4 from ⟨by rw [hbk4, HP.out.bank]⟩)
                  clear hA hi4 hw4 hh4 hbk4 hn4 hl4 hu4 hsp4 hn3
                  go_wp2_with fail
                  refine hap.mono ?_
                  rintro e WZ ⟨rfl, hl, -⟩
                  have HZ := Aside0.mk hl
                  clear hap hl H9
                  have hsan := sanity_calls WZ
                  go_wp2_with fail
                  refine hsan.mono ?_
                  rintro e WY ⟨rfl, hb⟩
                  have HY := Aside0.mk (HZ.out.more hb)
                  clear hsan hb
                  have hbk := live_bank HY.out
                  rw [HP.out.bk, show ((1 : Nat) : Int) = 1 from rfl] at hbk
                  go_wp2_with fail
                  refine hbk.mono ?_
                  rintro e WX ⟨rfl, hw⟩
                  obtain rfl := hw
                  clear hbk
                  go_wp2
                  go_ret
                  exact ⟨rfl, HBW.out.trans (HY.out.below.mono HBW.out.size)⟩
                · rw [appOf_full HP.out.sp (by show J2.half < J2.used + 1; omega)] at hap
                  have hlp : decide (0 < left) = false := decide_eq_false (by have := HL.out; omega)
                  have HP := Aside0.mk (show RecEnd J2 from ⟨HP.out.bank⟩)
                  go_wp2_with fail
                  refine hap.mono ?_
                  rintro e WZ ⟨rfl, hl, -⟩
                  have HZ := Aside0.mk hl
                  clear hap hl H9
                  have hsan := sanity_calls WZ
                  go_wp2_with fail
                  refine hsan.mono ?_
                  rintro e WY ⟨rfl, hb⟩
                  have HY := Aside0.mk (HZ.out.more hb)
                  clear hsan hb
                  have hbk := live_bank HY.out
                  rw [HP.out.bk, show ((1 : Nat) : Int) = 1 from rfl] at hbk
                  go_wp2_with fail
                  refine hbk.mono ?_
                  rintro e WX ⟨rfl, hw⟩
                  obtain rfl := hw
                  clear hbk
                  go_wp2
                  go_ret
                  exact ⟨rfl, HBW.out.trans (HY.out.below.mono HBW.out.size)⟩
      have d1 : (x.kind == 1) = false := by simpa using k1
      have d6 : (x.kind == 6) = false := by simpa using k6
      clear k1 k6
      have H3 := Aside0.mk (And.intro (show RecAt wb W1 bj bd bm bs m (m / 2) (k + 1) J D from ⟨H2.out.1, H.out.1.fine, H.out.1.half, H.out.1.bank, by have := H.out.1.next; omega⟩) H.out.2)
      clear H H2
      go_wp2_with fail
      go_roundg (ss.length - (k + 1))
      case measure => omega
      case rel => exact ⟨k + 1, by omega, by omega, by go_num, J, D, by first | exact H3 | (rw [hW1]; exact H3)⟩
    · have hltz : ¬ (k : Int) < (ss.length : Int) := by omega
      have H4 := Aside0.mk H.out.1
      have HK : Aside0 (k ≤ 41) := ⟨by omega⟩
      clear H
      obtain ⟨W4, rfl⟩ : ∃ W4, W4 = wr := ⟨_, rfl⟩
      have i0 := (HXI.out.below H4.out.live.below)
      have y0 := i0.box.cell 0 rfl
      have y1 := i0.box.cell 1 rfl
      have y2 := i0.box.cell 2 rfl
      have y3 := i0.box.cell 3 rfl
      have y4 := i0.box.cell 4 rfl
      have htx := text_some xi
      have htc := text_calls xi Ai ci W4 HI2.out (Kd.C_below HXI.out.picks H4.out.live.below)
      obtain ⟨ti, hti⟩ : ∃ t, textC xi = t := ⟨_, rfl⟩
      rw [hti] at htc htx
      have hsti := htx.2
      clear htx hti i0
      go_wp2_with fail
      refine htc.mono ?_
      rintro e W5 ⟨rfl, hb⟩
      have H5 := Aside0.mk (H4.out.live.more hb)
      clear hb htc y0 y1 y2 y3 y4
      have hn : J.next ≤ 4611686018427387000 := by have := H4.out.next; have := HK.out; omega
      have hcp := live_comp H5.out (by omega) ti (by omega)
      by_cases hfull : J.half < cnt ti.size
      · rw [compOf_full hfull] at hcp
        go_wp2_with fail
        refine hcp.mono ?_
        rintro e W6 ⟨rfl, hl, -⟩
        have H6 := Aside0.mk hl
        have hsan := sanity_calls W6
        clear hcp hl H5
        go_wp2_with fail
        refine hsan.mono ?_
        rintro e W7 ⟨rfl, hb⟩
        have H7 := Aside0.mk (H6.out.more hb)
        have hbk := live_bank H7.out
        rw [H4.out.bank, show ((0 : Nat) : Int) = 0 from rfl] at hbk
        clear hsan hb H6
        go_wp2_with fail
        refine hbk.mono ?_
        rintro e W8 ⟨rfl, hw⟩
        obtain rfl := hw
        go_wp2
        go_ret
        exact ⟨rfl, HBW.out.trans (H7.out.below.mono HBW.out.size)⟩
      · obtain ⟨J2, D2, hA, hi2, hw2, hh2, hbk2, hn2, hl2, hu2, hsp2⟩ := comp_fine H5.out.inv (by omega) ti (by omega) (by
          have e1 : (1 - J.bank) * J.half = m / 2 := by rw [H4.out.bank, H4.out.half]; omega
          rw [e1, H4.out.half]
          exact H4.out.fine.sub (Nat.le_refl _) (by omega)) (by omega)
        have hun2 : Unworn D2 (m / 2) (2 * (m / 2)) := hw2.unworn (by have := H5.out.inv.lenD; have := H4.out.half; omega) H4.out.fine
        obtain ⟨nn, hnn⟩ : ∃ nn, J.next = nn := ⟨_, rfl⟩
        rw [hA, hnn] at hcp
        have HP := Aside0.mk (show RecTwo J2 D2 (m / 2) nn ti (cnt ti.size) from ⟨hi2, by rw [hh2, H4.out.half], by rw [hbk2, H4.out.bank], by rw [hn2, hnn], by rw [hl2, hnn], hu2, hsp2, hun2, by rw [← hnn]; exact H5.out.inv.next1, by omega, by have := H4.out.half; omega⟩)
        clear hA hi2 hw2 hh2 hbk2 hn2 hl2 hu2 hsp2 hun2 hnn hn hfull H4
        go_wp2_with fail
        refine hcp.mono ?_
        rintro e W6 ⟨rfl, hl, -⟩
        have H6 := Aside0.mk hl
        clear hcp hl H5
        have hro := live_room H6.out
        obtain ⟨left, hleft⟩ : ∃ left : Int, (J2.half : Int) - (J2.used : Int) = left := ⟨_, rfl⟩
        rw [hleft] at hro
        have HL := Aside0.mk hleft
        clear hleft
        go_wp2_with fail
        refine hro.mono ?_
        rintro e W7 ⟨rfl, hb⟩
        have H7 := Aside0.mk (H6.out.more hb)
        clear hro hb H6
        have i0 := (HXR.out.below H7.out.below)
        have y0 := i0.box.cell 0 rfl
        have y1 := i0.box.cell 1 rfl
        have y2 := i0.box.cell 2 rfl
        have y3 := i0.box.cell 3 rfl
        have y4 := i0.box.cell 4 rfl
        have htx := text_some xr
        have htc := text_calls xr Ar cr W7 HR2.out (Kd.C_below HXR.out.picks H7.out.below)
        obtain ⟨tr, hti⟩ : ∃ t, textC xr = t := ⟨_, rfl⟩
        rw [hti] at htc htx
        have hstr := htx.2
        clear htx hti i0
        go_wp2_with fail
        refine htc.mono ?_
        rintro e W8 ⟨rfl, hb⟩
        have H8 := Aside0.mk (H7.out.more hb)
        clear hb htc y0 y1 y2 y3 y4
        have hap := live_app H8.out (by have := HP.out.next; have := HP.out.lim; omega) tr (by omega)
        by_cases hfit : J2.used + cnt tr.size ≤ J2.half
        · obtain ⟨J3, D3, hA, hi3, hw3, hh3, hbk3, hn3, hl3, hu3, hsp3⟩ := app_fine HP.out.inv (by have := HP.out.next; have := HP.out.lim; omega) tr (by omega) HP.out.sp HP.out.own hfit
          obtain ⟨n2, hn2⟩ : ∃ n2, J2.next = n2 := ⟨_, rfl⟩
          have hn2p : decide (0 < n2) = true := decide_eq_true (by have := HP.out.next; have := HP.out.pos; omega)
          have hlp : decide (0 < left) = true := decide_eq_true (by have := HL.out; have := cnt_pos tr.size; omega)
          rw [hA, hn2] at hap
          have H3 := Aside0.mk (And.intro hi3 (And.intro hw3 (And.intro hh3 (And.intro hbk3 (And.intro hn3 (And.intro hl3 (And.intro hu3 hsp3)))))))
          clear hA hi3 hw3 hh3 hbk3 hn3 hl3 hu3 hsp3 hn2
          go_wp2_with fail
          refine hap.mono ?_
          rintro e W9 ⟨rfl, hl, -⟩
          have H9 := Aside0.mk hl
          clear hap hl H8
          have hap := live_app H9.out (by have := H3.out.2.2.2.2.1; have := HP.out.next; have := HP.out.lim; omega) ⟨#[]⟩ (by decide)
          by_cases hfit2 : J3.used + 1 ≤ J3.half
          · obtain ⟨J4, D4, hA, hi4, hw4, hh4, hbk4, hn4, hl4, hu4, hsp4⟩ := app_fine H3.out.1 (by have := H3.out.2.2.2.2.1; have := HP.out.next; have := HP.out.lim; omega) ⟨#[]⟩ (by decide) H3.out.2.2.2.2.2.2.2 (by
              obtain ⟨hi3, hw3, hh3, hbk3, -⟩ := H3.out
              have := HP.out.own
              rw [hh3, hbk3]
              exact hw3.unworn (by have := HP.out.inv.lenD; rcases banks (half := J2.half) HP.out.inv.bank with ⟨a, -⟩ | ⟨a, -⟩ <;> omega) this) hfit2
            obtain ⟨n3, hn3⟩ : ∃ n3, J3.next = n3 := ⟨_, rfl⟩
            rw [hA, hn3] at hap
            have hrl : J4.l = [(nn, ti), (J2.next, tr), (J3.next, ⟨#[]⟩)] := by rw [hl4, H3.out.2.2.2.2.2.1, HP.out.l]; rfl
            have HRL := Aside0.mk hrl
            have HP := Aside0.mk (show RecEnd J4 from ⟨by rw [hbk4, H3.out.2.2.2.1, HP.out.bank]⟩)
            clear hA hi4 hw4 hh4 hbk4 hn4 hl4 hu4 hsp4 hn3 hrl
            go_wp2_with fail
            refine hap.mono ?_
            rintro e WZ ⟨rfl, hl, -⟩
            have HZ := Aside0.mk hl
            clear hap hl H9
            have hsan := sanity_calls WZ
            go_wp2_with fail
            refine hsan.mono ?_
            rintro e WY ⟨rfl, hb⟩
            have HY := Aside0.mk (HZ.out.more hb)
            clear hsan hb
            have hbk := live_bank HY.out
            rw [HP.out.bk, show ((1 : Nat) : Int) = 1 from rfl] at hbk
            go_wp2_with fail
            refine hbk.mono ?_
            rintro e WX ⟨rfl, hw⟩
            obtain rfl := hw
            clear hbk
            have hrec := live_recs HY.out
            rw [HRL.out] at hrec
            go_wp2_with fail
            refine hrec.mono ?_
            rintro e WV ⟨AV, cV, rfl, -, -, hb⟩
            have HV := Aside0.mk (HY.out.more hb)
            clear hrec hb
            go_wp2
            go_ret
            exact ⟨rfl, HBW.out.trans (HV.out.below.mono HBW.out.size)⟩
          · rw [appOf_full H3.out.2.2.2.2.2.2.2 (by show J3.half < J3.used + 1; omega)] at hap
            have hrl : J3.l = [(nn, ti), (J2.next, tr)] := by rw [H3.out.2.2.2.2.2.1, HP.out.l]; rfl
            have HRL := Aside0.mk hrl
            have HP := Aside0.mk (show RecEnd J3 from ⟨by rw [H3.out.2.2.2.1, HP.out.bank]⟩)
            clear hrl
            go_wp2_with fail
            refine hap.mono ?_
            rintro e WZ ⟨rfl, hl, -⟩
            have HZ := Aside0.mk hl
            clear hap hl H9
            have hsan := sanity_calls WZ
            go_wp2_with fail
            refine hsan.mono ?_
            rintro e WY ⟨rfl, hb⟩
            have HY := Aside0.mk (HZ.out.more hb)
            clear hsan hb
            have hbk := live_bank HY.out
            rw [HP.out.bk, show ((1 : Nat) : Int) = 1 from rfl] at hbk
            go_wp2_with fail
            refine hbk.mono ?_
            rintro e WX ⟨rfl, hw⟩
            obtain rfl := hw
            clear hbk
            have hrec := live_recs HY.out
            rw [HRL.out] at hrec
            go_wp2_with fail
            refine hrec.mono ?_
            rintro e WV ⟨AV, cV, rfl, -, -, hb⟩
            have HV := Aside0.mk (HY.out.more hb)
            clear hrec hb
            go_wp2
            go_ret
            exact ⟨rfl, HBW.out.trans (HV.out.below.mono HBW.out.size)⟩
        · rw [appOf_full HP.out.sp (by omega)] at hap
          go_wp2_with fail
          refine hap.mono ?_
          rintro e W9 ⟨rfl, hl, -⟩
          have H9 := Aside0.mk hl
          clear hap hl H8
          have hap := live_app H9.out (by have := HP.out.next; have := HP.out.lim; omega) ⟨#[]⟩ (by decide)
          by_cases hfit2 : J2.used + 1 ≤ J2.half
          · obtain ⟨J4, D4, hA, hi4, hw4, hh4, hbk4, hn4, hl4, hu4, hsp4⟩ := app_fine HP.out.inv (by have := HP.out.next; have := HP.out.lim; omega) ⟨#[]⟩ (by decide) HP.out.sp HP.out.own hfit2
            obtain ⟨n3, hn3⟩ : ∃ n3, J2.next = n3 := ⟨_, rfl⟩
            have hlp : decide (0 < left) = true := decide_eq_true (by have := HL.out; omega)
            rw [hA, hn3] at hap
            have HP := Aside0.mk (show RecEnd J4 from ⟨by rw [hbk4, HP.out.bank]⟩)
            clear hA hi4 hw4 hh4 hbk4 hn4 hl4 hu4 hsp4 hn3
            go_wp2_with fail
            refine hap.mono ?_
            rintro e WZ ⟨rfl, hl, -⟩
            have HZ := Aside0.mk hl
            clear hap hl H9
            have hsan := sanity_calls WZ
            go_wp2_with fail
            refine hsan.mono ?_
            rintro e WY ⟨rfl, hb⟩
            have HY := Aside0.mk (HZ.out.more hb)
            clear hsan hb
            have hbk := live_bank HY.out
            rw [HP.out.bk, show ((1 : Nat) : Int) = 1 from rfl] at hbk
            go_wp2_with fail
            refine hbk.mono ?_
            rintro e WX ⟨rfl, hw⟩
            obtain rfl := hw
            clear hbk
            go_wp2
            go_ret
            exact ⟨rfl, HBW.out.trans (HY.out.below.mono HBW.out.size)⟩
          · rw [appOf_full HP.out.sp (by show J2.half < J2.used + 1; omega)] at hap
            have hlp : decide (0 < left) = false := decide_eq_false (by have := HL.out; omega)
            have HP := Aside0.mk (show RecEnd J2 from ⟨HP.out.bank⟩)
            go_wp2_with fail
            refine hap.mono ?_
            rintro e WZ ⟨rfl, hl, -⟩
            have HZ := Aside0.mk hl
            clear hap hl H9
            have hsan := sanity_calls WZ
            go_wp2_with fail
            refine hsan.mono ?_
            rintro e WY ⟨rfl, hb⟩
            have HY := Aside0.mk (HZ.out.more hb)
            clear hsan hb
            have hbk := live_bank HY.out
            rw [HP.out.bk, show ((1 : Nat) : Int) = 1 from rfl] at hbk
            go_wp2_with fail
            refine hbk.mono ?_
            rintro e WX ⟨rfl, hw⟩
            obtain rfl := hw
            clear hbk
            go_wp2
            go_ret
            exact ⟨rfl, HBW.out.trans (HY.out.below.mono HBW.out.size)⟩
end Go.Proofs.YtcdgbdojopfkgaaDoor.P
