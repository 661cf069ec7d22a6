/- journal.Append and Compact, walked. -/
import Derived.ArgAppend
import Derived.Test.YtcdgbdojopfkgaaDoorJourPut
namespace Go.Proofs.YtcdgbdojopfkgaaDoor.P
open Go.RowKit Go.Proofs.YtcdgbdojopfkgaaDoorW.PrintWords Go.Proofs.YtcdgbdojopfkgaaDoorW.PrintMore
attribute [local go_sem] max2_int min2_int max_two min_two

theorem own_olds {w : World} {base n size : Nat} {e : TypeId} {v : Value} {xs : List Value} (h : w.ownsRow base e size v n xs) :
    ∃ A cap, v = .slice A n cap ∧ n ≤ cap ∧ cap ≤ maxLen ∧ (A = none → n = 0 ∧ cap = 0) ∧ ∀ b, A = some b → ∀ j u, xs[j]? = some u → w.cell? (b.add j) = some u := by
  obtain ⟨hl, ⟨rfl, rfl⟩ | ⟨g, cap, cur, rfl, hb, hg, h1, h2, h3, h4⟩⟩ := h
  · exact ⟨none, 0, rfl, Nat.le_refl _, Nat.zero_le _, fun _ => ⟨rfl, rfl⟩, fun b hb => absurd hb (by simp)⟩
  · refine ⟨some ⟨g, 0, none⟩, cap, rfl, h1, h2, fun hb => absurd hb (by simp), fun b hb j u hu => ?_⟩
    cases hb
    rw [add_plain, blk_cell hg]
    rw [← h4, List.getElem?_take] at hu
    split at hu
    · simpa using hu
    · cases hu
theorem row_form {w : World} {base n size : Nat} {e : TypeId} {v : Value} {xs : List Value} (h : w.ownsRow base e size v n xs) (hn : 0 < n) : ∃ g cap, v = .slice (some ⟨g, 0, none⟩) n cap := by
  obtain ⟨hl, ⟨rfl, rfl⟩ | ⟨g, cap, cur, rfl, -⟩⟩ := h
  · omega
  · exact ⟨g, cap, rfl⟩
theorem row_le {w : World} {base base' n size : Nat} {e : TypeId} {v : Value} {xs : List Value} (h : w.ownsRow base e size v n xs) (hb : base' ≤ base) : w.ownsRow base' e size v n xs := by
  obtain ⟨hl, h | ⟨g, cap, cur, h1, h2, h3⟩⟩ := h
  · exact ⟨hl, .inl h⟩
  · exact ⟨hl, .inr ⟨g, cap, cur, h1, Nat.le_trans hb h2, h3⟩⟩
set_option maxRecDepth 100000 in
theorem clip_calls (A : Option Addr) (n cap : Nat) (h1 : n ≤ cap) (h2 : cap ≤ maxLen) (h0 : A = none → n = 0 ∧ cap = 0) (w : World) :
    Calls Tryd.prog 26 #[.slice A n cap] w fun e w' => e = .returned (.slice A n n) ∧ w' = w := by
  unfold maxLen at h2
  have i1 : (0 : Int) ≤ (n : Int) := by omega
  have i2 : (n : Int) ≤ (cap : Int) := by omega
  cases A with
  | none =>
    obtain ⟨rfl, rfl⟩ := h0 rfl
    go_enter Tryd.func26, Tryd.ntmps26
    go_wp2
    go_ret
    exact ⟨rfl, rfl⟩
  | some ad =>
    clear h0
    go_enter Tryd.func26, Tryd.ntmps26
    go_wp2
    go_ret
    exact ⟨rfl, rfl⟩
theorem count_calls (n : Nat) (h : n ≤ 8000) (w : World) : Calls Tryd.prog 24 #[.int .i64 n] w fun e w' => e = .returned (.int .i64 (cnt n)) ∧ Below w.heap.size w w' := by
  refine (sector_Count.calls _ _ _ (count_eq n h)).mono ?_
  rintro e w' ⟨rfl, hb⟩
  exact ⟨rfl, hb⟩
/-- What Append comes to (where the journal is not closed and no limit is met). -/
def appOf (J : Jour) (D : Dev) (rec : ByteArray) : Jour × Dev × Int × Int :=
  if J.spoiled then (J, D, 0, 23) else if J.half < J.used + cnt rec.size then (J, D, 0, 15) else
  let P := putDev D (J.bank * J.half + J.used) (packOf J.next rec)
  if P.2.1 = 0 then ({ J with next := J.next + 1, closed := J.closed || P.2.2, l := J.l ++ [(J.next, rec)], used := J.used + cnt rec.size }, P.1, J.next, 0)
  else ({ J with next := J.next + 1, closed := J.closed || P.2.2, spoiled := P.2.1 == 23 }, P.1, 0, P.2.1)
theorem appOf_eq {J : Jour} {D : Dev} {rec : ByteArray} {D1 : Dev} {r1 : Int} {cl1 : Bool} (hsp : J.spoiled = false) (hf : ¬ J.half < J.used + cnt rec.size) (hP : putDev D (J.bank * J.half + J.used) (packOf J.next rec) = (D1, r1, cl1)) :
    appOf J D rec = if r1 = 0 then ({ J with next := J.next + 1, closed := J.closed || cl1, l := J.l ++ [(J.next, rec)], used := J.used + cnt rec.size }, D1, J.next, 0)
      else ({ J with next := J.next + 1, closed := J.closed || cl1, spoiled := r1 == 23 }, D1, 0, r1) := by
  unfold appOf
  rw [if_neg (by rw [hsp]; simp), if_neg hf, hP]
def AppEnds (bj bd bm bs c : Nat) (R : Jour × Dev × Int × Int) (w : World) (e : Ending) (w' : World) : Prop :=
  e = .returned (.tuple #[.int .i64 R.2.2.1, .int .i64 R.2.2.2]) ∧ (∃ lv, JourRep w' bj bd bm bs c lv R.1 R.2.1) ∧ Mod (InJour bj bd bs) w w'
theorem infoEnt : (Tryd.prog.info? 62).map (fun i => (i.zero, i.size, i.bytes)) = some (some (.agg #[.int .i64 0, .string ⟨#[]⟩]), 2, 24) := by kernel_rfl
/-- What is asked of a journal that is called. -/
structure JourFit (J : Jour) : Prop where
  bank : J.bank ≤ 1
  half : J.half ≤ 2048
  used : J.used ≤ J.half
  next1 : 1 ≤ J.next
  next2 : J.next ≤ 4611686018427387904
  len : J.l.length ≤ 100000
set_option maxRecDepth 100000 in
set_option maxHeartbeats 8000000 in
theorem app_calls {bj bd bm bs c : Nat} {lv : Value} {J : Jour} {D : Dev} {w : World} (h : JourRep w bj bd bm bs c lv J D) (rec : ByteArray) (hJ : JourFit J) (hc : J.closed = false) (ht : rec.size ≤ 8000) (hok : SecsOk D.secs) :
    Calls Tryd.prog 11 #[.pointer (some ⟨bj, 0, none⟩), .string rec] w (AppEnds bj bd bm bs c (appOf J D rec) w) := by
  obtain ⟨hb1, hh1, hu1, hn1, hn2, hl1⟩ := hJ
  have hcount := count_calls rec.size ht w
  have hcl := cnt_le ht
  have e1 : (rec.size : Int) ≤ 8000 := by omega
  have d1 : decide ((8000 : Int) < (rec.size : Int)) = false := decide_eq_false (by omega)
  have d2 : decide (4611686018427387904 < J.next) = false := decide_eq_false (by omega)
  have d3 : decide (8000 < rec.size) = false := decide_eq_false (by omega)
  have H := Aside0.mk h
  clear h
  obtain ⟨R, hR⟩ : ∃ R, appOf J D rec = R := ⟨_, rfl⟩
  rw [hR]
  have HR := Aside0.mk hR
  clear hR
  obtain ⟨cn, hcn⟩ : ∃ cn, cnt rec.size = cn := ⟨_, rfl⟩
  have HCN := Aside0.mk hcn
  rw [hcn] at hcount hcl
  clear hcn
  go_enter Tryd.func11, Tryd.ntmps11
  go_wp2_with fail
  refine hcount.mono ?_
  rintro e w1 ⟨rfl, hb⟩
  have hj := H.out.below hb
  have HM := Aside0.mk (Mod.of_below (S := InJour bj bd bs) hb)
  have HJ := Aside0.mk hj
  clear hj hb hcount H
  have k7 := HJ.out.jour.cell 7 rfl
  have k4 := HJ.out.jour.cell 4 rfl
  have k6 := HJ.out.jour.cell 6 rfl
  rw [hc] at k7
  cases hsp : J.spoiled with
  | true =>
    rw [hsp] at k6
    have hr : R = (J, D, 0, 23) := by rw [← HR.out]; unfold appOf; rw [if_pos hsp]
    have HRR := Aside0.mk hr
    clear hr
    go_wp2
    go_ret2
    rw [HRR.out]
    exact ⟨rfl, ⟨_, HJ.out⟩, HM.out⟩
  | false =>
    rw [hsp] at k6
    have hroom := jour_room HJ.out (by omega) hu1
    go_wp2_with fail
    refine hroom.mono ?_
    rintro e w2 ⟨rfl, hb⟩
    have hj2 := HJ.out.below hb
    have HM2 := Aside0.mk (HM.out.below_ hb)
    have HJ2 := Aside0.mk hj2
    clear hj2 hb hroom HM HJ k7 k4 k6
    by_cases hfull : J.half < J.used + cn
    · have d4 : decide ((J.half : Int) - (J.used : Int) < (cn : Int)) = true := decide_eq_true (by omega)
      have hr : R = (J, D, 0, 15) := by rw [← HR.out]; unfold appOf; rw [if_neg (by rw [hsp]; simp), if_pos (by rw [HCN.out]; exact hfull)]
      have HRR := Aside0.mk hr
      clear hr
      go_wp2
      go_ret2
      rw [HRR.out]
      exact ⟨rfl, ⟨_, HJ2.out⟩, HM2.out⟩
    · have d4 : decide ((J.half : Int) - (J.used : Int) < (cn : Int)) = false := decide_eq_false (by omega)
      have k1 := HJ2.out.jour.cell 1 rfl
      have k2 := HJ2.out.jour.cell 2 rfl
      have k3 := HJ2.out.jour.cell 3 rfl
      have hbk : J.bank * J.half ≤ 2048 := Nat.le_trans (Nat.mul_le_mul hb1 hh1) (by omega)
      have hw1 : IntKind.i64.wrap ((J.bank : Int) * (J.half : Int)) = ((J.bank * J.half : Nat) : Int) := by rw [IntKind.wrap_i64, ← Int.natCast_mul]; omega
      have hw2 : IntKind.i64.wrap (((J.bank * J.half : Nat) : Int) + (J.used : Int)) = ((J.bank * J.half + J.used : Nat) : Int) := by rw [IntKind.wrap_i64]; omega
      have hput := put_calls HJ2.out.drew_ (J.bank * J.half + J.used) rec hn1 hn2 ht (by omega) hok
      obtain ⟨P, hP⟩ : ∃ P, putDev D (J.bank * J.half + J.used) (packOf J.next rec) = P := ⟨_, rfl⟩
      have HP := Aside0.mk hP
      rw [hP] at hput
      clear hP
      obtain ⟨D1, r1, cl1⟩ := P
      obtain ⟨n1, hn1'⟩ : ∃ n1 : Int, (if r1 = 0 then J.next else 0) = n1 := ⟨_, rfl⟩
      obtain ⟨PS, hPS⟩ : ∃ PS : World → Prop, PS = fun w' => JourRep w' bj bd bm bs c lv { J with next := J.next + 1, closed := J.closed || cl1 } D1 ∧ Mod (InJour bj bd bs) w2.drew w' := ⟨_, rfl⟩
      obtain ⟨at_, hat_⟩ : ∃ at_ : Int, ((J.bank * J.half + J.used : Nat) : Int) = at_ := ⟨_, rfl⟩
      obtain ⟨bi, hbi⟩ : ∃ bi : Int, (J.bank : Int) = bi := ⟨_, rfl⟩
      obtain ⟨hi, hhi⟩ : ∃ hi : Int, (J.half : Int) = hi := ⟨_, rfl⟩
      obtain ⟨ui, hui⟩ : ∃ ui : Int, (J.used : Int) = ui := ⟨_, rfl⟩
      have hput2 : Calls Tryd.prog 25 #[.pointer (some ⟨bj, 0, none⟩), .int .i64 at_, .string rec] w2.drew fun e w' =>
          e = .returned (.tuple #[.int .i64 n1, .int .i64 r1]) ∧ PS w' ∧ w'.cell? ⟨bj, 1, none⟩ = some (.int .i64 hi) ∧ w'.cell? ⟨bj, 2, none⟩ = some (.int .i64 bi) ∧ w'.cell? ⟨bj, 3, none⟩ = some (.int .i64 ui) := by
        rw [← hat_]
        refine hput.mono ?_
        rintro e w' ⟨he, hj3, hm3⟩
        refine ⟨by rw [he]; show Ending.returned (.tuple #[.int .i64 (if r1 = 0 then J.next else 0), .int .i64 r1]) = _; rw [hn1'], by rw [hPS]; exact ⟨hj3, hm3⟩, ?_, ?_, ?_⟩
        · rw [← hhi]; exact hj3.jour.cell 1 rfl
        · rw [← hbi]; exact hj3.jour.cell 2 rfl
        · rw [← hui]; exact hj3.jour.cell 3 rfl
      have hw3 : IntKind.i64.wrap (bi * hi) = at_ - ui := by rw [← hbi, ← hhi, hw1, ← hat_, ← hui]; omega
      have hw4 : IntKind.i64.wrap (at_ - ui + ui) = at_ := by rw [← hat_, ← hui]; rw [show ((J.bank * J.half + J.used : Nat) : Int) - (J.used : Int) = ((J.bank * J.half : Nat) : Int) by omega]; exact hw2
      rw [hhi] at k1
      rw [hbi] at k2
      rw [hui] at k3
      obtain ⟨s1, hs1⟩ : ∃ s1 : Int, at_ - ui = s1 := ⟨_, rfl⟩
      rw [hs1] at hw3 hw4
      have HA1 := Aside0.mk (And.intro hn1' (And.intro hPS (And.intro hat_ (And.intro hbi (And.intro hhi (And.intro hui hs1))))))
      have HA2 := Aside0.mk (And.intro hbk (And.intro hok (And.intro hcl (And.intro hfull (And.intro hb1 (And.intro hh1 (And.intro hu1 (And.intro hn1 (And.intro hn2 (And.intro hl1 (And.intro ht (And.intro hsp hc))))))))))))
      clear hn1' hPS hat_ hbi hhi hui hs1 hbk hok hcl hfull hb1 hh1 hu1 hn1 hn2 hl1 ht hsp hc hw1 hw2 hput e1 d1 d2 d3
      go_wp2
      have hB0 : w2.drew.cell? ⟨bj, 1, none⟩ = some (.int .i64 hi) ∧ w2.drew.cell? ⟨bj, 2, none⟩ = some (.int .i64 bi) ∧ w2.drew.cell? ⟨bj, 3, none⟩ = some (.int .i64 ui) := ⟨k1, k2, k3⟩
      go_region_held3 (fun W' => W'.cell? ⟨bj, 1, none⟩ = some (.int .i64 hi) ∧ W'.cell? ⟨bj, 2, none⟩ = some (.int .i64 bi) ∧ W'.cell? ⟨bj, 3, none⟩ = some (.int .i64 ui)) (go_keep) (first | (go_at_call 25; refine hput2.mono ?_; rintro e w3 ⟨rfl, hps, q1, q2, q3⟩))
      clear hB0 k1 k2 k3 q1 q2 q3 hput2 hw3 hw4 d4
      obtain ⟨-, hPS, -⟩ := HA1.out
      rw [hPS] at hps
      obtain ⟨hj3, hm3⟩ := hps
      have HM3 := Aside0.mk (HM2.out.drew.trans hm3)
      have HJ3 := Aside0.mk hj3
      clear hPS hj3 hm3
      by_cases hr : r1 = 0
      · obtain ⟨A, cap, hlv, g1, g2, g0, gold⟩ := own_olds HJ3.out.own
        have k5 := HJ3.out.jour.cell 5 rfl
        have f5 := HJ3.out.jour.frozen 5
        have hr4 : (r1 == 0) = true := beq_iff_eq.mpr hr
        have hr5 : (r1 != 0) = false := by rw [bne, hr4]; rfl
        rw [hlv] at k5
        have HG := Aside0.mk gold
        have HLV := Aside0.mk hlv
        have HRR := Aside0.mk hr
        clear gold hlv hr
        obtain ⟨i0, hi, hz0, hz1, hz2⟩ := info_parts infoEnt
        have hclip := clip_calls A J.l.length cap g1 g2 g0 w3
        go_wp2_with fail
        refine hclip.mono ?_
        rintro e w4 ⟨rfl, hw⟩
        obtain rfl := hw
        clear hclip
        have hlen : J.l.length ≤ 100000 := HA2.out.2.2.2.2.2.2.2.2.2.1
        go_wp2_with (at_builtin; refine wpList_append_grows _ rfl (.tmp 77) (.tmp 81) 55 rfl 62 i0 (.agg #[.int .i64 0, .string ⟨#[]⟩]) 2 24 Tryd.underlying55 hi hz0 hz1 hz2 rfl (by decide) A J.l.length J.l.length (entCells J.l) rfl (fun e => ⟨(g0 e).1, (g0 e).1⟩) (entCells_length _) ?holds ⟨w4.heap.size, 0, none⟩ 1 1 [.int .i64 n1, .string rec] rfl rfl ?c1 ?c2 (by omega) (by unfold maxLen; omega) (by omega) ?grow)
        case holds =>
          intro b hb j u hu
          have hc := HG.out b hb j u hu
          exact ((below_alloc (Below.refl w4.heap.size w4) _).cell (World.block_lt_of_cell? w4 _ hc)).trans hc
        case c1 => intro j u hj; match j, hj with | 0, hj => simp at hj; subst hj; simp [Addr.add] | 1, hj => simp at hj; subst hj; simp [Addr.add]
        case c2 => intro u hu; simp at hu; rcases hu with rfl | rfl <;> rfl
        case grow =>
          intro v' w5 hown hgrow
          have hbel : Below w4.heap.size w4 w5 := (below_alloc (Below.refl _ _) _).grown hgrow (by simp) (fun k h => by cases h)
          obtain ⟨g, cp, rfl⟩ := row_form hown (by omega)
          have hj5 := HJ3.out.below hbel
          have k5' := hj5.jour.cell 5 rfl
          have f5' := hj5.jour.frozen 5
          have k3 := hj5.jour.cell 3 rfl
          have f3 := hj5.jour.frozen 3
          have hw5 : IntKind.i64.wrap ((J.used : Int) + (cn : Int)) = (J.used : Int) + (cn : Int) := by have := HA2.out.2.2.1; have := HA2.out.2.2.2.2.2.1; have := HA2.out.2.2.2.2.2.2.1; rw [IntKind.wrap_i64]; omega
          have HJ5 := Aside0.mk hj5
          have HOWN := Aside0.mk hown
          have HM5 := Aside0.mk (HM3.out.below_ hbel)
          clear hj5 hown hbel k5 f5 hi hz0 hz1 hz2 g1 g2 g0 hlen
          have HK := Aside0.mk f3
          go_wp2
          go_ret2
          have hE := appOf_eq HA2.out.2.2.2.2.2.2.2.2.2.2.2.1 (by rw [HCN.out]; exact HA2.out.2.2.2.1) HP.out
          rw [if_pos HRR.out, HR.out, HCN.out] at hE
          rw [hE]
          have hj := HJ5.out
          have hm : Mod (fun k => k = bj) w5 ((w5.setCell ⟨bj, 5, none⟩ (.slice (some ⟨g, 0, none⟩) (J.l.length + 1) cp)).setCell ⟨bj, 3, none⟩ (.int .i64 ((J.used : Int) + (cn : Int)))) := ((Mod.refl (fun k => k = bj) _).at_ rfl _ _).at_ rfl _ _
          have hlt := HJ3.out.jour.lt
          have q1 := hj.ld
          have q2 := hj.lm
          have q3 := hj.ls
          have hb := (hj.jour.set 5 (.slice (some ⟨g, 0, none⟩) (J.l.length + 1) cp)).set 3 (.int .i64 ((J.used : Int) + (cn : Int)))
          refine ⟨?_, ⟨.slice (some ⟨g, 0, none⟩) (J.l.length + 1) cp, ?_, ?_, hj.dev.mod hm (by omega) (by omega) (by omega), q1, q2, q3⟩, ?_⟩
          · show Ending.returned (.tuple #[.int .i64 n1, .int .i64 0]) = _
            rw [← HA1.out.1, if_pos HRR.out]
          · simpa [Jour.cells] using hb
          · have h1 := own_mod (base := bj + 1) (row_le HOWN.out (show bj + 1 ≤ w4.heap.size + 1 by omega)) hm (fun k hk => by omega)
            show World.ownsRow _ _ _ _ _ (J.l ++ [(J.next, rec)]).length (entCells (J.l ++ [(J.next, rec)]))
            rw [List.length_append, entCells_append]
            have hn : n1 = J.next := by rw [← HA1.out.1, if_pos HRR.out]
            rw [hn] at h1
            exact h1
          · exact (HM5.out.at_ (.inl rfl) _ _).at_ (.inl rfl) _ _
      · have k6 := HJ3.out.jour.cell 6 rfl
        have f6 := HJ3.out.jour.frozen 6
        have hr4 : (r1 == 0) = false := beq_eq_false_iff_ne.mpr hr
        have hr5 : (r1 != 0) = true := bne_iff_ne.mpr hr
        have hsp : J.spoiled = false := HA2.out.2.2.2.2.2.2.2.2.2.2.2.1
        obtain ⟨sp, hsp2⟩ : ∃ sp : Bool, (r1 == 23) = sp := ⟨_, rfl⟩
        rw [show ({ J with next := J.next + 1, closed := J.closed || cl1 } : Jour).spoiled = false from hsp] at k6
        have HRR := Aside0.mk hr
        have HSP := Aside0.mk hsp
        clear hr hsp
        go_wp2
        go_ret2
        have hE := appOf_eq HSP.out (by rw [HCN.out]; exact HA2.out.2.2.2.1) HP.out
        rw [if_neg HRR.out, HR.out] at hE
        rw [hE, hsp2]
        have hb := HJ3.out.setCell (J' := { J with next := J.next + 1, closed := J.closed || cl1, spoiled := sp }) 6 (.bool sp) (by simp [Jour.cells]) rfl
        exact ⟨rfl, ⟨lv, hb⟩, HM3.out.at_ (.inl rfl) _ _⟩
end Go.Proofs.YtcdgbdojopfkgaaDoor.P

/- journal.Compact, walked. -/
namespace Go.Proofs.YtcdgbdojopfkgaaDoor.P
open Go.RowKit Go.Proofs.YtcdgbdojopfkgaaDoorW.PrintWords Go.Proofs.YtcdgbdojopfkgaaDoorW.PrintMore
attribute [local go_sem] max2_int min2_int max_two min_two

/-- What Compact comes to (where the journal is not closed and no limit is met). -/
def compOf (J : Jour) (D : Dev) (img : ByteArray) : Jour × Dev × Int × Int :=
  if J.half < cnt img.size then (J, D, 0, 15) else
  let P := putDev D ((1 - J.bank) * J.half) (packOf J.next img)
  if P.2.1 = 0 then ({ J with next := J.next + 1, closed := J.closed || P.2.2, bank := 1 - J.bank, used := cnt img.size, l := [(J.next, img)], spoiled := false }, P.1, J.next, 0)
  else ({ J with next := J.next + 1, closed := J.closed || P.2.2 }, P.1, 0, P.2.1)
theorem compOf_eq {J : Jour} {D : Dev} {img : ByteArray} {D1 : Dev} {r1 : Int} {cl1 : Bool} (hf : ¬ J.half < cnt img.size) (hP : putDev D ((1 - J.bank) * J.half) (packOf J.next img) = (D1, r1, cl1)) :
    compOf J D img = if r1 = 0 then ({ J with next := J.next + 1, closed := J.closed || cl1, bank := 1 - J.bank, used := cnt img.size, l := [(J.next, img)], spoiled := false }, D1, J.next, 0)
      else ({ J with next := J.next + 1, closed := J.closed || cl1 }, D1, 0, r1) := by
  unfold compOf
  rw [if_neg hf, hP]
set_option maxRecDepth 100000 in
set_option maxHeartbeats 8000000 in
theorem comp_calls {bj bd bm bs c : Nat} {lv : Value} {J : Jour} {D : Dev} {w : World} (h : JourRep w bj bd bm bs c lv J D) (rec : ByteArray) (hJ : JourFit J) (hc : J.closed = false) (ht : rec.size ≤ 8000) (hok : SecsOk D.secs) :
    Calls Tryd.prog 12 #[.pointer (some ⟨bj, 0, none⟩), .string rec] w (AppEnds bj bd bm bs c (compOf J D rec) w) := by
  obtain ⟨hb1, hh1, hu1, hn1, hn2, hl1⟩ := hJ
  have hcount := count_calls rec.size ht w
  have hcl := cnt_le ht
  have e1 : (rec.size : Int) ≤ 8000 := by omega
  have d1 : decide ((8000 : Int) < (rec.size : Int)) = false := decide_eq_false (by omega)
  have d2 : decide (4611686018427387904 < J.next) = false := decide_eq_false (by omega)
  have d3 : decide (8000 < rec.size) = false := decide_eq_false (by omega)
  have H := Aside0.mk h
  clear h
  obtain ⟨R, hR⟩ : ∃ R, compOf J D rec = R := ⟨_, rfl⟩
  rw [hR]
  have HR := Aside0.mk hR
  clear hR
  obtain ⟨cn, hcn⟩ : ∃ cn, cnt rec.size = cn := ⟨_, rfl⟩
  have HCN := Aside0.mk hcn
  rw [hcn] at hcount hcl
  clear hcn
  go_enter Tryd.func12, Tryd.ntmps12
  go_wp2_with fail
  refine hcount.mono ?_
  rintro e w2 ⟨rfl, hb⟩
  have hj := H.out.below hb
  have HM2 := Aside0.mk (Mod.of_below (S := InJour bj bd bs) hb)
  have HJ2 := Aside0.mk hj
  clear hj hb hcount H
  have k7 := HJ2.out.jour.cell 7 rfl
  have k4 := HJ2.out.jour.cell 4 rfl
  have k1 := HJ2.out.jour.cell 1 rfl
  rw [hc] at k7
  by_cases hfull : J.half < cn
  · have d4 : decide ((J.half : Int) < (cn : Int)) = true := decide_eq_true (by omega)
    have d5 : decide (J.half < cn) = true := decide_eq_true hfull
    have hr : R = (J, D, 0, 15) := by rw [← HR.out]; unfold compOf; rw [if_pos (by rw [HCN.out]; exact hfull)]
    have HRR := Aside0.mk hr
    clear hr
    go_wp2
    go_ret2
    rw [HRR.out]
    exact ⟨rfl, ⟨_, HJ2.out⟩, HM2.out⟩
  · have d4 : decide ((J.half : Int) < (cn : Int)) = false := decide_eq_false (by omega)
    have d5 : decide (J.half < cn) = false := decide_eq_false hfull
    have k2 := HJ2.out.jour.cell 2 rfl
    have hbk : (1 - J.bank) * J.half ≤ 2048 := Nat.le_trans (Nat.mul_le_mul (show 1 - J.bank ≤ 1 by omega) hh1) (by omega)
    have hw0 : IntKind.i64.wrap (1 - (J.bank : Int)) = ((1 - J.bank : Nat) : Int) := by rw [IntKind.wrap_i64]; omega
    have hw1 : IntKind.i64.wrap (((1 - J.bank : Nat) : Int) * (J.half : Int)) = (((1 - J.bank) * J.half : Nat) : Int) := by rw [IntKind.wrap_i64, ← Int.natCast_mul]; omega
    have hput := put_calls HJ2.out.drew_ ((1 - J.bank) * J.half) rec hn1 hn2 ht (by omega) hok
    obtain ⟨P, hP⟩ : ∃ P, putDev D ((1 - J.bank) * J.half) (packOf J.next rec) = P := ⟨_, rfl⟩
    have HP := Aside0.mk hP
    rw [hP] at hput
    clear hP
    obtain ⟨D1, r1, cl1⟩ := P
    obtain ⟨n1, hn1'⟩ : ∃ n1 : Int, (if r1 = 0 then J.next else 0) = n1 := ⟨_, rfl⟩
    obtain ⟨PS, hPS⟩ : ∃ PS : World → Prop, PS = fun w' => JourRep w' bj bd bm bs c lv { J with next := J.next + 1, closed := J.closed || cl1 } D1 ∧ Mod (InJour bj bd bs) w2.drew w' := ⟨_, rfl⟩
    obtain ⟨at_, hat_⟩ : ∃ at_ : Int, (((1 - J.bank) * J.half : Nat) : Int) = at_ := ⟨_, rfl⟩
    obtain ⟨ob, hob⟩ : ∃ ob : Int, ((1 - J.bank : Nat) : Int) = ob := ⟨_, rfl⟩
    obtain ⟨bi, hbi⟩ : ∃ bi : Int, (J.bank : Int) = bi := ⟨_, rfl⟩
    obtain ⟨hi, hhi⟩ : ∃ hi : Int, (J.half : Int) = hi := ⟨_, rfl⟩
    have hput2 : Calls Tryd.prog 25 #[.pointer (some ⟨bj, 0, none⟩), .int .i64 at_, .string rec] w2.drew fun e w' =>
        e = .returned (.tuple #[.int .i64 n1, .int .i64 r1]) ∧ PS w' ∧ w'.cell? ⟨bj, 1, none⟩ = some (.int .i64 hi) ∧ w'.cell? ⟨bj, 2, none⟩ = some (.int .i64 bi) := by
      rw [← hat_]
      refine hput.mono ?_
      rintro e w' ⟨he, hj3, hm3⟩
      refine ⟨by rw [he]; show Ending.returned (.tuple #[.int .i64 (if r1 = 0 then J.next else 0), .int .i64 r1]) = _; rw [hn1'], by rw [hPS]; exact ⟨hj3, hm3⟩, ?_, ?_⟩
      · rw [← hhi]; exact hj3.jour.cell 1 rfl
      · rw [← hbi]; exact hj3.jour.cell 2 rfl
    rw [hbi, hob] at hw0
    rw [hob, hhi, hat_] at hw1
    rw [hhi] at k1
    rw [hbi] at k2
    rw [hhi] at d4
    have HA1 := Aside0.mk (And.intro hn1' (And.intro hPS (And.intro hat_ (And.intro hob (And.intro hbi hhi)))))
    have HA2 := Aside0.mk (And.intro hbk (And.intro hok (And.intro hcl (And.intro hfull (And.intro hb1 (And.intro hh1 (And.intro hu1 (And.intro hn1 (And.intro hn2 (And.intro hl1 (And.intro ht hc)))))))))))
    have HW0 := Aside0.mk hw0
    go_wp2
    clear hn1' hPS hat_ hob hbi hhi hbk hok hcl hfull hb1 hh1 hu1 hn1 hn2 hl1 ht hc hput e1 d1 d2 d3 d4 d5 k7 k4
    have hB0 : w2.drew.cell? ⟨bj, 1, none⟩ = some (.int .i64 hi) ∧ w2.drew.cell? ⟨bj, 2, none⟩ = some (.int .i64 bi) := ⟨k1, k2⟩
    go_region_held3 (fun W' => W'.cell? ⟨bj, 1, none⟩ = some (.int .i64 hi) ∧ W'.cell? ⟨bj, 2, none⟩ = some (.int .i64 bi)) (go_keep) (first | (go_at_call 25; refine hput2.mono ?_; rintro e w3 ⟨rfl, hps, q1, q2⟩))
    clear hB0 k1 k2 q1 q2 hput2 hw1
    obtain ⟨-, hPS, -⟩ := HA1.out
    rw [hPS] at hps
    obtain ⟨hj3, hm3⟩ := hps
    have HM3 := Aside0.mk (HM2.out.drew.trans hm3)
    have HJ3 := Aside0.mk hj3
    clear hPS hj3 hm3
    by_cases hr : r1 = 0
    · have hr4 : (r1 == 0) = true := beq_iff_eq.mpr hr
      have hr5 : (r1 != 0) = false := by rw [bne, hr4]; rfl
      have HRR := Aside0.mk hr
      clear hr
      have k2 := HJ3.out.jour.cell 2 rfl
      rw [show (({ J with next := J.next + 1, closed := J.closed || cl1 } : Jour).bank : Int) = bi from HA1.out.2.2.2.2.1] at k2
      have f2 := HJ3.out.jour.frozen 2
      have k3 := HJ3.out.jour.cell 3 rfl
      have k5 := HJ3.out.jour.cell 5 rfl
      have k6 := HJ3.out.jour.cell 6 rfl
      have f3 := HJ3.out.jour.frozen 3
      have f5 := HJ3.out.jour.frozen 5
      have f6 := HJ3.out.jour.frozen 6
      have hne := World.new_ne w3 ⟨bj, 2, none⟩ k2
      have hlt := HJ3.out.jour.lt
      go_wp2
      go_ret2
      have hE := compOf_eq (by rw [HCN.out]; exact HA2.out.2.2.2.1) HP.out
      rw [if_pos HRR.out, HR.out, HCN.out] at hE
      rw [hE]
      have hn : n1 = J.next := by rw [← HA1.out.1, if_pos HRR.out]
      have hob := HA1.out.2.2.2.1
      have hj := HJ3.out
      obtain ⟨V, hV⟩ : ∃ V, (((w3.setCell ⟨bj, 2, none⟩ (.int .i64 ob)).setCell ⟨bj, 3, none⟩ (.int .i64 cn)).setCell ⟨bj, 5, none⟩ (.slice (some ⟨w3.heap.size, 0, none⟩) 1 1)).setCell ⟨bj, 6, none⟩ (.bool false) = V := ⟨_, rfl⟩
      have hm : Mod (fun k => k = bj) w3 V := by rw [← hV]; exact (((((Mod.refl (fun k => k = bj) _).at_ rfl _ _).at_ rfl _ _).at_ rfl _ _).at_ rfl _ _)
      have hm4 : Mod (InJour bj bd bs) w V := by rw [← hV]; exact (((HM3.out.at_ (.inl rfl) _ _).at_ (.inl rfl) _ _).at_ (.inl rfl) _ _).at_ (.inl rfl) _ _
      have hs : V.heap.size = w3.heap.size := by rw [← hV]; simp [World.setCell]
      have hb := (((hj.jour.set 2 (.int .i64 ob)).set 3 (.int .i64 cn)).set 5 (.slice (some ⟨w3.heap.size, 0, none⟩) 1 1)).set 6 (.bool false)
      rw [hV] at hb
      rw [hV]
      have q1 := hj.ld
      have q2 := hj.lm
      have q3 := hj.ls
      refine ⟨?_, ⟨.slice (some ⟨w3.heap.size, 0, none⟩) 1 1, ?_, ?_, (hj.dev.mod hm (by omega) (by omega) (by omega)).below (below_alloc (Below.refl _ _) _), q1, q2, q3⟩, hm4.alloc _⟩
      · show Ending.returned (.tuple #[.int .i64 n1, .int .i64 0]) = _
        rw [hn]
      · have h1 := hb.alloc (.cells #[.int .i64 n1, .string rec] 62 (0, 0))
        rw [← hob] at h1
        simpa [Jour.cells] using h1
      · refine ⟨rfl, .inr ⟨w3.heap.size, 1, #[.int .i64 n1, .string rec], rfl, by omega, ?_, Nat.le_refl _, by unfold maxLen; omega, rfl, ?_⟩⟩
        · rw [← hs]
          exact heap_alloc_new V _
        · rw [hn]
          rfl
    · have hr4 : (r1 == 0) = false := beq_eq_false_iff_ne.mpr hr
      have hr5 : (r1 != 0) = true := bne_iff_ne.mpr hr
      have HRR := Aside0.mk hr
      clear hr
      go_wp2
      go_ret2
      have hE := compOf_eq (by rw [HCN.out]; exact HA2.out.2.2.2.1) HP.out
      rw [if_neg HRR.out, HR.out] at hE
      rw [hE]
      exact ⟨rfl, ⟨lv, HJ3.out⟩, HM3.out⟩
end Go.Proofs.YtcdgbdojopfkgaaDoor.P
