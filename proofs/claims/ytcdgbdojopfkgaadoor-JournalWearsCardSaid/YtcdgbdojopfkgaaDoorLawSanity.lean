/- What the laws of the journal share: a step of a script, its text, a journal that is at work, New and Open. -/
import Derived.Test.YtcdgbdojopfkgaaDoorJourFind
import Derived.Test.YtcdgbdojopfkgaaDoorDevNew
import Derived.Test.YtcdgbdojopfkgaaDoorPx6
import Derived.Test.YtcdgbdojopfkgaaDoorPx7
import Derived.Test.YtcdgbdojopfkgaaDoorPx8
namespace Go.Proofs.YtcdgbdojopfkgaaDoor.P
open Go.RowKit Go.Shelf Go.Lib Go.Proofs.YtcdgbdojopfkgaaDoorW.PrintWords Go.Proofs.YtcdgbdojopfkgaaDoorW.PrintMore

structure Stp where
  kind : Int
  n : Int
  size : Int
  fill : Int
  picks : List Int
def kStp : Kd Stp := Kd.iso (Kd.pair (Kd.int .i64) (Kd.pair (Kd.int .i64) (Kd.pair (Kd.int .i64) (Kd.pair (Kd.int .u8) (Kd.slice 3 (Kd.int .i64)))))) (fun x => (x.kind, x.n, x.size, x.fill, x.picks))
theorem kStp_open {w : World} {x : Stp} {cs : List Value} (h : kStp.K w x cs) : ∃ A c, cs = [.int .i64 x.kind, .int .i64 x.n, .int .i64 x.size, .int .u8 x.fill, .slice A x.picks.length c] ∧ x.picks.length ≤ c ∧ Kd.C (Kd.int .i64) w A x.picks.length x.picks := by
  obtain ⟨c0, r0, rfl, h0, c1, r1, rfl, h1, c2, r2, rfl, h2, c3, r3, rfl, h3, A, c, rfl, hl, hr⟩ := h
  replace h0 : c0 = [.int .i64 x.kind] := h0
  replace h1 : c1 = [.int .i64 x.n] := h1
  replace h2 : c2 = [.int .i64 x.size] := h2
  replace h3 : c3 = [.int .u8 x.fill] := h3
  subst h0 h1 h2 h3
  exact ⟨A, c, rfl, hl, hr⟩
theorem kStp_mk {w : World} {x : Stp} {A : Option Addr} {c : Nat} (hl : x.picks.length ≤ c) (hr : Kd.C (Kd.int .i64) w A x.picks.length x.picks) : kStp.K w x [.int .i64 x.kind, .int .i64 x.n, .int .i64 x.size, .int .u8 x.fill, .slice A x.picks.length c] :=
  ⟨_, _, rfl, rfl, _, _, rfl, rfl, _, _, rfl, rfl, _, _, rfl, rfl, A, c, rfl, hl, hr⟩
theorem at_lies {w : World} {b off : Nat} {sp : Option Nat} {v : Value} (h : w.cell? ⟨b, off, sp⟩ = some v) : sp = none ∧ b < w.heap.size := by
  unfold World.cell? at h
  split at h
  · rename_i hh
    split at h
    · cases h
    · rename_i hs
      exact ⟨by simpa using hs, (Array.getElem?_eq_some_iff.1 hh).1⟩
  · cases h
/-- A step of a script that is read. -/
theorem at_stp {w : World} {A : Option Addr} {l : List Stp} (h : Kd.C kStp w A l.length l) {i : Nat} {x : Stp} (hx : l[i]? = some x) :
    ∃ b off B c, A = some ⟨b, off, none⟩ ∧ w.cell? ⟨b, off + i * 5, none⟩ = some (.int .i64 x.kind) ∧ w.cell? ⟨b, off + i * 5 + 1, none⟩ = some (.int .i64 x.n) ∧ w.cell? ⟨b, off + i * 5 + 2, none⟩ = some (.int .i64 x.size) ∧ w.cell? ⟨b, off + i * 5 + 3, none⟩ = some (.int .u8 x.fill) ∧ w.cell? ⟨b, off + i * 5 + 4, none⟩ = some (.slice B x.picks.length c) ∧ x.picks.length ≤ c ∧ Kd.C (Kd.int .i64) w B x.picks.length x.picks := by
  have hi := (List.getElem?_eq_some_iff.1 hx).1
  obtain ⟨ad, rfl, hc⟩ := h.2.2 (by omega)
  obtain ⟨cs, hs, hk, hcell⟩ := hc i x hx
  obtain ⟨B, c, rfl, hl, hr⟩ := kStp_open hk
  obtain ⟨b, off, sp⟩ := ad
  have hz : kStp.sz = 5 := rfl
  rw [hz] at hcell
  have hsp : sp = none := by
    obtain ⟨x0, hx0⟩ : ∃ x0, l[0]? = some x0 := ⟨l[0], List.getElem?_eq_getElem (by omega)⟩
    obtain ⟨cs0, _, hk0, hcell0⟩ := hc 0 x0 hx0
    obtain ⟨B0, c0, rfl, _, _⟩ := kStp_open hk0
    have := hcell0 0 _ rfl
    rw [Nat.zero_mul, Nat.zero_add, Addr.add_zero'] at this
    exact (at_lies this).1
  subst hsp
  have e : ∀ j, (⟨b, off, none⟩ : Addr).add (i * 5 + j) = ⟨b, off + i * 5 + j, none⟩ := fun j => by rw [Addr.add_lit, Nat.add_assoc]
  refine ⟨b, off, B, c, rfl, ?_, ?_, ?_, ?_, ?_, hl, hr⟩
  · have := hcell 0 _ rfl; rw [e] at this; exact this
  · have := hcell 1 _ rfl; rw [e] at this; exact this
  · have := hcell 2 _ rfl; rw [e] at this; exact this
  · have := hcell 3 _ rfl; rw [e] at this; exact this
  · have := hcell 4 _ rfl; rw [e] at this; exact this
/-! ### the text of a step -/
theorem text_loop (k0 n0 s0 f0 : Int) (p0 : List Int) : ∀ (d i k : Nat) (l : List Int), i + d = l.length → d < k → l.length ≤ 400 → Byte l → ∃ r, custodyref25_Text.l0 k l (i : Int) k0 n0 s0 f0 p0 = some r ∧ r.size = l.length
  | 0, i, k, l, hd, hk, hl, hb => by
    obtain ⟨k, rfl⟩ : ∃ m, k = m + 1 := ⟨k - 1, by omega⟩
    refine ⟨strOfNums l, ?_, size_strOfNums l hb⟩
    simp only [custodyref25_Text.l0]
    rw [if_neg (by omega)]
  | d + 1, i, k, l, hd, hk, hl, hb => by
    obtain ⟨k, rfl⟩ : ∃ m, k = m + 1 := ⟨k - 1, by omega⟩
    have hw : wrap64 ((i : Int) + 1) = ((i + 1 : Nat) : Int) := by unfold wrap64; omega
    obtain ⟨r, h1, h2⟩ := text_loop k0 n0 s0 f0 p0 d (i + 1) k (l.set (i : Int).toNat ((f0 + ((Int.tmod (i : Int) 7) % 256)) % 256)) (by rw [List.length_set]; omega) (by omega) (by rw [List.length_set]; exact hl) (by
      intro b hb'
      rcases List.mem_or_eq_of_mem_set hb' with h | h
      · exact hb b h
      · subst h; omega)
    rw [List.length_set] at h2
    refine ⟨r, ?_, h2⟩
    simp only [custodyref25_Text.l0]
    rw [if_pos (by omega), if_pos (by omega), hw]
    exact h1
/-- The text of a step. -/
def textC (x : Stp) : ByteArray := (custodyref25_Text.f 500 x.kind x.n x.size x.fill x.picks).getD ⟨#[]⟩
theorem text_some (x : Stp) : custodyref25_Text.f 500 x.kind x.n x.size x.fill x.picks = some (textC x) ∧ (textC x).size ≤ 400 := by
  have hm : 0 ≤ mx 0 (mn x.size 400) ∧ mx 0 (mn x.size 400) ≤ 400 := by unfold mx mn; omega
  obtain ⟨r, h1, h2⟩ := text_loop x.kind x.n x.size x.fill x.picks (mx 0 (mn x.size 400)).toNat 0 500 (List.replicate (mx 0 (mn x.size 400)).toNat 0) (by rw [List.length_replicate]; omega) (by omega) (by rw [List.length_replicate]; omega) (byte_rep _)
  rw [List.length_replicate] at h2
  have hf : custodyref25_Text.f 500 x.kind x.n x.size x.fill x.picks = some r := by
    unfold custodyref25_Text.f
    rw [if_pos hm.1, if_pos (by omega)]
    exact h1
  have hc : textC x = r := by unfold textC; rw [hf]; rfl
  rw [hc]
  exact ⟨hf, by omega⟩
theorem text_calls (x : Stp) (B : Option Addr) (c : Nat) (w : World) (hl : x.picks.length ≤ c) (hr : Kd.C (Kd.int .i64) w B x.picks.length x.picks) :
    Calls Tryd.prog 8 #[.agg #[.int .i64 x.kind, .int .i64 x.n, .int .i64 x.size, .int .u8 x.fill, .slice B x.picks.length c]] w fun e w' => e = .returned (.string (textC x)) ∧ Below w.heap.size w w' :=
  custodyref25_Text.calls 500 _ _ _ _ B c _ _ w hr hl (text_some x).1
/-! ### a journal at work -/
/-- The memory of a device and its journal, all of it made since w0. -/
structure Live (w0 w : World) (bj bd bm bs c : Nat) (J : Jour) (D : Dev) : Prop where
  rep : ∃ lv, JourRep w bj bd bm bs c lv J D
  ld : w0.heap.size ≤ bd
  lm : w0.heap.size ≤ bm
  ls : w0.heap.size ≤ bs
  lj : w0.heap.size ≤ bj
  below : Below w0.heap.size w0 w
  inv : Inv J D
theorem Live.more {w0 w w' : World} {bj bd bm bs c : Nat} {J : Jour} {D : Dev} (h : Live w0 w bj bd bm bs c J D) (hb : Below w.heap.size w w') : Live w0 w' bj bd bm bs c J D := by
  obtain ⟨⟨lv, hr⟩, h1, h2, h3, h4, h5, h6⟩ := h
  exact ⟨⟨lv, hr.below hb⟩, h1, h2, h3, h4, h5.trans (hb.mono h5.size), h6⟩
theorem Live.drew {w0 w : World} {bj bd bm bs c : Nat} {J : Jour} {D : Dev} (h : Live w0 w bj bd bm bs c J D) : Live w0 w.drew bj bd bm bs c J D := h.more (Below.refl _ _).drew
theorem Live.step {w0 w w' : World} {bj bd bm bs c : Nat} {J J' : Jour} {D D' : Dev} (h : Live w0 w bj bd bm bs c J D) (hr : ∃ lv, JourRep w' bj bd bm bs c lv J' D') (hm : Mod (InJour bj bd bs) w w') (hi : Inv J' D') : Live w0 w' bj bd bm bs c J' D' := by
  obtain ⟨-, h1, h2, h3, h4, h5, -⟩ := h
  refine ⟨hr, h1, h2, h3, h4, h5.trans (hm.toBelow h5.size ?_), hi⟩
  rintro k (rfl | rfl | rfl) <;> assumption
/-- Append, at a live journal. -/
theorem live_app {w0 w : World} {bj bd bm bs c : Nat} {J : Jour} {D : Dev} (h : Live w0 w bj bd bm bs c J D) (hn : J.next ≤ 4611686018427387904) (rec : ByteArray) (ht : rec.size ≤ 8000) :
    Calls Tryd.prog 11 #[.pointer (some ⟨bj, 0, none⟩), .string rec] w fun e w' => e = .returned (.tuple #[.int .i64 (appOf J D rec).2.2.1, .int .i64 (appOf J D rec).2.2.2]) ∧ Live w0 w' bj bd bm bs c (appOf J D rec).1 (appOf J D rec).2.1 ∧ Mod (InJour bj bd bs) w w' := by
  obtain ⟨lv, hr⟩ := h.rep
  refine (app_calls hr rec (h.inv.fit hn) h.inv.closed ht h.inv.clean.ok).mono ?_
  rintro e w' ⟨he, hrep, hm⟩
  refine ⟨he, h.step hrep hm ?_, hm⟩
  cases hsp : J.spoiled with
  | true => rw [appOf_spoiled hsp]; exact h.inv
  | false =>
    by_cases hf : J.half < J.used + cnt rec.size
    · rw [appOf_full hsp hf]; exact h.inv
    · obtain ⟨J', D', r, hi, -, -, -, -, -, ⟨-, hA, -⟩ | ⟨-, hA, -⟩⟩ := app_inv h.inv hn rec ht hsp (by omega) <;> (rw [hA]; exact hi)
theorem live_comp {w0 w : World} {bj bd bm bs c : Nat} {J : Jour} {D : Dev} (h : Live w0 w bj bd bm bs c J D) (hn : J.next ≤ 4611686018427387904) (rec : ByteArray) (ht : rec.size ≤ 8000) :
    Calls Tryd.prog 12 #[.pointer (some ⟨bj, 0, none⟩), .string rec] w fun e w' => e = .returned (.tuple #[.int .i64 (compOf J D rec).2.2.1, .int .i64 (compOf J D rec).2.2.2]) ∧ Live w0 w' bj bd bm bs c (compOf J D rec).1 (compOf J D rec).2.1 ∧ Mod (InJour bj bd bs) w w' := by
  obtain ⟨lv, hr⟩ := h.rep
  refine (comp_calls hr rec (h.inv.fit hn) h.inv.closed ht h.inv.clean.ok).mono ?_
  rintro e w' ⟨he, hrep, hm⟩
  refine ⟨he, h.step hrep hm ?_, hm⟩
  by_cases hf : J.half < cnt rec.size
  · rw [compOf_full hf]; exact h.inv
  · obtain ⟨J', D', r, hi, -, -, -, -, ⟨-, hA, -⟩ | ⟨-, hA, -⟩⟩ := comp_inv h.inv hn rec ht (by omega) <;> (rw [hA]; exact hi)
theorem live_room {w0 w : World} {bj bd bm bs c : Nat} {J : Jour} {D : Dev} (h : Live w0 w bj bd bm bs c J D) :
    Calls Tryd.prog 9 #[.pointer (some ⟨bj, 0, none⟩)] w fun e w' => e = .returned (.int .i64 ((J.half : Int) - (J.used : Int))) ∧ Below w.heap.size w w' := by
  obtain ⟨lv, hr⟩ := h.rep
  exact jour_room hr (by have := h.inv.half2; omega) h.inv.used
theorem live_next {w0 w : World} {bj bd bm bs c : Nat} {J : Jour} {D : Dev} (h : Live w0 w bj bd bm bs c J D) :
    Calls Tryd.prog 10 #[.pointer (some ⟨bj, 0, none⟩)] w fun e w' => e = .returned (.int .i64 J.next) ∧ w' = w := by
  obtain ⟨lv, hr⟩ := h.rep
  exact jour_next hr
theorem live_bank {w0 w : World} {bj bd bm bs c : Nat} {J : Jour} {D : Dev} (h : Live w0 w bj bd bm bs c J D) :
    Calls Tryd.prog 14 #[.pointer (some ⟨bj, 0, none⟩)] w fun e w' => e = .returned (.int .i64 J.bank) ∧ w' = w := by
  obtain ⟨lv, hr⟩ := h.rep
  exact jour_bank hr
theorem live_recs {w0 w : World} {bj bd bm bs c : Nat} {J : Jour} {D : Dev} (h : Live w0 w bj bd bm bs c J D) :
    Calls Tryd.prog 15 #[.pointer (some ⟨bj, 0, none⟩)] w fun e w' => ∃ A cA, e = .returned (.slice A (J.l.map (·.2)).length cA) ∧ (J.l.map (·.2)).length ≤ cA ∧ Kd.C Kd.string w' A (J.l.map (·.2)).length (J.l.map (·.2)) ∧ Below w.heap.size w w' := by
  obtain ⟨lv, hr⟩ := h.rep
  refine (recs_calls hr (by have := h.inv.len; have := h.inv.used; have := h.inv.half2; omega)).mono ?_
  rintro e w' ⟨v, he, hR, hb⟩
  obtain ⟨A, cA, rfl, hl, hC⟩ := Kd.R_reads hR
  exact ⟨A, cA, he, hl, hC, hb⟩
theorem live_nums {w0 w : World} {bj bd bm bs c : Nat} {J : Jour} {D : Dev} (h : Live w0 w bj bd bm bs c J D) :
    Calls Tryd.prog 23 #[.pointer (some ⟨bj, 0, none⟩)] w fun e w' => ∃ A cA, e = .returned (.slice A (J.l.map (·.1)).length cA) ∧ (J.l.map (·.1)).length ≤ cA ∧ Kd.C (Kd.int .i64) w' A (J.l.map (·.1)).length (J.l.map (·.1)) ∧ Below w.heap.size w w' := by
  obtain ⟨lv, hr⟩ := h.rep
  refine (nums_calls hr (by have := h.inv.len; have := h.inv.used; have := h.inv.half2; omega)).mono ?_
  rintro e w' ⟨v, he, hR, hb⟩
  obtain ⟨A, cA, rfl, hl, hC⟩ := Kd.R_reads hR
  exact ⟨A, cA, he, hl, hC, hb⟩
/-- Open, at a live journal's device. -/
theorem live_open {w0 w : World} {bj bd bm bs c : Nat} {J : Jour} {D : Dev} (h : Live w0 w bj bd bm bs c J D) :
    Calls Tryd.prog 17 #[.pointer (some ⟨bd, 0, none⟩)] w fun e w' => ∃ bk, e = .returned (.tuple #[.pointer (some ⟨bk, 0, none⟩), .int .i64 0]) ∧ Live w0 w' bk bd bm bs c (openOf D) D ∧ Below w.heap.size w w' := by
  obtain ⟨⟨lv, hr⟩, h1, h2, h3, h4, h5, hi⟩ := h
  refine (open_calls hr.dev hi.clean.up hi.clean.ok (by have := hr.dev.mem.small; omega) (by have := hi.lenD; have := hi.half1; omega)).mono ?_
  rintro e w' ⟨bk, lv', he, hge, hrep, hb⟩
  have := h5.size
  exact ⟨bk, he, ⟨⟨lv', hrep⟩, h1, h2, h3, by omega, h5.trans (hb.mono h5.size), (open_inv hi).1⟩, hb⟩
theorem live_mount {w0 w : World} {bj bd bm bs c : Nat} {J : Jour} {D : Dev} (h : Live w0 w bj bd bm bs c J D) (A : Option Addr) (pn pc : Nat) :
    Calls Tryd.prog 16 #[.pointer (some ⟨bd, 0, none⟩), .slice A pn pc] w fun e w' => e = .returned (.tuple #[]) ∧ Live w0 w' bj bd bm bs c J D ∧ Mod (InJour bj bd bs) w w' := by
  obtain ⟨lv, hr⟩ := h.rep
  have hc := h.inv.clean
  refine (dev_mount_clean hr.dev (fun i x hx => (hc.secs i x hx).1) A pn pc).mono ?_
  rintro e w' ⟨he, hd, hm⟩
  have hD : ({ D with down := false, left := -1 } : Dev) = D := by
    have h1 := hc.up
    have h2 := hc.left
    cases D
    cases h1
    cases h2
    rfl
  rw [hD] at hd
  have hm2 : Mod (InJour bj bd bs) w w' := hm.mono (fun k hk => .inr (.inl hk))
  have := hr.ld
  exact ⟨he, h.step ⟨lv, hr.mod hm (by omega) hd (fun k hk => by omega)⟩ hm2 h.inv, hm2⟩
theorem live_wear {w0 w : World} {bj bd bm bs c : Nat} {J : Jour} {D : Dev} (h : Live w0 w bj bd bm bs c J D) (i : Int) :
    Calls Tryd.prog 13 #[.pointer (some ⟨bd, 0, none⟩), .int .i64 i] w fun e w' => e = .returned (.int .i64 (inMem D.secs i)) ∧ Live w0 w' bj bd bm bs c J { D with secs := wearSec D.secs i } ∧ Mod (InJour bj bd bs) w w' := by
  obtain ⟨lv, hr⟩ := h.rep
  refine (dev_wear hr.dev i).mono ?_
  rintro e w' ⟨he, hd, hm⟩
  have hm2 : Mod (InJour bj bd bs) w w' := hm.mono (fun k hk => .inr (.inr hk))
  have := hr.ls
  exact ⟨he, h.step ⟨lv, hr.mod hm (by omega) hd (fun k hk => by omega)⟩ hm2 (wear_inv h.inv i), hm2⟩
/-! ### start -/
set_option maxRecDepth 100000 in
theorem start_calls (n : Nat) (h1 : 2 ≤ n) (h2 : n ≤ 4096) (w : World) :
    Calls Tryd.prog 7 #[.int .i64 n] w fun e w' => ∃ bj bd bm bs bl bf, e = .returned (.tuple #[.pointer (some ⟨bd, 0, none⟩), .pointer (some ⟨bj, 0, none⟩), .bool true]) ∧ Live w w' bj bd bm bs n (openOf (newDev n 1 1 bl bf)) (newDev n 1 1 bl bf) := by
  have hnew := dev_new n (by omega) h2 w
  go_enter Tryd.func7, Tryd.ntmps7
  go_wp2_with fail
  refine hnew.mono ?_
  rintro e w1 ⟨bd, bm, bs, bl, bf, rfl, l1, l2, l3, -, -, -, -, hrep, -, hb⟩
  have hc := new_clean n bl bf
  have hi := new_inv n bl bf h1 h2
  have hop := open_calls hrep hc.up hc.ok (by rw [show (newDev n 1 1 bl bf).secs.length = n by show (List.replicate n sec0).length = n; rw [List.length_replicate]]; exact h2) (by rw [show (newDev n 1 1 bl bf).secs.length = n by show (List.replicate n sec0).length = n; rw [List.length_replicate]]; exact h1)
  have HI := Aside0.mk (And.intro hi (And.intro l1 (And.intro l2 (And.intro l3 hb))))
  clear hnew hrep hc hi l1 l2 l3 hb
  go_wp2_with fail
  refine hop.mono ?_
  rintro e w2 ⟨bj, lv, rfl, hge, hrep, hb2⟩
  have HR := Aside0.mk (And.intro hge (And.intro hrep hb2))
  clear hop hge hrep hb2
  go_wp2
  go_ret3
  obtain ⟨hi, l1, l2, l3, hb⟩ := HI.out
  obtain ⟨hge, hrep, hb2⟩ := HR.out
  have := hb.size
  exact ⟨bj, bd, bm, bs, bl, bf, rfl, ⟨⟨lv, hrep⟩, l1, l2, l3, by omega, hb.trans (hb2.mono hb.size), (open_inv hi).1⟩⟩
end Go.Proofs.YtcdgbdojopfkgaaDoor.P

/- custodylaw25.sanity, walked. -/
namespace Go.Proofs.YtcdgbdojopfkgaaDoor.P
open Go.RowKit Go.Shelf Go.Lib Go.Proofs.YtcdgbdojopfkgaaDoorW.PrintWords Go.Proofs.YtcdgbdojopfkgaaDoorW.PrintMore
attribute [local go_sem] max2_int min2_int max_two min_two

theorem same_loop (l : List ByteArray) (hl : l.length ≤ 100000) : ∀ (d i k : Nat), i + d = l.length → d < k → custodyref22_SameTexts.l0 k l l (i : Int) = some true
  | 0, i, k, hd, hk => by
    obtain ⟨k, rfl⟩ : ∃ m, k = m + 1 := ⟨k - 1, by omega⟩
    simp only [custodyref22_SameTexts.l0]
    rw [if_neg (by omega)]
  | d + 1, i, k, hd, hk => by
    obtain ⟨k, rfl⟩ : ∃ m, k = m + 1 := ⟨k - 1, by omega⟩
    have hw : wrap64 ((i : Int) + 1) = ((i + 1 : Nat) : Int) := by unfold wrap64; omega
    simp only [custodyref22_SameTexts.l0]
    rw [if_pos (by omega), if_pos (by omega), if_pos (by omega), if_pos trivial, hw]
    exact same_loop l hl d (i + 1) k (by omega) (by omega)
theorem same_texts (l : List ByteArray) (hl : l.length ≤ 100000) : custodyref22_SameTexts.f 100001 l l = some true := by
  unfold custodyref22_SameTexts.f
  rw [if_pos rfl]
  exact same_loop l hl l.length 0 100001 (by omega) (by omega)
theorem sameInts_loop (l : List Int) (hl : l.length ≤ 100000) : ∀ (d i k : Nat), i + d = l.length → d < k → custodyref01_SameInts.l0 k l l (i : Int) = some true
  | 0, i, k, hd, hk => by
    obtain ⟨k, rfl⟩ : ∃ m, k = m + 1 := ⟨k - 1, by omega⟩
    simp only [custodyref01_SameInts.l0]
    rw [if_neg (by omega)]
  | d + 1, i, k, hd, hk => by
    obtain ⟨k, rfl⟩ : ∃ m, k = m + 1 := ⟨k - 1, by omega⟩
    have hw : wrap64 ((i : Int) + 1) = ((i + 1 : Nat) : Int) := by unfold wrap64; omega
    simp only [custodyref01_SameInts.l0]
    rw [if_pos (by omega), if_pos (by omega), if_pos (by omega), if_pos trivial, hw]
    exact sameInts_loop l hl d (i + 1) k (by omega) (by omega)
theorem same_ints (l : List Int) (hl : l.length ≤ 100000) : custodyref01_SameInts.f 100001 l l = some true := by
  unfold custodyref01_SameInts.f
  rw [if_pos rfl]
  exact sameInts_loop l hl l.length 0 100001 (by omega) (by omega)
theorem Blk.texts {w : World} {b : Nat} {l : List ByteArray} (h : Blk w b (l.map Value.string)) (hl : l.length ≤ 100000) : Kd.C Kd.string w (some ⟨b, 0, none⟩) l.length l :=
  Kd.C_of_reads (enc := Value.string) (d := ByteArray.empty) (h1 := fun _ => rfl) ⟨rfl, by omega, fun _ => ⟨_, rfl, fun j hj => by
    rw [add_plain]
    refine h.cell j ?_
    rw [List.getElem?_map, List.getElem?_eq_getElem hj]
    simp [List.getD_eq_getElem?_getD, hj]⟩⟩
theorem Blk.ints {w : World} {b : Nat} {l : List Int} (h : Blk w b (l.map (Value.int .i64))) (hl : l.length ≤ 100000) : Kd.C (Kd.int .i64) w (some ⟨b, 0, none⟩) l.length l :=
  Kd.C_of_reads (enc := Value.int .i64) (d := (0 : Int)) (h1 := fun _ => rfl) ⟨rfl, by omega, fun _ => ⟨_, rfl, fun j hj => by
    rw [add_plain]
    refine h.cell j ?_
    rw [List.getElem?_map, List.getElem?_eq_getElem hj]
    simp [List.getD_eq_getElem?_getD, hj]⟩⟩
set_option maxRecDepth 100000 in
set_option maxHeartbeats 4000000 in
theorem open_one {bd bm bs c : Nat} {D : Dev} {w : World} (h : DevRep w bd bm bs c D) (hl : D.secs.length = 1) :
    Calls Tryd.prog 17 #[.pointer (some ⟨bd, 0, none⟩)] w fun e w' => e = .returned (.tuple #[.pointer none, .int .i64 1]) ∧ Below w.heap.size w w' := by
  have hsec := dev_sectors h
  rw [hl] at hsec
  have hLT := h.dev.lt
  clear h hl
  go_enter Tryd.func17, Tryd.ntmps17
  go_wp2_with fail
  refine hsec.mono ?_
  rintro e w1 ⟨rfl, hw⟩
  obtain rfl := hw
  clear hsec
  go_wp2_with fail
  obtain ⟨w4, hw4⟩ : ∃ w4, ((w1.alloc (.cells #[.pointer (some ⟨bd, 0, none⟩), .int .i64 0, .int .i64 0, .int .i64 0, .int .i64 1, .slice none 0 0, .bool false, .bool false] 57 (0, 0))).alloc (.cells #[.pointer (some ⟨w1.heap.size, 0, none⟩)] 25 (0, 0))).alloc (.cells #[.slice none 0 0] 38 (0, 0)) = w4 := ⟨_, rfl⟩
  have hb4 : Below w1.heap.size w1 w4 := by rw [← hw4]; exact below_alloc (below_alloc (below_alloc (Below.refl _ _) _) _) _
  have g1 : Blk w4 w1.heap.size [.pointer (some ⟨bd, 0, none⟩), .int .i64 0, .int .i64 0, .int .i64 0, .int .i64 1, .slice none 0 0, .bool false, .bool false] := by rw [← hw4]; exact ((Blk.new w1 _ _).alloc _).alloc _
  have g2 : Blk w4 (w1.heap.size + 1) [.pointer (some ⟨w1.heap.size, 0, none⟩)] := by
    rw [← hw4]
    have := Blk.new (w1.alloc (.cells #[.pointer (some ⟨bd, 0, none⟩), .int .i64 0, .int .i64 0, .int .i64 0, .int .i64 1, .slice none 0 0, .bool false, .bool false] 57 (0, 0))) #[.pointer (some ⟨w1.heap.size, 0, none⟩)] 25
    rw [World.size_alloc] at this
    exact this.alloc _
  rw [hw4]
  clear hw4
  have k1 := g1.cell 1 rfl
  have kb := g2.cell 0 rfl
  have HB := Aside0.mk hb4
  clear g1 g2 hb4
  go_loopg [25] 0 (fun gg s25 wr => s25 = .int .i64 0 ∧ wr = w4)
  case atStart => exact ⟨rfl, rfl⟩
  case round =>
    obtain ⟨rfl, rfl⟩ := hrel
    go_wp2
    go_ret2
    exact ⟨rfl, HB.out⟩
structure SanP (J0 J1 J2 J3 J4 : Jour) (D0 D1 D2 D3 D4 : Dev) : Prop where
  s1 : J0.half = 4
  s2 : J0.bank = 0
  s3 : J0.used = 0
  s5 : J0.next = 1
  a1 : appOf J0 D0 ⟨#[97]⟩ = (J1, D1, 1, 0)
  n1 : J1.next = 2
  a2 : appOf J1 D1 (same_ 120 50) = (J2, D2, 2, 0)
  h2 : J2.half = 4
  u2 : J2.used = 3
  n2 : J2.next = 3
  a3 : appOf J2 D2 ((same_ 120 50).extract 0 45) = (J2, D2, 0, 15)
  a4 : compOf J2 D2 ⟨#[105, 109, 97, 103, 101]⟩ = (J3, D3, 3, 0)
  h3 : J3.half = 4
  u3 : J3.used = 1
  b3 : J3.bank = 1
  n3 : J3.next = 4
  a5 : appOf J3 D3 ⟨#[98]⟩ = (J4, D4, 4, 0)
  ol : (openOf D4).l = [(3, ⟨#[105, 109, 97, 103, 101]⟩), (4, ⟨#[98]⟩)]
  on : (openOf D4).next = 5
set_option maxRecDepth 100000 in
set_option maxHeartbeats 8000000 in
theorem sanity_calls (w : World) : Calls Tryd.prog 6 #[] w fun e w' => e = .returned (.bool true) ∧ Below w.heap.size w w' := by
  have hst : Calls Tryd.prog 7 #[.int .i64 8] w _ := start_calls 8 (by omega) (by omega) w
  go_enter Tryd.func6, Tryd.ntmps6
  go_wp2_with fail
  refine hst.mono ?_
  rintro e w1 ⟨bj, bd, bm, bs, bl, bf, rfl, hL⟩
  obtain ⟨-, s1, s2, s3, s4, s5, -⟩ := start_inv 8 bl bf (by omega) (by omega)
  obtain ⟨J1, J2, J3, J4, D1, D2, D3, D4, a1, n1, a2, h2, u2, n2, a3, a4, h3, u3, b3, n3, a5, ol, on⟩ := sanity_plain bl bf ⟨#[97]⟩ (same_ 120 50) ⟨#[105, 109, 97, 103, 101]⟩ ⟨#[98]⟩ rfl (same_size _ _) rfl rfl
  generalize openOf (newDev 8 1 1 bl bf) = J0 at hL s1 s2 s3 s4 s5 a1
  generalize newDev 8 1 1 bl bf = D0 at hL a1
  clear hst
  -- Records, Next, Room, Bank
  have hrec := live_recs hL
  rw [s4] at hrec
  have H := Aside0.mk hL
  have HP := Aside0.mk (show SanP J0 J1 J2 J3 J4 D0 D1 D2 D3 D4 from ⟨s1, s2, s3, s5, a1, n1, a2, h2, u2, n2, a3, a4, h3, u3, b3, n3, a5, ol, on⟩)
  clear hL s1 s2 s3 s4 s5 a1 n1 a2 h2 u2 n2 a3 a4 h3 u3 b3 n3 a5 ol on
  go_wp2_with fail
  refine hrec.mono ?_
  rintro e w2 ⟨A, cA, rfl, -, -, hb⟩
  have H2 := Aside0.mk (H.out.more hb)
  clear hrec hb H
  have hnx := live_next H2.out
  rw [HP.out.s5] at hnx
  go_wp2_with fail
  refine hnx.mono ?_
  rintro e w3 ⟨rfl, hw⟩
  obtain rfl := hw
  clear hnx
  have hro := live_room H2.out
  rw [HP.out.s1, HP.out.s3, show (((4 : Nat) : Int) - ((0 : Nat) : Int)) = 4 by decide] at hro
  go_wp2_with fail
  refine hro.mono ?_
  rintro e w4 ⟨rfl, hb⟩
  have H3 := Aside0.mk (H2.out.more hb)
  clear hro hb H2
  have hbk := live_bank H3.out
  rw [HP.out.s2, show ((0 : Nat) : Int) = 0 from rfl] at hbk
  go_wp2_with fail
  refine hbk.mono ?_
  rintro e w5 ⟨rfl, hw⟩
  obtain rfl := hw
  clear hbk
  have hre : Calls Tryd.prog 20 #[.string ⟨#[120]⟩, .int .i64 50] w5 _ := repeat_one 120 50 (by omega) w5
  go_wp2_with fail
  refine hre.mono ?_
  rintro e w6 ⟨rfl, hb⟩
  have H4 := Aside0.mk (H3.out.more hb)
  clear hre hb H3
  have hap := live_app H4.out (by rw [HP.out.s5]; omega) ⟨#[97]⟩ (by decide)
  rw [HP.out.a1] at hap
  go_wp2_with fail
  refine hap.mono ?_
  rintro e w7 ⟨rfl, hl, -⟩
  have H5 := Aside0.mk hl
  clear hap hl H4
  have hap := live_app H5.out (by rw [HP.out.n1]; omega) (same_ 120 50) (by rw [same_size]; omega)
  rw [HP.out.a2] at hap
  go_wp2_with fail
  refine hap.mono ?_
  rintro e w8 ⟨rfl, hl, -⟩
  have H6 := Aside0.mk hl
  clear hap hl H5
  have hro := live_room H6.out
  rw [HP.out.h2, HP.out.u2, show (((4 : Nat) : Int) - ((3 : Nat) : Int)) = 1 by decide] at hro
  go_wp2_with fail
  refine hro.mono ?_
  rintro e w9 ⟨rfl, hb⟩
  have H7 := Aside0.mk (H6.out.more hb)
  clear hro hb H6
  have hap := live_app H7.out (by rw [HP.out.n2]; omega) ((same_ 120 50).extract 0 45) (by rw [ByteArray.size_extract, same_size]; omega)
  rw [HP.out.a3] at hap
  have hsz : (same_ 120 50).size = 50 := same_size _ _
  go_wp2_with fail
  refine hap.mono ?_
  rintro e w10 ⟨rfl, hl, -⟩
  have H8 := Aside0.mk hl
  clear hap hl H7
  have hap := live_comp H8.out (by rw [HP.out.n2]; omega) ⟨#[105, 109, 97, 103, 101]⟩ (by decide)
  rw [HP.out.a4] at hap
  go_wp2_with fail
  refine hap.mono ?_
  rintro e w11 ⟨rfl, hl, -⟩
  have H9 := Aside0.mk hl
  clear hap hl H8
  have hbk := live_bank H9.out
  rw [HP.out.b3, show ((1 : Nat) : Int) = 1 from rfl] at hbk
  go_wp2_with fail
  refine hbk.mono ?_
  rintro e w12 ⟨rfl, hw⟩
  obtain rfl := hw
  clear hbk
  have hro := live_room H9.out
  rw [HP.out.h3, HP.out.u3, show (((4 : Nat) : Int) - ((1 : Nat) : Int)) = 3 by decide] at hro
  go_wp2_with fail
  refine hro.mono ?_
  rintro e w13 ⟨rfl, hb⟩
  have H10 := Aside0.mk (H9.out.more hb)
  clear hro hb H9
  have hap := live_app H10.out (by rw [HP.out.n3]; omega) ⟨#[98]⟩ (by decide)
  rw [HP.out.a5] at hap
  go_wp2_with fail
  refine hap.mono ?_
  rintro e w14 ⟨rfl, hl, -⟩
  have H11 := Aside0.mk hl
  clear hap hl H10
  have hop := live_open H11.out
  go_wp2_with fail
  refine hop.mono ?_
  rintro e w15 ⟨bk, rfl, hl, -⟩
  have H12 := Aside0.mk hl
  clear hop hl H11
  have hnew : Calls Tryd.prog 21 #[.int .i64 1, .int .i64 1, .int .i64 1] w15 _ := dev_new 1 (by omega) (by omega) w15
  go_wp2_with fail
  refine hnew.mono ?_
  rintro e w16 ⟨bd2, bm2, bs2, bl2, bf2, rfl, -, -, -, -, -, -, -, hrep, -, hb⟩
  have H13 := Aside0.mk (H12.out.more hb)
  clear hnew H12 hb
  have hone := open_one hrep rfl
  clear hrep
  go_wp2_with fail
  refine hone.mono ?_
  rintro e w17 ⟨rfl, hb⟩
  have H14 := Aside0.mk (H13.out.more hb)
  clear hone hb H13
  have hrec := live_recs H14.out
  rw [HP.out.ol] at hrec
  go_wp2_with fail
  refine hrec.mono ?_
  rintro e w18 ⟨A2, cA2, rfl, hl2, hC2, hb⟩
  have H15 := Aside0.mk (H14.out.more hb)
  clear hrec hb H14
  obtain ⟨w19, hw19⟩ : ∃ w19, w18.alloc (.cells #[.string ⟨#[105, 109, 97, 103, 101]⟩, .string ⟨#[98]⟩] 9 (0, 0)) = w19 := ⟨_, rfl⟩
  have hb19 : Below w18.heap.size w18 w19 := by rw [← hw19]; exact below_alloc (Below.refl _ _) _
  have hlit : Blk w19 w18.heap.size ([(⟨#[105, 109, 97, 103, 101]⟩ : ByteArray), ⟨#[98]⟩].map Value.string) := by rw [← hw19]; exact Blk.new w18 _ _
  have hst : Calls Tryd.prog 19 #[.slice A2 2 cA2, .slice (some ⟨w18.heap.size, 0, none⟩) 2 2] w19 _ := custodyref22_SameTexts.calls 100001 A2 cA2 [⟨#[105, 109, 97, 103, 101]⟩, ⟨#[98]⟩] _ 2 [⟨#[105, 109, 97, 103, 101]⟩, ⟨#[98]⟩] true w19 (Kd.C_below hC2 hb19) hl2 (hlit.texts (by decide)) (by decide) (same_texts _ (by decide))
  have H16 := Aside0.mk (H15.out.more hb19)
  clear hlit hb19 hC2 H15
  go_wp2_with fail
  refine hst.mono ?_
  rintro e w20 ⟨rfl, hd⟩
  have H17 := Aside0.mk (H16.out.more hd.below)
  clear hst hd H16 hw19
  have hnu := live_nums H17.out
  rw [HP.out.ol] at hnu
  go_wp2_with fail
  refine hnu.mono ?_
  rintro e w21 ⟨A3, cA3, rfl, hl3, hC3, hb⟩
  have H18 := Aside0.mk (H17.out.more hb)
  clear hnu hb H17
  obtain ⟨w22, hw22⟩ : ∃ w22, w21.alloc (.cells #[.int .i64 3, .int .i64 4] 3 (0, 0)) = w22 := ⟨_, rfl⟩
  have hb22 : Below w21.heap.size w21 w22 := by rw [← hw22]; exact below_alloc (Below.refl _ _) _
  have hlit : Blk w22 w21.heap.size ([(3 : Int), 4].map (Value.int .i64)) := by rw [← hw22]; exact Blk.new w21 _ _
  have hst : Calls Tryd.prog 22 #[.slice A3 2 cA3, .slice (some ⟨w21.heap.size, 0, none⟩) 2 2] w22 _ := custodyref01_SameInts.calls 100001 A3 cA3 [3, 4] _ 2 [3, 4] true w22 (Kd.C_below hC3 hb22) hl3 (hlit.ints (by decide)) (by decide) (same_ints _ (by decide))
  have H19 := Aside0.mk (H18.out.more hb22)
  clear hlit hb22 hC3 H18
  go_wp2_with fail
  refine hst.mono ?_
  rintro e w23 ⟨rfl, hd⟩
  have H20 := Aside0.mk (H19.out.more hd.below)
  clear hst hd H19 hw22
  have hnx := live_next H20.out
  rw [HP.out.on] at hnx
  go_wp2_with fail
  refine hnx.mono ?_
  rintro e w24 ⟨rfl, hw⟩
  obtain rfl := hw
  clear hnx
  go_wp2
  go_ret
  exact ⟨rfl, H20.out.below⟩
end Go.Proofs.YtcdgbdojopfkgaaDoor.P
