/- journal.Open, walked. -/
import Derived.Lib.Hide
import Derived.BigQuiet
import Derived.StillTailTactics
import Derived.Test.YtcdgbdojopfkgaaDoorJourNum
import Derived.Test.YtcdgbdojopfkgaaDoorJourList
namespace Go.Proofs.YtcdgbdojopfkgaaDoor.P
open Go.RowKit Go.Shelf Go.Lib Go.Proofs.YtcdgbdojopfkgaaDoorW.PrintWords Go.Proofs.YtcdgbdojopfkgaaDoorW.PrintMore
attribute [local go_sem] max2_int min2_int max_two min_two

def txtOf (x : Sec) : ByteArray := if x.dirty then x.fresh else x.now
def texts (D : Dev) : List ByteArray := D.secs.map txtOf
def bump (n : Int) (s : ByteArray) : Int := if numC s ≤ 4611686018427387904 then max n (numC s + 1) else n
def bumps (n : Int) (s : ByteArray) : Int := bump (bump n (s.extract 0 8)) (s.extract 56 64)
def nextOf (l : List ByteArray) : Int := l.foldl bumps 1
/-- What Open finds. -/
def openOf (D : Dev) : Jour :=
  let half := D.secs.length / 2
  let all := (texts D).take (2 * half)
  let bank := if firstOf (bankOf all half 0) < firstOf (bankOf all half 1) then 1 else 0
  takeOf { half := half, bank := 0, used := 0, next := nextOf all, l := [], spoiled := false, closed := false } bank (bankRecs (bankOf all half bank))
theorem txt_size {D : Dev} (hok : SecsOk D.secs) {k : Nat} {x : Sec} (hx : D.secs[k]? = some x) : (txtOf x).size = 64 := by
  obtain ⟨h1, h2, h3, h4⟩ := hok k x hx
  unfold txtOf
  split
  · rename_i h; exact h3 h
  · exact h1
theorem read_up {D : Dev} (hd : D.down = false) {k : Nat} {x : Sec} (hx : D.secs[k]? = some x) : devRead D k = (txtOf x, 0) := by
  have hk : k < D.secs.length := (List.getElem?_eq_some_iff.1 hx).1
  unfold devRead readOf
  rw [hd, if_neg (by simp), if_pos (by omega), Int.toNat_natCast, hx]
  rfl
theorem bump_bd {n : Int} (s : ByteArray) (h1 : 1 ≤ n) (h2 : n ≤ 4611686018427387905) : 1 ≤ bump n s ∧ bump n s ≤ 4611686018427387905 := by
  unfold bump
  split
  · omega
  · omega
/-- Open's memory: the new journal at block w.heap.size, its pointer's box, the slice 'all'. -/
structure OpenAt (w W : World) (bd half : Nat) (n : Int) (v : Value) (l : List ByteArray) : Prop where
  jour : Blk W w.heap.size [.pointer (some ⟨bd, 0, none⟩), .int .i64 half, .int .i64 0, .int .i64 0, .int .i64 n, .slice none 0 0, .bool false, .bool false]
  box : Blk W (w.heap.size + 1) [.pointer (some ⟨w.heap.size, 0, none⟩)]
  all : Blk W (w.heap.size + 2) [v]
  row : Kd.R Kd.string 9 W (w.heap.size + 3) (fun b => w.heap.size + 3 ≤ b) v l
  below : Below w.heap.size w W
  size : w.heap.size + 3 ≤ W.heap.size
theorem OpenAt.grow {w W W' : World} {bd half : Nat} {n : Int} {v : Value} {l : List ByteArray} (h : OpenAt w W bd half n v l) (hb : Below W.heap.size W W') : OpenAt w W' bd half n v l :=
  ⟨h.jour.below hb, h.box.below hb, h.all.below hb, Kd.R_below h.row hb, h.below.trans (hb.mono h.below.size), Nat.le_trans h.size hb.size⟩
theorem OpenAt.next {w W : World} {bd half : Nat} {n : Int} {v : Value} {l : List ByteArray} (h : OpenAt w W bd half n v l) (m : Int) : OpenAt w (W.setCell ⟨w.heap.size, 4, none⟩ (.int .i64 m)) bd half m v l := by
  have hs : (W.setCell ⟨w.heap.size, 4, none⟩ (.int .i64 m)).heap.size = W.heap.size := by simp [World.setCell]
  refine ⟨by simpa using h.jour.set 4 (.int .i64 m), h.box.far (by simp) _, h.all.far (by simp) _, Kd.R_far h.row (fun k hk => by show k ≠ w.heap.size; omega) _, ?_, by rw [hs]; exact h.size⟩
  exact (Mod.setCell (S := fun k => w.heap.size ≤ k) ((Mod.of_below h.below)) (.inl (Nat.le_refl _)) _).toBelow (Nat.le_refl _) (fun k hk => hk)
theorem nextOf_snoc (l : List ByteArray) (t : ByteArray) : nextOf (l ++ [t]) = bumps (nextOf l) t := by unfold nextOf; rw [List.foldl_append]; rfl
def nxOf (n : Int) (a b : ByteArray) : Nat → Int
  | 0 => n
  | 1 => bump n a
  | _ => bump (bump n a) b
theorem openOf_eq {D : Dev} {half : Nat} {all : List ByteArray} (h1 : D.secs.length / 2 = half) (h2 : (texts D).take (2 * half) = all) (bk : Nat) (hbk : (if firstOf (bankOf all half 0) < firstOf (bankOf all half 1) then 1 else 0) = bk) :
    openOf D = takeOf { half := half, bank := 0, used := 0, next := nextOf all, l := [], spoiled := false, closed := false } bk (bankRecs (bankOf all half bk)) := by
  subst h1
  subst h2
  subst hbk
  rfl
/-- take at a bank of what Open has read. -/
theorem take_bank {w1 w9 : World} {bd bm bs c half gA cA : Nat} {n : Int} {all : List ByteArray} {D : Dev} (H : DevRep w1 bd bm bs c D) (HO9 : OpenAt w1 w9 bd half n (.slice (some ⟨gA, 0, none⟩) all.length cA) all) (hal : all.length = 2 * half) (hcapA : all.length ≤ cA) (h1 : 1 ≤ half) (h4 : half ≤ 2048) (bk : Nat) (hbk : bk ≤ 1) :
    Calls Tryd.prog 34 #[.pointer (some ⟨w1.heap.size, 0, none⟩), .int .i64 (bk : Int), .slice (some ((⟨gA, 0, none⟩ : Addr).add (bk * half))) half (cA - bk * half)] w9.drew fun e w' => e = .returned (.tuple #[]) ∧ (∃ lv', JourRep w' w1.heap.size bd bm bs c lv' (takeOf { half := half, bank := 0, used := 0, next := n, l := [], spoiled := false, closed := false } bk (bankRecs (bankOf all half bk))) D) ∧ Mod (fun k => k = w1.heap.size) w9.drew w' := by
  have hb1 : bk * half ≤ 1 * half := Nat.mul_le_mul hbk (Nat.le_refl _)
  have hb2 : (bk + 1) * half = bk * half + half := by rw [Nat.add_mul, Nat.one_mul]
  have hlb : (bankOf all half bk).length = half := by
    unfold bankOf
    rw [List.length_drop, List.length_take]
    omega
  have hJR : JourRep w9.drew w1.heap.size bd bm bs c (.slice none 0 0) { half := half, bank := 0, used := 0, next := n, l := [], spoiled := false, closed := false } D :=
    ⟨HO9.jour.drew, World.ownsRow_nil _ _ _ _, (H.below HO9.below).drew, H.dev.lt, H.mem.hm.lt, H.mem.hs.lt⟩
  have hCm : ∀ W, Mod (fun k => k = w1.heap.size) w9.drew W → Kd.C Kd.string W (some ((⟨gA, 0, none⟩ : Addr).add (bk * half))) (bankOf all half bk).length (bankOf all half bk) := by
    intro W hW
    have hC : Kd.C Kd.string W (some ⟨gA, 0, none⟩) all.length all := reads_mod HO9.row ((Mod.refl (fun k => k = w1.heap.size) w9).drew.trans hW) (fun k hk => by omega)
    have hm := Kd.C_mid (c := cA) (lo := bk * half) (hi := (bk + 1) * half) hC (by omega) (by omega) hcapA
    rw [if_neg (by omega), show bk * half * Kd.string.sz = bk * half from Nat.mul_one _] at hm
    exact hm
  have := take_calls hJR (some ((⟨gA, 0, none⟩ : Addr).add (bk * half))) (cA - bk * half) (bankOf all half bk) bk hCm (by omega) (by omega)
  rw [hlb] at this
  exact this
set_option maxRecDepth 100000 in
set_option maxHeartbeats 8000000 in
theorem open_calls {bd bm bs c : Nat} {D : Dev} {w : World} (h : DevRep w bd bm bs c D) (hd : D.down = false) (hok : SecsOk D.secs) (hl : D.secs.length ≤ 4096) (hl2 : 2 ≤ D.secs.length) :
    Calls Tryd.prog 17 #[.pointer (some ⟨bd, 0, none⟩)] w fun e w' => ∃ bj lv, e = .returned (.tuple #[.pointer (some ⟨bj, 0, none⟩), .int .i64 0]) ∧ w.heap.size ≤ bj ∧ JourRep w' bj bd bm bs c lv (openOf D) D ∧ Below w.heap.size w w' := by
  have hsec := dev_sectors h
  have hw1 : IntKind.i64.wrap (2 * ((D.secs.length / 2 : Nat) : Int)) = ((2 * (D.secs.length / 2) : Nat) : Int) := by rw [IntKind.wrap_i64]; omega
  have H := Aside0.mk h
  clear h
  go_enter Tryd.func17, Tryd.ntmps17
  go_wp2_with fail
  refine hsec.mono ?_
  rintro e w1 ⟨rfl, hw⟩
  obtain rfl := hw
  clear hsec
  obtain ⟨half, hhalf⟩ : ∃ half : Nat, (D.secs.length : Int) / 2 = (half : Int) := ⟨D.secs.length / 2, by omega⟩
  have hh2 : D.secs.length / 2 = half := by omega
  go_wp2_with fail
  obtain ⟨w4, hw4⟩ : ∃ w4, ((w1.alloc (.cells #[.pointer (some ⟨bd, 0, none⟩), .int .i64 half, .int .i64 0, .int .i64 0, .int .i64 1, .slice none 0 0, .bool false, .bool false] 57 (0, 0))).alloc (.cells #[.pointer (some ⟨w1.heap.size, 0, none⟩)] 25 (0, 0))).alloc (.cells #[.slice none 0 0] 38 (0, 0)) = w4 := ⟨_, rfl⟩
  have hsz4 : w4.heap.size = w1.heap.size + 3 := by rw [← hw4]; simp
  have hb4 : Below w1.heap.size w1 w4 := by rw [← hw4]; exact below_alloc (below_alloc (below_alloc (Below.refl _ _) _) _) _
  have g1 : Blk w4 w1.heap.size [.pointer (some ⟨bd, 0, none⟩), .int .i64 half, .int .i64 0, .int .i64 0, .int .i64 1, .slice none 0 0, .bool false, .bool false] := by rw [← hw4]; exact ((Blk.new w1 _ _).alloc _).alloc _
  have g2 : Blk w4 (w1.heap.size + 1) [.pointer (some ⟨w1.heap.size, 0, none⟩)] := by
    rw [← hw4]
    have := Blk.new (w1.alloc (.cells #[.pointer (some ⟨bd, 0, none⟩), .int .i64 half, .int .i64 0, .int .i64 0, .int .i64 1, .slice none 0 0, .bool false, .bool false] 57 (0, 0))) #[.pointer (some ⟨w1.heap.size, 0, none⟩)] 25
    rw [World.size_alloc] at this
    exact this.alloc _
  have g3 : Blk w4 (w1.heap.size + 2) [.slice none 0 0] := by
    rw [← hw4]
    have := Blk.new ((w1.alloc (.cells #[.pointer (some ⟨bd, 0, none⟩), .int .i64 half, .int .i64 0, .int .i64 0, .int .i64 1, .slice none 0 0, .bool false, .bool false] 57 (0, 0))).alloc (.cells #[.pointer (some ⟨w1.heap.size, 0, none⟩)] 25 (0, 0))) #[.slice none 0 0] 38
    rw [World.size_alloc, World.size_alloc] at this
    exact this
  rw [hw4]
  clear hw4
  have hLT := H.out.dev.lt
  have HO4 := Aside0.mk (show OpenAt w1 w4 bd half 1 (.slice none 0 0) [] from ⟨g1, g2, g3, Kd.R_nil _ _ _ _ _, hb4, by omega⟩)
  clear g1 g2 g3 hb4 hw1
  go_loopg [25] (2 * half) (fun gg s25 wr => ∃ (k : Nat) (v : Value), k ≤ 2 * half ∧ 2 * half - k ≤ gg ∧ s25 = .int .i64 k ∧ Aside0 (OpenAt w1 wr bd half (nextOf ((texts D).take k)) v ((texts D).take k)) ∧ Aside0 (1 ≤ nextOf ((texts D).take k) ∧ nextOf ((texts D).take k) ≤ 4611686018427387905))
  case atStart => exact ⟨0, _, Nat.zero_le _, by omega, rfl, HO4, ⟨by show (1 : Int) ≤ 1 ∧ (1 : Int) ≤ _; omega⟩⟩
  case round =>
    obtain ⟨k, v, hk, hg, rfl, HO, HN⟩ := hrel
    clear HO4
    by_cases hlt : k < 2 * half
    · have hltz : (k : Int) < 2 * (half : Int) := by omega
      have hkl : k < D.secs.length := by omega
      obtain ⟨x, hx⟩ : ∃ x, D.secs[k]? = some x := ⟨D.secs[k], List.getElem?_eq_getElem hkl⟩
      have hread := dev_read (H.out.below HO.out.below) (k : Int)
      rw [read_up hd hx] at hread
      have hts := txt_size hok hx
      have hget : (texts D)[k]? = some (txtOf x) := by unfold texts; rw [List.getElem?_map, hx]; rfl
      obtain ⟨t, ht⟩ : ∃ t, txtOf x = t := ⟨_, rfl⟩
      rw [ht] at hread hts hget
      have HG := Aside0.mk hget
      have HSZ := Aside0.mk hts
      have HHH := Aside0.mk (And.intro hhalf hh2)
      clear hget ht hx hhalf hh2
      have ets : (t.size : Int) = 64 := by omega
      clear hts
      go_wp2_with fail
      refine hread.mono ?_
      rintro e w5 ⟨rfl, hw⟩
      obtain rfl := hw
      clear hread
      have hsb : t.size = 64 := HSZ.out
      have hsub : IntKind.i64.wrap ((64 : Int) - 8) = 56 := by decide
      go_wp2_with fail
      go_region_with (fail)
      simp only [Act.put, List.getElem_toArray, List.getElem_cons_succ, List.getElem_cons_zero, List.setIfInBounds_toArray, List.set_cons_succ, List.set_cons_zero]
      obtain ⟨ea, hea⟩ : ∃ ea, t.extract 0 8 = ea := ⟨_, rfl⟩
      obtain ⟨eb, heb⟩ : ∃ eb, t.extract 56 64 = eb := ⟨_, rfl⟩
      have hsa : ea.size = 8 := by rw [← hea, ByteArray.size_extract]; omega
      have hsb2 : eb.size = 8 := by rw [← heb, ByteArray.size_extract]; omega
      obtain ⟨w6, hw6⟩ : ∃ w6, (w5.alloc (.cells #[.string ea, .string eb] 9 (0, 0))).drew = w6 := ⟨_, rfl⟩
      have hb6 : Below w5.heap.size w5 w6 := by rw [← hw6]; exact (below_alloc (Below.refl _ _) _).drew
      have hr6 : Blk w6 w5.heap.size [.string ea, .string eb] := by rw [← hw6]; exact (Blk.new w5 _ _).drew
      have HO6 := Aside0.mk (HO.out.grow hb6)
      have HR6 := Aside0.mk hr6
      obtain ⟨n0, hn0⟩ : ∃ n0, nextOf ((texts D).take k) = n0 := ⟨_, rfl⟩
      rw [hn0] at HO6 HN
      rw [hea, heb, hw6]
      have HE := Aside0.mk (And.intro hea (And.intro heb hn0))
      have HSA := Aside0.mk (And.intro hsa hsb2)
      have HSZW := Aside0.mk HO.out.size
      clear hea heb hn0 hw6 hb6 hr6 hsa hsb2 HO hsub hsb ets
      go_wp2_with fail
      go_loopg [46] 2 (fun gg2 s46 wr => ∃ i : Nat, i ≤ 2 ∧ 2 - i ≤ gg2 ∧ s46 = .int .i64 i ∧ Aside0 (OpenAt w1 wr bd half (nxOf n0 ea eb i) v ((texts D).take k)) ∧ Aside0 (Blk wr w5.heap.size [.string ea, .string eb]))
      case atStart => exact ⟨0, by omega, by omega, rfl, HO6, HR6⟩
      case round =>
        obtain ⟨i, hi, hg2, rfl, HOI, HRI⟩ := hrel
        clear HO6 HR6
        by_cases hlt2 : i < 2
        · have hltz2 : (i : Int) < 2 := by omega
          obtain ⟨ee, he8, hcell, hnext⟩ : ∃ ee : ByteArray, ee.size = 8 ∧ [Value.string ea, .string eb][i]? = some (.string ee) ∧ nxOf n0 ea eb (i + 1) = bump (nxOf n0 ea eb i) ee := by
            have : i = 0 ∨ i = 1 := by omega
            rcases this with rfl | rfl
            · exact ⟨ea, HSA.out.1, rfl, rfl⟩
            · exact ⟨eb, HSA.out.2, rfl, rfl⟩
          have hbd : 1 ≤ nxOf n0 ea eb i ∧ nxOf n0 ea eb i ≤ 4611686018427387905 := by
            have : i = 0 ∨ i = 1 := by omega
            rcases this with rfl | rfl
            · exact HN.out
            · exact bump_bd ea HN.out.1 HN.out.2
          have cE := HRI.out.cell i hcell
          have hnb := numC_bd ee he8
          have hnum := journal_number.calls 20 ee (numC ee) wr (numC_some ee (by omega))
          obtain ⟨nc, hnc⟩ : ∃ nc, numC ee = nc := ⟨_, rfl⟩
          rw [hnc] at hnb hnum
          have HNX := Aside0.mk (And.intro hnext (And.intro hnc (And.intro hbd hnb)))
          clear hcell hnext hnc hbd hnb
          go_wp2_with fail
          refine hnum.mono ?_
          rintro e w7 ⟨rfl, hdr⟩
          have hb7 : Below wr.heap.size wr w7 := hdr.below
          have HO7 := Aside0.mk (HOI.out.grow hb7)
          have HR7 := Aside0.mk (HRI.out.below hb7)
          clear hnum hdr hb7 HOI HRI cE
          obtain ⟨nx, hnx⟩ : ∃ nx, nxOf n0 ea eb i = nx := ⟨_, rfl⟩
          rw [hnx] at HNX HO7
          have hnb := HNX.out.2.2.2
          have hbd := HNX.out.2.2.1
          by_cases hle : nc ≤ 4611686018427387904
          · have dl : decide (nc ≤ 4611686018427387904) = true := decide_eq_true hle
            have hbu : bump nx ee = max nx (nc + 1) := by unfold bump; rw [HNX.out.2.1, if_pos hle]
            have hw1 : IntKind.i64.wrap nc = nc := by rw [IntKind.wrap_i64]; omega
            have hw2 : IntKind.i64.wrap (nc + 1) = nc + 1 := by rw [IntKind.wrap_i64]; omega
            have k4 := HO7.out.jour.cell 4 rfl
            have f4 := HO7.out.jour.frozen 4
            have kb := HO7.out.box.cell 0 rfl
            have HBU := Aside0.mk hbu
            have HLE := Aside0.mk hle
            clear hbu hnb hbd hle
            go_wp2_with fail
            go_still_tail 11, (by kernel_rfl)
            go_wp2
            all_goals (
              go_roundg (2 - (i + 1))
              case measure => omega
              case rel =>
                refine ⟨i + 1, by omega, by omega, by go_num, ⟨?_⟩, ⟨?_⟩⟩
                · rw [HNX.out.1, HBU.out]
                  first
                  | (rw [Int.max_eq_left (by omega)]; exact (HO7.out.next _).grow (Below.refl _ _).drew)
                  | (rw [Int.max_eq_right (by omega)]; exact (HO7.out.next _).grow (Below.refl _ _).drew)
                · exact (HR7.out.far (by have := HO7.out.size; have := HSZW.out; show w5.heap.size ≠ w1.heap.size; omega) _).drew)
          · have dl : decide (nc ≤ 4611686018427387904) = false := decide_eq_false hle
            have hbu : bump nx ee = nx := by unfold bump; rw [HNX.out.2.1, if_neg hle]
            have HBU := Aside0.mk hbu
            clear hbu hnb hbd hle
            go_wp2
            go_roundg (2 - (i + 1))
            case measure => omega
            case rel =>
              refine ⟨i + 1, by omega, by omega, by go_num, ?_, HR7⟩
              rw [HNX.out.1, HBU.out]
              exact HO7
        · have hltz2 : ¬ (i : Int) < 2 := by omega
          obtain rfl : i = 2 := by omega
          have hnx2 : nxOf n0 ea eb 2 = nextOf ((texts D).take (k + 1)) := by
            rw [List.take_add_one, HG.out]
            show _ = nextOf ((texts D).take k ++ [t])
            rw [nextOf_snoc, HE.out.2.2]
            unfold bumps nxOf
            rw [HE.out.1, HE.out.2.1]
            rfl
          rw [hnx2] at HOI
          clear hnx2
          have ka := HOI.out.all.cell 0 rfl
          have fa := HOI.out.all.frozen 0
          obtain ⟨W0, hW0⟩ : ∃ W0 : World, wr = W0 := ⟨_, rfl⟩
          have HROW := Aside0.mk HOI.out.row
          have HTL := Aside0.mk (show ((texts D).take k).length ≤ 4096 by rw [List.length_take]; omega)
          have HBL := Aside0.mk (show (w1.heap.size + 3) ≤ wr.heap.size from HOI.out.size)
          clear hW0
          have HALL := Aside0.mk HOI.out.all
          have HLK := Aside0.mk (show ((texts D).take k ++ [t]).length = k + 1 by rw [List.length_append, List.length_take, List.length_singleton]; unfold texts; rw [List.length_map]; omega)
          go_wp2_with (first | ((with_reducible refine gate_builtin (b := .append) (xs := #[.tmp 66, .tmp 68]) rfl ?_); at_builtin; refine Kd.R_append Kd.string (w0 := wr) (w1.heap.size + 3) rfl (.tmp 66) (.tmp 68) 38 9 (.string ⟨#[]⟩) 16 rfl Tryd.underlying38 infoStr rfl (by decide) (by omega) v ((texts D).take k) t [.string t] (fun b => w1.heap.size + 3 ≤ b) (fun _ => False) rfl rfl ?aP (fun _ hk => hk.elim) ?aF ?aO ?aB ?aS ?aL ?_; (case aP => exact rfl); (case aF => exact fun _ hk => Nat.le_trans HBL.out hk); (case aO => exact HROW.out); (case aB => exact Below.refl _ _); (case aS => exact HBL.out); (case aL => have := HTL.out; omega); intro v1 w3 ho hb hg hat; obtain ⟨gA, capA, rfl⟩ := row_form (Kd.own_of_R ho) (by simp); rw [HLK.out] at ho; have hA3 : Blk w3 (w1.heap.size + 2) [v] := (by obtain ⟨tt, hh⟩ := HALL.out; exact ⟨tt, (hb.block _ (by omega)).trans hh⟩); have ka3 := hA3.cell 0 rfl; have fa3 := hA3.frozen 0; have HO3 := Aside0.mk ho; have HB3 := Aside0.mk hb; have HA3 := Aside0.mk hA3; clear ho hb hg hat hA3))
          go_roundg (2 * half - (k + 1))
          case measure => omega
          case rel =>
            have htk : (texts D).take (k + 1) = (texts D).take k ++ [t] := by rw [List.take_add_one, HG.out]; rfl
            have hO := HOI.out
            have hB := HB3.out
            have hq : ∀ {b : Nat} {cs : List Value}, b < w1.heap.size + 3 → Blk wr b cs → Blk w3 b cs := fun hlt3 hh => by obtain ⟨tt, hh⟩ := hh; exact ⟨tt, (hB.block _ hlt3).trans hh⟩
            have hs3 := hB.size
            have hb1 : Below w1.heap.size w1 w3 := hO.below.trans (hB.mono (by omega))
            refine ⟨k + 1, _, by omega, by omega, by go_num, ⟨⟨(hq (by omega) hO.jour).far (by show w1.heap.size ≠ w1.heap.size + 1 + 1; omega) _, (hq (by omega) hO.box).far (by show w1.heap.size + 1 ≠ w1.heap.size + 1 + 1; omega) _, HA3.out.set 0 _, ?_, ?_, ?_⟩⟩, ⟨?_⟩⟩
            · rw [htk, show min k (texts D).length = k by unfold texts; rw [List.length_map]; omega]
              exact Kd.R_far (p := ⟨w1.heap.size + 2, 0, none⟩) HO3.out (fun b hb => by show b ≠ w1.heap.size + 2; omega) _
            · exact (Mod.setCell (S := fun b => w1.heap.size ≤ b) (Mod.of_below hb1) (.inl (by show w1.heap.size ≤ w1.heap.size + 2; omega)) _).toBelow (Nat.le_refl _) (fun b hb => hb)
            · have hO2 := hO.size
              rw [show ∀ p u, (w3.setCell p u).heap.size = w3.heap.size from fun p u => by simp [World.setCell]]
              omega
            · rw [htk, nextOf_snoc, HE.out.2.2]
              have h1 := bump_bd (t.extract 0 8) HN.out.1 HN.out.2
              exact bump_bd (t.extract 56 64) h1.1 h1.2
    · have hltz : ¬ (k : Int) < 2 * (half : Int) := by omega
      obtain rfl : k = 2 * half := by omega
      obtain ⟨all, hall⟩ : ∃ all, (texts D).take (2 * half) = all := ⟨_, rfl⟩
      have hal : all.length = 2 * half := by rw [← hall, List.length_take]; unfold texts; rw [List.length_map]; omega
      rw [hall] at HO HN
      obtain ⟨gA, cA, rfl⟩ := row_form (Kd.own_of_R HO.out.row) (by omega)
      have hC := fun W hk => Kd.C_kept_own (S := fun _ => False) HO.out.row (fun b _ z => z) W hk
      have kb := HO.out.box.cell 0 rfl
      have k1 := HO.out.jour.cell 1 rfl
      have ka := HO.out.all.cell 0 rfl
      have hz : ¬ (half : Int) = 0 := by omega
      obtain ⟨-, hcapA, hrowA⟩ := Kd.R_reads' HO.out.row
      have hf1 := first_calls (w := wr) (w1.heap.size + 1 + 1) (w1.heap.size + 1) w1.heap.size (some ⟨gA, 0, none⟩) cA all half 1 ka hrowA hcapA kb k1 hal (by omega) (by omega) (by omega)
      rw [show ((1 : Nat) : Int) = 1 from rfl] at hf1
      go_wp2_with fail
      refine hf1.mono ?_
      rintro e w8 ⟨rfl, hb8⟩
      have HO8 := Aside0.mk (HO.out.grow hb8)
      clear hf1 hb8 kb k1 ka hrowA hC
      obtain ⟨-, -, hrowB⟩ := Kd.R_reads' HO8.out.row
      have hf0 := first_calls (w := w8) (w1.heap.size + 1 + 1) (w1.heap.size + 1) w1.heap.size (some ⟨gA, 0, none⟩) cA all half 0 (HO8.out.all.cell 0 rfl) hrowB hcapA (HO8.out.box.cell 0 rfl) (HO8.out.jour.cell 1 rfl) hal (by omega) (by omega) (by omega)
      rw [show ((0 : Nat) : Int) = 0 from rfl] at hf0
      go_wp2_with fail
      refine hf0.mono ?_
      rintro e w9 ⟨rfl, hb9⟩
      have HO9 := Aside0.mk (HO8.out.grow hb9)
      clear hf0 hb9 hrowB
      obtain ⟨fa, hfa⟩ : ∃ fa, firstOf (bankOf all half 0) = fa := ⟨_, rfl⟩
      obtain ⟨fb, hfb⟩ : ∃ fb, firstOf (bankOf all half 1) = fb := ⟨_, rfl⟩
      rw [hfa, hfb]
      have HF := Aside0.mk (And.intro hfa hfb)
      clear hfa hfb
      obtain ⟨PS, hPS⟩ : ∃ PS : Nat → World → Prop, PS = fun bk w' => (∃ lv', JourRep w' w1.heap.size bd bm bs c lv' (takeOf { half := half, bank := 0, used := 0, next := nextOf all, l := [], spoiled := false, closed := false } bk (bankRecs (bankOf all half bk))) D) ∧ Mod (fun k => k = w1.heap.size) w9.drew w' := ⟨_, rfl⟩
      have htake : ∀ bk, bk ≤ 1 → Calls Tryd.prog 34 #[.pointer (some ⟨w1.heap.size, 0, none⟩), .int .i64 (bk : Nat), .slice (some ((⟨gA, 0, none⟩ : Addr).add (bk * half))) half (cA - bk * half)] w9.drew fun e w' => e = .returned (.tuple #[]) ∧ PS bk w' ∧ w'.cell? ⟨w1.heap.size + 1 + 1, 0, none⟩ = some (.slice (some ⟨gA, 0, none⟩) all.length cA) ∧ w'.cell? ⟨w1.heap.size + 1, 0, none⟩ = some (.pointer (some ⟨w1.heap.size, 0, none⟩)) ∧ w'.cell? ⟨w1.heap.size, 1, none⟩ = some (.int .i64 half) := by
        intro bk hbk
        refine (take_bank H.out HO9.out hal hcapA (by omega) (by omega) bk hbk).mono ?_
        rintro e w' ⟨he, ⟨lv', hj⟩, hm⟩
        refine ⟨he, by rw [hPS]; exact ⟨⟨lv', hj⟩, hm⟩, ?_, ?_, hj.jour.cell 1 rfl⟩
        · exact (HO9.out.all.drew.mod hm (by omega)).cell 0 rfl
        · exact (HO9.out.box.drew.mod hm (by omega)).cell 0 rfl
      have kb9 := HO9.out.box.cell 0 rfl
      have k19 := HO9.out.jour.cell 1 rfl
      have ka9 := HO9.out.all.cell 0 rfl
      have hzN : ¬ half = 0 := by omega
      have hwh : IntKind.i64.wrap (half : Int) = (half : Int) := by rw [IntKind.wrap_i64]; omega
      have hw2 : IntKind.i64.wrap (2 * (half : Int)) = 2 * (half : Int) := by rw [IntKind.wrap_i64]; omega
      have hw3 : IntKind.i64.wrap ((1 + 1) : Int) = 2 := by decide
      have hw4 : IntKind.i64.wrap (2 : Int) = 2 := by decide
      by_cases hgt : fa < fb
      · have dl : decide (fa < fb) = true := decide_eq_true hgt
        have ht := htake 1 (Nat.le_refl _)
        rw [show ((1 : Nat) : Int) = 1 from rfl, Nat.one_mul, add_plain] at ht
        have e1 : (half : Int) ≤ 2 * (half : Int) := by omega
        have e2 : 2 * (half : Int) ≤ (cA : Int) := by omega
        have e3 : half ≤ 2 * half := by omega
        have e4 : 2 * half ≤ cA := by omega
        have HPS := Aside0.mk (And.intro hPS hgt)
        clear htake hPS hgt
        go_wp2_with fail
        have hB0 : w9.drew.cell? ⟨w1.heap.size + 1 + 1, 0, none⟩ = some (.slice (some ⟨gA, 0, none⟩) all.length cA) ∧ w9.drew.cell? ⟨w1.heap.size + 1, 0, none⟩ = some (.pointer (some ⟨w1.heap.size, 0, none⟩)) ∧ w9.drew.cell? ⟨w1.heap.size, 1, none⟩ = some (.int .i64 half) := ⟨ka9, kb9, k19⟩
        go_region_held3 (fun W' => W'.cell? ⟨w1.heap.size + 1 + 1, 0, none⟩ = some (.slice (some ⟨gA, 0, none⟩) all.length cA) ∧ W'.cell? ⟨w1.heap.size + 1, 0, none⟩ = some (.pointer (some ⟨w1.heap.size, 0, none⟩)) ∧ W'.cell? ⟨w1.heap.size, 1, none⟩ = some (.int .i64 half)) (go_keep) (first | (go_at_call 34; rw [if_neg (by omega : ¬ cA = half), show (2 * (half : Int)).toNat - half = half by omega]; refine ht.mono ?_; rintro e w3 ⟨rfl, hps, q1, q2, q3⟩))
        go_wp2_with fail
        go_ret2
        obtain ⟨hPS, hgt⟩ := HPS.out
        rw [hPS] at hps
        obtain ⟨⟨lv', hj⟩, hm⟩ := hps
        refine ⟨_, lv', rfl, Nat.le_refl _, ?_, ?_⟩
        · rw [openOf_eq hh2 hall 1 (by rw [HF.out.1, HF.out.2, if_pos hgt])]
          exact hj
        · exact HO9.out.below.drew.trans (hm.toBelow (by have := HO9.out.size; show _ ≤ w9.heap.size; omega) (fun k hk => by omega))
      · have dl : decide (fa < fb) = false := decide_eq_false hgt
        have ht := htake 0 (by omega)
        rw [show ((0 : Nat) : Int) = 0 from rfl, Nat.zero_mul, add_plain, Nat.sub_zero] at ht
        have e1 : (half : Int) ≤ 2 * (half : Int) := by omega
        have hw5 : IntKind.i64.wrap (0 : Int) = 0 := by decide
        have hw6 : IntKind.i64.wrap (1 : Int) = 1 := by decide
        have hw7 : IntKind.i64.wrap ((0 : Int) * (half : Int)) = 0 := by rw [Int.zero_mul]; decide
        have hw8 : IntKind.i64.wrap ((1 : Int) * (half : Int)) = half := by rw [Int.one_mul]; exact hwh
        have hw9 : IntKind.i64.wrap ((0 : Int) + 1) = 1 := by decide
        have e2 : (half : Int) ≤ (cA : Int) := by omega
        have e5 : (0 : Int) ≤ (half : Int) := by omega
        have e6 : ¬ cA = 0 := by omega
        have e3 : half ≤ 2 * half := by omega
        have e4 : half ≤ cA := by omega
        have HPS := Aside0.mk (And.intro hPS hgt)
        clear htake hPS hgt
        go_wp2_with fail
        have hB0 : w9.drew.cell? ⟨w1.heap.size + 1 + 1, 0, none⟩ = some (.slice (some ⟨gA, 0, none⟩) all.length cA) ∧ w9.drew.cell? ⟨w1.heap.size + 1, 0, none⟩ = some (.pointer (some ⟨w1.heap.size, 0, none⟩)) ∧ w9.drew.cell? ⟨w1.heap.size, 1, none⟩ = some (.int .i64 half) := ⟨ka9, kb9, k19⟩
        go_region_held3 (fun W' => W'.cell? ⟨w1.heap.size + 1 + 1, 0, none⟩ = some (.slice (some ⟨gA, 0, none⟩) all.length cA) ∧ W'.cell? ⟨w1.heap.size + 1, 0, none⟩ = some (.pointer (some ⟨w1.heap.size, 0, none⟩)) ∧ W'.cell? ⟨w1.heap.size, 1, none⟩ = some (.int .i64 half)) (go_keep) (first | (go_at_call 34; refine ht.mono ?_; rintro e w3 ⟨rfl, hps, q1, q2, q3⟩))
        go_wp2_with fail
        go_ret2
        obtain ⟨hPS, hgt⟩ := HPS.out
        rw [hPS] at hps
        obtain ⟨⟨lv', hj⟩, hm⟩ := hps
        refine ⟨_, lv', rfl, Nat.le_refl _, ?_, ?_⟩
        · rw [openOf_eq hh2 hall 0 (by rw [HF.out.1, HF.out.2, if_neg (Int.not_lt.2 hgt)])]
          exact hj
        · exact HO9.out.below.drew.trans (hm.toBelow (by have := HO9.out.size; show _ ≤ w9.heap.size; omega) (fun k hk => by omega))
end Go.Proofs.YtcdgbdojopfkgaaDoor.P
