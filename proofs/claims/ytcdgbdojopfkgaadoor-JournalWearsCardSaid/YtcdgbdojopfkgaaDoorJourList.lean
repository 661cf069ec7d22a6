/- journal.Open$1: the number of a bank's first record. -/
import Derived.Test.YtcdgbdojopfkgaaDoorJourRecs
import Derived.Test.YtcdgbdojopfkgaaDoorRangeLay
import Derived.Maps.AppendAt
import Derived.Lib.Hide
import Derived.BigQuiet
import Derived.Test.YtcdgbdojopfkgaaDoorJourComp
namespace Go.Proofs.YtcdgbdojopfkgaaDoor.P
open Go.RowKit Go.Proofs.YtcdgbdojopfkgaaDoorW.PrintWords Go.Proofs.YtcdgbdojopfkgaaDoorW.PrintMore
attribute [local go_sem] Oper.semAt_some max2_int min2_int max_two min_two

/-- The sectors of a bank. -/
def bankOf (all : List ByteArray) (half bank : Nat) : List ByteArray := (all.take ((bank + 1) * half)).drop (bank * half)
/-- The number of a bank's first record, or 0. -/
def firstOf (l : List ByteArray) : Int := match recNext l (0, 0) with
  | some x => x.2.1
  | none => 0
set_option maxRecDepth 100000 in
set_option maxHeartbeats 4000000 in
theorem first_calls {w : World} (ba bp bj : Nat) (A : Option Addr) (c : Nat) (all : List ByteArray) (half bank : Nat)
    (h1 : w.cell? ⟨ba, 0, none⟩ = some (.slice A all.length c)) (h2 : Kd.C Kd.string w A all.length all) (h3 : all.length ≤ c) (h4 : w.cell? ⟨bp, 0, none⟩ = some (.pointer (some ⟨bj, 0, none⟩))) (h5 : w.cell? ⟨bj, 1, none⟩ = some (.int .i64 half))
    (h6 : all.length = 2 * half) (h7 : half ≤ 2048) (h8 : 1 ≤ half) (hbk : bank ≤ 1) :
    Calls Tryd.prog 32 #[.int .i64 bank, .pointer (some ⟨ba, 0, none⟩), .pointer (some ⟨bp, 0, none⟩)] w fun e w' => e = .returned (.int .i64 (firstOf (bankOf all half bank))) ∧ Below w.heap.size w w' := by
  have hro : Fence.wide.round = none := rfl
  obtain ⟨seg, hseg⟩ : ∃ seg, bankOf all half bank = seg := ⟨_, rfl⟩
  rw [hseg]
  have HSEG := Aside0.mk hseg
  clear hseg
  obtain ⟨lo, hlo⟩ : ∃ lo : Nat, bank * half = lo := ⟨_, rfl⟩
  obtain ⟨hi, hhi⟩ : ∃ hi : Nat, (bank + 1) * half = hi := ⟨_, rfl⟩
  have hlh : lo + half = hi := by rw [← hlo, ← hhi, Nat.add_mul, Nat.one_mul]
  have hle : hi ≤ all.length := by rw [h6, ← hhi]; exact Nat.mul_le_mul (by omega) (Nat.le_refl _)
  have hw1 : IntKind.i64.wrap ((bank : Int) * (half : Int)) = (lo : Int) := by rw [IntKind.wrap_i64, ← Int.natCast_mul, hlo]; omega
  have hw2 : IntKind.i64.wrap ((bank : Int) + 1) = ((bank + 1 : Nat) : Int) := by rw [IntKind.wrap_i64]; omega
  have hw3 : IntKind.i64.wrap (((bank + 1 : Nat) : Int) * (half : Int)) = (hi : Int) := by rw [IntKind.wrap_i64, ← Int.natCast_mul, hhi]; omega
  obtain ⟨b1, hb1⟩ : ∃ b1 : Int, ((bank + 1 : Nat) : Int) = b1 := ⟨_, rfl⟩
  rw [hb1] at hw2 hw3
  have e1 : (0 : Int) ≤ (lo : Int) := by omega
  have e2 : (lo : Int) ≤ (hi : Int) := by omega
  have e3 : (hi : Int) ≤ (c : Int) := by omega
  have e4 : lo ≤ hi := by omega
  have e5 : hi ≤ c := by omega
  have e6 : ¬ c = lo := by omega
  have e7 : ¬ c - lo = 0 := by omega
  have e8 : ¬ c ≤ lo := by omega
  have hl1 := World.block_lt_of_cell? w _ h1
  have hl4 := World.block_lt_of_cell? w _ h4
  have hl5 := World.block_lt_of_cell? w _ h5
  have n1 := World.new_ne w ⟨ba, 0, none⟩ h1
  have n4 := World.new_ne w ⟨bp, 0, none⟩ h4
  have n5 := World.new_ne w ⟨bj, 1, none⟩ h5
  have hmid := Kd.C_mid (c := c) h2 e4 hle h3
  rw [if_neg e6, show lo * Kd.string.sz = lo from Nat.mul_one lo] at hmid
  have HMID := Aside0.mk hmid
  have HH := Aside0.mk (And.intro h6 (And.intro h7 (And.intro h8 (And.intro hbk (And.intro hlo (And.intro hhi (And.intro hlh (And.intro hle (And.intro h3 (And.intro h2 hb1))))))))))
  clear hmid h2 h3 h6 h7 h8 hbk hlo hhi hlh hle hb1
  refine (callsIn_wide (n := 5)).1 ?_
  refine callsIn_of_wp_marks Tryd.func32 rfl trivial ?_ hro
  simp only [Tryd.ntmps32, List.size_toArray, List.length_cons, List.length_nil, Nat.reduceAdd, Nat.reduceSub, Array.replicate_succ, Array.replicate_zero, List.push_toArray, List.append_toArray, List.nil_append, List.cons_append]
  gi_wp2_with fail
  obtain ⟨w1, hw1'⟩ : ∃ w1, w.alloc (.cells #[.int .i64 0] 3 (0, 0)) = w1 := ⟨_, rfl⟩
  have hbl := Blk.new w #[.int .i64 0] 3
  have hb1 := below_alloc (Below.refl w.heap.size w) (.cells #[.int .i64 0] 3 (0, 0))
  have hsz : (w.alloc (.cells #[.int .i64 0] 3 (0, 0))).heap.size = w.heap.size + 1 := by simp
  rw [hw1'] at hbl hb1 hsz ⊢
  clear hw1'
  have k1 := (hb1.cell (p := ⟨ba, 0, none⟩) hl1).trans h1
  have k4 := (hb1.cell (p := ⟨bp, 0, none⟩) hl4).trans h4
  have k5 := (hb1.cell (p := ⟨bj, 1, none⟩) hl5).trans h5
  have n1 := World.new_ne w1 ⟨ba, 0, none⟩ k1
  have n4 := World.new_ne w1 ⟨bp, 0, none⟩ k4
  have n5 := World.new_ne w1 ⟨bj, 1, none⟩ k5
  have HB := Aside0.mk (And.intro hbl (And.intro hb1 hsz))
  clear hbl hb1 hsz h1 h4 h5 hl1 hl4 hl5
  refine wpIn_wide.2 ?_
  have hB0 : w1.drew.cell? ⟨ba, 0, none⟩ = some (.slice A all.length c) ∧ w1.drew.cell? ⟨bp, 0, none⟩ = some (.pointer (some ⟨bj, 0, none⟩)) ∧ w1.drew.cell? ⟨bj, 1, none⟩ = some (.int .i64 half) := ⟨k1, k4, k5⟩
  go_region_held3 (fun W' => W'.cell? ⟨ba, 0, none⟩ = some (.slice A all.length c) ∧ W'.cell? ⟨bp, 0, none⟩ = some (.pointer (some ⟨bj, 0, none⟩)) ∧ W'.cell? ⟨bj, 1, none⟩ = some (.int .i64 half)) (go_keep) (first | (go_at_call 33; refine (records_calls _ _ _ _).mono ?_; rintro e w' ⟨rfl, rfl⟩))
  obtain ⟨w3, hw3'⟩ : ∃ w3, (w1.alloc (.cells #[.slice (A.map (fun x => x.add lo)) (hi - lo) (c - lo)] 38 (0, 0))).drew = w3 := ⟨_, rfl⟩
  obtain ⟨hbl, hb1, hsz⟩ := HB.out
  have hbx : Blk w3 w1.heap.size [.slice (A.map (fun x => x.add lo)) (hi - lo) (c - lo)] := by rw [← hw3']; exact (Blk.new w1 _ _).drew
  have hrc : Blk w3 w.heap.size [.int .i64 0] := by rw [← hw3']; exact (hbl.alloc _).drew
  have hm3 : Mod (fun _ => False) w w3 := by rw [← hw3']; exact ((Mod.of_below hb1).alloc _).drew
  have hsz3 : w3.heap.size = w.heap.size + 2 := by rw [← hw3']; simp [World.drew, hsz]
  rw [hw3']
  rw [hsz] at hbx ⊢
  clear hw3' hb1 hbl hB0 k1 k4 k5 n1 n4 n5 HB hw1 hw2 hw3
  obtain ⟨h6, h7, h8, hbk, hlo, hhi, hlh, hle, h3, h2, hb1⟩ := HH.out
  have hseg : (all.take hi).drop lo = seg := by rw [← HSEG.out]; unfold bankOf; rw [hlo, hhi]
  have hsegl : seg.length = hi - lo := by rw [← hseg, List.length_drop, List.length_take]; omega
  have hrow : Kd.C Kd.string w (A.map (fun x => x.add lo)) seg.length seg := by rw [← hseg]; exact HMID.out
  have hkeep : ∀ W, Mod (fun _ => False) w W → Kd.C Kd.string W (A.map (fun x => x.add lo)) seg.length seg := fun W hm => Kd.C_kept_came Kd.heap_string hrow (Below.refl _ _) (fun k z => z.elim) W hm.kept
  rw [← hsegl] at hbx ⊢
  have hs4 : seg.length ≤ 4096 := by omega
  have hcap : seg.length ≤ c - lo := by omega
  clear h2 hseg hlo hhi hrow
  clear hb1 h6 h7 h8 h3 hlh hle hsegl hbk
  gi_wp2_with fail
  refine wpIn_range_lay hro (by omega) (gf := 54) (lb := #[.pointer (some ⟨w.heap.size + 1, 0, none⟩)]) rfl trivial (enters_of Tryd.func54 (by kernel_rfl) rfl) (fun _ => rfl)
    (fun (s : Nat × Int) W => s = (0, 0) ∧ Blk W (w.heap.size + 1) [.slice (A.map (fun x => x.add lo)) seg.length (c - lo)] ∧ Blk W w.heap.size [.int .i64 0] ∧ Mod (fun _ => False) w W)
    (fun cd _ W => cd = .ret ∧ Blk W w.heap.size [.int .i64 (firstOf seg)] ∧ Mod (fun _ => False) w W)
    (fun _ _ _ hi ht => ⟨hi.1, hi.2.1.turn ht, hi.2.2.1.turn ht, hi.2.2.2.turn (ht.mono (by omega))⟩) (fun _ _ _ _ hi ht => ⟨hi.1, hi.2.1.turn ht, hi.2.2.turn (ht.mono (by omega))⟩)
    (0, 0) ⟨rfl, hbx, hrc, hm3⟩
    (records1_iter (5 - 1) (by omega) id (fun _ x => (x.1, x.2.1)) _ _ (c - lo) seg _ (0, 0) w3 (fun _ _ hi => ⟨hi.2.1, hkeep _ hi.2.2.2, hcap⟩) (fun _ _ => rfl) rfl hs4)
    (fun s x a' W => s = (0, 0) ∧ (∃ g : Nat, a' = { tmps := #[.int .i64 bank, .pointer (some ⟨ba, 0, none⟩), .pointer (some ⟨bp, 0, none⟩), undef, .pointer (some ⟨w.heap.size, 0, none⟩), undef, .pointer (some ⟨g, 0, none⟩), .slice A all.length c, .int .i64 bank, .pointer (some ⟨bj, 0, none⟩), .pointer (some ⟨bj, 0, none⟩), .pointer (some ⟨bj, 1, none⟩), .int .i64 half, .int .i64 lo, .int .i64 bank, .int .i64 b1, .pointer (some ⟨bj, 0, none⟩), .pointer (some ⟨bj, 0, none⟩), .pointer (some ⟨bj, 1, none⟩), .int .i64 half, .int .i64 hi, .slice (A.map (fun x => x.add lo)) seg.length (c - lo), .func (.func 54) #[] #[.pointer (some ⟨w.heap.size + 1, 0, none⟩)], .int .i64 x.1, .agg #[.int .i64 x.2.1, .string x.2.2], undef, undef], defers := [] } ∧ g ≠ w.heap.size ∧ Blk W g [.int .i64 x.2.1, .string x.2.2]) ∧ Blk W w.heap.size [.int .i64 0] ∧ Mod (fun _ => False) w W)
    (fun _ _ _ _ _ hi ht => ⟨hi.1, by obtain ⟨g, h1, h2, h3⟩ := hi.2.1; exact ⟨g, h1, h2, h3.turn ht⟩, hi.2.2.1.turn ht, hi.2.2.2.turn (ht.mono (by omega))⟩) ?assign ?body ?done ?stop
  case assign =>
    rintro l2 s x W K ⟨hs, hbx, hrc, hm⟩ hmay hK
    have hK2 := hK { tmps := #[.int .i64 bank, .pointer (some ⟨ba, 0, none⟩), .pointer (some ⟨bp, 0, none⟩), undef, .pointer (some ⟨w.heap.size, 0, none⟩), undef, .pointer (some ⟨W.heap.size, 0, none⟩), .slice A all.length c, .int .i64 bank, .pointer (some ⟨bj, 0, none⟩), .pointer (some ⟨bj, 0, none⟩), .pointer (some ⟨bj, 1, none⟩), .int .i64 half, .int .i64 lo, .int .i64 bank, .int .i64 b1, .pointer (some ⟨bj, 0, none⟩), .pointer (some ⟨bj, 0, none⟩), .pointer (some ⟨bj, 1, none⟩), .int .i64 half, .int .i64 hi, .slice (A.map (fun x => x.add lo)) seg.length (c - lo), .func (.func 54) #[] #[.pointer (some ⟨w.heap.size + 1, 0, none⟩)], .int .i64 x.1, .agg #[.int .i64 x.2.1, .string x.2.2], undef, undef], defers := [] } (W.alloc (.cells #[.int .i64 x.2.1, .string x.2.2] 62 (0, 0)))
      ⟨hs, ⟨W.heap.size, rfl, by have := hrc.lt; omega, Blk.new W _ _⟩, hrc.alloc _, hm.alloc _⟩ (below_alloc (Below.refl _ _) _)
    have HK := Aside0.mk hK2
    clear hK hK2 hs hbx hrc hm hmay
    gi_wp2
    exact HK.out
  case body =>
    rintro l2 s x a' W ⟨rfl, ⟨g, rfl, hne, hg⟩, hrc, hm⟩ hmay
    have c0 := hg.cell 0 rfl
    have c4 := hrc.cell 0 rfl
    have f4 := hrc.frozen 0
    replace hmay : recNext seg (0, 0) = some x := hmay
    have hfirst : firstOf seg = x.2.1 := by unfold firstOf; rw [hmay]
    have HX := Aside0.mk (And.intro hrc (And.intro hm hfirst))
    clear hrc hm hmay hfirst hg
    gi_wp2
    have hm2 : Mod (fun k => k = w.heap.size) W (W.setCell ⟨w.heap.size, 0, none⟩ (.int .i64 x.2.1)) := (Mod.refl (fun k => k = w.heap.size) W).at_ rfl _ _
    exact ⟨hm2.others (fun k hk => by subst hk; exact ⟨_, HX.out.1⟩), rfl, by rw [HX.out.2.2]; exact HX.out.1.set 0 _, HX.out.2.1.setCell (.inr (Nat.le_refl _)) _⟩
  case done =>
    rintro D s W hD hf ⟨rfl, hbx, hrc, hm⟩ hK
    replace hf : recNext seg (0, 0) = none := hf
    have hfirst : firstOf seg = 0 := by unfold firstOf; rw [hf]
    have c4 := hrc.cell 0 rfl
    have f4 := hrc.frozen 0
    have HX := Aside0.mk (And.intro hrc (And.intro hm (And.intro hfirst hK)))
    clear hrc hm hK hbx hf hfirst
    gi_wp2
    have hb := HX.out.1.set 0 (.int .i64 0)
    have hm := HX.out.2.1.setCell (p := ⟨w.heap.size, 0, none⟩) (.inr (Nat.le_refl _)) (.int .i64 0)
    have hK := (Below.heap_setCell W ⟨w.heap.size, 0, none⟩ (.int .i64 0) D (by show D ≠ w.heap.size; omega)).trans HX.out.2.2.2
    rw [HX.out.2.2.1]
    generalize W.setCell ⟨w.heap.size, 0, none⟩ (.int .i64 0) = W2 at hb hm hK ⊢
    have ht : Turn w.heap.size W2 (W2.putObj D (.deferred none)) := Turn.putObj _ (by omega) hK rfl
    have cc := (hb.turn ht).cell 0 rfl
    have hm2 := (hm.turn ht).toBelow (Nat.le_refl _) (fun k z => z.elim)
    refine ⟨by simp, .inl ⟨_, _, rfl, run_takeDeferred hK, ?_⟩⟩
    generalize W2.putObj D (.deferred none) = W3 at cc hm2 ⊢
    refine ⟨.int .i64 0, ?_, rfl, hm2⟩
    simp [results, Tryd.f32, go_sem, cc]
  case stop =>
    rintro D cd s W hD ⟨rfl, hrc, hm⟩ hK
    have c4 := hrc.cell 0 rfl
    have HX := Aside0.mk (And.intro hrc (And.intro hm hK))
    clear hrc hm hK
    gi_wp2
    have hb := HX.out.1
    have hm := HX.out.2.1
    have hK := HX.out.2.2
    have ht : Turn w.heap.size W (W.putObj D (.deferred none)) := Turn.putObj _ (by omega) hK rfl
    have cc := (hb.turn ht).cell 0 rfl
    have hm2 := (hm.turn ht).toBelow (Nat.le_refl _) (fun k z => z.elim)
    refine ⟨by simp, .inl ⟨_, _, rfl, run_takeDeferred hK, ?_⟩⟩
    generalize W.putObj D (.deferred none) = W3 at cc hm2 ⊢
    refine ⟨.int .i64 (firstOf seg), ?_, rfl, hm2⟩
    simp [results, Tryd.f32, go_sem, cc]
end Go.Proofs.YtcdgbdojopfkgaaDoor.P

/- journal.take: the records of a bank become those of the journal. -/
namespace Go.Proofs.YtcdgbdojopfkgaaDoor.P
open Go.RowKit Go.Proofs.YtcdgbdojopfkgaaDoorW.PrintWords Go.Proofs.YtcdgbdojopfkgaaDoorW.PrintMore
attribute [local go_sem] Oper.semAt_some max2_int min2_int max_two min_two

abbrev Rec := Nat × Int × ByteArray
def posOf (s : List Rec) : Nat × Int := match s.getLast? with
  | some x => (x.1, x.2.1)
  | none => (0, 0)
theorem posOf_snoc (s : List Rec) (x : Rec) : posOf (s ++ [x]) = (x.1, x.2.1) := by unfold posOf; rw [List.getLast?_concat]
/-- The records of a bank, and how many sectors they take. -/
def bankRecs (seg : List ByteArray) : List Rec := recsC seg (seg.length + 1) (0, 0)
def Going (seg : List ByteArray) (s : List Rec) : Prop := (∀ f, recsC seg (f + s.length) (0, 0) = s ++ recsC seg f (posOf s)) ∧ s.length ≤ (posOf s).1 ∧ (posOf s).1 ≤ seg.length
theorem Going.start (seg : List ByteArray) : Going seg [] := ⟨fun _ => rfl, Nat.le_refl _, Nat.zero_le _⟩
theorem Going.step {seg : List ByteArray} {s : List Rec} {x : Rec} (h : Going seg s) (hx : recNext seg (posOf s) = some x) : Going seg (s ++ [x]) := by
  obtain ⟨h1, h2, h3⟩ := h
  have hl := recNext_lt hx
  refine ⟨fun f => ?_, ?_, ?_⟩
  · have := h1 (f + 1)
    rw [List.length_append, List.length_singleton, posOf_snoc, show f + (s.length + 1) = f + 1 + s.length by omega, this, List.append_assoc]
    congr 1
    rw [recsC, hx]
    rfl
  · rw [List.length_append, List.length_singleton, posOf_snoc]
    show _ ≤ x.1
    omega
  · rw [posOf_snoc]
    exact hl.2.1
theorem Going.done {seg : List ByteArray} {s : List Rec} (h : Going seg s) (hx : recNext seg (posOf s) = none) : bankRecs seg = s := by
  obtain ⟨h1, h2, h3⟩ := h
  have := h1 (seg.length - s.length + 1)
  rw [show seg.length - s.length + 1 + s.length = seg.length + 1 by omega] at this
  unfold bankRecs
  rw [this, recsC, hx, List.append_nil]
def recEnt (x : Rec) : Int × ByteArray := (x.2.1, x.2.2)
/-- The journal that take leaves. -/
def takeOf (J : Jour) (bank : Nat) (s : List Rec) : Jour := { J with bank := bank, used := (posOf s).1, l := s.map recEnt }
theorem own_turn {B : Nat} {w w' : World} {base n size : Nat} {e : TypeId} {v : Value} {xs : List Value} (h : w.ownsRow base e size v n xs) (ht : Turn B w w') : w'.ownsRow base e size v n xs := by
  obtain ⟨h1, h2 | ⟨g, cap, cur, hv, hb, hg, rest⟩⟩ := h
  · exact ⟨h1, .inl h2⟩
  · exact ⟨h1, .inr ⟨g, cap, cur, hv, hb, ht.cells _ _ _ _ hg, rest⟩⟩
/-- A journal's block and row in the midst of take. -/
structure Taking (w W : World) (bj bd : Nat) (A : Option Addr) (c : Nat) (seg : List ByteArray) (J : Jour) (bank : Nat) (s : List Rec) (v : Value) : Prop where
  going : Going seg s
  jour : Blk W bj ((takeOf J bank s).cells bd v)
  own : W.ownsRow (w.heap.size + 2) 62 2 v s.length (entCells (s.map recEnt))
  box : Blk W w.heap.size [.pointer (some ⟨bj, 0, none⟩)]
  bank : Blk W (w.heap.size + 1) [.slice A seg.length c]
  mod : Mod (fun k => k = bj) w W
theorem Taking.turn {B : Nat} {w W W' : World} {bj bd : Nat} {A : Option Addr} {c : Nat} {seg : List ByteArray} {J : Jour} {bank : Nat} {s : List Rec} {v : Value} (h : Taking w W bj bd A c seg J bank s v) (ht : Turn B W W') (hB : w.heap.size ≤ B) : Taking w W' bj bd A c seg J bank s v :=
  ⟨h.going, h.jour.turn ht, own_turn h.own ht, h.box.turn ht, h.bank.turn ht, h.mod.turn (ht.mono hB)⟩
theorem Taking.below {w W W' : World} {bj bd : Nat} {A : Option Addr} {c : Nat} {seg : List ByteArray} {J : Jour} {bank : Nat} {s : List Rec} {v : Value} (h : Taking w W bj bd A c seg J bank s v) (hb : Below W.heap.size W W') : Taking w W' bj bd A c seg J bank s v :=
  ⟨h.going, h.jour.below hb, pw_own_below h.own hb, h.box.below hb, h.bank.below hb, h.mod.below_ hb⟩

/-- append, by a name of which simp knows nothing: so that a run that is in the context is met as it stands. -/
def App_ (ats : Array TypeId) (ty : TypeId) (args : Array Value) : Sem Value := Builtin.append_ ats ty args
theorem builtin_app {ats : Array TypeId} {ty : TypeId} {cs : Array Bool} {args : Array Value} : builtin .append ats ty cs args = (do pure (.value (← App_ ats ty args))) := rfl
attribute [local go_sem ↓ high] builtin_app
set_option maxRecDepth 100000 in
set_option maxHeartbeats 8000000 in
theorem take_calls {w : World} {bj bd bm bs c0 : Nat} {lv : Value} {J : Jour} {D : Dev} (h : JourRep w bj bd bm bs c0 lv J D) (A : Option Addr) (c : Nat) (seg : List ByteArray) (bank : Nat)
    (hrow : ∀ W, Mod (fun k => k = bj) w W → Kd.C Kd.string W A seg.length seg) (hcap : seg.length ≤ c) (hs4 : seg.length ≤ 4096) :
    Calls Tryd.prog 34 #[.pointer (some ⟨bj, 0, none⟩), .int .i64 bank, .slice A seg.length c] w fun e w' => e = .returned (.tuple #[]) ∧ (∃ lv', JourRep w' bj bd bm bs c0 lv' (takeOf J bank (bankRecs seg)) D) ∧ Mod (fun k => k = bj) w w' := by
  have hro : Fence.wide.round = none := rfl
  have hlt := h.jour.lt
  have c2 := h.jour.cell 2 rfl
  have c3 := h.jour.cell 3 rfl
  have c5 := h.jour.cell 5 rfl
  have H := Aside0.mk h
  have HROW := Aside0.mk hrow
  clear h hrow
  refine (callsIn_wide (n := 5)).1 ?_
  refine callsIn_of_wp_marks Tryd.func34 rfl trivial ?_ hro
  simp only [Tryd.ntmps34, List.size_toArray, List.length_cons, List.length_nil, Nat.reduceAdd, Nat.reduceSub, Array.replicate_succ, Array.replicate_zero, List.push_toArray, List.append_toArray, List.nil_append, List.cons_append]
  gi_wp2_with fail
  obtain ⟨w1, hw1'⟩ : ∃ w1, w.alloc (.cells #[.pointer (some ⟨bj, 0, none⟩)] 25 (0, 0)) = w1 := ⟨_, rfl⟩
  have hbl := Blk.new w #[.pointer (some ⟨bj, 0, none⟩)] 25
  have hb1 := below_alloc (Below.refl w.heap.size w) (.cells #[.pointer (some ⟨bj, 0, none⟩)] 25 (0, 0))
  have hsz : (w.alloc (.cells #[.pointer (some ⟨bj, 0, none⟩)] 25 (0, 0))).heap.size = w.heap.size + 1 := by simp
  rw [hw1'] at hbl hb1 hsz ⊢
  clear hw1'
  have hj1 := H.out.below hb1
  have k0 := hbl.cell 0 rfl
  have k2 := hj1.jour.cell 2 rfl
  have k3 := hj1.jour.cell 3 rfl
  have k5 := hj1.jour.cell 5 rfl
  have f2 := hj1.jour.frozen 2
  have f3 := hj1.jour.frozen 3
  have f5 := hj1.jour.frozen 5
  have n0 : w.heap.size ≠ bj := by omega
  have n1 : bj ≠ w.heap.size := by omega
  have HB := Aside0.mk (And.intro hbl (And.intro hb1 (And.intro hsz hj1)))
  clear hbl hb1 hsz hj1 c2 c3 c5
  refine wpIn_wide.2 ?_
  have hB0 : w1.drew.cell? ⟨w.heap.size, 0, none⟩ = some (.pointer (some ⟨bj, 0, none⟩)) := k0
  go_region_held3 (fun W' => W'.cell? ⟨w.heap.size, 0, none⟩ = some (.pointer (some ⟨bj, 0, none⟩))) (go_keep) (first | fail)
  obtain ⟨hbl, hb1, hsz, hj1⟩ := HB.out
  obtain ⟨w2, hw2'⟩ : ∃ w2, (((w1.setCell ⟨bj, 2, none⟩ (.int .i64 bank)).setCell ⟨bj, 3, none⟩ (.int .i64 0)).setCell ⟨bj, 5, none⟩ (.slice none 0 0)).drew = w2 := ⟨_, rfl⟩
  have hbj : Blk w2 bj ((takeOf J bank []).cells bd (.slice none 0 0)) := by
    rw [← hw2']
    have := (((hj1.jour.set 2 (.int .i64 bank)).set 3 (.int .i64 0)).set 5 (.slice none 0 0)).drew
    simpa [takeOf, Jour.cells, posOf] using this
  have hm2 : Mod (fun k => k = bj) w w2 := by rw [← hw2']; exact ((((Mod.of_below (S := fun k => k = bj) hb1).at_ rfl _ _).at_ rfl _ _).at_ rfl _ _).drew
  have hbx : Blk w2 w.heap.size [.pointer (some ⟨bj, 0, none⟩)] := by rw [← hw2']; exact ((((hbl.far (by exact n0) _).far (by exact n0) _).far (by exact n0) _)).drew
  have hsz2 : w2.heap.size = w.heap.size + 1 := by rw [← hw2']; simp [World.drew, World.setCell, hsz]
  rw [hw2']
  clear hw2' hb1 hbl hB0 k0 k2 k3 k5 f2 f3 f5 HB hj1
  gi_wp2_with (refine ⟨trivial, ?_⟩; gi_at_call 33; refine (callsIn_wide.2 (records_calls _ _ _ _)).mono ?_; rintro e w' ⟨rfl, rfl⟩)
  obtain ⟨w3, hw3'⟩ : ∃ w3, w2.alloc (.cells #[.slice A seg.length c] 38 (0, 0)) = w3 := ⟨_, rfl⟩
  have hT : Taking w w3 bj bd A c seg J bank [] (.slice none 0 0) := by
    rw [← hw3']
    have hk := Blk.new w2 #[.slice A seg.length c] 38
    rw [hsz2] at hk
    exact ⟨Going.start seg, hbj.alloc _, World.ownsRow_nil _ _ _ _, hbx.alloc _, hk, hm2.alloc _⟩
  have hsz3 : w3.heap.size = w.heap.size + 2 := by rw [← hw3']; simp [hsz2]
  rw [hw3']
  clear hw3' hbj hm2 hbx hsz2
  refine wpIn_range_lay hro (by omega) (gf := 54) (lb := #[.pointer (some ⟨w.heap.size + 1, 0, none⟩)]) rfl trivial (enters_of Tryd.func54 (by kernel_rfl) rfl) (fun _ => rfl)
    (fun (s : List Rec) W => ∃ v, Taking w W bj bd A c seg J bank s v)
    (fun _ _ _ => False)
    (fun _ _ _ hi ht => by obtain ⟨v, h⟩ := hi; exact ⟨v, h.turn ht (by omega)⟩) (fun _ _ _ _ hi _ => hi)
    [] ⟨_, hT⟩
    (records1_iter (5 - 1) (by omega) posOf (fun s x => s ++ [x]) _ A c seg _ [] w3 (fun _ _ hi => by obtain ⟨v, h⟩ := hi; exact ⟨h.bank, HROW.out _ h.mod, hcap⟩) posOf_snoc rfl hs4)
    (fun s x a' W => ∃ g v, a' = { tmps := #[.pointer (some ⟨bj, 0, none⟩), .int .i64 bank, .slice A seg.length c, .pointer (some ⟨w.heap.size, 0, none⟩), undef, undef, .int .i64 x.1, .pointer (some ⟨g, 0, none⟩), .pointer (some ⟨bj, 0, none⟩), .pointer (some ⟨bj, 0, none⟩), .pointer (some ⟨bj, 0, none⟩), .int .i64 bank, .pointer (some ⟨bj, 0, none⟩), .pointer (some ⟨bj, 2, none⟩), .pointer (some ⟨bj, 0, none⟩), .pointer (some ⟨bj, 3, none⟩), .pointer (some ⟨bj, 0, none⟩), .pointer (some ⟨bj, 5, none⟩), .slice A seg.length c, .func (.func 54) #[] #[.pointer (some ⟨w.heap.size + 1, 0, none⟩)], .int .i64 x.1, .agg #[.int .i64 x.2.1, .string x.2.2], undef, undef, undef, undef, undef, undef, undef, undef, undef, undef, undef, undef, undef, undef], defers := [] } ∧ w.heap.size + 2 ≤ g ∧ Blk W g [.int .i64 x.2.1, .string x.2.2] ∧ Taking w W bj bd A c seg J bank s v)
    (fun _ _ _ _ _ hi ht => by obtain ⟨g, v, h1, h2, h3, h4⟩ := hi; exact ⟨g, v, h1, h2, h3.turn ht, h4.turn ht (by omega)⟩) ?assign ?body ?done ?stop
  case assign =>
    rintro l2 s x W K ⟨v, hT⟩ hmay hK
    have hK2 := hK { tmps := #[.pointer (some ⟨bj, 0, none⟩), .int .i64 bank, .slice A seg.length c, .pointer (some ⟨w.heap.size, 0, none⟩), undef, undef, .int .i64 x.1, .pointer (some ⟨W.heap.size, 0, none⟩), .pointer (some ⟨bj, 0, none⟩), .pointer (some ⟨bj, 0, none⟩), .pointer (some ⟨bj, 0, none⟩), .int .i64 bank, .pointer (some ⟨bj, 0, none⟩), .pointer (some ⟨bj, 2, none⟩), .pointer (some ⟨bj, 0, none⟩), .pointer (some ⟨bj, 3, none⟩), .pointer (some ⟨bj, 0, none⟩), .pointer (some ⟨bj, 5, none⟩), .slice A seg.length c, .func (.func 54) #[] #[.pointer (some ⟨w.heap.size + 1, 0, none⟩)], .int .i64 x.1, .agg #[.int .i64 x.2.1, .string x.2.2], undef, undef, undef, undef, undef, undef, undef, undef, undef, undef, undef, undef, undef, undef], defers := [] } (W.alloc (.cells #[.int .i64 x.2.1, .string x.2.2] 62 (0, 0)))
      ⟨W.heap.size, v, rfl, by have := hT.bank.lt; omega, Blk.new W _ _, hT.below (below_alloc (Below.refl _ _) _)⟩ (below_alloc (Below.refl _ _) _)
    have HK := Aside0.mk hK2
    clear hK hK2 hT hmay
    gi_wp2
    exact HK.out
  case body =>
    rintro l2 s x a' W ⟨g, v, rfl, hge, hg, hT⟩ hmay
    have k0 := hT.box.cell 0 rfl
    have k3 := hT.jour.cell 3 rfl
    have k5 := hT.jour.cell 5 rfl
    have f3 := hT.jour.frozen 3
    have f5 := hT.jour.frozen 5
    have m0 := hg.cell 0 rfl
    have m1 := hg.cell 1 rfl
    have hgt := hg.lt
    have HT := Aside0.mk (And.intro hg (And.intro hT hmay))
    clear hg hT hmay
    gi_wp2_with fail
    obtain ⟨hg, hT, hmay⟩ := HT.out
    have n5 : bj ≠ w.heap.size + 1 := by omega
    have n6 : g ≠ bj := by omega
    have hl1 := hT.own.1
    have hgo := hT.going.step hmay
    obtain ⟨W5, hW5⟩ : ∃ W5, W.setCell ⟨bj, 3, none⟩ (.int .i64 x.1) = W5 := ⟨_, rfl⟩
    have hmW : Mod (fun k => k = bj) W W5 := by rw [← hW5]; exact (Mod.refl (fun k => k = bj) W).at_ rfl _ _
    have hj5 : Blk W5 bj (({ takeOf J bank s with used := x.1 } : Jour).cells bd v) := by
      rw [← hW5]
      have := hT.jour.set 3 (.int .i64 x.1)
      simpa [Jour.cells] using this
    have ho5 : W5.ownsRow (w.heap.size + 2) 62 2 v s.length (entCells (s.map recEnt)) := own_mod hT.own hmW (fun k hk => by omega)
    have hg5 : Blk W5 g [.int .i64 x.2.1, .string x.2.2] := hg.mod hmW n6
    have hb5 : Blk W5 w.heap.size [.pointer (some ⟨bj, 0, none⟩)] := hT.box.mod hmW n0
    have hk5 : Blk W5 (w.heap.size + 1) [.slice A seg.length c] := hT.bank.mod hmW (fun e => n5 e.symm)
    have hm5 : Mod (fun k => k = bj) w W5 := hT.mod.trans hmW
    have hs5 : s.length ≤ 4096 := by have := hT.going.2.1; have := hT.going.2.2; omega
    rw [hW5]
    clear hW5 k0 k3 k5 f3 f5 m0 m1
    obtain ⟨W7, hW7⟩ : ∃ W7, W5.drew.alloc (.cells #[.int .i64 x.2.1, .string x.2.2] 62 (0, 0)) = W7 := ⟨_, rfl⟩
    have hb7 : Below W5.heap.size W5 W7 := by rw [← hW7]; exact below_alloc (Below.refl _ _).drew _
    have hn7 : Blk W7 W5.heap.size [.int .i64 x.2.1, .string x.2.2] := by rw [← hW7]; exact Blk.new W5.drew _ _
    have hz7 : W7.heap.size = W5.heap.size + 1 := by rw [← hW7]; simp
    obtain ⟨i0, hi, hz0, hz1, hz2⟩ := info_parts infoEnt
    obtain ⟨v8, W8, hrun, hown8, hgrow8, -, hblk8⟩ := run_append_own_at (P := Tryd.prog) W7 (w.heap.size + 2) 55 55 62 i0 (.agg #[.int .i64 0, .string ⟨#[]⟩]) 2 24 Tryd.underlying55 hi hz0 hz1 hz2 rfl (by decide)
      v s.length (entCells (s.map recEnt)) (pw_own_below ho5 hb7) ⟨W5.heap.size, 0, none⟩ 1 1 [.int .i64 x.2.1, .string x.2.2] rfl
      (by intro j u hj; have := hn7.cell j hj; rw [add_plain]; simpa using this) (by intro u hu; simp at hu; rcases hu with rfl | rfl <;> rfl) (by unfold maxLen; omega) (by omega) (by have := hk5.lt; omega)
    obtain ⟨g8, cap8, rfl⟩ := row_form hown8 (by omega)
    have k0 := hb5.cell 0 rfl
    have k5 := hj5.cell 5 rfl
    have m0 := hg5.cell 0 rfl
    have m1 := hg5.cell 1 rfl
    have hj7 := hj5.below hb7
    have hvb : v.ownBlock ≠ some bj := by
      intro e
      obtain ⟨_, ⟨rfl, _⟩ | ⟨g2, cap, cur, rfl, hb, _⟩⟩ := ho5
      · cases e
      · have e2 : g2 = bj := by injection e
        omega
    have hjt : bj < W7.heap.size := hj7.lt
    have hj8 : Blk W8 bj (({ takeOf J bank s with used := x.1 } : Jour).cells bd v) := by
      obtain ⟨t, ht⟩ := hj7
      exact ⟨t, (hgrow8.block bj hjt (fun e => hvb e.symm)).trans ht⟩
    have hvx : v.ownBlock ≠ some w.heap.size := by
      intro e
      obtain ⟨_, ⟨rfl, _⟩ | ⟨g2, cap, cur, rfl, hb, _⟩⟩ := ho5
      · cases e
      · have e2 : g2 = w.heap.size := by injection e
        omega
    have hvk : v.ownBlock ≠ some (w.heap.size + 1) := by
      intro e
      obtain ⟨_, ⟨rfl, _⟩ | ⟨g2, cap, cur, rfl, hb, _⟩⟩ := ho5
      · cases e
      · have e2 : g2 = w.heap.size + 1 := by injection e
        omega
    have hb7' := hb5.below hb7
    have hk7' := hk5.below hb7
    have hb8 : Blk W8 w.heap.size [.pointer (some ⟨bj, 0, none⟩)] := by
      have := hb7'.lt
      obtain ⟨t, ht⟩ := hb7'
      exact ⟨t, (hgrow8.block _ this (fun e => hvx e.symm)).trans ht⟩
    have hk8 : Blk W8 (w.heap.size + 1) [.slice A seg.length c] := by
      have := hk7'.lt
      obtain ⟨t, ht⟩ := hk7'
      exact ⟨t, (hgrow8.block _ this (fun e => hvk e.symm)).trans ht⟩
    have k07 := hb7'.cell 0 rfl
    have k57 := hj7.cell 5 rfl
    have k08 := hb8.cell 0 rfl
    have k8 := hj8.cell 5 rfl
    have f8 := hj8.frozen 5
    change Sem.run _ (App_ _ _ _) _ = _ at hrun
    have hmix : Tryd.prog.follows .mixedOrders = true := by kernel_rfl
    have HF : KeepsOthers W (W8.setCell ⟨bj, 5, none⟩ (.slice (some ⟨g8, 0, none⟩) (s.length + 1) cap8)) ∧ Taking w (W8.setCell ⟨bj, 5, none⟩ (.slice (some ⟨g8, 0, none⟩) (s.length + 1) cap8)) bj bd A c seg J bank (s ++ [x]) (.slice (some ⟨g8, 0, none⟩) (s.length + 1) cap8) := by
      have hm78 : Mod (fun k => v.ownBlock = some k) W7 W8 := ⟨hgrow8.os, hgrow8.tape, hgrow8.output, hgrow8.size, fun k hk hn => hgrow8.block k hk (fun e => hn e.symm)⟩
      have hm58 : Mod (fun k => v.ownBlock = some k) W5 W8 := (Mod.of_below hb7).trans hm78
      have hmW8 : Mod (fun k => k = bj ∨ v.ownBlock = some k) W (W8.setCell ⟨bj, 5, none⟩ (.slice (some ⟨g8, 0, none⟩) (s.length + 1) cap8)) := ((hmW.mono (fun k h => .inl h)).trans (hm58.mono (fun k h => .inr h))).at_ (.inl rfl) _ _
      have hmw8 : Mod (fun k => k = bj) w (W8.setCell ⟨bj, 5, none⟩ (.slice (some ⟨g8, 0, none⟩) (s.length + 1) cap8)) := by
        refine (hm5.then_ hm58 (fun i hi => ?_)).at_ rfl _ _
        obtain ⟨_, ⟨rfl, _⟩ | ⟨g2, cap, cur, rfl, hb, _⟩⟩ := ho5
        · cases hi
        · have e2 : g2 = i := by injection hi
          exact .inr (by omega)
      refine ⟨hmW8.others (fun k hk => ?_), ⟨hgo, ?_, ?_, hb8.far (by exact n0) _, hk8.far (by exact fun e => n5 e.symm) _, hmw8⟩⟩
      · rcases hk with rfl | hk
        · exact ⟨_, hT.jour⟩
        · obtain ⟨_, ⟨rfl, _⟩ | ⟨g2, cap, cur, rfl, hb, hg2, _⟩⟩ := hT.own
          · cases hk
          · have e2 : g2 = k := by injection hk
            subst e2
            exact ⟨cur.toList, _, by rw [Array.toArray_toList]; exact hg2⟩
      · have := hj8.set 5 (.slice (some ⟨g8, 0, none⟩) (s.length + 1) cap8)
        simpa [Jour.cells, takeOf, posOf_snoc] using this
      · have hm9 : Mod (fun k => k = bj) W8 (W8.setCell ⟨bj, 5, none⟩ (.slice (some ⟨g8, 0, none⟩) (s.length + 1) cap8)) := (Mod.refl (fun k => k = bj) W8).at_ rfl _ _
        have := own_mod hown8 hm9 (fun k hk => by omega)
        rw [List.length_append, List.map_append, entCells_append]
        exact this
    have HFF := Aside0.mk HF
    clear HF hb7' hk7' hb8 hk8 hvx hvk hj8 hown8 hgrow8 hblk8 hb7 hz7 hb5 hk5 hm5 hgo ho5 hn7 hvb hjt hj7 hi hz0 hz1 hz2 hj5 hg5 hT hmay hg hmW hl1 HT
    gi_region_with_o (fail)
    all_goals (gi_wp2; exact ⟨HFF.out.1, _, HFF.out.2⟩)
  case done =>
    rintro Dd s W hD hf ⟨v, hT⟩ hK
    have hdone := hT.going.done hf
    have HX := Aside0.mk (And.intro hT (And.intro hK hdone))
    clear hT hK hf hdone
    gi_wp2
    obtain ⟨hT, hK, hdone⟩ := HX.out
    have hj := H.out
    have ht : Turn w.heap.size W (W.putObj Dd (.deferred none)) := Turn.putObj _ (by omega) hK rfl
    have hT2 := hT.turn ht (Nat.le_refl _)
    refine ⟨by simp, .inl ⟨_, _, rfl, run_takeDeferred hK, ?_⟩⟩
    generalize W.putObj Dd (.deferred none) = W3 at hT2 ⊢
    have q1 := hj.ld
    have q2 := hj.lm
    have q3 := hj.ls
    refine ⟨.tuple #[], ?_, rfl, ⟨v, ?_, ?_, hj.dev.mod hT2.mod (by omega) (by omega) (by omega), q1, q2, q3⟩, hT2.mod⟩
    · simp [results, Tryd.f34, go_sem]
    · rw [hdone]; exact hT2.jour
    · rw [hdone]
      show W3.ownsRow (bj + 1) _ 2 v (s.map recEnt).length (entCells (s.map recEnt))
      rw [List.length_map]
      exact row_le hT2.own (by omega)
  case stop =>
    rintro D c k W _ h _
    exact h.elim
end Go.Proofs.YtcdgbdojopfkgaaDoor.P

/- journal.Records, Numbers. -/
namespace Go.Proofs.YtcdgbdojopfkgaaDoor.P
open Go.RowKit Go.Shelf Go.Lib Go.Proofs.YtcdgbdojopfkgaaDoorW.PrintWords Go.Proofs.YtcdgbdojopfkgaaDoorW.PrintMore

theorem infoIntJ : (Tryd.prog.info? 3).map (fun i => (i.zero, i.size, i.bytes)) = some (some (.int .i64 0), 1, 8) := by kernel_rfl
set_option maxRecDepth 100000 in
set_option maxHeartbeats 4000000 in
theorem recs_calls {bj bd bm bs c : Nat} {lv : Value} {J : Jour} {D : Dev} {w : World} (h : JourRep w bj bd bm bs c lv J D) (hl : J.l.length ≤ 100000) :
    Calls Tryd.prog 15 #[.pointer (some ⟨bj, 0, none⟩)] w fun e w' => ∃ v, e = .returned v ∧ Kd.R Kd.string 9 w' w.heap.size (fun _ => True) v (J.l.map (·.2)) ∧ Below w.heap.size w w' := by
  have k5 := h.jour.cell 5 rfl
  obtain ⟨hln, hown⟩ := h.own
  have hform : ∃ g cap, (lv = .slice none 0 0 ∧ J.l.length = 0) ∨ (lv = .slice (some ⟨g, 0, none⟩) J.l.length cap ∧ J.l.length ≤ cap ∧ ∀ (j : Nat) (u : Value), (entCells J.l)[j]? = some u → w.cell? ⟨g, j, none⟩ = some u) := by
    rcases hown with ⟨a, b⟩ | ⟨g, cap, cur, rfl, hb, hg, h1, h2, h3, h4⟩
    · exact ⟨0, 0, .inl ⟨a, b⟩⟩
    · refine ⟨g, cap, .inr ⟨rfl, h1, fun j u hu => ?_⟩⟩
      rw [blk_cell hg]
      rw [← h4, List.getElem?_take] at hu
      split at hu
      · simpa using hu
      · cases hu
  clear hown hln h
  obtain ⟨l, hll⟩ : ∃ l, J.l = l := ⟨_, rfl⟩
  rw [hll] at hform hl ⊢
  clear hll
  obtain ⟨g, cap, ⟨rfl, h0⟩ | ⟨rfl, hcap, hcells⟩⟩ := hform
  · obtain rfl := List.eq_nil_of_length_eq_zero h0
    go_enter Tryd.func15, Tryd.ntmps15
    go_wp2
    go_loopg [3, 11] 0 (fun gg s3 s11 wr => s3 = .slice none 0 0 ∧ s11 = .int .i64 0 ∧ wr = w)
    case atStart => exact ⟨rfl, rfl, rfl⟩
    case round =>
      obtain ⟨rfl, rfl, rfl⟩ := hrel
      go_wp2
      go_ret
      exact ⟨_, rfl, Kd.R_nil _ _ _ _ _, Below.refl _ _⟩
  · have HC := Aside0.mk hcells
    clear hcells
    go_enter Tryd.func15, Tryd.ntmps15
    go_wp2
    go_loopg [3, 11] l.length (fun gg s3 s11 wr => ∃ i : Nat, i ≤ l.length ∧ l.length - i ≤ gg ∧ s11 = .int .i64 i ∧ Aside0 (Kd.R Kd.string 9 wr w.heap.size (fun _ => True) s3 ((l.take i).map (·.2))) ∧ Aside0 (Below w.heap.size w wr))
    case atStart => exact ⟨0, Nat.zero_le _, by omega, rfl, ⟨Kd.R_nil _ _ _ _ _⟩, ⟨Below.refl _ _⟩⟩
    case round =>
      obtain ⟨i, hi, hg, rfl, HO, HB⟩ := hrel
      by_cases hlt : i < l.length
      · have hltz : (i : Int) < (l.length : Int) := by omega
        obtain ⟨x, hx⟩ : ∃ x, l[i]? = some x := ⟨l[i], List.getElem?_eq_getElem hlt⟩
        obtain ⟨e1, e2⟩ := entCells_get l i x hx
        have r0 := HC.out _ _ e1
        have r1 := HC.out _ _ e2
        have r0' := (HB.out.cell (World.block_lt_of_cell? w _ r0)).trans r0
        have r1' := (HB.out.cell (World.block_lt_of_cell? w _ r1)).trans r1
        have htk : (l.take (i + 1)).map (·.2) = (l.take i).map (·.2) ++ [x.2] := by rw [List.take_add_one, hx, List.map_append]; rfl
        have HT := Aside0.mk htk
        have HL := Aside0.mk (show ((l.take i).map (·.2)).length ≤ 100000 by rw [List.length_map, List.length_take]; omega)
        clear htk hx e1 e2 r0 r1
        obtain ⟨xn, xt⟩ := x
        dsimp only at r0' r1'
        have HO1 := Aside0.mk (Kd.R_alloc HO.out (.cells #[.int .i64 xn, .string xt] 62 (0, 0)))
        have HB1 := Aside0.mk (HB.out.alloc HB.out.size (.cells #[.int .i64 xn, .string xt] 62 (0, 0)))
        clear HO HB
        go_wp2_with (first | ((with_reducible refine gate_builtin (b := .append) (xs := #[.tmp 15, .tmp 18]) rfl ?_); at_builtin; refine Kd.R_append Kd.string (w0 := w) w.heap.size rfl (.tmp 15) (.tmp 18) 38 9 (.string ⟨#[]⟩) 16 rfl Tryd.underlying38 infoStr rfl (by decide) (by omega) u3 ((l.take i).map (·.2)) xt [.string xt] (fun _ => True) (fun _ => False) rfl (show Value.slice (some ⟨wr.heap.size + 1, 0, none⟩) 1 1 = _ by rw [World.size_alloc]) ?aP (fun _ hk => hk.elim) ?aF ?aO ?aB ?aS ?aL ?_; (case aP => exact rfl); (case aF => exact fun _ _ => trivial); (case aO => exact HO1.out); (case aB => exact HB1.out); (case aS => exact HB1.out.size); (case aL => have := HL.out; omega); intro v1 w3 ho hb hg hat; have HO3 := Aside0.mk ho; have HB3 := Aside0.mk hb; clear ho hb hg hat))
        go_roundg (l.length - (i + 1))
        case measure => omega
        case rel =>
          refine ⟨i + 1, by omega, by omega, by go_num, ⟨?_⟩, HB3⟩
          rw [HT.out]
          exact HO3.out
      · have hltz : ¬ (i : Int) < (l.length : Int) := by omega
        obtain rfl : i = l.length := by omega
        have hO := HO.out
        rw [List.take_length] at hO
        have HO1 := Aside0.mk hO
        clear hO HO
        go_wp2
        go_ret
        exact ⟨_, rfl, HO1.out, HB.out⟩
set_option maxRecDepth 100000 in
set_option maxHeartbeats 4000000 in
theorem nums_calls {bj bd bm bs c : Nat} {lv : Value} {J : Jour} {D : Dev} {w : World} (h : JourRep w bj bd bm bs c lv J D) (hl : J.l.length ≤ 100000) :
    Calls Tryd.prog 23 #[.pointer (some ⟨bj, 0, none⟩)] w fun e w' => ∃ v, e = .returned v ∧ Kd.R (Kd.int .i64) 3 w' w.heap.size (fun _ => True) v (J.l.map (·.1)) ∧ Below w.heap.size w w' := by
  have k5 := h.jour.cell 5 rfl
  obtain ⟨hln, hown⟩ := h.own
  have hform : ∃ g cap, (lv = .slice none 0 0 ∧ J.l.length = 0) ∨ (lv = .slice (some ⟨g, 0, none⟩) J.l.length cap ∧ J.l.length ≤ cap ∧ ∀ (j : Nat) (u : Value), (entCells J.l)[j]? = some u → w.cell? ⟨g, j, none⟩ = some u) := by
    rcases hown with ⟨a, b⟩ | ⟨g, cap, cur, rfl, hb, hg, h1, h2, h3, h4⟩
    · exact ⟨0, 0, .inl ⟨a, b⟩⟩
    · refine ⟨g, cap, .inr ⟨rfl, h1, fun j u hu => ?_⟩⟩
      rw [blk_cell hg]
      rw [← h4, List.getElem?_take] at hu
      split at hu
      · simpa using hu
      · cases hu
  clear hown hln h
  obtain ⟨l, hll⟩ : ∃ l, J.l = l := ⟨_, rfl⟩
  rw [hll] at hform hl ⊢
  clear hll
  obtain ⟨g, cap, ⟨rfl, h0⟩ | ⟨rfl, hcap, hcells⟩⟩ := hform
  · obtain rfl := List.eq_nil_of_length_eq_zero h0
    go_enter Tryd.func23, Tryd.ntmps23
    go_wp2
    go_loopg [3, 11] 0 (fun gg s3 s11 wr => s3 = .slice none 0 0 ∧ s11 = .int .i64 0 ∧ wr = w)
    case atStart => exact ⟨rfl, rfl, rfl⟩
    case round =>
      obtain ⟨rfl, rfl, rfl⟩ := hrel
      go_wp2
      go_ret
      exact ⟨_, rfl, Kd.R_nil _ _ _ _ _, Below.refl _ _⟩
  · have HC := Aside0.mk hcells
    clear hcells
    go_enter Tryd.func23, Tryd.ntmps23
    go_wp2
    go_loopg [3, 11] l.length (fun gg s3 s11 wr => ∃ i : Nat, i ≤ l.length ∧ l.length - i ≤ gg ∧ s11 = .int .i64 i ∧ Aside0 (Kd.R (Kd.int .i64) 3 wr w.heap.size (fun _ => True) s3 ((l.take i).map (·.1))) ∧ Aside0 (Below w.heap.size w wr))
    case atStart => exact ⟨0, Nat.zero_le _, by omega, rfl, ⟨Kd.R_nil _ _ _ _ _⟩, ⟨Below.refl _ _⟩⟩
    case round =>
      obtain ⟨i, hi, hg, rfl, HO, HB⟩ := hrel
      by_cases hlt : i < l.length
      · have hltz : (i : Int) < (l.length : Int) := by omega
        obtain ⟨x, hx⟩ : ∃ x, l[i]? = some x := ⟨l[i], List.getElem?_eq_getElem hlt⟩
        obtain ⟨e1, e2⟩ := entCells_get l i x hx
        have r0 := HC.out _ _ e1
        have r1 := HC.out _ _ e2
        have r0' := (HB.out.cell (World.block_lt_of_cell? w _ r0)).trans r0
        have r1' := (HB.out.cell (World.block_lt_of_cell? w _ r1)).trans r1
        have htk : (l.take (i + 1)).map (·.1) = (l.take i).map (·.1) ++ [x.1] := by rw [List.take_add_one, hx, List.map_append]; rfl
        have HT := Aside0.mk htk
        have HL := Aside0.mk (show ((l.take i).map (·.1)).length ≤ 100000 by rw [List.length_map, List.length_take]; omega)
        clear htk hx e1 e2 r0 r1
        obtain ⟨xn, xt⟩ := x
        dsimp only at r0' r1'
        have HO1 := Aside0.mk (Kd.R_alloc HO.out (.cells #[.int .i64 xn, .string xt] 62 (0, 0)))
        have HB1 := Aside0.mk (HB.out.alloc HB.out.size (.cells #[.int .i64 xn, .string xt] 62 (0, 0)))
        clear HO HB
        go_wp2_with (first | ((with_reducible refine gate_builtin (b := .append) (xs := #[.tmp 15, .tmp 18]) rfl ?_); at_builtin; refine Kd.R_append (Kd.int .i64) (w0 := w) w.heap.size rfl (.tmp 15) (.tmp 18) 28 3 (.int .i64 0) 8 rfl Tryd.underlying28 infoIntJ rfl (by decide) (by omega) u3 ((l.take i).map (·.1)) xn [.int .i64 xn] (fun _ => True) (fun _ => False) rfl (show Value.slice (some ⟨wr.heap.size + 1, 0, none⟩) 1 1 = _ by rw [World.size_alloc]) ?aP (fun _ hk => hk.elim) ?aF ?aO ?aB ?aS ?aL ?_; (case aP => exact rfl); (case aF => exact fun _ _ => trivial); (case aO => exact HO1.out); (case aB => exact HB1.out); (case aS => exact HB1.out.size); (case aL => have := HL.out; omega); intro v1 w3 ho hb hg hat; have HO3 := Aside0.mk ho; have HB3 := Aside0.mk hb; clear ho hb hg hat))
        go_roundg (l.length - (i + 1))
        case measure => omega
        case rel =>
          refine ⟨i + 1, by omega, by omega, by go_num, ⟨?_⟩, HB3⟩
          rw [HT.out]
          exact HO3.out
      · have hltz : ¬ (i : Int) < (l.length : Int) := by omega
        obtain rfl : i = l.length := by omega
        have hO := HO.out
        rw [List.take_length] at hO
        have HO1 := Aside0.mk hO
        clear hO HO
        go_wp2
        go_ret
        exact ⟨_, rfl, HO1.out, HB.out⟩
end Go.Proofs.YtcdgbdojopfkgaaDoor.P
