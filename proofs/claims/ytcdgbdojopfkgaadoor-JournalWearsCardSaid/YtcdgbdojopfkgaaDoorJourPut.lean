/- The package journal, walked: its struct, the small methods, the loop 'each' of put. -/
import Derived.Test.YtcdgbdojopfkgaaDoorDevNew
import Derived.Test.YtcdgbdojopfkgaaDoorHandPack
namespace Go.Proofs.YtcdgbdojopfkgaaDoor.P
open Go.RowKit Go.Proofs.YtcdgbdojopfkgaaDoorW.PrintWords Go.Proofs.YtcdgbdojopfkgaaDoorW.PrintMore
attribute [local go_sem] max2_int min2_int max_two min_two

/-- A journal. -/
structure Jour where
  half : Nat
  bank : Nat
  used : Nat
  next : Int
  l : List (Int × ByteArray)
  spoiled : Bool
  closed : Bool
def entCells : List (Int × ByteArray) → List Value
  | [] => []
  | e :: l => .int .i64 e.1 :: .string e.2 :: entCells l
theorem entCells_length : ∀ l, (entCells l).length = l.length * 2
  | [] => rfl
  | e :: l => by
    show (entCells l).length + 1 + 1 = (l.length + 1) * 2
    rw [entCells_length l]
    omega
theorem entCells_append : ∀ l m, entCells (l ++ m) = entCells l ++ entCells m
  | [], _ => rfl
  | e :: l, m => by
    show .int .i64 e.1 :: .string e.2 :: entCells (l ++ m) = _
    rw [entCells_append l m]
    rfl
theorem entCells_get : ∀ (l : List (Int × ByteArray)) (i : Nat) (e : Int × ByteArray), l[i]? = some e → (entCells l)[i * 2]? = some (.int .i64 e.1) ∧ (entCells l)[i * 2 + 1]? = some (.string e.2)
  | [], i, e, h => by simp at h
  | x :: l, 0, e, h => by
    obtain rfl : x = e := by simpa using h
    exact ⟨rfl, rfl⟩
  | x :: l, i + 1, e, h => by
    have := entCells_get l i e (by simpa using h)
    rw [show (i + 1) * 2 = i * 2 + 1 + 1 by omega]
    exact this
def Jour.cells (J : Jour) (bd : Nat) (lv : Value) : List Value := [.pointer (some ⟨bd, 0, none⟩), .int .i64 J.half, .int .i64 J.bank, .int .i64 J.used, .int .i64 J.next, lv, .bool J.spoiled, .bool J.closed]
structure JourRep (w : World) (bj bd bm bs c : Nat) (lv : Value) (J : Jour) (D : Dev) : Prop where
  jour : Blk w bj (J.cells bd lv)
  own : w.ownsRow (bj + 1) 62 2 lv J.l.length (entCells J.l)
  dev : DevRep w bd bm bs c D
  ld : bd < bj
  lm : bm < bj
  ls : bs < bj
/-- The blocks that a journal may write. -/
def InJour (bj bd bs : Nat) (k : Nat) : Prop := k = bj ∨ k = bd ∨ k = bs
theorem own_mod {S : Nat → Prop} {w w' : World} {base n size : Nat} {e : TypeId} {v : Value} {xs : List Value} (h : w.ownsRow base e size v n xs) (hm : Mod S w w') (hs : ∀ k, S k → k < base) : w'.ownsRow base e size v n xs := by
  obtain ⟨h1, h2⟩ := h
  refine ⟨h1, ?_⟩
  rcases h2 with h2 | ⟨g, cap, cur, hv, hb, hg, rest⟩
  · exact .inl h2
  · exact .inr ⟨g, cap, cur, hv, hb, (hm.block g (blk_lt hg) (fun z => by have := hs g z; omega)).trans hg, rest⟩
theorem JourRep.mod {S : Nat → Prop} {w w' : World} {bj bd bm bs c : Nat} {lv : Value} {J : Jour} {D D' : Dev} (h : JourRep w bj bd bm bs c lv J D) (hm : Mod S w w') (h1 : ¬ S bj) (hd : DevRep w' bd bm bs c D') (hs : ∀ k, S k → k < bj + 1) : JourRep w' bj bd bm bs c lv J D' :=
  ⟨h.jour.mod hm h1, own_mod h.own hm hs, hd, h.ld, h.lm, h.ls⟩
theorem JourRep.drew_ {w : World} {bj bd bm bs c : Nat} {lv : Value} {J : Jour} {D : Dev} (h : JourRep w bj bd bm bs c lv J D) : JourRep w.drew bj bd bm bs c lv J D :=
  ⟨h.jour, h.own, h.dev.drew, h.ld, h.lm, h.ls⟩
theorem JourRep.below {w w' : World} {bj bd bm bs c : Nat} {lv : Value} {J : Jour} {D : Dev} (h : JourRep w bj bd bm bs c lv J D) (hb : Below w.heap.size w w') : JourRep w' bj bd bm bs c lv J D :=
  ⟨h.jour.below hb, pw_own_below h.own hb, h.dev.below hb, h.ld, h.lm, h.ls⟩

set_option maxRecDepth 100000 in
theorem jour_bank {bj bd bm bs c : Nat} {lv : Value} {J : Jour} {D : Dev} {w : World} (h : JourRep w bj bd bm bs c lv J D) :
    Calls Tryd.prog 14 #[.pointer (some ⟨bj, 0, none⟩)] w fun e w' => e = .returned (.int .i64 J.bank) ∧ w' = w := by
  have c2 := h.jour.cell 2 rfl
  clear h
  go_enter Tryd.func14, Tryd.ntmps14
  go_wp2
  go_ret
  exact ⟨rfl, rfl⟩
set_option maxRecDepth 100000 in
theorem jour_next {bj bd bm bs c : Nat} {lv : Value} {J : Jour} {D : Dev} {w : World} (h : JourRep w bj bd bm bs c lv J D) :
    Calls Tryd.prog 10 #[.pointer (some ⟨bj, 0, none⟩)] w fun e w' => e = .returned (.int .i64 J.next) ∧ w' = w := by
  have c4 := h.jour.cell 4 rfl
  clear h
  go_enter Tryd.func10, Tryd.ntmps10
  go_wp2
  go_ret
  exact ⟨rfl, rfl⟩
set_option maxRecDepth 100000 in
theorem jour_room {bj bd bm bs c : Nat} {lv : Value} {J : Jour} {D : Dev} {w : World} (h : JourRep w bj bd bm bs c lv J D) (hh : J.half ≤ 4096) (hu : J.used ≤ J.half) :
    Calls Tryd.prog 9 #[.pointer (some ⟨bj, 0, none⟩)] w fun e w' => e = .returned (.int .i64 ((J.half : Int) - (J.used : Int))) ∧ Below w.heap.size w w' := by
  have c1 := h.jour.cell 1 rfl
  have c3 := h.jour.cell 3 rfl
  have hw : IntKind.i64.wrap ((J.half : Int) - (J.used : Int)) = (J.half : Int) - (J.used : Int) := by rw [IntKind.wrap_i64]; omega
  clear h
  go_enter Tryd.func9, Tryd.ntmps9
  go_wp2
  go_quiet (fail)
  go_wp2
  go_ret
  exact ⟨rfl, by apply pw_below_drewN; exact Below.refl _ _⟩
/-- How 'each' ends. -/
def EachEnds (I : Nat → World → Prop) (X : Int → World → Prop) (n : Nat) (e : Ending) (w : World) : Prop := (e = .returned (.int .i64 0) ∧ I n w) ∨ (∃ r : Int, r ≠ 0 ∧ e = .returned (.int .i64 r) ∧ X r w)
def StepEnds (I : Nat → World → Prop) (X : Int → World → Prop) (n : Nat) (e : Ending) (w : World) : Prop := (e = .returned (.int .i64 0) ∧ I n w) ∨ (∃ r : Int, r ≠ 0 ∧ e = .returned (.int .i64 r) ∧ X r w)
set_option maxRecDepth 100000 in
set_option maxHeartbeats 4000000 in
theorem each_calls (l : List ByteArray) (at_ : Nat) (A : Option Addr) (c bl ba g : Nat) (xs lb : Array Value) (eg : ∀ args w, (callFunc g args).run Tryd.prog w = .ok (.enter g args) w) (w : World) (I : Nat → World → Prop) (X : Int → World → Prop) (hat : at_ + l.length ≤ 100000)
    (hread : ∀ k W, k ≤ l.length → I k W → W.cell? ⟨bl, 0, none⟩ = some (.slice A l.length c) ∧ W.cell? ⟨ba, 0, none⟩ = some (.int .i64 at_) ∧ Kd.C Kd.string W A l.length l)
    (hI : ∀ k s W, l[k]? = some s → I k W → Calls Tryd.prog g (xs ++ (#[.int .i64 ((at_ : Int) + (k : Int)), .string s] ++ lb)) W (StepEnds I X (k + 1))) (h0 : I 0 w) :
    Calls Tryd.prog 44 #[.func (.func g) xs lb, .pointer (some ⟨bl, 0, none⟩), .pointer (some ⟨ba, 0, none⟩)] w (EachEnds I X l.length) := by
  obtain ⟨c1, c2, -⟩ := hread 0 w (Nat.zero_le _) h0
  have H0 := Aside0.mk h0
  clear h0
  go_enter Tryd.func44, Tryd.ntmps44
  go_wp2
  clear c1 c2
  go_loopw [10] (fun i wr => ∃ k : Nat, i = .int .i64 k ∧ k ≤ l.length ∧ Aside0 (I k wr)) (fun i _ => l.length - (intOf i).toNat)
  case atStart => exact ⟨0, rfl, Nat.zero_le _, H0⟩
  case round =>
    obtain ⟨k, rfl, hk, HI⟩ := hrel
    clear H0
    by_cases hlt : k < l.length
    · obtain ⟨c1, c2, hC⟩ := hread k wr hk HI.out
      have hlt2 : (k : Int) < (l.length : Int) := by omega
      have hp : 0 ≤ (k : Int) := by omega
      obtain ⟨ad, rfl, hx⟩ := Kd.at_string hC (k : Int) hp hlt2
      have hrd : rdOf ByteArray.empty l (k : Int) = l[k] := by
        unfold rdOf
        rw [Int.toNat_natCast, List.getD_eq_getElem?_getD, List.getElem?_eq_getElem hlt]
        rfl
      rw [hrd, Int.toNat_natCast] at hx
      have hcall := hI k l[k] wr (List.getElem?_eq_getElem hlt) HI.out
      generalize l[k] = s at hx hcall
      have hw : IntKind.i64.wrap ((at_ : Int) + (k : Int)) = (at_ : Int) + (k : Int) := by rw [IntKind.wrap_i64]; omega
      clear hC hrd hread hI
      go_wp2_with fail
      refine hcall.mono ?_
      rintro e w' (⟨rfl, hI1⟩ | ⟨r, hr, rfl, hX⟩)
      · have HI1 := Aside0.mk hI1
        clear hI1 hcall HI hx c1 c2
        go_wp2
        go_roundw
        case rel => exact ⟨k + 1, by go_num, by omega, HI1⟩
        case measure => simp [intOf]; omega
      · have HX := Aside0.mk hX
        have hr1 : (r != 0) = true := by simpa using hr
        have HR := Aside0.mk hr
        clear hX hcall HI hx c1 c2 hr
        go_wp2
        go_ret
        exact .inr ⟨r, HR.out, rfl, HX.out⟩
    · have hge : ¬ (k : Int) < (l.length : Int) := by omega
      go_wp2
      go_ret
      obtain rfl : k = l.length := by omega
      exact .inl ⟨rfl, HI.out⟩
end Go.Proofs.YtcdgbdojopfkgaaDoor.P

/- journal.put, walked: what it comes to as a plain function of the device's state. -/
namespace Go.Proofs.YtcdgbdojopfkgaaDoor.P
open Go.RowKit Go.Proofs.YtcdgbdojopfkgaaDoorW.PrintWords Go.Proofs.YtcdgbdojopfkgaaDoorW.PrintMore
attribute [local go_sem] max2_int min2_int max_two min_two

set_option maxRecDepth 100000 in
set_option maxHeartbeats 4000000 in
theorem put2_calls {bd bm bs c : Nat} {D : Dev} {w : World} (h : DevRep w bd bm bs c D) (bx bj bw : Nat) (k : Nat) (s : ByteArray) (b : Bool) (cx : w.cell? ⟨bx, 0, none⟩ = some (.pointer (some ⟨bj, 0, none⟩))) (cj : w.cell? ⟨bj, 0, none⟩ = some (.pointer (some ⟨bd, 0, none⟩)))
    (cw : w.cell? ⟨bw, 0, none⟩ = some (.bool b)) (fw : w.frozen? ⟨bw, 0, none⟩ = false) :
    Calls Tryd.prog 47 #[.int .i64 k, .string s, .pointer (some ⟨bx, 0, none⟩), .pointer (some ⟨bw, 0, none⟩)] w fun e w' => e = .returned (.int .i64 (devRead D k).2) ∧ w' = w.setCell ⟨bw, 0, none⟩ (.bool (b || ((devRead D k).2 == 0 && (devRead D k).1.toList != s.toList))) := by
  have hr := dev_read h k
  clear h
  generalize devRead D k = r at hr ⊢
  obtain ⟨t, z⟩ := r
  simp only at hr ⊢
  cases b with
  | true =>
    go_enter Tryd.func47, Tryd.ntmps47
    go_wp2_with fail
    refine hr.mono ?_
    rintro e w' ⟨rfl, rfl⟩
    go_wp2
    go_ret
    exact ⟨rfl, by simp⟩
  | false =>
    by_cases hz : z = 0
    · subst hz
      by_cases ht : t.toList = s.toList
      · have e1 : (t.toList == s.toList) = true := beq_iff_eq.mpr ht
        have e2 : (t.toList != s.toList) = false := bne_eq_false_iff_eq.mpr ht
        rw [e2]
        clear ht
        go_enter Tryd.func47, Tryd.ntmps47
        go_wp2_with fail
        refine hr.mono ?_
        rintro e w' ⟨rfl, rfl⟩
        go_wp2
        go_ret
        exact ⟨rfl, by simp⟩
      · have e1 : (t.toList == s.toList) = false := beq_eq_false_iff_ne.mpr ht
        have e2 : (t.toList != s.toList) = true := bne_iff_ne.mpr ht
        rw [e2]
        clear ht
        go_enter Tryd.func47, Tryd.ntmps47
        go_wp2_with fail
        refine hr.mono ?_
        rintro e w' ⟨rfl, rfl⟩
        go_wp2
        go_ret
        exact ⟨rfl, by simp⟩
    · have e1 : (z == 0) = false := beq_eq_false_iff_ne.mpr hz
      have e2 : (z != 0) = true := bne_iff_ne.mpr hz
      rw [e1]
      clear hz
      go_enter Tryd.func47, Tryd.ntmps47
      go_wp2_with fail
      refine hr.mono ?_
      rintro e w' ⟨rfl, rfl⟩
      go_wp2
      go_ret
      exact ⟨rfl, by simp⟩

/-- The sectors of a record, written one by one, until one fails. -/
def writeAll : Dev → Nat → List ByteArray → Dev × Int
  | D, _, [] => (D, 0)
  | D, i, s :: l => if (devWrite D i s).2 = 0 then writeAll (devWrite D i s).1 (i + 1) l else devWrite D i s
/-- .. and read again: the error, and whether one differs. -/
def readAll (D : Dev) : Nat → List ByteArray → Bool → Int × Bool
  | _, [], b => (0, b)
  | i, s :: l, b => if (devRead D i).2 = 0 then readAll D (i + 1) l (b || ((devRead D i).2 == 0 && (devRead D i).1.toList != s.toList)) else ((devRead D i).2, b || ((devRead D i).2 == 0 && (devRead D i).1.toList != s.toList))
/-- What put leaves of the device, its error, and whether the journal is closed by it. -/
def putDev (D : Dev) (i : Nat) (l : List ByteArray) : Dev × Int × Bool :=
  let a := writeAll D i l
  if a.2 ≠ 0 then (a.1, a.2, true) else
  let f := devFlush a.1
  if f.2 ≠ 0 then (f.1, f.2, true) else
  let r := readAll f.1 i l false
  if r.1 ≠ 0 then (f.1, r.1, true) else if r.2 then (f.1, 23, false) else (f.1, 0, false)
theorem putSec_ok {l : List Sec} {n : Nat} {text : ByteArray} (h : SecsOk l) (ht : text.size = 64) : SecsOk (putSec l n text) := by
  intro i s hi
  unfold putSec at hi
  split at hi
  · rename_i s0 h0
    split at hi
    · exact h i s hi
    · rw [List.getElem?_set] at hi
      split at hi
      · split at hi
        · obtain rfl := Option.some.inj hi
          obtain ⟨a, b, c, d⟩ := h _ _ h0
          exact ⟨a, b, fun _ => ht, by show text.size ≤ 64; omega⟩
        · cases hi
      · exact h i s hi
  · exact h i s hi
theorem devWrite_ok {D : Dev} {i : Int} {text : ByteArray} (h : SecsOk D.secs) : SecsOk (devWrite D i text).1.secs := by
  unfold devWrite
  split
  · exact h
  · split
    · rename_i hc
      split
      · exact h
      · exact putSec_ok h hc.2
    · exact h
theorem writeAll_ok : ∀ (l : List ByteArray) (D : Dev) (i : Nat), SecsOk D.secs → SecsOk (writeAll D i l).1.secs
  | [], D, i, h => h
  | s :: l, D, i, h => by
    unfold writeAll
    split
    · exact writeAll_ok l _ _ (devWrite_ok h)
    · exact devWrite_ok h
theorem reads_mod {S : Nat → Prop} {w w' : World} {base : Nat} {e : TypeId} {A : Option Addr} {n c : Nat} {l : List ByteArray} (h : Kd.R Kd.string e w base (fun k => base ≤ k) (.slice A n c) l) (hm : Mod S w w') (hs : ∀ k, S k → k < base) : Kd.C Kd.string w' A n l :=
  Kd.C_kept_own h (fun k hk z => by have := hs k z; omega) _ hm.kept
theorem reads_base {w : World} {base : Nat} {e : TypeId} {v : Value} {l : List ByteArray} (h : Kd.R Kd.string e w base (fun _ => True) v l) : Kd.R Kd.string e w base (fun k => base ≤ k) v l :=
  Kd.R_reok rfl h (fun k hk => own_base (Kd.own_of_R h) k hk)
theorem JourRep.setCell {w : World} {bj bd bm bs c : Nat} {lv : Value} {J J' : Jour} {D : Dev} (h : JourRep w bj bd bm bs c lv J D) (i : Nat) (v : Value) (hc : J'.cells bd lv = (J.cells bd lv).set i v) (hl : J'.l = J.l) : JourRep (w.setCell ⟨bj, i, none⟩ v) bj bd bm bs c lv J' D := by
  have hm : Mod (fun k => k = bj) w (w.setCell ⟨bj, i, none⟩ v) := (Mod.refl (fun k => k = bj) _).at_ rfl _ _
  have h1 := h.ld
  have h2 := h.lm
  have h3 := h.ls
  refine ⟨by rw [hc]; exact h.jour.set i v, by rw [hl]; exact own_mod h.own hm (fun k hk => by omega), h.dev.mod hm (by omega) (by omega) (by omega), h1, h2, h3⟩
/-- The records' number and the sectors that put writes. -/
def packOf (number : Int) (text : ByteArray) : List ByteArray := (List.range (cnt text.size)).map (secOf number text)
theorem writeAll_cons (D : Dev) (i : Nat) (s : ByteArray) (l : List ByteArray) : writeAll D i (s :: l) = if (devWrite D i s).2 = 0 then writeAll (devWrite D i s).1 (i + 1) l else devWrite D i s := rfl
theorem each_write {bd bm bs c : Nat} {D : Dev} {w : World} (hd : DevRep w bd bm bs c D) (l : List ByteArray) (at_ : Nat) (A : Option Addr) (cA bl ba base : Nat) (e : TypeId) (hat : at_ + l.length ≤ 100000) (hbl : Blk w bl [.slice A l.length cA]) (hba : Blk w ba [.int .i64 at_]) (hR : Kd.R Kd.string e w base (fun k => base ≤ k) (.slice A l.length cA) l)
    (n1 : bl ≠ bd) (n2 : bl ≠ bs) (n3 : ba ≠ bd) (n4 : ba ≠ bs) (n5 : bd < base) (n6 : bs < base) :
    Calls Tryd.prog 44 #[.func (.func 45) #[.pointer (some ⟨bd, 0, none⟩)] #[], .pointer (some ⟨bl, 0, none⟩), .pointer (some ⟨ba, 0, none⟩)] w
      fun e w' => e = .returned (.int .i64 (writeAll D at_ l).2) ∧ DevRep w' bd bm bs c (writeAll D at_ l).1 ∧ Mod (InDev bd bs) w w' := by
  have hin : ∀ b, b ≠ bd → b ≠ bs → ¬ InDev bd bs b := fun b h1 h2 h => h.elim h1 h2
  refine (each_calls l at_ A cA bl ba 45 #[.pointer (some ⟨bd, 0, none⟩)] #[] (enters_of Tryd.func45 (by kernel_rfl) rfl) w
    (fun k W => ∃ D', DevRep W bd bm bs c D' ∧ Mod (InDev bd bs) w W ∧ writeAll D at_ l = writeAll D' (at_ + k) (l.drop k))
    (fun r W => ∃ D', DevRep W bd bm bs c D' ∧ Mod (InDev bd bs) w W ∧ writeAll D at_ l = (D', r)) hat ?_ ?_ ⟨D, hd, Mod.refl _ _, by simp⟩).mono ?_
  · rintro k W hk ⟨D', h1, h2, h3⟩
    exact ⟨(hbl.mod h2 (hin _ n1 n2)).cell 0 rfl, (hba.mod h2 (hin _ n3 n4)).cell 0 rfl, reads_mod hR h2 (fun k hk => hk.elim (fun z => by omega) (fun z => by omega))⟩
  · rintro k s W hs ⟨D', h1, h2, h3⟩
    have hk : k < l.length := (List.getElem?_eq_some_iff.1 hs).1
    have hd3 : l.drop k = s :: l.drop (k + 1) := by rw [List.drop_eq_getElem_cons hk, (List.getElem?_eq_some_iff.1 hs).2]
    rw [hd3, writeAll_cons] at h3
    refine (dev_write h1 ((at_ + k : Nat) : Int) (by omega) s).mono ?_
    rintro e w' ⟨rfl, h4, h5⟩
    by_cases hz : (devWrite D' ((at_ + k : Nat) : Int) s).2 = 0
    · rw [if_pos hz] at h3
      exact .inl ⟨by rw [hz], _, h4, h2.trans h5, h3⟩
    · rw [if_neg hz] at h3
      exact .inr ⟨_, hz, rfl, _, h4, h2.trans h5, h3⟩
  · rintro e w' (⟨rfl, D', h1, h2, h3⟩ | ⟨r, hr, rfl, D', h1, h2, h3⟩)
    · rw [List.drop_eq_nil_of_le (Nat.le_refl _)] at h3
      rw [h3]
      exact ⟨rfl, h1, h2⟩
    · rw [h3]
      exact ⟨rfl, h1, h2⟩
theorem readAll_cons (D : Dev) (i : Nat) (s : ByteArray) (l : List ByteArray) (b : Bool) : readAll D i (s :: l) b = if (devRead D i).2 = 0 then readAll D (i + 1) l (b || ((devRead D i).2 == 0 && (devRead D i).1.toList != s.toList)) else ((devRead D i).2, b || ((devRead D i).2 == 0 && (devRead D i).1.toList != s.toList)) := rfl
theorem each_read {bd bm bs c : Nat} {D : Dev} {w : World} (hd : DevRep w bd bm bs c D) (l : List ByteArray) (at_ : Nat) (A : Option Addr) (cA bl ba bx bj bw base : Nat) (e : TypeId) (hat : at_ + l.length ≤ 100000) (hbl : Blk w bl [.slice A l.length cA]) (hba : Blk w ba [.int .i64 at_]) (hR : Kd.R Kd.string e w base (fun k => base ≤ k) (.slice A l.length cA) l)
    (hbx : Blk w bx [.pointer (some ⟨bj, 0, none⟩)]) (cj : w.cell? ⟨bj, 0, none⟩ = some (.pointer (some ⟨bd, 0, none⟩))) (hbw : Blk w bw [.bool false])
    (n1 : bl ≠ bw) (n3 : ba ≠ bw) (n4 : bx ≠ bw) (n5 : bj ≠ bw) (n6 : bd ≠ bw) (n7 : bm ≠ bw) (n8 : bs ≠ bw) (hw : Kd.R Kd.string e w base (fun k => k ≠ bw) (.slice A l.length cA) l) :
    Calls Tryd.prog 44 #[.func (.func 47) #[] #[.pointer (some ⟨bx, 0, none⟩), .pointer (some ⟨bw, 0, none⟩)], .pointer (some ⟨bl, 0, none⟩), .pointer (some ⟨ba, 0, none⟩)] w
      fun e w' => e = .returned (.int .i64 (readAll D at_ l false).1) ∧ Blk w' bw [.bool (readAll D at_ l false).2] ∧ Mod (fun k => k = bw) w w' := by
  refine (each_calls l at_ A cA bl ba 47 #[] #[.pointer (some ⟨bx, 0, none⟩), .pointer (some ⟨bw, 0, none⟩)] (enters_of Tryd.func47 (by kernel_rfl) rfl) w
    (fun k W => ∃ b, Blk W bw [.bool b] ∧ Mod (fun k => k = bw) w W ∧ readAll D at_ l false = readAll D (at_ + k) (l.drop k) b)
    (fun r W => ∃ b, Blk W bw [.bool b] ∧ Mod (fun k => k = bw) w W ∧ readAll D at_ l false = (r, b)) hat ?_ ?_ ⟨false, hbw, Mod.refl _ _, by simp⟩).mono ?_
  · rintro k W hk ⟨b, h1, h2, h3⟩
    exact ⟨(hbl.mod h2 n1).cell 0 rfl, (hba.mod h2 n3).cell 0 rfl, Kd.C_kept_own hw (fun k hk z => hk z) _ h2.kept⟩
  · rintro k s W hs ⟨b, h1, h2, h3⟩
    have hk : k < l.length := (List.getElem?_eq_some_iff.1 hs).1
    have hd3 : l.drop k = s :: l.drop (k + 1) := by rw [List.drop_eq_getElem_cons hk, (List.getElem?_eq_some_iff.1 hs).2]
    rw [hd3, readAll_cons] at h3
    refine (put2_calls (hd.mod h2 n6 n7 n8) bx bj bw (at_ + k) s b ((hbx.mod h2 n4).cell 0 rfl) (h2.cell cj n5) (h1.cell 0 rfl) (h1.frozen 0)).mono ?_
    rintro e w' ⟨rfl, rfl⟩
    have h5 := h1.set 0 (.bool (b || ((devRead D ((at_ + k : Nat) : Int)).2 == 0 && (devRead D ((at_ + k : Nat) : Int)).1.toList != s.toList)))
    have h6 := h2.at_ (g := bw) rfl 0 (.bool (b || ((devRead D ((at_ + k : Nat) : Int)).2 == 0 && (devRead D ((at_ + k : Nat) : Int)).1.toList != s.toList)))
    by_cases hz : (devRead D ((at_ + k : Nat) : Int)).2 = 0
    · rw [if_pos hz] at h3
      exact .inl ⟨by rw [hz], _, h5, h6, h3⟩
    · rw [if_neg hz] at h3
      exact .inr ⟨_, hz, rfl, _, h5, h6, h3⟩
  · rintro e w' (⟨rfl, b, h1, h2, h3⟩ | ⟨r, hr, rfl, b, h1, h2, h3⟩)
    · rw [List.drop_eq_nil_of_le (Nat.le_refl _)] at h3
      rw [h3]
      exact ⟨rfl, h1, h2⟩
    · rw [h3]
      exact ⟨rfl, h1, h2⟩
/-- What is said of put's end. -/
def PutEnds (bj bd bm bs c : Nat) (lv : Value) (J : Jour) (P : Dev × Int × Bool) (w : World) (e : Ending) (w' : World) : Prop :=
  e = .returned (.tuple #[.int .i64 (if P.2.1 = 0 then J.next else 0), .int .i64 P.2.1]) ∧ JourRep w' bj bd bm bs c lv { J with next := J.next + 1, closed := J.closed || P.2.2 } P.1 ∧ Mod (InJour bj bd bs) w w'
set_option maxRecDepth 100000 in
set_option maxHeartbeats 8000000 in
theorem put_calls {bj bd bm bs c : Nat} {lv : Value} {J : Jour} {D : Dev} {w : World} (h : JourRep w bj bd bm bs c lv J D) (at_ : Nat) (text : ByteArray) (hn1 : 1 ≤ J.next) (hn2 : J.next ≤ 4611686018427387904) (ht : text.size ≤ 8000) (hat : at_ ≤ 10000) (hok : SecsOk D.secs) :
    Calls Tryd.prog 25 #[.pointer (some ⟨bj, 0, none⟩), .int .i64 at_, .string text] w (PutEnds bj bd bm bs c lv J (putDev D at_ (packOf J.next text)) w) := by
  have hlen : (packOf J.next text).length ≤ 182 := by unfold packOf; rw [List.length_map, List.length_range]; exact cnt_le ht
  have hpk : sector_Pack.f J.next text = some (packOf J.next text, 0) := by
    unfold sector_Pack.f
    rw [if_neg (by omega), if_neg (by omega), if_neg (by omega)]
    rfl
  generalize packOf J.next text = L at hlen hpk ⊢
  have HPK := Aside0.mk hpk
  clear hpk
  have c4 := h.jour.cell 4 rfl
  have f4 := h.jour.frozen 4
  have hlt := h.jour.lt
  have hw : IntKind.i64.wrap (J.next + 1) = J.next + 1 := by rw [IntKind.wrap_i64]; omega
  have H1 := Aside0.mk h
  clear h
  go_enter Tryd.func25, Tryd.ntmps25
  go_wp2_with fail
  have hj0 := H1.out.setCell (J' := { J with next := J.next + 1 }) 4 (.int .i64 (J.next + 1)) rfl rfl
  have hm0 : Mod (InJour bj bd bs) w (w.setCell ⟨bj, 4, none⟩ (.int .i64 (J.next + 1))) := (Mod.refl (InJour bj bd bs) _).at_ (.inl rfl) _ _
  have hs0 : (w.setCell ⟨bj, 4, none⟩ (.int .i64 (J.next + 1))).heap.size = w.heap.size := by simp [World.setCell]
  generalize w.setCell ⟨bj, 4, none⟩ (.int .i64 (J.next + 1)) = V0 at hj0 hm0 hs0 ⊢
  have hx0 := Blk.new V0 #[.pointer (some ⟨bj, 0, none⟩)] 25
  have hx1 := (hx0.alloc (.cells #[.int .i64 at_] 3))
  have hy1 := Blk.new (V0.alloc (.cells #[.pointer (some ⟨bj, 0, none⟩)] 25)) #[.int .i64 at_] 3
  have hj1 := hj0.below (below_alloc (below_alloc (Below.refl _ V0) (.cells #[.pointer (some ⟨bj, 0, none⟩)] 25)) (.cells #[.int .i64 at_] 3))
  have hm1 := (hm0.alloc (.cells #[.pointer (some ⟨bj, 0, none⟩)] 25)).alloc (.cells #[.int .i64 at_] 3)
  rw [World.size_alloc, hs0] at hy1
  rw [hs0] at hx1
  have hs1 : ((V0.alloc (.cells #[.pointer (some ⟨bj, 0, none⟩)] 25)).alloc (.cells #[.int .i64 at_] 3)).heap.size = w.heap.size + 2 := by simp [hs0]
  generalize (V0.alloc (.cells #[.pointer (some ⟨bj, 0, none⟩)] 25)).alloc (.cells #[.int .i64 at_] 3) = V1 at hx1 hy1 hj1 hm1 hs1 ⊢
  refine (sector_Pack.calls _ _ _ _ _ HPK.out).mono ?_
  rintro e w2 ⟨v, rfl, hR, hb2⟩
  have hR2 := reads_base hR
  obtain ⟨A, cA, rfl, hlc, -⟩ := Kd.R_reads hR
  have hb3 := below_new w2 (.cells #[.slice A L.length cA] 38 (0, 0))
  have hsz2 := hb2.size
  have hbb := hb2.trans (hb3.mono hsz2)
  have HX := Aside0.mk (hx1.below hbb)
  have HY := Aside0.mk (hy1.below hbb)
  have HJ := Aside0.mk (hj1.below hbb)
  have HM := Aside0.mk (hm1.below_ hbb)
  have HL := Aside0.mk (Blk.new w2 #[.slice A L.length cA] 38)
  have HR := Aside0.mk (Kd.R_below hR2 hb3)
  have HS := Aside0.mk (show w.heap.size + 2 ≤ w2.heap.size by omega)
  have HS1 := Aside0.mk hs1
  have hk0 := HJ.out.jour.cell 0 rfl
  have hkx := HX.out.cell 0 rfl
  clear hR hR2 hb2 hb3 hbb hx0 hx1 hy1 hj0 hj1 hm0 hm1 hs0 hs1 hsz2 c4 f4 H1 hlc
  go_wp2_with fail
  generalize w2.alloc (.cells #[.slice A L.length cA] 38) = W2 at HX HY HJ HM HL HR hk0 hkx ⊢
  obtain ⟨bl, hbl⟩ : ∃ bl, w2.heap.size = bl := ⟨_, rfl⟩
  rw [hbl] at HL HS ⊢
  clear hbl
  have lj := HJ.out.ld
  have lm := HJ.out.lm
  have ls := HJ.out.ls
  have hsb := HS.out
  have hew := each_write HJ.out.dev L at_ A cA bl (w.heap.size + 1) V1.heap.size _ (by omega) HL.out HY.out HR.out (by omega) (by omega) (by omega) (by omega) (by have := HS1.out; omega) (by have := HS1.out; omega)
  refine hew.mono ?_
  rintro e w4 ⟨rfl, hd4, hm4⟩
  obtain ⟨a, ha⟩ : ∃ a, writeAll D at_ L = a := ⟨_, rfl⟩
  have HA := Aside0.mk ha
  have hok1 := writeAll_ok L D at_ hok
  rw [ha] at hd4 hok1 ⊢
  clear ha hew hk0 hkx
  obtain ⟨D1, r1⟩ := a
  have HOK := Aside0.mk hok1
  have HD4 := Aside0.mk hd4
  have HM4 := Aside0.mk hm4
  have hin : ∀ k, InDev bd bs k → InJour bj bd bs k := fun k h => .inr h
  have HJ4 := Aside0.mk (HJ.out.mod hm4 (fun z => z.elim (fun q => by omega) (fun q => by omega)) hd4 (fun k hk => hk.elim (fun q => by omega) (fun q => by omega)))
  have HM4w := Aside0.mk ((HM.out).trans (hm4.mono hin))
  have HX4 := Aside0.mk (HX.out.mod hm4 (fun z => z.elim (fun q => by omega) (fun q => by omega)))
  have HY4 := Aside0.mk (HY.out.mod hm4 (fun z => z.elim (fun q => by omega) (fun q => by omega)))
  have HL4 := Aside0.mk (HL.out.mod hm4 (fun z => z.elim (fun q => by omega) (fun q => by omega)))
  have HR4 := Aside0.mk (Kd.R_kept HR.out hm4.kept (fun k hk z => by have := HS1.out; exact z.elim (fun q => by omega) (fun q => by omega)))
  clear hd4 hm4 hok1 HX HY HJ HM HL HR
  by_cases hr1 : r1 = 0
  · subst hr1
    have hk0 := HJ4.out.jour.cell 0 rfl
    have hkx := HX4.out.cell 0 rfl
    go_wp2_with fail
    clear hk0 hkx
    refine (dev_flush HD4.out HOK.out).mono ?_
    rintro e w5 ⟨rfl, hd5, hm5⟩
    obtain ⟨a, ha⟩ : ∃ a, devFlush D1 = a := ⟨_, rfl⟩
    have HF := Aside0.mk ha
    rw [ha] at hd5 ⊢
    clear ha
    obtain ⟨D2, r2⟩ := a
    have HD5 := Aside0.mk hd5
    have HJ5 := Aside0.mk (HJ4.out.mod hm5 (fun z => z.elim (fun q => by omega) (fun q => by omega)) hd5 (fun k hk => hk.elim (fun q => by omega) (fun q => by omega)))
    have HM5 := Aside0.mk (HM4w.out.trans (hm5.mono hin))
    have HX5 := Aside0.mk (HX4.out.mod hm5 (fun z => z.elim (fun q => by omega) (fun q => by omega)))
    have HY5 := Aside0.mk (HY4.out.mod hm5 (fun z => z.elim (fun q => by omega) (fun q => by omega)))
    have HL5 := Aside0.mk (HL4.out.mod hm5 (fun z => z.elim (fun q => by omega) (fun q => by omega)))
    have HR5 := Aside0.mk (Kd.R_kept HR4.out hm5.kept (fun k hk z => by have := HS1.out; exact z.elim (fun q => by omega) (fun q => by omega)))
    have hx9 := HX5.out.alloc (.cells #[.bool false] 4)
    have hy9 := HY5.out.alloc (.cells #[.bool false] 4)
    have hl9 := HL5.out.alloc (.cells #[.bool false] 4)
    have hb9 := below_new w5 (.cells #[.bool false] 4 (0, 0))
    have hj9 := HJ5.out.below hb9
    have hr9 := Kd.R_below HR5.out hb9
    have hr9b := Kd.R_below (Kd.R_mono (Kd.R_bound HR5.out) (fun k hk => (by have := hk.2; omega : k ≠ w5.heap.size))) hb9
    have hw9 := Blk.new w5 #[.bool false] 4
    have HM9 := Aside0.mk (HM5.out.alloc (.cells #[.bool false] 4))
    have hlx := HX5.out.lt
    have hly := HY5.out.lt
    have hll := HL5.out.lt
    have hlj := HJ5.out.jour.lt
    have HB9 := Aside0.mk hb9
    clear hd5 hm5 HD4 HJ4 HM4w HX4 HY4 HL4 HR4 hb9
    by_cases hr2 : r2 = 0
    · subst hr2
      have her := each_read hj9.dev L at_ A cA bl (w.heap.size + 1) w.heap.size bj w5.heap.size V1.heap.size _ (by omega) hl9 hy9 hr9 hx9 (hj9.jour.cell 0 rfl) hw9 (by omega) (by omega) (by omega) (by omega) (by omega) (by omega) (by omega) hr9b
      have HE := Aside0.mk her
      have HX9 := Aside0.mk hx9
      have HJ9 := Aside0.mk hj9
      clear her hx9 hy9 hl9 hj9 hr9 hr9b hw9 HY5 HL5 HR5
      obtain ⟨q, hq⟩ : ∃ q, readAll D2 at_ L false = q := ⟨_, rfl⟩
      have HQ := Aside0.mk hq
      rw [hq] at HE
      clear hq
      obtain ⟨r3, b3⟩ := q
      go_wp2_with fail
      refine HE.out.mono ?_
      rintro e w6 ⟨rfl, hw6, hm6⟩
      have hbel : Below w5.heap.size w5 w6 := HB9.out.trans (hm6.toBelow HB9.out.size (fun k hk => by omega))
      have hj6 := HJ5.out.below hbel
      have hx6 := HX5.out.below hbel
      have HM6 := Aside0.mk (HM5.out.below_ hbel)
      have HW6 := Aside0.mk hw6
      have HJ6 := Aside0.mk hj6
      have HX6 := Aside0.mk hx6
      clear hm6 hbel HE HX9 HJ9 HM9 HB9 HJ5 HX5 HM5 hj6 hx6 hw6
      have hA := HA.out
      have hFl := HF.out
      have hQ := HQ.out
      by_cases hr3 : r3 = 0
      · subst hr3
        cases b3 with
        | true =>
          have HP : Aside0 (putDev D at_ L = (D2, 23, false)) := ⟨by unfold putDev; rw [hA]; simp [hFl, hQ]⟩
          have kw := HW6.out.cell 0 rfl
          clear hA hFl hQ
          go_wp2
          go_ret2
          show PutEnds bj bd bm bs c lv J (putDev D at_ L) w _ _
          rw [HP.out]
          refine ⟨rfl, ?_, HM6.out⟩
          have := HJ6.out
          simpa using this
        | false =>
          have HP : Aside0 (putDev D at_ L = (D2, 0, false)) := ⟨by unfold putDev; rw [hA]; simp [hFl, hQ]⟩
          have kw := HW6.out.cell 0 rfl
          clear hA hFl hQ
          go_wp2
          go_ret2
          show PutEnds bj bd bm bs c lv J (putDev D at_ L) w _ _
          rw [HP.out]
          refine ⟨rfl, ?_, HM6.out⟩
          have := HJ6.out
          simpa using this
      · have hr4 : (r3 == 0) = false := beq_eq_false_iff_ne.mpr hr3
        have hr5 : (r3 != 0) = true := bne_iff_ne.mpr hr3
        have HP : Aside0 (putDev D at_ L = (D2, r3, true)) := ⟨by unfold putDev; rw [hA]; simp [hFl, hQ, hr3]⟩
        have HR3 := Aside0.mk hr3
        have k7 := HJ6.out.jour.cell 7 rfl
        have f7 := HJ6.out.jour.frozen 7
        have kx := HX6.out.cell 0 rfl
        clear hA hFl hQ hr3
        go_wp2
        go_ret2
        show PutEnds bj bd bm bs c lv J (putDev D at_ L) w _ _
        rw [HP.out]
        have hfin := HJ6.out.setCell (J' := { J with next := J.next + 1, closed := J.closed || true }) 7 (.bool true) (by simp [Jour.cells]) rfl
        exact ⟨by show _ = Ending.returned (.tuple #[.int .i64 (if r3 = 0 then J.next else 0), .int .i64 r3]); rw [if_neg HR3.out]; rfl, hfin, HM6.out.at_ (.inl rfl) _ _⟩
    · have hr4 : (r2 == 0) = false := beq_eq_false_iff_ne.mpr hr2
      have hr5 : (r2 != 0) = true := bne_iff_ne.mpr hr2
      have hA := HA.out
      have hFl := HF.out
      have HP : Aside0 (putDev D at_ L = (D2, r2, true)) := ⟨by unfold putDev; rw [hA]; simp [hFl, hr2]⟩
      have HR2 := Aside0.mk hr2
      have k7 := hj9.jour.cell 7 rfl
      have f7 := hj9.jour.frozen 7
      have kx := hx9.cell 0 rfl
      clear hA hFl hr2 hx9 hy9 hl9 hj9 hr9 hr9b hw9
      go_wp2
      go_ret2
      show PutEnds bj bd bm bs c lv J (putDev D at_ L) w _ _
      rw [HP.out]
      have hfin := (HJ5.out.setCell (J' := { J with next := J.next + 1, closed := J.closed || true }) 7 (.bool true) (by simp [Jour.cells]) rfl).below (below_new _ (.cells #[.bool false] 4 (0, 0)))
      exact ⟨by show _ = Ending.returned (.tuple #[.int .i64 (if r2 = 0 then J.next else 0), .int .i64 r2]); rw [if_neg HR2.out]; rfl, hfin, (HM5.out.at_ (.inl rfl) _ _).alloc _⟩
  · have hr2 : (r1 == 0) = false := beq_eq_false_iff_ne.mpr hr1
    have hr3 : (r1 != 0) = true := bne_iff_ne.mpr hr1
    have HP : Aside0 (putDev D at_ L = (D1, r1, true)) := ⟨by unfold putDev; rw [HA.out]; simp [hr1]⟩
    have HR1 := Aside0.mk hr1
    have hx9 := HX4.out.alloc (.cells #[.bool false] 4)
    have hj9 := HJ4.out.below (below_new w4 (.cells #[.bool false] 4 (0, 0)))
    have HM9 := Aside0.mk (HM4w.out.alloc (.cells #[.bool false] 4))
    have k7 := hj9.jour.cell 7 rfl
    have f7 := hj9.jour.frozen 7
    have kx := hx9.cell 0 rfl
    have HJ9 := Aside0.mk hj9
    clear hx9 hj9 hr1
    go_wp2
    go_ret2
    show PutEnds bj bd bm bs c lv J (putDev D at_ L) w _ _
    rw [HP.out]
    have hfin := HJ9.out.setCell (J' := { J with next := J.next + 1, closed := J.closed || true }) 7 (.bool true) (by simp [Jour.cells]) rfl
    exact ⟨by show _ = Ending.returned (.tuple #[.int .i64 (if r1 = 0 then J.next else 0), .int .i64 r1]); rw [if_neg HR1.out]; rfl, hfin, HM9.out.at_ (.inl rfl) _ _⟩
end Go.Proofs.YtcdgbdojopfkgaaDoor.P
