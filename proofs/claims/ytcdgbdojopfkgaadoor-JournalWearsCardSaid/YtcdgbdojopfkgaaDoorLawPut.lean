/- custodylaw25's history.put, walked. -/
import Derived.BigQuiet
import Derived.ArgAppend
import Derived.Test.YtcdgbdojopfkgaaDoorLawSanity
namespace Go.Proofs.YtcdgbdojopfkgaaDoor.P
open Go.RowKit Go.Shelf Go.Lib Go.Proofs.YtcdgbdojopfkgaaDoorW.PrintWords Go.Proofs.YtcdgbdojopfkgaaDoorW.PrintMore Go.Proofs.YtcdgbdojopfkgaaDoorW.PrintLast
attribute [local go_sem] max2_int min2_int max_two min_two

theorem app_cases {J : Jour} {D : Dev} (h : Inv J D) (hn : J.next ≤ 4611686018427387904) (rec : ByteArray) (ht : rec.size ≤ 8000) :
    ∃ (J' : Jour) (D' : Dev) (n er : Int), appOf J D rec = (J', D', n, er) ∧ J'.half = J.half ∧ J'.next ≤ J.next + 1 ∧ ((er = 0 ∧ n = J.next ∧ J'.l = J.l ++ [(n, rec)]) ∨ ((er = 15 ∨ er = 23) ∧ J'.l = J.l)) := by
  cases hsp : J.spoiled with
  | true => exact ⟨J, D, 0, 23, appOf_spoiled hsp, rfl, by omega, .inr ⟨.inr rfl, rfl⟩⟩
  | false =>
    by_cases hf : J.half < J.used + cnt rec.size
    · exact ⟨J, D, 0, 15, appOf_full hsp hf, rfl, by omega, .inr ⟨.inl rfl, rfl⟩⟩
    · obtain ⟨J', D', r, hi, hw, hh, hbk, hn', -, ⟨-, hA, hl, -⟩ | ⟨-, hA, hl, -⟩⟩ := app_inv h hn rec ht hsp (by omega)
      · exact ⟨J', D', J.next, 0, hA, hh, by omega, .inl ⟨rfl, rfl, hl⟩⟩
      · exact ⟨J', D', 0, 23, hA, hh, by omega, .inr ⟨.inr rfl, hl⟩⟩
theorem comp_cases {J : Jour} {D : Dev} (h : Inv J D) (hn : J.next ≤ 4611686018427387904) (img : ByteArray) (ht : img.size ≤ 8000) :
    ∃ (J' : Jour) (D' : Dev) (n er : Int), compOf J D img = (J', D', n, er) ∧ J'.half = J.half ∧ J'.next ≤ J.next + 1 ∧ ((er = 0 ∧ n = J.next ∧ J'.l = [(n, img)]) ∨ ((er = 15 ∨ er = 23) ∧ J'.l = J.l)) := by
  by_cases hf : J.half < cnt img.size
  · exact ⟨J, D, 0, 15, compOf_full hf, rfl, by omega, .inr ⟨.inl rfl, rfl⟩⟩
  · obtain ⟨J', D', r, hi, hw, hh, hn', -, ⟨-, hA, hl, -⟩ | ⟨-, hA, hl, -⟩⟩ := comp_inv h hn img ht (by omega)
    · exact ⟨J', D', J.next, 0, hA, hh, by omega, .inl ⟨rfl, rfl, hl⟩⟩
    · exact ⟨J', D', 0, 23, hA, hh, by omega, .inr ⟨.inr rfl, hl⟩⟩
/-! ### what a journal has to contain -/
def HBlk (w : World) (bh : Nat) (lv : Value) (last : Int) : Prop := w.heap[bh]? = some (.cells #[lv, .int .i64 last] 42 (0, 0))
theorem HBlk.blk {w : World} {bh : Nat} {lv : Value} {last : Int} (h : HBlk w bh lv last) : Blk w bh [lv, .int .i64 last] := ⟨_, h⟩
theorem HBlk.below {w w' : World} {bh : Nat} {lv : Value} {last : Int} (h : HBlk w bh lv last) (hb : Below w.heap.size w w') : HBlk w' bh lv last := (hb.block bh h.blk.lt).trans h
theorem HBlk.set0 {w : World} {bh : Nat} {lv : Value} {last : Int} (h : HBlk w bh lv last) (v : Value) : HBlk (w.setCell ⟨bh, 0, none⟩ v) bh v last := by
  unfold HBlk at h ⊢
  rw [blk_set h]
  rfl
theorem HBlk.set1 {w : World} {bh : Nat} {lv : Value} {last : Int} (h : HBlk w bh lv last) (n : Int) : HBlk (w.setCell ⟨bh, 1, none⟩ (.int .i64 n)) bh lv n := by
  unfold HBlk at h ⊢
  rw [blk_set h]
  rfl
structure Hist (w0 w : World) (bj bd bm bs bh : Nat) (l : List ByteArray) (last : Int) : Prop where
  ex : ∃ lv, HBlk w bh lv last ∧ w.ownsRow 0 9 1 lv l.length (strCells l) ∧ (∀ g, lv.ownBlock = some g → ¬ InJour bj bd bs g)
  nj : bh ≠ bj
  nd : bh ≠ bd
  nm : bh ≠ bm
  ns : bh ≠ bs
  lo : w0.heap.size ≤ bh
theorem Hist.ne {w0 w : World} {bj bd bm bs bh : Nat} {l : List ByteArray} {last : Int} (h : Hist w0 w bj bd bm bs bh l last) : ¬ InJour bj bd bs bh := by
  rintro (z | z | z)
  · exact h.nj z
  · exact h.nd z
  · exact h.ns z
theorem own_mod_ne {S : Nat → Prop} {w w' : World} {base n size : Nat} {e : TypeId} {v : Value} {xs : List Value} (h : w.ownsRow base e size v n xs) (hm : Mod S w w') (hs : ∀ g, v.ownBlock = some g → ¬ S g) : w'.ownsRow base e size v n xs := by
  obtain ⟨h1, h2⟩ := h
  refine ⟨h1, ?_⟩
  rcases h2 with h2 | ⟨g, cap, cur, hv, hb, hg, rest⟩
  · exact .inl h2
  · exact .inr ⟨g, cap, cur, hv, hb, (hm.block g (blk_lt hg) (hs g (by rw [hv]; simp [Value.ownBlock]))).trans hg, rest⟩
theorem Hist.mod {w0 w w' : World} {bj bd bm bs bh : Nat} {l : List ByteArray} {last : Int} (h : Hist w0 w bj bd bm bs bh l last) (hm : Mod (InJour bj bd bs) w w') : Hist w0 w' bj bd bm bs bh l last := by
  have hn := h.ne
  obtain ⟨⟨lv, h1, h2, h3⟩, h4, h5, h6, h7, h8⟩ := h
  exact ⟨⟨lv, (hm.block bh h1.blk.lt hn).trans h1, own_mod_ne h2 hm h3, h3⟩, h4, h5, h6, h7, h8⟩
theorem Hist.below {w0 w w' : World} {bj bd bm bs bh : Nat} {l : List ByteArray} {last : Int} (h : Hist w0 w bj bd bm bs bh l last) (hb : Below w.heap.size w w') : Hist w0 w' bj bd bm bs bh l last := by
  obtain ⟨⟨lv, h1, h2, h3⟩, h4, h5, h6, h7, h8⟩ := h
  exact ⟨⟨lv, h1.below hb, pw_own_below h2 hb, h3⟩, h4, h5, h6, h7, h8⟩
/-- The history's block alone is written: the journal is as it was. -/
theorem Live.hist {w0 w w' : World} {bj bd bm bs c bh : Nat} {J : Jour} {D : Dev} {lv0 : Value} {last : Int} (h : Live w0 w bj bd bm bs c J D) (hb : HBlk w bh lv0 last) (nj : bh ≠ bj) (nd : bh ≠ bd) (nm : bh ≠ bm) (ns : bh ≠ bs) (lo : w0.heap.size ≤ bh) (hm : Mod (fun k => k = bh) w w') : Live w0 w' bj bd bm bs c J D := by
  obtain ⟨⟨lv, hr⟩, h1, h2, h3, h4, h5, h6⟩ := h
  refine ⟨⟨lv, ⟨hr.jour.mod hm (fun e => nj e.symm), own_mod_ne hr.own hm (fun g hg e => ?_), hr.dev.mod hm (fun e => nd e.symm) (fun e => nm e.symm) (fun e => ns e.symm), hr.ld, hr.lm, hr.ls⟩⟩, h1, h2, h3, h4, h5.trans (hm.toBelow h5.size (fun k hk => by omega)), h6⟩
  subst e
  obtain ⟨cells, hc⟩ := own_typed hr.own g hg
  unfold HBlk at hb
  rw [hc] at hb
  injection hb with hb
  injection hb with _ hb
  exact absurd hb (by decide)
theorem own_reads {w : World} {n : Nat} {v : Value} {l : List ByteArray} (h : w.ownsRow 0 9 1 v n (strCells l)) (hl : n = l.length) (h4 : l.length ≤ 100000) : ∃ A cap, v = .slice A l.length cap ∧ l.length ≤ cap ∧ (A = none → l.length = 0 ∧ cap = 0) ∧ Kd.C Kd.string w A l.length l ∧ ∀ b, A = some b → ∀ j u, (strCells l)[j]? = some u → w.cell? (b.add j) = some u := by
  subst hl
  obtain ⟨A, cap, hv, h1, h2, h3, hc⟩ := own_olds h
  refine ⟨A, cap, hv, h1, h3, Kd.C_of_reads (enc := Value.string) (d := ByteArray.empty) (h1 := fun _ => rfl) ⟨rfl, by omega, fun hne => ?_⟩, hc⟩
  cases A with
  | none => exact absurd (h3 rfl).1 (by omega)
  | some b =>
    refine ⟨b, rfl, fun j hj => hc b rfl j _ ?_⟩
    rw [strCells_get, List.getElem?_eq_getElem hj]
    simp [List.getD_eq_getElem?_getD, hj]
/-- An append whose run is known, as an operation. -/
theorem app_step {P : Program} {w w' : World} {a : Act} {oi : Oper} {v vs vx : Value} {s x : Operand} {t : TypeId} (hop : oi.op = Op.call { callee := Callee.builtin Builtin.append, args := #[s, x], argTypes := #[t, t] }) (hs : a.eval s = vs) (hx : a.eval x = vx) (hrun : (Builtin.append_ #[t, t] oi.type #[vs, vx]).run P w = .ok v w') :
    (execOp a.eval oi).run P w = .ok (.value v) w' := by
  simp [execOp, hop, resolve, invoke, builtin, hs, hx, hrun, Result.andThen]
theorem infoStrP : (Tryd.prog.info? 9).map (fun i => (i.zero, i.size, i.bytes)) = some (some (.string ⟨#[]⟩), 1, 16) := by kernel_rfl
theorem app_run {w : World} {l : List ByteArray} {A : Option Addr} (t : ByteArray) (g : Nat) (h3 : A = none → l.length = 0) (hc : ∀ b, A = some b → ∀ j u, (strCells l)[j]? = some u → w.cell? (b.add j) = some u) (hg : Blk w g [.string t]) (hl : l.length ≤ 100000) :
    ∃ v' w', (Builtin.append_ #[38, 38] 38 #[.slice A l.length l.length, .slice (some ⟨g, 0, none⟩) 1 1]).run Tryd.prog w = .ok v' w' ∧ w'.ownsRow w.heap.size 9 1 v' (l.length + 1) (strCells (l ++ [t])) ∧ w.grownBy w' none := by
  obtain ⟨i0, hi, hz0, hz1, hz2⟩ := info_parts infoStrP
  have hlen : (strCells l).length = l.length * 1 := by unfold strCells; rw [List.length_map, Nat.mul_one]
  have hcs : strCells (l ++ [t]) = strCells l ++ [.string t] := by unfold strCells; rw [List.map_append]; rfl
  rw [hcs]
  have hnews : ∀ j u, [Value.string t][j]? = some u → w.cell? ((⟨g, 0, none⟩ : Addr).add j) = some u := fun j u hj => by rw [add_plain]; exact hg.cell j hj
  have h1c : ∀ u ∈ [Value.string t], u.oneCell' = true := by intro u hu; simp at hu; subst hu; rfl
  cases A with
  | some b => exact run_append_arg_grows (P := Tryd.prog) w 38 38 9 i0 (.string ⟨#[]⟩) 1 16 Tryd.underlying38 hi hz0 hz1 hz2 rfl (by decide) b l.length l.length (strCells l) hlen (hc b rfl) ⟨g, 0, none⟩ 1 1 [.string t] rfl hnews (by omega) (by unfold maxLen; omega) (by omega)
  | none =>
    have h0 := h3 rfl
    obtain rfl := List.eq_nil_of_length_eq_zero h0
    obtain ⟨v', w', hrun, r1, r2, _⟩ := run_append_own (P := Tryd.prog) w w.heap.size 38 38 9 i0 (.string ⟨#[]⟩) 1 16 Tryd.underlying38 hi hz0 hz1 hz2 rfl (by decide) (.slice none 0 0) 0 [] (World.ownsRow_nil w _ _ _) ⟨g, 0, none⟩ 1 1 [.string t] rfl hnews h1c (by unfold maxLen; omega) (by omega) (Nat.le_refl _)
    exact ⟨v', w', hrun, r1, r2⟩
theorem _root_.Go.RowKit.Below.cell_of {w w' : World} {b : Nat} {cs : List Value} (hb : Below w.heap.size w w') (h : Blk w b cs) (i : Nat) {v : Value} (hv : cs[i]? = some v) : w'.cell? ⟨b, i, none⟩ = some v := (h.below hb).cell i hv
theorem _root_.Go.RowKit.Below.frozen_of {w w' : World} {b : Nat} {cs : List Value} (hb : Below w.heap.size w w') (h : Blk w b cs) (i : Nat) : w'.frozen? ⟨b, i, none⟩ = false := (h.below hb).frozen i
theorem put_run {W3 w4 : World} {l : List ByteArray} {A : Option Addr} {cap : Nat} (h3 : A = none → l.length = 0 ∧ cap = 0) (hc : ∀ b, A = some b → ∀ j u, (strCells l)[j]? = some u → W3.cell? (b.add j) = some u) (hb : Below W3.heap.size W3 w4) (t : ByteArray) (hl : l.length ≤ 100000) :
    ∃ v' w', (Builtin.append_ #[38, 38] 38 #[.slice A l.length l.length, .slice (some ⟨w4.heap.size, 0, none⟩) 1 1]).run Tryd.prog (w4.alloc (.cells #[.string t] 9)) = .ok v' w' ∧ w'.ownsRow (w4.alloc (.cells #[.string t] 9)).heap.size 9 1 v' (l.length + 1) (strCells (l ++ [t])) ∧ (w4.alloc (.cells #[.string t] 9)).grownBy w' none := by
  refine app_run t w4.heap.size (fun e => (h3 e).1) (fun b hb2 j u hu => ?_) (Blk.new w4 #[.string t] 9) hl
  have h := hc b hb2 j u hu
  have hlt := World.block_lt_of_cell? W3 _ h
  have h4 := (hb.cell hlt).trans h
  exact ((below_alloc (Below.refl w4.heap.size w4) (.cells #[.string t] 9)).cell (World.block_lt_of_cell? w4 _ h4)).trans h4
theorem put_grown {W3 w4 w5 : World} {t : ByteArray} (hb : Below W3.heap.size W3 w4) (hg : (w4.alloc (.cells #[.string t] 9)).grownBy w5 none) : Below W3.heap.size W3 w5 :=
  (below_alloc hb _).grown hg (by have := hb.size; rw [World.size_alloc]; omega) (fun k h => by cases h)
/-- How a step of the history ends. -/
structure PutLeaves (w0 w w' : World) (bj bd bm bs c bh : Nat) (J : Jour) (er : Int) : Prop where
  ok : er = 0 ∨ er = 15 ∨ er = 23
  ex : ∃ J' D', Live w0 w' bj bd bm bs c J' D' ∧ Hist w0 w' bj bd bm bs bh (J'.l.map (·.2)) (lastOf 0 J'.l) ∧ J'.half = J.half ∧ J'.next ≤ J.next + 1
  mod : Mod (fun k => InJour bj bd bs k ∨ k = bh) w w'
set_option maxRecDepth 100000 in
set_option maxHeartbeats 8000000 in
theorem put_hist {w0 w : World} {bj bd bm bs c bh : Nat} {J : Jour} {D : Dev} (hL : Live w0 w bj bd bm bs c J D) (hH : Hist w0 w bj bd bm bs bh (J.l.map (·.2)) (lastOf 0 J.l)) (hn : J.next ≤ 4611686018427387000) (x : Stp) (B : Option Addr) (cB : Nat) (hx1 : x.picks.length ≤ cB) (hx2 : Kd.C (Kd.int .i64) w0 B x.picks.length x.picks) :
    Calls Tryd.prog 18 #[.pointer (some ⟨bh, 0, none⟩), .pointer (some ⟨bj, 0, none⟩), .agg #[.int .i64 x.kind, .int .i64 x.n, .int .i64 x.size, .int .u8 x.fill, .slice B x.picks.length cB]] w fun e w' => ∃ er : Int, e = .returned (.tuple #[.bool true, .int .i64 er]) ∧ PutLeaves w0 w w' bj bd bm bs c bh J er := by
  obtain ⟨W1, hW1⟩ : ∃ W1, w.alloc (.cells #[.int .i64 x.kind, .int .i64 x.n, .int .i64 x.size, .int .u8 x.fill, .slice B x.picks.length cB] 30 (0, 0)) = W1 := ⟨_, rfl⟩
  have hb1 : Below w.heap.size w W1 := by rw [← hW1]; exact below_alloc (Below.refl _ _) _
  have hbx : Blk W1 w.heap.size [.int .i64 x.kind, .int .i64 x.n, .int .i64 x.size, .int .u8 x.fill, .slice B x.picks.length cB] := by rw [← hW1]; exact Blk.new w _ _
  have hne : ∀ k, InJour bj bd bs k ∨ k = bh → k < w.heap.size := by
    obtain ⟨lv, hrep⟩ := hL.rep
    obtain ⟨lh, hbh, -⟩ := hH.ex
    rintro k ((rfl | rfl | rfl) | rfl)
    · exact hrep.jour.lt
    · exact hrep.dev.dev.lt
    · exact hrep.dev.mem.hs.lt
    · exact hbh.blk.lt
  have HNE := Aside0.mk hne
  have HL1 := Aside0.mk (hL.more hb1)
  have HH1 := Aside0.mk (hH.below hb1)
  have HM1 := Aside0.mk (Mod.of_below (S := fun k => InJour bj bd bs k ∨ k = bh) hb1)
  have HX := Aside0.mk (And.intro hbx hx2)
  have x0 := hbx.cell 0 rfl
  have x1 := hbx.cell 1 rfl
  have x2 := hbx.cell 2 rfl
  have x3 := hbx.cell 3 rfl
  have x4 := hbx.cell 4 rfl
  have htx := text_some x
  have htc := text_calls x B cB W1 hx1 (Kd.C_below hx2 HL1.out.below)
  obtain ⟨t, ht⟩ : ∃ t, textC x = t := ⟨_, rfl⟩
  rw [ht] at htc htx
  have HT := Aside0.mk ht
  have HX1 := Aside0.mk hx1
  have hts := htx.2
  clear htx ht hL hH hx1 hx2 hb1 hbx hne
  by_cases k1 : x.kind = 1
  · have dk : (x.kind == 1) = true := by simpa using k1
    clear k1
    obtain ⟨J', D', n, er, hA, hh, hnx, hc⟩ := app_cases HL1.out.inv (by omega) t (by omega)
    go_enter Tryd.func18, Tryd.ntmps18
    go_wp2_with fail
    refine htc.mono ?_
    rintro e W2 ⟨rfl, hb⟩
    have hap := live_app (HL1.out.more hb) (by omega) t (by omega)
    rw [hA] at hap
    have HH2 := Aside0.mk (HH1.out.below hb)
    have HX2 := Aside0.mk (HX.out.1.below hb)
    have HM2 := Aside0.mk (HM1.out.below_ hb)
    clear hb htc x0 x1 x2 x3 x4 hA
    go_wp2_with fail
    refine hap.mono ?_
    rintro e W3 ⟨rfl, hl, hm⟩
    have hng : ¬ InJour bj bd bs w.heap.size := fun z => by have := HNE.out _ (.inl z); omega
    have HL3 := Aside0.mk hl
    have HH3 := Aside0.mk (HH2.out.mod hm)
    have HX3 := Aside0.mk (HX2.out.mod hm hng)
    have HM3 := Aside0.mk (HM2.out.trans (hm.mono (fun k hk => .inl hk)))
    clear hap hl hm HH2 HX2 HM2 hng
    rcases hc with ⟨rfl, rfl, hjl⟩ | ⟨he, hjl⟩
    · obtain ⟨L, hLL⟩ : ∃ L, J.l.map (·.2) = L := ⟨_, rfl⟩
      have hLlen : L.length ≤ 100000 := by rw [← hLL, List.length_map]; have := HL1.out.inv.len; have := HL1.out.inv.used; have := HL1.out.inv.half2; omega
      obtain ⟨last, hlast⟩ : ∃ last, lastOf 0 J.l = last := ⟨_, rfl⟩
      obtain ⟨lv, hbh, hown, hnb⟩ := HH3.out.ex
      rw [hLL] at hown
      rw [hlast] at hbh
      obtain ⟨A, cap, rfl, hcap, hnone, -, hcells⟩ := own_reads hown rfl hLlen
      have htc2 : Calls Tryd.prog 8 #[.agg #[.int .i64 x.kind, .int .i64 x.n, .int .i64 x.size, .int .u8 x.fill, .slice B x.picks.length cB]] W3.drew fun e w' => e = .returned (.string t) ∧ Below W3.heap.size W3 w' ∧ w'.cell? ⟨bh, 0, none⟩ = some (.slice A L.length cap) ∧ w'.cell? ⟨bh, 1, none⟩ = some (.int .i64 last) ∧ w'.frozen? ⟨bh, 0, none⟩ = false ∧ w'.cell? ⟨w.heap.size, 0, none⟩ = some (.int .i64 x.kind) ∧ w'.cell? ⟨w.heap.size, 1, none⟩ = some (.int .i64 x.n) ∧ w'.cell? ⟨w.heap.size, 2, none⟩ = some (.int .i64 x.size) ∧ w'.cell? ⟨w.heap.size, 3, none⟩ = some (.int .u8 x.fill) ∧ w'.cell? ⟨w.heap.size, 4, none⟩ = some (.slice B x.picks.length cB) := by
        have h1 := text_calls x B cB W3.drew HX1.out (Kd.C_below HX.out.2 HL3.out.drew.below)
        rw [HT.out] at h1
        refine h1.mono ?_
        rintro e w' ⟨he, hb⟩
        have hb' : Below W3.heap.size W3 w' := (Below.refl _ _).drew.trans hb
        have g1 := (hbh.below hb').blk
        have g2 := HX3.out.below hb'
        exact ⟨he, hb', g1.cell 0 rfl, g1.cell 1 rfl, g1.frozen 0, g2.cell 0 rfl, g2.cell 1 rfl, g2.cell 2 rfl, g2.cell 3 rfl, g2.cell 4 rfl⟩
      have k0 := hbh.blk.cell 0 rfl
      have y0 := HX3.out.cell 0 rfl
      have y1 := HX3.out.cell 1 rfl
      have y2 := HX3.out.cell 2 rfl
      have y3 := HX3.out.cell 3 rfl
      have y4 := HX3.out.cell 4 rfl
      have e1 : (L.length : Int) ≤ (cap : Int) := by omega
      have HG := Aside0.mk (And.intro hLL (And.intro hlast (And.intro hbh (And.intro hown (And.intro hnb (And.intro hnone (And.intro hcells hLlen)))))))
      clear hLL hlast hbh hown hnb hnone hcells hLlen
      go_wp2_with fail
      refine start_ (n := 23) (S := (fun W' => W'.cell? ⟨bh, 0, none⟩ = some (.slice A L.length cap) ∧ W'.cell? ⟨w.heap.size, 0, none⟩ = some (.int .i64 x.kind) ∧ W'.cell? ⟨w.heap.size, 1, none⟩ = some (.int .i64 x.n) ∧ W'.cell? ⟨w.heap.size, 2, none⟩ = some (.int .i64 x.size) ∧ W'.cell? ⟨w.heap.size, 3, none⟩ = some (.int .u8 x.fill) ∧ W'.cell? ⟨w.heap.size, 4, none⟩ = some (.slice B x.picks.length cB))) (ds := [22]) #[false, false, false, false, false, false, false, false, false, false, false, false, false, false, false, false, false, false, false, false, false, false, false] (by kernel_rfl) rfl rfl ⟨k0, y0, y1, y2, y3, y4⟩ (fun hHeld => ?_)
      refine pure_ (i := 0) (N := some 25) (v := ?_) (a' := ?_) #[true, false, false, false, false, false, false, false, false, false, false, false, false, false, false, false, false, false, false, false, false, false, false] rfl rfl (by kernel_rfl) (fun _ _ _ h => h) (Or.inl ⟨by rfl, ?_⟩) ?_ ?_
      rotate_left
      · intro w'
        go_simp
        with_reducible rfl
      rotate_left
      · simp only [Act.put, List.setIfInBounds_toArray, List.set_cons_zero, List.set_cons_succ]
        rfl
      refine pure_ (i := 1) (N := some 26) (v := ?_) (a' := ?_) #[true, true, false, false, false, false, false, false, false, false, false, false, false, false, false, false, false, false, false, false, false, false, false] rfl rfl (by kernel_rfl) (fun _ _ _ h => h) (Or.inl ⟨by rfl, ?_⟩) ?_ ?_
      rotate_left
      · intro w'
        go_simp
        with_reducible rfl
      rotate_left
      · simp only [Act.put, List.setIfInBounds_toArray, List.set_cons_zero, List.set_cons_succ]
        rfl
      refine pure_ (i := 2) (N := some 27) (v := ?_) (a' := ?_) #[true, true, true, false, false, false, false, false, false, false, false, false, false, false, false, false, false, false, false, false, false, false, false] rfl rfl (by kernel_rfl) (fun _ _ _ h => h) (Or.inl ⟨by rfl, ?_⟩) ?_ ?_
      rotate_left
      · intro w'
        go_simp
        with_reducible rfl
      rotate_left
      · simp only [Act.put, List.setIfInBounds_toArray, List.set_cons_zero, List.set_cons_succ]
        rfl
      refine pure_ (i := 3) (N := some 28) (v := ?_) (a' := ?_) #[true, true, true, true, false, false, false, false, false, false, false, false, false, false, false, false, false, false, false, false, false, false, false] rfl rfl (by kernel_rfl) (fun _ _ _ h => h) (Or.inl ⟨by rfl, ?_⟩) ?_ ?_
      rotate_left
      · intro w'
        go_simp
        with_reducible rfl
      rotate_left
      · simp only [Act.put, List.setIfInBounds_toArray, List.set_cons_zero, List.set_cons_succ]
        rfl
      refine take_ (i := 4) (N := some 29) (v := ?_) (a' := ?_) #[true, true, true, true, true, false, false, false, false, false, false, false, false, false, false, false, false, false, false, false, false, false, false] rfl rfl (by kernel_rfl) (fun _ _ _ h => h) (Or.inl ⟨by rfl, ?_⟩) hHeld ?_ ?_
      rotate_left
      · rintro w' ⟨s0, s1, s2, s3, s4, s5⟩
        go_simp
        with_reducible rfl
      rotate_left
      · simp only [Act.put, List.setIfInBounds_toArray, List.set_cons_zero, List.set_cons_succ]
        rfl
      refine pure_ (i := 5) (N := some 30) (v := ?_) (a' := ?_) #[true, true, true, true, true, true, false, false, false, false, false, false, false, false, false, false, false, false, false, false, false, false, false] rfl rfl (by kernel_rfl) (fun _ _ _ h => h) (Or.inl ⟨by rfl, ?_⟩) ?_ ?_
      rotate_left
      · intro w'
        go_simp
        with_reducible rfl
      rotate_left
      · simp only [Act.put, List.setIfInBounds_toArray, List.set_cons_zero, List.set_cons_succ]
        rfl
      refine pure_ (i := 6) (N := some 31) (v := ?_) (a' := ?_) #[true, true, true, true, true, true, true, false, false, false, false, false, false, false, false, false, false, false, false, false, false, false, false] rfl rfl (by kernel_rfl) (fun _ _ _ h => h) (Or.inl ⟨by rfl, ?_⟩) ?_ ?_
      rotate_left
      · intro w'
        go_simp
        with_reducible rfl
      rotate_left
      · simp only [Act.put, List.setIfInBounds_toArray, List.set_cons_zero, List.set_cons_succ]
        rfl
      refine pure_ (i := 7) (N := some 32) (v := ?_) (a' := ?_) #[true, true, true, true, true, true, true, true, false, false, false, false, false, false, false, false, false, false, false, false, false, false, false] rfl rfl (by kernel_rfl) (fun _ _ _ h => h) (Or.inl ⟨by rfl, ?_⟩) ?_ ?_
      rotate_left
      · intro w'
        go_simp
        with_reducible rfl
      rotate_left
      · simp only [Act.put, List.setIfInBounds_toArray, List.set_cons_zero, List.set_cons_succ]
        rfl
      refine take_ (i := 8) (N := some 33) (v := ?_) (a' := ?_) #[true, true, true, true, true, true, true, true, true, false, false, false, false, false, false, false, false, false, false, false, false, false, false] rfl rfl (by kernel_rfl) (fun _ _ _ h => h) (Or.inl ⟨by rfl, ?_⟩) hHeld ?_ ?_
      rotate_left
      · rintro w' ⟨s0, s1, s2, s3, s4, s5⟩
        go_simp
        with_reducible rfl
      rotate_left
      · simp only [Act.put, List.setIfInBounds_toArray, List.set_cons_zero, List.set_cons_succ]
        rfl
      refine pure_ (i := 9) (N := some 34) (v := ?_) (a' := ?_) #[true, true, true, true, true, true, true, true, true, true, false, false, false, false, false, false, false, false, false, false, false, false, false] rfl rfl (by kernel_rfl) (fun _ _ _ h => h) (Or.inl ⟨by rfl, ?_⟩) ?_ ?_
      rotate_left
      · intro w'
        go_simp
        with_reducible rfl
      rotate_left
      · simp only [Act.put, List.setIfInBounds_toArray, List.set_cons_zero, List.set_cons_succ]
        rfl
      refine pure_ (i := 10) (N := some 35) (v := ?_) (a' := ?_) #[true, true, true, true, true, true, true, true, true, true, true, false, false, false, false, false, false, false, false, false, false, false, false] rfl rfl (by kernel_rfl) (fun _ _ _ h => h) (Or.inl ⟨by rfl, ?_⟩) ?_ ?_
      rotate_left
      · intro w'
        go_simp
        with_reducible rfl
      rotate_left
      · simp only [Act.put, List.setIfInBounds_toArray, List.set_cons_zero, List.set_cons_succ]
        rfl
      refine pure_ (i := 11) (N := some 36) (v := ?_) (a' := ?_) #[true, true, true, true, true, true, true, true, true, true, true, true, false, false, false, false, false, false, false, false, false, false, false] rfl rfl (by kernel_rfl) (fun _ _ _ h => h) (Or.inl ⟨by rfl, ?_⟩) ?_ ?_
      rotate_left
      · intro w'
        go_simp
        with_reducible rfl
      rotate_left
      · simp only [Act.put, List.setIfInBounds_toArray, List.set_cons_zero, List.set_cons_succ]
        rfl
      refine pure_ (i := 12) (N := some 37) (v := ?_) (a' := ?_) #[true, true, true, true, true, true, true, true, true, true, true, true, true, false, false, false, false, false, false, false, false, false, false] rfl rfl (by kernel_rfl) (fun _ _ _ h => h) (Or.inl ⟨by rfl, ?_⟩) ?_ ?_
      rotate_left
      · intro w'
        go_simp
        with_reducible rfl
      rotate_left
      · simp only [Act.put, List.setIfInBounds_toArray, List.set_cons_zero, List.set_cons_succ]
        rfl
      refine take_ (i := 13) (N := some 38) (v := ?_) (a' := ?_) #[true, true, true, true, true, true, true, true, true, true, true, true, true, true, false, false, false, false, false, false, false, false, false] rfl rfl (by kernel_rfl) (fun _ _ _ h => h) (Or.inl ⟨by rfl, ?_⟩) hHeld ?_ ?_
      rotate_left
      · rintro w' ⟨s0, s1, s2, s3, s4, s5⟩
        go_simp
        with_reducible rfl
      rotate_left
      · simp only [Act.put, List.setIfInBounds_toArray, List.set_cons_zero, List.set_cons_succ]
        rfl
      refine pure_ (i := 14) (N := some 39) (v := ?_) (a' := ?_) #[true, true, true, true, true, true, true, true, true, true, true, true, true, true, true, false, false, false, false, false, false, false, false] rfl rfl (by kernel_rfl) (fun _ _ _ h => h) (Or.inl ⟨by rfl, ?_⟩) ?_ ?_
      rotate_left
      · intro w'
        go_simp
        with_reducible rfl
      rotate_left
      · simp only [Act.put, List.setIfInBounds_toArray, List.set_cons_zero, List.set_cons_succ]
        rfl
      refine pure_ (i := 15) (N := some 40) (v := ?_) (a' := ?_) #[true, true, true, true, true, true, true, true, true, true, true, true, true, true, true, true, false, false, false, false, false, false, false] rfl rfl (by kernel_rfl) (fun _ _ _ h => h) (Or.inl ⟨by rfl, ?_⟩) ?_ ?_
      rotate_left
      · intro w'
        go_simp
        with_reducible rfl
      rotate_left
      · simp only [Act.put, List.setIfInBounds_toArray, List.set_cons_zero, List.set_cons_succ]
        rfl
      refine take_ (i := 16) (N := some 41) (v := ?_) (a' := ?_) #[true, true, true, true, true, true, true, true, true, true, true, true, true, true, true, true, true, false, false, false, false, false, false] rfl rfl (by kernel_rfl) (fun _ _ _ h => h) (Or.inl ⟨by rfl, ?_⟩) hHeld ?_ ?_
      rotate_left
      · rintro w' ⟨s0, s1, s2, s3, s4, s5⟩
        go_simp
        with_reducible rfl
      rotate_left
      · simp only [Act.put, List.setIfInBounds_toArray, List.set_cons_zero, List.set_cons_succ]
        rfl
      refine one_ (i := 17) (N := some 42) #[true, true, true, true, true, true, true, true, true, true, true, true, true, true, true, true, true, true, false, false, false, false, false] rfl rfl (by kernel_rfl) (by decide) (fun K hK => ?_)
      refine goes_ Tryd.func8 (by kernel_rfl) rfl #[.agg #[.int .i64 x.kind, .int .i64 x.n, .int .i64 x.size, .int .u8 x.fill, .slice B x.picks.length cB]] (by rfl) rfl rfl (by (try simp only [List.map_toArray, List.map_cons, List.map_nil]); first | done | rfl) ?_
      refine htc2.mono ?_
      rintro e w4 ⟨rfl, hb4, q0, q5, f0, z0, z1, z2, z3, z4⟩
      refine ⟨_, rfl, ?_⟩
      obtain ⟨v5, w5, hrun, hown5, hgrow5⟩ := put_run HG.out.2.2.2.2.2.1 HG.out.2.2.2.2.2.2.1 hb4 t HG.out.2.2.2.2.2.2.2
      have hb5 : Below W3.heap.size W3 w5 := put_grown hb4 hgrow5
      obtain ⟨g5, cp5, rfl⟩ := row_form hown5 (by omega)
      have hal : Below w4.heap.size w4 (w4.alloc (.cells #[.string t] 9)) := below_alloc (Below.refl _ _) _
      have hb6 : Below W3.heap.size W3 (w4.alloc (.cells #[.string t] 9)) := hb4.trans (hal.mono hb4.size)
      have hS6 := Aside0.mk (And.intro (hb6.cell_of HG.out.2.2.1.blk 0 rfl) (And.intro (hb6.cell_of HX3.out 0 rfl) (And.intro (hb6.cell_of HX3.out 1 rfl) (And.intro (hb6.cell_of HX3.out 2 rfl) (And.intro (hb6.cell_of HX3.out 3 rfl) (hb6.cell_of HX3.out 4 rfl))))))
      have hS5 := Aside0.mk (And.intro (hb5.cell_of HG.out.2.2.1.blk 0 rfl) (And.intro (hb5.cell_of HX3.out 0 rfl) (And.intro (hb5.cell_of HX3.out 1 rfl) (And.intro (hb5.cell_of HX3.out 2 rfl) (And.intro (hb5.cell_of HX3.out 3 rfl) (hb5.cell_of HX3.out 4 rfl))))))
      have u0 := hb5.cell_of HG.out.2.2.1.blk 0 rfl
      have uf := hb5.frozen_of HG.out.2.2.1.blk 0
      have HB5 := Aside0.mk (And.intro hb5 (And.intro hown5 (And.intro hgrow5 hb4)))
      clear hown5 hgrow5 hb5 hal hb6
      refine hK.out _ _ ⟨q0, z0, z1, z2, z3, z4⟩ (fun hHeld => ?_)
      clear hK K
      refine norm_ (a' := ?_) ?_ ?_
      rotate_left
      · show Act.put _ (some 42) _ = _
        simp only [Act.put, List.setIfInBounds_toArray, List.set_cons_zero, List.set_cons_succ]
        rfl
      refine one_ (i := 18) (N := some 43) #[true, true, true, true, true, true, true, true, true, true, true, true, true, true, true, true, true, true, true, false, false, false, false] rfl rfl (by kernel_rfl) (by decide) (fun K hK => ?_)
      refine value_ (w1 := w4.alloc (.cells #[.string t] 9)) (v := .slice (some ⟨w4.heap.size, 0, none⟩) 1 1) (by rfl) rfl (by go_simp) ?_
      refine hK.out _ _ hS6.out (fun hHeld => ?_)
      clear hK K
      refine norm_ (a' := ?_) ?_ ?_
      rotate_left
      · show Act.put _ (some 43) _ = _
        simp only [Act.put, List.setIfInBounds_toArray, List.set_cons_zero, List.set_cons_succ]
        rfl
      refine one_ (i := 19) (N := some 44) #[true, true, true, true, true, true, true, true, true, true, true, true, true, true, true, true, true, true, true, true, false, false, false] rfl rfl (by kernel_rfl) (by decide) (fun K hK => ?_)
      refine value_ (w1 := w5) (v := .slice (some ⟨g5, 0, none⟩) (L.length + 1) cp5) (by rfl) rfl (app_step rfl rfl rfl hrun) ?_
      refine hK.out _ _ hS5.out (fun hHeld => ?_)
      clear hK K
      refine norm_ (a' := ?_) ?_ ?_
      rotate_left
      · show Act.put _ (some 44) _ = _
        simp only [Act.put, List.setIfInBounds_toArray, List.set_cons_zero, List.set_cons_succ]
        rfl
      refine pure_ (i := 20) (N := some 45) (v := ?_) (a' := ?_) #[true, true, true, true, true, true, true, true, true, true, true, true, true, true, true, true, true, true, true, true, true, false, false] rfl rfl (by kernel_rfl) (fun _ _ _ h => h) (Or.inl ⟨by rfl, ?_⟩) ?_ ?_
      rotate_left
      · intro w'
        go_simp
        with_reducible rfl
      rotate_left
      · simp only [Act.put, List.setIfInBounds_toArray, List.set_cons_zero, List.set_cons_succ]
        rfl
      refine pure_ (i := 21) (N := some 46) (v := ?_) (a' := ?_) #[true, true, true, true, true, true, true, true, true, true, true, true, true, true, true, true, true, true, true, true, true, true, false] rfl rfl (by kernel_rfl) (fun _ _ _ h => h) (Or.inl ⟨by rfl, ?_⟩) ?_ ?_
      rotate_left
      · intro w'
        go_simp
        with_reducible rfl
      rotate_left
      · simp only [Act.put, List.setIfInBounds_toArray, List.set_cons_zero, List.set_cons_succ]
        rfl
      refine last_ (i := 22) (N := none) #[true, true, true, true, true, true, true, true, true, true, true, true, true, true, true, true, true, true, true, true, true, true, true] rfl rfl (by kernel_rfl) (by decide) (fun K hK => ?_)
      refine skip_ (w1 := w5.setCell ⟨bh, 0, none⟩ (.slice (some ⟨g5, 0, none⟩) (L.length + 1) cp5)) (by rfl) rfl (by go_simp) ?_
      refine hK.out _ _ ?_
      clear hK K
      refine done_ (by kernel_rfl) ?_
      obtain ⟨hb5, hown5, hgrow5, hb4⟩ := HB5.out
      have hB5 := HG.out.2.2.1.below hb5
      have hB6 := hB5.set0 (.slice (some ⟨g5, 0, none⟩) (L.length + 1) cp5)
      obtain ⟨W6, hW6⟩ : ∃ W6, w5.setCell ⟨bh, 0, none⟩ (.slice (some ⟨g5, 0, none⟩) (L.length + 1) cp5) = W6 := ⟨_, rfl⟩
      have hm6 : Mod (fun k => k = bh) w5 W6 := by rw [← hW6]; exact (Mod.refl (fun k => k = bh) _).at_ rfl _ _
      rw [hW6] at hB6 ⊢
      have k1 := hB6.blk.cell 1 rfl
      have f1 := hB6.blk.frozen 1
      have hlt : last < J.next := by rw [← HG.out.2.1]; exact lastOf_lt _ _ (by have := HL1.out.inv.next1; omega) HL1.out.inv.nums
      have dl : decide (J.next ≤ last) = false := decide_eq_false (by omega)
      have HZ := Aside0.mk (And.intro hb5 (And.intro hown5 (And.intro hB5 (And.intro hB6 (And.intro hm6 hb4)))))
      clear hb5 hown5 hgrow5 hb4 hB5 hB6 hm6 HB5 hlt hS5 hS6 u0 uf z0 z1 z2 z3 z4 q0 q5 f0 hrun k0 y0 y1 y2 y3 y4 hHeld htc2
      go_wp2
      go_ret2
      obtain ⟨hb5, hown5, hB5, hB6, hm6, hb4⟩ := HZ.out
      have hmf : Mod (fun k => k = bh) w5 (W6.setCell ⟨bh, 1, none⟩ (.int .i64 J.next)) := hm6.at_ rfl _ _
      have hs4 := hb4.size
      have hbl := HG.out.2.2.1.blk.lt
      have hg5 : w4.heap.size + 1 ≤ g5 := by
        have := own_base hown5 g5 rfl
        rwa [World.size_alloc] at this
      have hall : ∀ k, InJour bj bd bs k ∨ k = bh → k < W3.heap.size := fun k hk => by have := HNE.out k hk; have := HM3.out.size; omega
      refine ⟨0, rfl, .inl rfl, ⟨J', D', (HL3.out.more hb5).hist hB5 HH3.out.nj HH3.out.nd HH3.out.nm HH3.out.ns HH3.out.lo hmf, ?_, hh, hnx⟩, (HM3.out.below_ hb5).trans (hmf.mono (fun k hk => .inr hk))⟩
      rw [hjl, List.map_append, HG.out.1, lastOf_snoc]
      refine ⟨⟨_, hB6.set1 J.next, ?_, ?_⟩, HH3.out.nj, HH3.out.nd, HH3.out.nm, HH3.out.ns, HH3.out.lo⟩
      · have h1 := own_mod_ne (row_le hown5 (Nat.zero_le _)) hmf (fun g hg => by
          obtain rfl : g5 = g := Option.some.inj hg
          omega)
        rw [List.length_append]
        exact h1
      · intro g hg
        obtain rfl : g5 = g := Option.some.inj hg
        intro z
        have := hall _ (.inl z)
        omega
    · have d0 : (er == 0) = false := by rcases he with rfl | rfl <;> rfl
      go_wp2
      go_ret2
      refine ⟨er, rfl, by rcases he with rfl | rfl <;> simp, ⟨J', D', HL3.out, by rw [hjl]; exact HH3.out, hh, hnx⟩, HM3.out⟩
  by_cases k2 : x.kind = 2
  · have dk : (x.kind == 1) = false := by simpa using k1
    have dk2 : (x.kind == 2) = true := by simpa using k2
    clear k1 k2
    obtain ⟨J', D', n, er, hA, hh, hnx, hc⟩ := comp_cases HL1.out.inv (by omega) t (by omega)
    go_enter Tryd.func18, Tryd.ntmps18
    go_wp2_with fail
    refine htc.mono ?_
    rintro e W2 ⟨rfl, hb⟩
    have hap := live_comp (HL1.out.more hb) (by omega) t (by omega)
    rw [hA] at hap
    have HH2 := Aside0.mk (HH1.out.below hb)
    have HX2 := Aside0.mk (HX.out.1.below hb)
    have HM2 := Aside0.mk (HM1.out.below_ hb)
    clear hb htc x0 x1 x2 x3 x4 hA
    go_wp2_with fail
    refine hap.mono ?_
    rintro e W3 ⟨rfl, hl, hm⟩
    have hng : ¬ InJour bj bd bs w.heap.size := fun z => by have := HNE.out _ (.inl z); omega
    have HL3 := Aside0.mk hl
    have HH3 := Aside0.mk (HH2.out.mod hm)
    have HX3 := Aside0.mk (HX2.out.mod hm hng)
    have HM3 := Aside0.mk (HM2.out.trans (hm.mono (fun k hk => .inl hk)))
    clear hap hl hm HH2 HX2 HM2 hng
    rcases hc with ⟨rfl, rfl, hjl⟩ | ⟨he, hjl⟩
    · obtain ⟨last, hlast⟩ : ∃ last, lastOf 0 J.l = last := ⟨_, rfl⟩
      obtain ⟨lv, hbh, hown, hnb⟩ := HH3.out.ex
      rw [hlast] at hbh
      have htc2 := text_calls x B cB W3 HX1.out (Kd.C_below HX.out.2 HL3.out.below)
      rw [HT.out] at htc2
      have y0 := HX3.out.cell 0 rfl
      have y1 := HX3.out.cell 1 rfl
      have y2 := HX3.out.cell 2 rfl
      have y3 := HX3.out.cell 3 rfl
      have y4 := HX3.out.cell 4 rfl
      have HG := Aside0.mk (And.intro hlast hbh)
      clear hlast hbh hown hnb
      go_wp2_with fail
      refine htc2.mono ?_
      rintro e w4 ⟨rfl, hb4⟩
      obtain ⟨W5, hW5⟩ : ∃ W5, w4.alloc (.cells #[.string t] 9 (0, 0)) = W5 := ⟨_, rfl⟩
      have hal : Below w4.heap.size w4 W5 := by rw [← hW5]; exact below_alloc (Below.refl _ _) _
      have hnew : Blk W5 w4.heap.size [.string t] := by rw [← hW5]; exact Blk.new w4 _ _
      have hown5 : W5.ownsRow 0 9 1 (.slice (some ⟨w4.heap.size, 0, none⟩) 1 1) 1 (strCells [t]) := by
        rw [← hW5]
        exact ⟨rfl, .inr ⟨w4.heap.size, 1, #[.string t], rfl, Nat.zero_le _, blk_new w4 _, Nat.le_refl _, by unfold maxLen; omega, rfl, rfl⟩⟩
      have hb5 : Below W3.heap.size W3 W5 := hb4.trans (hal.mono hb4.size)
      have hB5 := HG.out.2.below hb5
      have k0 := hB5.blk.cell 0 rfl
      have k1 := hB5.blk.cell 1 rfl
      have f0 := hB5.blk.frozen 0
      have f1 := hB5.blk.frozen 1
      have hlt : last < J.next := by rw [← HG.out.1]; exact lastOf_lt _ _ (by have := HL1.out.inv.next1; omega) HL1.out.inv.nums
      have dl : decide (J.next ≤ last) = false := decide_eq_false (by omega)
      have HZ := Aside0.mk (And.intro hb5 (And.intro hown5 (And.intro hB5 hb4)))
      clear hb5 hown5 hB5 hb4 hal hnew hlt htc2 y0 y1 y2 y3 y4
      go_wp2
      go_ret2
      obtain ⟨hb5, hown5, hB5, hb4⟩ := HZ.out
      obtain ⟨W6, hW6⟩ : ∃ W6, W5.setCell ⟨bh, 0, none⟩ (.slice (some ⟨w4.heap.size, 0, none⟩) 1 1) = W6 := ⟨_, rfl⟩
      have hB6 := hB5.set0 (.slice (some ⟨w4.heap.size, 0, none⟩) 1 1)
      have hm6 : Mod (fun k => k = bh) W5 W6 := by rw [← hW6]; exact (Mod.refl (fun k => k = bh) _).at_ rfl _ _
      rw [hW6] at hB6 ⊢
      have hmf : Mod (fun k => k = bh) W5 (W6.setCell ⟨bh, 1, none⟩ (.int .i64 J.next)) := hm6.at_ rfl _ _
      have hs4 := hb4.size
      have hbl := HG.out.2.blk.lt
      have hall : ∀ k, InJour bj bd bs k ∨ k = bh → k < W3.heap.size := fun k hk => by have := HNE.out k hk; have := HM3.out.size; omega
      refine ⟨0, rfl, .inl rfl, ⟨J', D', (HL3.out.more hb5).hist hB5 HH3.out.nj HH3.out.nd HH3.out.nm HH3.out.ns HH3.out.lo hmf, ?_, hh, hnx⟩, (HM3.out.below_ hb5).trans (hmf.mono (fun k hk => .inr hk))⟩
      rw [hjl]
      refine ⟨⟨_, hB6.set1 J.next, ?_, ?_⟩, HH3.out.nj, HH3.out.nd, HH3.out.nm, HH3.out.ns, HH3.out.lo⟩
      · exact own_mod_ne hown5 hmf (fun g hg => by
          obtain rfl : w4.heap.size = g := Option.some.inj hg
          omega)
      · intro g hg
        obtain rfl : w4.heap.size = g := Option.some.inj hg
        intro z
        have := hall _ (.inl z)
        omega
    · have d0 : (er == 0) = false := by rcases he with rfl | rfl <;> rfl
      go_wp2
      go_ret2
      refine ⟨er, rfl, by rcases he with rfl | rfl <;> simp, ⟨J', D', HL3.out, by rw [hjl]; exact HH3.out, hh, hnx⟩, HM3.out⟩
  have dk : (x.kind == 1) = false := by simpa using k1
  have dk2 : (x.kind == 2) = false := by simpa using k2
  clear k1 k2 htc
  go_enter Tryd.func18, Tryd.ntmps18
  go_wp2
  go_ret2
  exact ⟨0, rfl, .inl rfl, ⟨J, D, HL1.out, HH1.out, rfl, by omega⟩, HM1.out⟩
end Go.Proofs.YtcdgbdojopfkgaaDoor.P
