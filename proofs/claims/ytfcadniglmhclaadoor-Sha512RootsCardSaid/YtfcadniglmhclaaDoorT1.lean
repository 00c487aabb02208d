/-
  The walk of sha512.digest (function 21).
-/
import Derived.Test.YtfcadniglmhclaaDoorS6
import Derived.Test.YtfcadniglmhclaaDoorS9
import Derived.RangeFuncFrom
import Derived.Outline
namespace Go.Proofs.YtfcadniglmhclaaDoor.S
open Go.RowKit Go.Proofs.YtfcadniglmhclaaDoorW.PrintWords Go.Proofs.YtfcadniglmhclaaDoorW.PrintLast Go.Proofs.YtfcadniglmhclaaDoorW.PrintMore
open Go.Proofs.YtfcadniglmhclaaDoor.R
attribute [local go_sem] Oper.semAt_some

def bts (l : List Int) : Array Value := (l.map (Value.int .u8)).toArray
def Z64 : Array Value := bts (List.replicate 64 0)
theorem zero34 (w : World) : (zeroValue 34).run Tryd.prog w = .ok (.agg Z64) w := by kernel_rfl

theorem R_block {w : World} {base : Nat} {ok : Nat → Prop} {v : Value} {xs : List Int} (h : Kd.R (Kd.int .u8) 5 w base ok v xs) (hx : xs ≠ []) (n : Nat) (hn : xs.length = n) :
    ∃ g cap cells, v = .slice (some ⟨g, 0, none⟩) n cap ∧ n ≤ cap ∧ base ≤ g ∧ w.heap[g]? = some (.cells cells 5 (0, 0)) ∧ Kd.C (Kd.int .u8) w (some ⟨g, 0, none⟩) xs.length xs := by
  subst hn
  obtain ⟨inner, hi⟩ := Kd.R_own h
  rcases hi.2 with ⟨rfl, h2⟩ | ⟨g, cap, cs, rfl, hb, hg, hc, _⟩
  · have hr := Kd.R_reads' h
    exact absurd (List.eq_nil_of_length_eq_zero hr.1.symm) hx
  · exact ⟨g, cap, cs, rfl, hc, hb, hg, (Kd.R_reads' h).2.2⟩

theorem In.below {w w' : World} {v : Value} {b : List Int} (h : In w v b) (hb : Below w.heap.size w w') : In w' v b := by
  rcases h with h | ⟨a0, c, h1, h2, h3⟩
  · exact .inl h
  · exact .inr ⟨a0, c, h1, h2, Kd.C_below h3 hb⟩

/-- What the chunks that have come make of the beginning. -/
def digL (h b : List Int) (N : Nat) (pre : List (Fin N)) : List Int := pre.foldl (fun h i => takeS KS h ((b.drop (128 * i.1)).take 128)) h
theorem digL_snoc (h b : List Int) (N : Nat) (pre : List (Fin N)) (x : Fin N) : digL h b N (pre ++ [x]) = takeS KS (digL h b N pre) ((b.drop (128 * x.1)).take 128) := by simp [digL]
theorem digL_upto (h b : List Int) (N : Nat) : ∀ k, k ≤ N → digL h b N (upto N k) = digN KS h b k
  | 0, _ => by simp [digL, upto, digN]
  | k + 1, hk => by rw [upto_succ N k hk, digL_snoc, digL_upto h b N k (by omega)]; rfl
theorem length_digL (h b : List Int) (N : Nat) (hh : h.length = 8) (pre : List (Fin N)) : (digL h b N pre).length = 8 := by
  have : ∀ (pre : List (Fin N)) (h : List Int), h.length = 8 → (digL h b N pre).length = 8 := by
    intro pre
    induction pre with
    | nil => intro h hh; exact hh
    | cons x l ih => intro h _; exact ih _ (length_takeS _ _ _)
  exact this pre h hh

theorem own_block {A B : World} {row : Option Nat} {k : Nat} {cs : Array Value} {t : TypeId} {fr : Nat × Nat} {N : Nat} (h : A.heap[k]? = some (.cells cs t fr)) (hg : A.grownBy B row) (hr : ∀ r, row = some r → N ≤ r ∧ ∃ o : Obj, A.heap[r]? = some o ∧ o.isCells = false) :
    B.heap[k]? = some (.cells cs t fr) := by
  refine (hg.block k (Array.getElem?_eq_some_iff.1 h).1 (fun e => ?_)).trans h
  obtain ⟨_, o, ho, hc⟩ := hr k e.symm
  rw [h] at ho
  injection ho with ho
  subst ho
  simp [Obj.isCells] at hc

theorem C_block {w W : World} {g : Nat} {o : Obj} {n : Nat} {xs : List Int} (h : Kd.C (Kd.int .u8) w (some ⟨g, 0, none⟩) n xs) (h1 : w.heap[g]? = some o) (h2 : W.heap[g]? = some o) : Kd.C (Kd.int .u8) W (some ⟨g, 0, none⟩) xs.length xs := by
  have hl := Kd.C_len h
  subst hl
  refine Kd.C_of_reads (enc := Value.int .u8) (d := (0 : Int)) (h1 := fun _ => rfl) ?_
  have hr := Kd.reads_of_C (enc := Value.int .u8) (d := (0 : Int)) (h1 := fun _ => rfl) h
  refine ⟨rfl, hr.2.1, fun hp => ?_⟩
  obtain ⟨ad, e, hc⟩ := hr.2.2 hp
  obtain rfl := Option.some.inj e
  refine ⟨_, rfl, fun j hj => ?_⟩
  have hadd : (⟨g, 0, none⟩ : Addr).add j = ⟨g, j, none⟩ := by unfold Addr.add; split <;> simp_all
  have h3 := hc j hj
  rw [hadd] at h3 ⊢
  rw [← h3]
  simp only [World.cell?, h1, h2]
theorem By.append {a b : List Int} (h : By a) (k : By b) : By (a ++ b) := fun x hx => (List.mem_append.1 hx).elim (h x) (k x)
theorem by_layS (x : Int) : By (layS x) := fun y hy => by
  simp only [layS, List.mem_map] at hy
  obtain ⟨i, _, rfl⟩ := hy
  omega
theorem by_filled {b : List Int} (h : By b) : By (filledS b) := by
  refine ((h.append ?_).append (by_layS _)).append (by_layS _)
  intro x hx
  rcases List.mem_cons.1 hx with rfl | hx
  · omega
  · have := List.eq_of_mem_replicate hx; omega

/-- Stores into cells of block B. -/
structure Touch (B : Nat) (w w' : World) : Prop where
  block : ∀ k, k ≠ B → w'.heap[k]? = w.heap[k]?
  keeps : KeepsOthers w w'
  below : ∀ D w0, D ≤ B → Below D w0 w → Below D w0 w'
theorem Touch.refl (B : Nat) (w : World) : Touch B w w := ⟨fun _ _ => rfl, KeepsOthers.refl _, fun _ _ _ h => h⟩
theorem Touch.set {B : Nat} {w w' : World} (h : Touch B w w') (i : Nat) (v : Value) : Touch B w (w'.setCell ⟨B, i, none⟩ v) :=
  ⟨fun k hk => (heap_setCell_other w' ⟨B, i, none⟩ k v hk).trans (h.block k hk), h.keeps.trans (KeepsOthers.setCell _ _ _), fun D w0 hD hb => (h.below D w0 hD hb).setCell hD _⟩

section
variable {P : Program} {ops : Array Oper} {rest : List Oper} {o : Oper} {a : Act} {w : World} {Q : Exit → Act → World → Prop}
/-- An array of bytes that lies at the head of a slice's cells, read whole. -/
theorem load_bytes (hgd : o.guard = none) (ty : TypeId) (x : Operand) (ho : o.op = .load ty x) (p : Addr) (hx : a.eval x = .pointer (some p)) (l : List Int) (d : TypeDesc)
    (hc : Kd.C (Kd.int .u8) w (some p) l.length l) (hu : P.underlying ty = some d) (hd : (match d with | .struct _ | .array _ _ => true | _ => false) = true) (hi : (P.info? ty).map (·.size) = some l.length)
    (h : wpList P ops Q rest (a.put o.dst (.agg (bts l))) w) : wpList P ops Q (o :: rest) a w := by
  refine wpList_plain hgd fun K hK => ?_
  have hr := Kd.reads_of_C (enc := Value.int .u8) (d := (0 : Int)) (h1 := fun _ => rfl) hc
  have hl : (loadCells p (l.map (Value.int .u8)).length).run P w = .ok (l.map (Value.int .u8)).toArray w :=
    run_loadCells_list (P := P) (w := w) p (l.map (Value.int .u8)) (fun j v hv => by
      obtain ⟨z, hz, rfl⟩ : ∃ z, l[j]? = some z ∧ Value.int .u8 z = v := by simpa using hv
      obtain ⟨hj, hzz⟩ := List.getElem?_eq_some_iff.1 hz
      obtain ⟨ad, e, hcell⟩ := hr.2.2 (by omega)
      obtain rfl := Option.some.inj e
      rw [hcell j hj]
      simp [List.getD_eq_getElem?_getD, hz])
  rw [List.length_map] at hl
  have hrun : (loadVar ty p).run P w = .ok (.agg (bts l)) w := by
    cases hq : P.info? ty with
    | none => simp [hq] at hi
    | some i =>
      have hs : i.size = l.length := by simpa [hq] using hi
      have hagg : (isAgg ty).run P w = .ok true w := by
        unfold isAgg
        rw [Sem.run_bind, run_underlying hu w]
        cases d <;> simp_all
      simp [loadVar, Sem.run_bind, hagg, sizeOf, typeInfo, hq, hs, hl, bts]
  unfold Oper.wp execOp
  simp only [ho, hx, Instr.loadAt, Instr.sureAddr, Sem.run_bind, Sem.run_pure, Result.andThen_ok, hrun]
  exact hK _ _ h
end
theorem array34 (p : Addr) (c : Nat) (w : World) : (Instr.arrayAt 34 (.slice (some p) 64 c)).run Tryd.prog w = .ok (.pointer (some p)) w := by
  simp [Instr.arrayAt, run_underlying Tryd.underlying34]
theorem info34 : (Tryd.prog.info? 34).map (·.size) = some 64 := by kernel_rfl
theorem bytes_step (s : List Int) (i : Nat) (h : i < s.length) : bytesS (s.take i) ++ layS (at' s i) = bytesS (s.take (i + 1)) := by
  rw [List.take_succ_eq_append_getElem h]
  unfold bytesS
  rw [List.flatMap_append]
  congr 1
  simp [at', List.getD_eq_getElem?_getD, h]

set_option maxRecDepth 100000 in
set_option maxHeartbeats 1000000 in
theorem digest_any (h : List Int) (v : Value) (b : List Int) (w : World) (hh : h.length = 8) (hn : b.length ≤ 1000000) (hby : By b) (hi : In w v b) (hG : Gl w) :
    Calls Tryd.prog 21 #[.agg (wds h), v] w fun e w' => e = .returned (.agg (bts (bytesS (digS KS h b)))) ∧ Below w.heap.size w w' := by
  have hz := zero34
  have HI := Aside0.mk hi
  have HG := Aside0.mk hG
  have HBY := Aside0.mk hby
  have HN := Aside0.mk hn
  obtain ⟨res, hres⟩ : ∃ r, r = bts (bytesS (digS KS h b)) := ⟨_, rfl⟩
  rw [← hres]
  have HRES := Aside0.mk hres
  obtain ⟨h0, h1, h2, h3, h4, h5, h6, h7, rfl⟩ := eight hh
  obtain ⟨N, hLN⟩ : ∃ N, (filledS b).length = 128 * N := ⟨(filledS b).length / 128, by have := filled_whole b; omega⟩
  have hNb : N ≤ 10000 := by have := length_filledS b; omega
  have HLN := Aside0.mk hLN
  clear hi hG hby hn hh hres hLN
  change Calls Tryd.prog 21 #[.agg #[.int .u64 h0, .int .u64 h1, .int .u64 h2, .int .u64 h3, .int .u64 h4, .int .u64 h5, .int .u64 h6, .int .u64 h7], v] w fun e w' => e = .returned (.agg res) ∧ Below w.heap.size w w'
  refine (callsIn_wide (n := 4)).1 ?_
  refine callsIn_of_wp_marks Tryd.func21 rfl trivial ?_ rfl
  simp only [Tryd.ntmps21, List.size_toArray, List.length_cons, List.length_nil, Nat.reduceAdd, Nat.reduceSub, Array.replicate_succ, Array.replicate_zero, List.push_toArray, List.append_toArray, List.nil_append, List.cons_append]
  refine wpIn_wide.2 ?_
  go_wp2_with (first | (go_at_call 28; refine (filled_any _ _ b HN.out (HI.out.below (below_alloc (below_alloc (Below.refl _ _) _) _))).mono ?_; rintro e w3 ⟨v10, rfl, ho, hb3⟩; obtain ⟨g, cap, cells, rfl, hcap, hg, hcells, hC⟩ := R_block ho (by intro hf; have := length_filledS b; rw [hf] at this; simp at this) (128 * N) HLN.out) | (go_at_call 27; refine (chunk_any _ _ _ _).mono ?_; rintro e w4 ⟨rfl, rfl⟩))
  obtain ⟨wL, hwL⟩ : ∃ wL, wL = (w3.alloc (Obj.cells #[Value.slice (some { block := g, off := 0 }) (128 * N) cap] 22)).alloc (Obj.cells #[Value.int IntKind.i64 128] 3) := ⟨_, rfl⟩
  rw [← hwL]
  have hs3 : w.heap.size + 1 + 1 ≤ w3.heap.size := by have := hb3.size; simpa using this
  have hgs : g < w3.heap.size := (Array.getElem?_eq_some_iff.1 hcells).1
  have hg2 : w.heap.size + 1 + 1 ≤ g := by simpa using hg
  have hbL : Below w3.heap.size w3 wL := by rw [hwL]; exact below_alloc (below_alloc (Below.refl _ _) _) _
  have hsL : wL.heap.size = w3.heap.size + 1 + 1 := by rw [hwL]; simp
  have hBs : wL.heap[w3.heap.size]? = some (.cells #[.slice (some ⟨g, 0, none⟩) (128 * N) cap] 22 (0, 0)) := by rw [hwL]; exact heap_alloc2_old _ _ _
  have hBn : wL.heap[w3.heap.size + 1]? = some (.cells #[.int .i64 128] 3 (0, 0)) := by rw [hwL]; exact heap_alloc2_new _ _ _
  have hW3 : Wb w3 w.heap.size 28 [h0, h1, h2, h3, h4, h5, h6, h7] := ((Wb.new w 28 [h0, h1, h2, h3, h4, h5, h6, h7]).alloc _).below hb3
  have hR3 : w3.heap[w.heap.size + 1]? = some (.cells Z64 34 (0, 0)) := (hb3.block _ (by simp)).trans (heap_alloc2_new _ _ _)
  have hBL : Below w.heap.size w wL := (below_step (below_alloc (below_alloc (Below.refl _ _) _) _) hb3).trans (hbL.mono (by omega))
  have hgL : wL.heap[g]? = some (.cells cells 5 (0, 0)) := (hbL.block g hgs).trans hcells
  have hRL : wL.heap[w.heap.size + 1]? = some (.cells Z64 34 (0, 0)) := (hbL.block _ (by omega)).trans hR3
  have hHL : Wb wL w.heap.size 28 [h0, h1, h2, h3, h4, h5, h6, h7] := hW3.below hbL
  clear hW3 hR3 hg
  refine (wpIn_wide (n := 4)).1 ?_
  refine wpIn_rangeFunc_ownF rfl (by omega) (gf := 35) (lb := #[.pointer (some ⟨w3.heap.size, 0, none⟩), .pointer (some ⟨w3.heap.size + 1, 0, none⟩)]) rfl trivial (enters_of Tryd.func35 (by kernel_rfl) rfl)
    (chunk_stops (4 - 1) w3.heap.size (w3.heap.size + 1) g N cap hcap hNb wL (by omega) (by omega) hBs hBn) (fun h k => KeepTwo.trans h k)
    (fun W l o o' hl _ _ _ => ⟨World.putObj_heap_other (by omega), World.putObj_heap_other (by omega)⟩) (Below.refl _ _) (fun _ => rfl)
    (fun pre W => Wb W w.heap.size 28 (digL [h0, h1, h2, h3, h4, h5, h6, h7] (filledS b) N pre) ∧ W.heap[g]? = some (.cells cells 5 (0, 0)) ∧ W.heap[w.heap.size + 1]? = some (.cells Z64 34 (0, 0)) ∧ Below w.heap.size w W ∧ wL.heap.size ≤ W.heap.size)
    (fun _ _ _ => False)
    (fun s A B row hs hg hr => ⟨own_block hs.1 hg hr, own_block hs.2.1 hg hr, own_block hs.2.2.1 hg hr, ownFrom_below (β := Unit) (Nat.le_refl _) (by omega) () A B row hs.2.2.2.1 hg hr, Nat.le_trans hs.2.2.2.2 hg.size⟩)
    (fun _ _ _ _ _ hs _ _ => hs)
    ⟨hHL, hgL, hRL, hBL, Nat.le_refl _⟩
    (fun x => { tmps := #[.agg #[.int .u64 h0, .int .u64 h1, .int .u64 h2, .int .u64 h3, .int .u64 h4, .int .u64 h5, .int .u64 h6, .int .u64 h7], v, .pointer (some ⟨w.heap.size, 0, none⟩), undef, .pointer (some ⟨w.heap.size + 1, 0, none⟩), .slice (some ⟨g, 128 * x.1, none⟩) 128 128, undef, undef, undef, v, .slice (some ⟨g, 0, none⟩) (128 * N) cap, .func (.func 35) #[] #[.pointer (some ⟨w3.heap.size, 0, none⟩), .pointer (some ⟨w3.heap.size + 1, 0, none⟩)], .slice (some ⟨g, 128 * x.1, none⟩) 128 128, undef, undef, undef, undef, undef, undef, undef, undef, undef, undef, undef, undef, undef, undef], defers := [] }) ?assign ?body ?done ?stop
  case assign =>
    intro l x W K hK
    gi_wp2
    exact hK
  case body =>
    rintro l pre x W ⟨hWb, hWg, hWR, hWB, hWsz⟩ _
    have hx2 : x.1 < N := x.2
    obtain ⟨v0, v1, v2, v3, v4, v5, v6, v7, hv⟩ := eight (length_digL [h0, h1, h2, h3, h4, h5, h6, h7] (filledS b) N rfl pre)
    have V2 := hWb
    rw [hv] at V2
    have HN1 : Aside0 (digL [h0, h1, h2, h3, h4, h5, h6, h7] (filledS b) N (pre ++ [x]) = takeS KS [v0, v1, v2, v3, v4, v5, v6, v7] (((filledS b).drop (128 * x.1)).take 128)) := ⟨by rw [digL_snoc, hv]⟩
    obtain ⟨r0, r1, r2, r3, r4, r5, r6, r7, hr⟩ := eight (length_takeS KS [v0, v1, v2, v3, v4, v5, v6, v7] (((filledS b).drop (128 * x.1)).take 128))
    have hlenc : (((filledS b).drop (128 * x.1)).take 128).length = 128 := by rw [List.length_take, List.length_drop, HLN.out]; omega
    have hbyc : By (((filledS b).drop (128 * x.1)).take 128) := ((by_filled HBY.out).drop _).take _
    have hCW : Kd.C (Kd.int .u8) W (some ⟨g, 128 * x.1, none⟩) 128 (((filledS b).drop (128 * x.1)).take 128) := by
      have h1 := C_block hC hcells hWg
      have h2 := Kd.C_drop (k := Kd.int .u8) (c := cap) (m := 128 * x.1) (A := some ⟨g, 0, none⟩) (w := W) (xs := filledS b) h1 (by rw [HLN.out]; omega) (by rw [HLN.out]; exact hcap)
      rw [if_neg (by omega)] at h2
      have hadd : (⟨g, 0, none⟩ : Addr).add (128 * x.1 * (Kd.int .u8).sz) = ⟨g, 128 * x.1, none⟩ := by
        show (⟨g, 0, none⟩ : Addr).add (128 * x.1 * 1) = _
        unfold Addr.add; split <;> simp_all
      simp only [Option.map_some, hadd] at h2
      have h3 := Kd.C_take (m := 128) h2 (by rw [List.length_drop, HLN.out]; omega)
      rw [hlenc] at h3
      exact h3
    have HCALL : Aside0 (Calls Tryd.prog 29 #[.agg #[.int .u64 v0, .int .u64 v1, .int .u64 v2, .int .u64 v3, .int .u64 v4, .int .u64 v5, .int .u64 v6, .int .u64 v7], .slice (some ⟨g, 128 * x.1, none⟩) 128 128] W fun e w' => e = .returned (.agg #[.int .u64 r0, .int .u64 r1, .int .u64 r2, .int .u64 r3, .int .u64 r4, .int .u64 r5, .int .u64 r6, .int .u64 r7]) ∧ Below W.heap.size W w') := ⟨by
      have h1 := take_any [v0, v1, v2, v3, v4, v5, v6, v7] ⟨g, 128 * x.1, none⟩ 128 _ W rfl hlenc hbyc hCW (Nat.le_refl _) (HG.out.below hWB)
      rw [hr] at h1
      exact h1⟩
    rw [hr] at HN1
    clear hr hv hCW hbyc hlenc
    have c0 := V2.cell 0 (by simp)
    have c1 := V2.cell 1 (by simp)
    have c2 := V2.cell 2 (by simp)
    have c3 := V2.cell 3 (by simp)
    have c4 := V2.cell 4 (by simp)
    have c5 := V2.cell 5 (by simp)
    have c6 := V2.cell 6 (by simp)
    have c7 := V2.cell 7 (by simp)
    simp only [at', List.getD_cons_zero, List.getD_cons_succ] at c0 c1 c2 c3 c4 c5 c6 c7
    have V3 := Aside0.mk V2
    have HWG := Aside0.mk hWg
    have HWR := Aside0.mk hWR
    have HWB := Aside0.mk hWB
    clear V2 hWb hWg hWR hWB hBs hBn hgL hRL hHL hcells
    gi_wp2_with (refine ⟨trivial, ?_⟩; gi_at_call 29; refine (CallsIn.inRound l (callsIn_wide.2 HCALL.out)).mono ?_; rintro e w5 ⟨rfl, hb5⟩; have V5 : Aside0 (Wb w5 w.heap.size 28 [v0, v1, v2, v3, v4, v5, v6, v7]) := ⟨V3.out.below hb5⟩; have d0 := V5.out.cell 0 (by simp); have d1 := V5.out.cell 1 (by simp); have d2 := V5.out.cell 2 (by simp); have d3 := V5.out.cell 3 (by simp); have d4 := V5.out.cell 4 (by simp); have d5 := V5.out.cell 5 (by simp); have d6 := V5.out.cell 6 (by simp); have d7 := V5.out.cell 7 (by simp); have f0 := V5.out.free 0; have f1 := V5.out.free 1; have f2 := V5.out.free 2; have f3 := V5.out.free 3; have f4 := V5.out.free 4; have f5 := V5.out.free 5; have f6 := V5.out.free 6; have f7 := V5.out.free 7; simp only [at', List.getD_cons_zero, List.getD_cons_succ] at d0 d1 d2 d3 d4 d5 d6 d7; have HB5 := Aside0.mk hb5; clear hb5)
    have T := (((((((((Touch.refl w.heap.size w5).set 0 (Value.int .u64 r0)).set 1 (Value.int .u64 r1)).set 2 (Value.int .u64 r2)).set 3 (Value.int .u64 r3)).set 4 (Value.int .u64 r4)).set 5 (Value.int .u64 r5)).set 6 (Value.int .u64 r6)).set 7 (Value.int .u64 r7))
    have hb5 := HB5.out
    have hk5 : KeepsOthers W w5 := ⟨hb5.size, fun k o hk _ => (hb5.block k (Array.getElem?_eq_some_iff.1 hk).1).trans hk⟩
    have hlt1 : g < W.heap.size := (Array.getElem?_eq_some_iff.1 HWG.out).1
    have hlt2 : w.heap.size + 1 < W.heap.size := (Array.getElem?_eq_some_iff.1 HWR.out).1
    have hlt3 : w3.heap.size + 1 < W.heap.size := by have := hWsz; omega
    refine ⟨hk5.trans T.keeps, ⟨(T.block _ (by omega)).trans (hb5.block _ (by omega)), (T.block _ (by omega)).trans (hb5.block _ (by omega))⟩, ?_, (T.block _ (by omega)).trans ((hb5.block _ hlt1).trans HWG.out), (T.block _ (by omega)).trans ((hb5.block _ hlt2).trans HWR.out), T.below _ _ (Nat.le_refl _) (below_step HWB.out hb5), Nat.le_trans hWsz (Nat.le_trans hb5.size T.keeps.size)⟩
    rw [HN1.out]
    exact ((((((((V5.out.set 0 r0).set 1 r1).set 2 r2).set 3 r3).set 4 r4).set 5 r5).set 6 r6).set 7 r7)
  case done =>
    rintro D ys W hD rfl ⟨hWb, hWg, hWR, hWB, hWsz⟩ hK
    obtain ⟨s, hs⟩ : ∃ s, s = digS KS [h0, h1, h2, h3, h4, h5, h6, h7] b := ⟨_, rfl⟩
    have hfin : digL [h0, h1, h2, h3, h4, h5, h6, h7] (filledS b) N (upto N N) = s := by rw [digL_upto _ _ _ _ (Nat.le_refl _), hs]; unfold digS; rw [HLN.out, Nat.mul_div_cancel_left _ (by omega)]
    rw [hfin] at hWb
    rw [← hs] at HRES
    have hsl : s.length = 8 := by rw [← hfin]; exact length_digL _ _ _ rfl _
    obtain ⟨s0, s1, s2, s3, s4, s5, s6, s7, rfl⟩ := eight hsl
    have V3 := Aside0.mk hWb
    have HWR := Aside0.mk hWR
    have HWB := Aside0.mk hWB
    have HK := Aside0.mk hK
    clear hfin hsl hs hWb hWg hWR hWB hBs hBn hgL hRL hHL hcells hK
    have c0 := V3.out.cell 0 (by simp)
    have c1 := V3.out.cell 1 (by simp)
    have c2 := V3.out.cell 2 (by simp)
    have c3 := V3.out.cell 3 (by simp)
    have c4 := V3.out.cell 4 (by simp)
    have c5 := V3.out.cell 5 (by simp)
    have c6 := V3.out.cell 6 (by simp)
    have c7 := V3.out.cell 7 (by simp)
    simp only [at', List.getD_cons_zero, List.getD_cons_succ] at c0 c1 c2 c3 c4 c5 c6 c7
    obtain ⟨sl, hsl⟩ : ∃ sl, sl = [s0, s1, s2, s3, s4, s5, s6, s7] := ⟨_, rfl⟩
    have HSL : Aside0 (sl.length = 8) := ⟨by rw [hsl]; rfl⟩
    rw [← hsl] at HRES
    have hix : ∀ (i : Nat), i < 8 → ∀ W' : World, (Instr.index 28 (.agg #[Value.int .u64 s0, Value.int .u64 s1, Value.int .u64 s2, Value.int .u64 s3, Value.int .u64 s4, Value.int .u64 s5, Value.int .u64 s6, Value.int .u64 s7]) (.int .i64 (i : Int))).run Tryd.prog W' = .ok (.int .u64 (at' sl i)) W' := fun i hi W' => by rw [hsl]; exact index28 [s0, s1, s2, s3, s4, s5, s6, s7] i hi rfl W'
    have HIX := Aside0.mk hix
    have hDlt : D < W.heap.size := (Array.getElem?_eq_some_iff.1 HK.out).1
    have hR : w.heap.size + 1 < W.heap.size := (Array.getElem?_eq_some_iff.1 HWR.out).1
    clear hix hsl
    go_wp2
    go_loopw [6, 17] (fun v6 v17 wr => ∃ i : Nat, i ≤ 8 ∧ v17 = .int .i64 i ∧ Aside0 (Kd.R (Kd.int .u8) 5 wr W.heap.size (fun _ => True) v6 (bytesS (sl.take i))) ∧ Aside0 (Below W.heap.size W wr)) (fun _ v17 _ => 8 - (intOf v17).toNat)
    case atStart => exact ⟨0, by omega, rfl, ⟨Kd.R_nil _ _ _ _ _⟩, ⟨Below.refl _ _⟩⟩
    case round =>
      obtain ⟨i, hi, rfl, HO, HB⟩ := hrel
      by_cases hlt : i < 8
      · have hx := HIX.out i hlt
        have HST := Aside0.mk (bytes_step sl i (by rw [HSL.out]; exact hlt))
        go_wp2_with (go_at_call 30; refine (lay_any W _ _ _ _ (by rw [length_bytesS, List.length_take]; omega) HB.out HO.out).mono ?_; rintro e w4 ⟨v4, rfl, ho, hb⟩; clear HO HB; have HO := Aside0.mk ho; have HB := Aside0.mk hb; clear ho hb)
        go_roundw
        case rel => exact ⟨i + 1, by omega, by go_num, ⟨by rw [← HST.out]; exact HO.out⟩, HB⟩
        case measure => simp [intOf]; omega
      · obtain rfl : i = 8 := by omega
        have HO2 := HO.out
        rw [List.take_of_length_le (by rw [HSL.out]; omega)] at HO2
        have hbl : (bytesS sl).length = 64 := by rw [length_bytesS, HSL.out]
        obtain ⟨g2, cap2, cells2, rfl, hcap2, hg2', hcells2, hC2⟩ := R_block HO2 (by intro hf; rw [hf] at hbl; simp at hbl) 64 hbl
        have HC2 := Aside0.mk hC2
        have HWR2 : Aside0 (wr.heap[w.heap.size + 1]? = some (.cells (bts (List.replicate 64 0)) 34 (0, 0))) := ⟨(HB.out.block _ hR).trans HWR.out⟩
        clear hC2 HO HO2 hcells2
        have har := array34
        go_wp2_with (first | (refine load_bytes rfl 34 (.tmp 25) rfl ⟨g2, 0, none⟩ rfl (bytesS sl) _ HC2.out Tryd.underlying34 rfl (by rw [hbl]; exact info34) ?_) | (refine wpList_store_row rfl 34 (.tmp 4) (.tmp 26) rfl (w.heap.size + 1) (bts (bytesS sl)) rfl rfl 34 _ HWR2.out (by simp only [bts, List.size_toArray, List.length_map, hbl]; exact info34) (by simp [bts, hbl]) (by simp [bts, Value.oneCell']) ?_))
        have hDw : wL.heap.size ≤ D := hD
        have hKf : (wr.setRow (w.heap.size + 1) (bts (bytesS sl))).heap[D]? = some (.deferred (some [])) := (setRow_other wr _ D _ (by omega)).trans ((HB.out.block D hDlt).trans HK.out)
        have hRf : (wr.setRow (w.heap.size + 1) (bts (bytesS sl))).heap[w.heap.size + 1]? = some (.cells (bts (bytesS sl)) 34 (0, 0)) := setRow_heap wr _ _ _ _ _ HWR2.out
        have hBf : Below w.heap.size w (wr.setRow (w.heap.size + 1) (bts (bytesS sl))) := below_setRow (below_step HWB.out HB.out) (by omega) _
        refine ⟨by simp, .inl ⟨_, _, rfl, run_takeDeferred hKf, ?_⟩⟩
        refine ⟨_, results_cell_row (fn := Tryd.f21) rfl _ _ (w.heap.size + 1) 34 (bts (bytesS sl)) (0, 0) _ rfl ((World.putObj_heap_other (by omega)).trans hRf) Tryd.underlying34 rfl (by simp only [bts, List.size_toArray, List.length_map, hbl]; exact info34), by rw [HRES.out], ?_⟩
        exact hBf.trans (belowK_b (w := w) (Nat.le_refl _) _ D _ _ (by omega) hKf rfl rfl)
  case stop =>
    rintro D c pre W _ _ h _
    exact h.elim
end Go.Proofs.YtfcadniglmhclaaDoor.S
