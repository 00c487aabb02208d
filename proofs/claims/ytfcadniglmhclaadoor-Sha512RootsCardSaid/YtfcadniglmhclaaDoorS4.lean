/-
  What the walk of take needs: the tables, what the package-level variables hold, an array read at a place.
-/
import Derived.Test.YtfcadniglmhclaaDoorS3
namespace Go.Proofs.YtfcadniglmhclaaDoor.S
open Go.RowKit Go.Proofs.YtfcadniglmhclaaDoorW.PrintWords Go.Proofs.YtfcadniglmhclaaDoorW.PrintLast Go.Proofs.YtfcadniglmhclaaDoorW.PrintMore
open Go.Proofs.YtfcadniglmhclaaDoor.R

def KS : List Int := [4794697086780616226, 8158064640168781261, 13096744586834688815, 16840607885511220156, 4131703408338449720, 6480981068601479193, 10538285296894168987, 12329834152419229976, 15566598209576043074, 1334009975649890238, 2608012711638119052, 6128411473006802146, 8268148722764581231, 9286055187155687089, 11230858885718282805, 13951009754708518548, 16472876342353939154, 17275323862435702243, 1135362057144423861, 2597628984639134821, 3308224258029322869, 5365058923640841347, 6679025012923562964, 8573033837759648693, 10970295158949994411, 12119686244451234320, 12683024718118986047, 13788192230050041572, 14330467153632333762, 15395433587784984357, 489312712824947311, 1452737877330783856, 2861767655752347644, 3322285676063803686, 5560940570517711597, 5996557281743188959, 7280758554555802590, 8532644243296465576, 9350256976987008742, 10552545826968843579, 11727347734174303076, 12113106623233404929, 14000437183269869457, 14369950271660146224, 15101387698204529176, 15463397548674623760, 17586052441742319658, 1182934255886127544, 1847814050463011016, 2177327727835720531, 2830643537854262169, 3796741975233480872, 4115178125766777443, 5681478168544905931, 6601373596472566643, 7507060721942968483, 8399075790359081724, 8693463985226723168, 9568029438360202098, 10144078919501101548, 10430055236837252648, 11840083180663258601, 13761210420658862357, 14299343276471374635, 14566680578165727644, 15097957966210449927, 16922976911328602910, 17689382322260857208, 500013540394364858, 748580250866718886, 1242879168328830382, 1977374033974150939, 2944078676154940804, 3659926193048069267, 4368137639120453308, 4836135668995329356, 5532061633213252278, 6448918945643986474, 6902733635092675308, 7801388544844847127]
def FS : List Int := [7640891576956012808, 13503953896175478587, 4354685564936845355, 11912009170470909681, 5840696475078001361, 11170449401992604703, 2270897969802886507, 6620516959819538809]
theorem length_KS : KS.length = 80 := rfl
theorem length_FS : FS.length = 8 := rfl

/-- The two package-level variables hold the tables. -/
def Gl (w : World) : Prop := (∃ t fr, w.heap[0]? = some (.cells (wds FS) t fr)) ∧ (∃ t fr, w.heap[1]? = some (.cells (wds KS) t fr))
theorem Gl.size {w : World} (h : Gl w) : 1 < w.heap.size := by
  obtain ⟨_, _, _, h⟩ := h; exact (Array.getElem?_eq_some_iff.1 h).1
theorem Gl.below {w w' : World} (h : Gl w) (hb : Below w.heap.size w w') : Gl w' := by
  have hs := h.size
  obtain ⟨⟨t, fr, h0⟩, ⟨t', fr', h1⟩⟩ := h
  exact ⟨⟨t, fr, by rw [hb.block 0 (by omega)]; exact h0⟩, ⟨t', fr', by rw [hb.block 1 (by omega)]; exact h1⟩⟩
theorem Gl.cellK {w : World} (h : Gl w) (i : Nat) (hi : i < 80) : w.cell? ⟨1, i, none⟩ = some (.int .u64 (at' KS i)) := by
  obtain ⟨_, t, fr, h⟩ := h
  rw [cell_of_row w 1 i _ t fr h, wds_get KS i (by rw [length_KS]; exact hi)]

theorem index55 (l : List Int) (i : Nat) (h : i < 80) (hl : l.length = 80) (w : World) : (Instr.index 55 (.agg (wds l)) (.int .i64 (i : Int))).run Tryd.prog w = .ok (.int .u64 (at' l i)) w := by
  have h27 : (sizeOf 27).run Tryd.prog w = .ok 1 w := by kernel_rfl
  have hg : (wds l)[i]? = some (.int .u64 (at' l i)) := wds_get l i (by omega)
  simp [Instr.index, run_underlying Tryd.underlying55, asIntOf, h, h27, part, hg, go_sem]
theorem index28 (l : List Int) (i : Nat) (h : i < 8) (hl : l.length = 8) (w : World) : (Instr.index 28 (.agg (wds l)) (.int .i64 (i : Int))).run Tryd.prog w = .ok (.int .u64 (at' l i)) w := by
  have h27 : (sizeOf 27).run Tryd.prog w = .ok 1 w := by kernel_rfl
  have hg : (wds l)[i]? = some (.int .u64 (at' l i)) := wds_get l i (by omega)
  simp [Instr.index, run_underlying Tryd.underlying28, asIntOf, h, h27, part, hg, go_sem]
def Z8 : List Int := [0, 0, 0, 0, 0, 0, 0, 0]
theorem zero28 (w : World) : (zeroValue 28).run Tryd.prog w = .ok (.agg (wds Z8)) w := by kernel_rfl
end Go.Proofs.YtfcadniglmhclaaDoor.S
