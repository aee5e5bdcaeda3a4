/- A part of the proof of 'FnExactPackSizeSaid' (PsL): lemmas on an abstract machine for the program's functions. Conditions: none. -/
import Derived.Test.YthimhbjbpeheoaaPsF0
import Derived.Test.YthimhbjbpeheoaaPsF1
import Derived.Test.YthimhbjbpeheoaaPsF2
import Derived.Test.YthimhbjbpeheoaaPsF3
import Derived.Test.YthimhbjbpeheoaaPsF4
import Derived.Test.YthimhbjbpeheoaaRow
import Derived.Test.YthimhbjbpeheoaaRows
set_option linter.unusedVariables false
set_option maxRecDepth 100000
set_option maxHeartbeats 4000000
namespace Go.Proofs.Ythimhbjbpeheoaa
open Go.Proofs.AM
def tb : Tab := ⟨lk [(17, 3), (33, 4), (49, 9), (66, 136), (82, 127), (100, 106), (115, 79), (130, 82), (155, 108), (163, 49), (210, 38), (226, 103), (241, 59), (257, 5), (273, 43), (338, 146), (354, 140), (372, 98), (387, 73), (402, 76), (427, 100), (435, 46), (466, 32), (482, 95), (529, 104), (545, 77)], lk [(1, 94), (2, 95), (3, 82), (4, 83), (5, 71), (6, 29), (64, 101), (65, 96), (66, 97), (67, 84), (68, 85), (69, 72), (70, 31), (153, 102), (154, 98), (155, 99), (156, 86), (157, 87), (158, 73), (159, 33), (194, 50), (195, 30), (196, 15), (189, 5), (197, 51), (198, 32), (199, 16), (190, 7), (191, 6), (192, 8), (200, 52), (201, 34), (202, 17), (193, 9), (203, 3)]⟩
theorem mix : Try.prog.follows .mixedOrders = true := by kernel_rfl
theorem g_laws_szPtS : GoodC Try.prog tb c_laws_szPtS := goodC mix [] all_nil (ir := if_laws_szPtS) (kss := ks_laws_szPtS) (by kernel_rfl) (fun G H a b h => d_laws_szPtS  a.1 a.2 b h)
theorem g_laws_szTag : GoodC Try.prog tb c_laws_szTag := goodC mix [] all_nil (ir := if_laws_szTag) (kss := ks_laws_szTag) (by kernel_rfl) (fun G H a b h => d_laws_szTag  a.1 a.2 b h)
theorem g_laws_szShape : GoodC Try.prog tb c_laws_szShape := goodC mix [c_laws_szPtS] (all_cons g_laws_szPtS all_nil) (ir := if_laws_szShape) (kss := ks_laws_szShape) (by kernel_rfl) (fun G H a b h => d_laws_szShape (H _ (.head _)) a.1 a.2 b h)
theorem g_laws_szTagS : GoodC Try.prog tb c_laws_szTagS := goodC mix [c_laws_szTag] (all_cons g_laws_szTag all_nil) (ir := if_laws_szTagS) (kss := ks_laws_szTagS) (by kernel_rfl) (fun G H a b h => d_laws_szTagS (H _ (.head _)) a.1 a.2 b h)
theorem g_laws_szFeat : GoodC Try.prog tb c_laws_szFeat := goodC mix [c_laws_szShape, c_laws_szTagS] (all_cons g_laws_szShape (all_cons g_laws_szTagS all_nil)) (ir := if_laws_szFeat) (kss := ks_laws_szFeat) (by kernel_rfl) (fun G H a b h => d_laws_szFeat (H _ (.head _)) (H _ (.tail _ (.head _))) a.1 a.2 b h)
theorem g_laws_szIntS : GoodC Try.prog tb c_laws_szIntS := goodC mix [] all_nil (ir := if_laws_szIntS) (kss := ks_laws_szIntS) (by kernel_rfl) (fun G H a b h => d_laws_szIntS  a.1 a.2 b h)
theorem g_laws_toPt : GoodC Try.prog tb c_laws_toPt := goodC mix [] all_nil (ir := if_laws_toPt) (kss := ks_laws_toPt) (by kernel_rfl) (fun G H a b h => d_laws_toPt  a b h)
theorem g_laws_toPtS : GoodC Try.prog tb c_laws_toPtS := goodC mix [c_laws_toPt] (all_cons g_laws_toPt all_nil) (ir := if_laws_toPtS) (kss := ks_laws_toPtS) (by kernel_rfl) (fun G H a b h => d_laws_toPtS (H _ (.head _)) a b h)
theorem g_laws_toTag : GoodC Try.prog tb c_laws_toTag := goodC mix [] all_nil (ir := if_laws_toTag) (kss := ks_laws_toTag) (by kernel_rfl) (fun G H a b h => d_laws_toTag  a b h)
theorem g_laws_toShape : GoodC Try.prog tb c_laws_toShape := goodC mix [c_laws_toPtS] (all_cons g_laws_toPtS all_nil) (ir := if_laws_toShape) (kss := ks_laws_toShape) (by kernel_rfl) (fun G H a b h => d_laws_toShape (H _ (.head _)) a b h)
theorem g_laws_toTagS : GoodC Try.prog tb c_laws_toTagS := goodC mix [c_laws_toTag] (all_cons g_laws_toTag all_nil) (ir := if_laws_toTagS) (kss := ks_laws_toTagS) (by kernel_rfl) (fun G H a b h => d_laws_toTagS (H _ (.head _)) a b h)
theorem g_laws_toFeat : GoodC Try.prog tb c_laws_toFeat := goodC mix [c_laws_toShape, c_laws_toTagS] (all_cons g_laws_toShape (all_cons g_laws_toTagS all_nil)) (ir := if_laws_toFeat) (kss := ks_laws_toFeat) (by kernel_rfl) (fun G H a b h => d_laws_toFeat (H _ (.head _)) (H _ (.tail _ (.head _))) a b h)
theorem g_laws_toIntS : GoodC Try.prog tb c_laws_toIntS := goodC mix [] all_nil (ir := if_laws_toIntS) (kss := ks_laws_toIntS) (by kernel_rfl) (fun G H a b h => d_laws_toIntS  a b h)
theorem g_laws_eqPt : GoodC Try.prog tb c_laws_eqPt := goodC mix [] all_nil (ir := if_laws_eqPt) (kss := ks_laws_eqPt) (by kernel_rfl) (fun G H a b h => d_laws_eqPt  a.1 a.2 b h)
theorem g_laws_eqPtS : GoodC Try.prog tb c_laws_eqPtS := goodC mix [c_laws_eqPt] (all_cons g_laws_eqPt all_nil) (ir := if_laws_eqPtS) (kss := ks_laws_eqPtS) (by kernel_rfl) (fun G H a b h => d_laws_eqPtS (H _ (.head _)) a.1 a.2 b h)
theorem g_laws_eqTag : GoodC Try.prog tb c_laws_eqTag := goodC mix [] all_nil (ir := if_laws_eqTag) (kss := ks_laws_eqTag) (by kernel_rfl) (fun G H a b h => d_laws_eqTag  a.1 a.2 b h)
theorem g_laws_eqShape : GoodC Try.prog tb c_laws_eqShape := goodC mix [c_laws_eqPtS] (all_cons g_laws_eqPtS all_nil) (ir := if_laws_eqShape) (kss := ks_laws_eqShape) (by kernel_rfl) (fun G H a b h => d_laws_eqShape (H _ (.head _)) a.1 a.2 b h)
theorem g_laws_eqTagS : GoodC Try.prog tb c_laws_eqTagS := goodC mix [c_laws_eqTag] (all_cons g_laws_eqTag all_nil) (ir := if_laws_eqTagS) (kss := ks_laws_eqTagS) (by kernel_rfl) (fun G H a b h => d_laws_eqTagS (H _ (.head _)) a.1 a.2 b h)
theorem g_laws_eqFeat : GoodC Try.prog tb c_laws_eqFeat := goodC mix [c_laws_eqShape, c_laws_eqTagS] (all_cons g_laws_eqShape (all_cons g_laws_eqTagS all_nil)) (ir := if_laws_eqFeat) (kss := ks_laws_eqFeat) (by kernel_rfl) (fun G H a b h => d_laws_eqFeat (H _ (.head _)) (H _ (.tail _ (.head _))) a.1 a.2 b h)
theorem g_laws_eqIntS : GoodC Try.prog tb c_laws_eqIntS := goodC mix [] all_nil (ir := if_laws_eqIntS) (kss := ks_laws_eqIntS) (by kernel_rfl) (fun G H a b h => d_laws_eqIntS  a.1 a.2 b h)
theorem g_laws_szChange : GoodC Try.prog tb c_laws_szChange := goodC mix [c_laws_szFeat] (all_cons g_laws_szFeat all_nil) (ir := if_laws_szChange) (kss := ks_laws_szChange) (by kernel_rfl) (fun G H a b h => d_laws_szChange (H _ (.head _)) a.1 a.2 b h)
theorem g_laws_szChangeS : GoodC Try.prog tb c_laws_szChangeS := goodC mix [c_laws_szChange] (all_cons g_laws_szChange all_nil) (ir := if_laws_szChangeS) (kss := ks_laws_szChangeS) (by kernel_rfl) (fun G H a b h => d_laws_szChangeS (H _ (.head _)) a.1 a.2 b h)
theorem g_laws_szEntry : GoodC Try.prog tb c_laws_szEntry := goodC mix [c_laws_szIntS, c_laws_szChangeS] (all_cons g_laws_szIntS (all_cons g_laws_szChangeS all_nil)) (ir := if_laws_szEntry) (kss := ks_laws_szEntry) (by kernel_rfl) (fun G H a b h => d_laws_szEntry (H _ (.head _)) (H _ (.tail _ (.head _))) a.1 a.2 b h)
theorem g_laws_szEntryS : GoodC Try.prog tb c_laws_szEntryS := goodC mix [c_laws_szEntry] (all_cons g_laws_szEntry all_nil) (ir := if_laws_szEntryS) (kss := ks_laws_szEntryS) (by kernel_rfl) (fun G H a b h => d_laws_szEntryS (H _ (.head _)) a.1 a.2 b h)
theorem g_laws_toChange : GoodC Try.prog tb c_laws_toChange := goodC mix [c_laws_toFeat] (all_cons g_laws_toFeat all_nil) (ir := if_laws_toChange) (kss := ks_laws_toChange) (by kernel_rfl) (fun G H a b h => d_laws_toChange (H _ (.head _)) a b h)
theorem g_laws_toChangeS : GoodC Try.prog tb c_laws_toChangeS := goodC mix [c_laws_toChange] (all_cons g_laws_toChange all_nil) (ir := if_laws_toChangeS) (kss := ks_laws_toChangeS) (by kernel_rfl) (fun G H a b h => d_laws_toChangeS (H _ (.head _)) a b h)
theorem g_laws_toEntry : GoodC Try.prog tb c_laws_toEntry := goodC mix [c_laws_toIntS, c_laws_toChangeS] (all_cons g_laws_toIntS (all_cons g_laws_toChangeS all_nil)) (ir := if_laws_toEntry) (kss := ks_laws_toEntry) (by kernel_rfl) (fun G H a b h => d_laws_toEntry (H _ (.head _)) (H _ (.tail _ (.head _))) a b h)
theorem g_laws_toEntryS : GoodC Try.prog tb c_laws_toEntryS := goodC mix [c_laws_toEntry] (all_cons g_laws_toEntry all_nil) (ir := if_laws_toEntryS) (kss := ks_laws_toEntryS) (by kernel_rfl) (fun G H a b h => d_laws_toEntryS (H _ (.head _)) a b h)
theorem g_spec_PackSize : GoodC Try.prog tb c_spec_PackSize := goodC mix [] all_nil (ir := if_spec_PackSize) (kss := ks_spec_PackSize) (by kernel_rfl) (fun G H a b h => d_spec_PackSize  a b h)
theorem g_impl_PackSize : GoodC Try.prog tb c_impl_PackSize := goodC mix [] all_nil (ir := if_impl_PackSize) (kss := ks_impl_PackSize) (by kernel_rfl) (fun G H a b h => d_impl_PackSize  a b h)
theorem g_laws_eqChange : GoodC Try.prog tb c_laws_eqChange := goodC mix [c_laws_eqFeat] (all_cons g_laws_eqFeat all_nil) (ir := if_laws_eqChange) (kss := ks_laws_eqChange) (by kernel_rfl) (fun G H a b h => d_laws_eqChange (H _ (.head _)) a.1 a.2 b h)
theorem g_laws_eqChangeS : GoodC Try.prog tb c_laws_eqChangeS := goodC mix [c_laws_eqChange] (all_cons g_laws_eqChange all_nil) (ir := if_laws_eqChangeS) (kss := ks_laws_eqChangeS) (by kernel_rfl) (fun G H a b h => d_laws_eqChangeS (H _ (.head _)) a.1 a.2 b h)
theorem g_laws_eqEntry : GoodC Try.prog tb c_laws_eqEntry := goodC mix [c_laws_eqIntS, c_laws_eqChangeS] (all_cons g_laws_eqIntS (all_cons g_laws_eqChangeS all_nil)) (ir := if_laws_eqEntry) (kss := ks_laws_eqEntry) (by kernel_rfl) (fun G H a b h => d_laws_eqEntry (H _ (.head _)) (H _ (.tail _ (.head _))) a.1 a.2 b h)
theorem g_laws_eqEntryS : GoodC Try.prog tb c_laws_eqEntryS := goodC mix [c_laws_eqEntry] (all_cons g_laws_eqEntry all_nil) (ir := if_laws_eqEntryS) (kss := ks_laws_eqEntryS) (by kernel_rfl) (fun G H a b h => d_laws_eqEntryS (H _ (.head _)) a.1 a.2 b h)
theorem g_laws_FnExactPackSize : GoodC Try.prog tb c_laws_FnExactPackSize := goodC mix [c_laws_szEntryS, c_laws_toEntryS, c_spec_PackSize, c_impl_PackSize, c_laws_eqEntryS] (all_cons g_laws_szEntryS (all_cons g_laws_toEntryS (all_cons g_spec_PackSize (all_cons g_impl_PackSize (all_cons g_laws_eqEntryS all_nil))))) (ir := if_laws_FnExactPackSize) (kss := ks_laws_FnExactPackSize) (by kernel_rfl) (fun G H a b h => d_laws_FnExactPackSize (H _ (.head _)) (H _ (.tail _ (.head _))) (H _ (.tail _ (.tail _ (.head _)))) (H _ (.tail _ (.tail _ (.tail _ (.head _))))) (H _ (.tail _ (.tail _ (.tail _ (.tail _ (.head _)))))) a b h)
end Go.Proofs.Ythimhbjbpeheoaa
