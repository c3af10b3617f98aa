/-
  Facts on the types of the translation, by the kernel.
-/
import Derived.Test.YtjfickfgpkejpaaXOpsE
import Derived.Test.YtjfickfgpkejpaaXCells
import Derived.Test.YtjfickfgpkejpaaXTab
import Derived.Test.YtjfickfgpkejpaaRows
import Derived.KernelRfl
set_option linter.unusedSimpArgs false
set_option linter.unusedVariables false
namespace Go.Proofs.Ytjfickfgpkejpaa
open Go Go.X

theorem mo : Try.prog.follows .mixedOrders = true := by decide +kernel

theorem zc86 : Value.cells (.agg Try.zeroCells86) = wc (List.replicate 160 0) := by kernel_rfl

theorem fl1 : Flat Try.prog 1 := Try.isAgg1

theorem fl2 : Flat Try.prog 2 := Try.isAgg2

theorem fl3 : Flat Try.prog 3 := Try.isAgg3

theorem fl4 : Flat Try.prog 4 := Try.isAgg4

theorem fl5 : Flat Try.prog 5 := Try.isAgg5

theorem fl6 : Flat Try.prog 6 := Try.isAgg6

theorem wd7 : Wide Try.prog 7 4 := ⟨Try.isAgg7, Try.sizeOf7⟩

theorem wd8 : Wide Try.prog 8 4 := ⟨Try.isAgg8, Try.sizeOf8⟩

theorem fl12 : Flat Try.prog 12 := Try.isAgg12

theorem wd13 : Wide Try.prog 13 2 := ⟨Try.isAgg13, Try.sizeOf13⟩

theorem wd14 : Wide Try.prog 14 2 := ⟨Try.isAgg14, Try.sizeOf14⟩

theorem fl15 : Flat Try.prog 15 := Try.isAgg15

theorem fl16 : Flat Try.prog 16 := Try.isAgg16

theorem fl17 : Flat Try.prog 17 := Try.isAgg17

theorem wd18 : Wide Try.prog 18 1 := ⟨Try.isAgg18, Try.sizeOf18⟩

theorem wd19 : Wide Try.prog 19 1 := ⟨Try.isAgg19, Try.sizeOf19⟩

theorem fl21 : Flat Try.prog 21 := Try.isAgg21

theorem fl22 : Flat Try.prog 22 := Try.isAgg22

theorem fl24 : Flat Try.prog 24 := Try.isAgg24

theorem fl25 : Flat Try.prog 25 := Try.isAgg25

theorem fl26 : Flat Try.prog 26 := Try.isAgg26

theorem fl27 : Flat Try.prog 27 := Try.isAgg27

theorem fl28 : Flat Try.prog 28 := Try.isAgg28

theorem eI29 : (Try.prog.info? 2).map (fun i => (i.zero, i.size, i.bytes)) = some (some (.int .i64 0), 1, 8) := by kernel_rfl

theorem eT29 : ElemT Try.prog 29 2 1 8 := elemT Try.underlying29 eI29 rfl

theorem eZ29 : ∃ i z, Try.prog.info? 2 = some i ∧ i.zero = some z ∧ i.size = 1 ∧ i.bytes = 8 ∧ z.cells.toList = [.int .i64 0] := by obtain ⟨i, h1, h2, h3, h4⟩ := info_parts eI29; exact ⟨i, _, h1, h2, h3, h4, rfl⟩

theorem fl29 : Flat Try.prog 29 := Try.isAgg29

theorem fl31 : Flat Try.prog 31 := Try.isAgg31

theorem fl33 : Flat Try.prog 33 := Try.isAgg33

theorem fl34 : Flat Try.prog 34 := Try.isAgg34

theorem eI35 : (Try.prog.info? 3).map (fun i => (i.zero, i.size, i.bytes)) = some (some (.int .i64 0), 1, 8) := by kernel_rfl

theorem eT35 : ElemT Try.prog 35 3 1 8 := elemT Try.underlying35 eI35 rfl

theorem eZ35 : ∃ i z, Try.prog.info? 3 = some i ∧ i.zero = some z ∧ i.size = 1 ∧ i.bytes = 8 ∧ z.cells.toList = [.int .i64 0] := by obtain ⟨i, h1, h2, h3, h4⟩ := info_parts eI35; exact ⟨i, _, h1, h2, h3, h4, rfl⟩

theorem fl35 : Flat Try.prog 35 := Try.isAgg35

theorem fl36 : Flat Try.prog 36 := Try.isAgg36

theorem fl37 : Flat Try.prog 37 := Try.isAgg37

theorem eI38 : (Try.prog.info? 60).map (fun i => (i.zero, i.size, i.bytes)) = some (some (.agg #[.int .i64 0, .int .i64 0]), 2, 16) := by kernel_rfl

theorem eT38 : ElemT Try.prog 38 60 2 16 := elemT Try.underlying38 eI38 rfl

theorem eZ38 : ∃ i z, Try.prog.info? 60 = some i ∧ i.zero = some z ∧ i.size = 2 ∧ i.bytes = 16 ∧ z.cells.toList = [.int .i64 0, .int .i64 0] := by obtain ⟨i, h1, h2, h3, h4⟩ := info_parts eI38; exact ⟨i, _, h1, h2, h3, h4, rfl⟩

theorem fl38 : Flat Try.prog 38 := Try.isAgg38

theorem fl40 : Flat Try.prog 40 := Try.isAgg40

theorem fl41 : Flat Try.prog 41 := Try.isAgg41

theorem fl42 : Flat Try.prog 42 := Try.isAgg42

theorem fl43 : Flat Try.prog 43 := Try.isAgg43

theorem fl44 : Flat Try.prog 44 := Try.isAgg44

theorem fl46 : Flat Try.prog 46 := Try.isAgg46

theorem fl48 : Flat Try.prog 48 := Try.isAgg48

theorem fl49 : Flat Try.prog 49 := Try.isAgg49

theorem fl50 : Flat Try.prog 50 := Try.isAgg50

theorem fl52 : Flat Try.prog 52 := Try.isAgg52

theorem fl54 : Flat Try.prog 54 := Try.isAgg54

theorem fl55 : Flat Try.prog 55 := Try.isAgg55

theorem fl56 : Flat Try.prog 56 := Try.isAgg56

theorem fl57 : Flat Try.prog 57 := Try.isAgg57

theorem fl59 : Flat Try.prog 59 := Try.isAgg59

theorem wd60 : Wide Try.prog 60 2 := ⟨Try.isAgg60, Try.sizeOf60⟩

theorem bld60_2 (x y : Int) (w : World) : (Instr.build 60 #[(0, .int .i64 x), (1, .int .i64 y)]).run Try.prog w = .ok (.agg #[.int .i64 x, .int .i64 y]) w := bld2 Try.underlying60 Try.zeroValue60 Try.sizeOf3 x y w

theorem ar60 : Arr2 Try.prog 60 3 := ⟨Try.underlying60, Try.underlying3, Try.sizeOf3, fl3, Try.eqGuardType60⟩

theorem fl61 : Flat Try.prog 61 := Try.isAgg61

theorem fl62 : Flat Try.prog 62 := Try.isAgg62

theorem fl64 : Flat Try.prog 64 := Try.isAgg64

theorem eI65 : (Try.prog.info? 38).map (fun i => (i.zero, i.size, i.bytes)) = some (some (.slice none 0 0), 1, 24) := by kernel_rfl

theorem eT65 : ElemT Try.prog 65 38 1 24 := elemT Try.underlying65 eI65 rfl

theorem eZ65 : ∃ i z, Try.prog.info? 38 = some i ∧ i.zero = some z ∧ i.size = 1 ∧ i.bytes = 24 ∧ z.cells.toList = [.slice none 0 0] := by obtain ⟨i, h1, h2, h3, h4⟩ := info_parts eI65; exact ⟨i, _, h1, h2, h3, h4, rfl⟩

theorem fl65 : Flat Try.prog 65 := Try.isAgg65

theorem fl67 : Flat Try.prog 67 := Try.isAgg67

theorem fl68 : Flat Try.prog 68 := Try.isAgg68

theorem fl69 : Flat Try.prog 69 := Try.isAgg69

theorem fl70 : Flat Try.prog 70 := Try.isAgg70

theorem fl71 : Flat Try.prog 71 := Try.isAgg71

theorem fl72 : Flat Try.prog 72 := Try.isAgg72

theorem fl73 : Flat Try.prog 73 := Try.isAgg73

theorem eI74 : (Try.prog.info? 4).map (fun i => (i.zero, i.size, i.bytes)) = some (some (.bool false), 1, 1) := by kernel_rfl

theorem eT74 : ElemT Try.prog 74 4 1 1 := elemT Try.underlying74 eI74 rfl

theorem eZ74 : ∃ i z, Try.prog.info? 4 = some i ∧ i.zero = some z ∧ i.size = 1 ∧ i.bytes = 1 ∧ z.cells.toList = [.bool false] := by obtain ⟨i, h1, h2, h3, h4⟩ := info_parts eI74; exact ⟨i, _, h1, h2, h3, h4, rfl⟩

theorem fl74 : Flat Try.prog 74 := Try.isAgg74

theorem fl75 : Flat Try.prog 75 := Try.isAgg75

theorem fl76 : Flat Try.prog 76 := Try.isAgg76

theorem fl77 : Flat Try.prog 77 := Try.isAgg77

theorem fl78 : Flat Try.prog 78 := Try.isAgg78

theorem fl79 : Flat Try.prog 79 := Try.isAgg79

theorem wd80 : Wide Try.prog 80 2 := ⟨Try.isAgg80, Try.sizeOf80⟩

theorem wd81 : Wide Try.prog 81 2 := ⟨Try.isAgg81, Try.sizeOf81⟩

theorem fl82 : Flat Try.prog 82 := Try.isAgg82

theorem wd83 : Wide Try.prog 83 16 := ⟨Try.isAgg83, Try.sizeOf83⟩

theorem wd84 : Wide Try.prog 84 16 := ⟨Try.isAgg84, Try.sizeOf84⟩

theorem wd85 : Wide Try.prog 85 160 := ⟨Try.isAgg85, Try.sizeOf85⟩

theorem wd86 : Wide Try.prog 86 160 := ⟨Try.isAgg86, Try.sizeOf86⟩

theorem fl87 : Flat Try.prog 87 := Try.isAgg87

theorem fl88 : Flat Try.prog 88 := Try.isAgg88

theorem fl89 : Flat Try.prog 89 := Try.isAgg89

theorem fl90 : Flat Try.prog 90 := Try.isAgg90

theorem fl91 : Flat Try.prog 91 := Try.isAgg91

theorem fl92 : Flat Try.prog 92 := Try.isAgg92

theorem fl93 : Flat Try.prog 93 := Try.isAgg93

theorem fl94 : Flat Try.prog 94 := Try.isAgg94

theorem fl95 : Flat Try.prog 95 := Try.isAgg95

theorem fl96 : Flat Try.prog 96 := Try.isAgg96

theorem fl97 : Flat Try.prog 97 := Try.isAgg97

theorem fl98 : Flat Try.prog 98 := Try.isAgg98

theorem fl99 : Flat Try.prog 99 := Try.isAgg99

theorem fl100 : Flat Try.prog 100 := Try.isAgg100

theorem fl101 : Flat Try.prog 101 := Try.isAgg101

theorem wd102 : Wide Try.prog 102 10 := ⟨Try.isAgg102, Try.sizeOf102⟩

theorem fl103 : Flat Try.prog 103 := Try.isAgg103

theorem fl104 : Flat Try.prog 104 := Try.isAgg104

theorem fl105 : Flat Try.prog 105 := Try.isAgg105

theorem fl107 : Flat Try.prog 107 := Try.isAgg107

theorem fl108 : Flat Try.prog 108 := Try.isAgg108

theorem fl109 : Flat Try.prog 109 := Try.isAgg109

theorem fl110 : Flat Try.prog 110 := Try.isAgg110

theorem fl111 : Flat Try.prog 111 := Try.isAgg111

theorem fl112 : Flat Try.prog 112 := Try.isAgg112

theorem fl113 : Flat Try.prog 113 := Try.isAgg113

theorem fl114 : Flat Try.prog 114 := Try.isAgg114

theorem fl115 : Flat Try.prog 115 := Try.isAgg115

theorem fl116 : Flat Try.prog 116 := Try.isAgg116

theorem fl117 : Flat Try.prog 117 := Try.isAgg117

theorem fl118 : Flat Try.prog 118 := Try.isAgg118

theorem fl119 : Flat Try.prog 119 := Try.isAgg119

theorem fl120 : Flat Try.prog 120 := Try.isAgg120

theorem fl122 : Flat Try.prog 122 := Try.isAgg122

theorem fl123 : Flat Try.prog 123 := Try.isAgg123

theorem wd124 : Wide Try.prog 124 4 := ⟨Try.isAgg124, Try.sizeOf124⟩

theorem wd125 : Wide Try.prog 125 4 := ⟨Try.isAgg125, Try.sizeOf125⟩

theorem wd126 : Wide Try.prog 126 0 := ⟨Try.isAgg126, Try.sizeOf126⟩

theorem wd127 : Wide Try.prog 127 0 := ⟨Try.isAgg127, Try.sizeOf127⟩

theorem wd128 : Wide Try.prog 128 0 := ⟨Try.isAgg128, Try.sizeOf128⟩

theorem fl129 : Flat Try.prog 129 := Try.isAgg129

theorem fl130 : Flat Try.prog 130 := Try.isAgg130

theorem fl131 : Flat Try.prog 131 := Try.isAgg131

theorem fl132 : Flat Try.prog 132 := Try.isAgg132

theorem fl133 : Flat Try.prog 133 := Try.isAgg133

theorem fl134 : Flat Try.prog 134 := Try.isAgg134

theorem fl135 : Flat Try.prog 135 := Try.isAgg135

theorem wd136 : Wide Try.prog 136 11 := ⟨Try.isAgg136, Try.sizeOf136⟩

theorem wd137 : Wide Try.prog 137 11 := ⟨Try.isAgg137, Try.sizeOf137⟩

end Go.Proofs.Ytjfickfgpkejpaa
