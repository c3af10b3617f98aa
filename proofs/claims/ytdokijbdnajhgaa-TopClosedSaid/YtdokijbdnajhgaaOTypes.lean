/-
  Facts on the types of the translation, by the kernel.
-/
import Derived.Test.YtdokijbdnajhgaaXOpsE
import Derived.Test.YtdokijbdnajhgaaXCells
import Derived.Test.YtdokijbdnajhgaaXTab
import Derived.Test.YtdokijbdnajhgaaRows
import Derived.KernelRfl
set_option linter.unusedSimpArgs false
set_option linter.unusedVariables false
namespace Go.Proofs.Ytdokijbdnajhgaa
open Go Go.X

theorem mo : Try.prog.follows .mixedOrders = true := by decide +kernel

theorem zc156 : Value.cells (.agg Try.zeroCells156) = bc (List.replicate 1024 false) := by kernel_rfl

theorem zc153 : Value.cells (.agg Try.zeroCells153) = wc (List.replicate 160 0) := by kernel_rfl

theorem fl1 : Flat Try.prog 1 := Try.isAgg1

theorem fl2 : Flat Try.prog 2 := Try.isAgg2

theorem fl3 : Flat Try.prog 3 := Try.isAgg3

theorem fl4 : Flat Try.prog 4 := Try.isAgg4

theorem fl5 : Flat Try.prog 5 := Try.isAgg5

theorem fl6 : Flat Try.prog 6 := Try.isAgg6

theorem wd7 : Wide Try.prog 7 4 := ⟨Try.isAgg7, Try.sizeOf7⟩

theorem wd8 : Wide Try.prog 8 4 := ⟨Try.isAgg8, Try.sizeOf8⟩

theorem fl12 : Flat Try.prog 12 := Try.isAgg12

theorem wd13 : Wide Try.prog 13 2 := ⟨Try.isAgg13, Try.sizeOf13⟩

theorem wd14 : Wide Try.prog 14 2 := ⟨Try.isAgg14, Try.sizeOf14⟩

theorem fl15 : Flat Try.prog 15 := Try.isAgg15

theorem fl16 : Flat Try.prog 16 := Try.isAgg16

theorem fl17 : Flat Try.prog 17 := Try.isAgg17

theorem wd18 : Wide Try.prog 18 1 := ⟨Try.isAgg18, Try.sizeOf18⟩

theorem wd19 : Wide Try.prog 19 1 := ⟨Try.isAgg19, Try.sizeOf19⟩

theorem fl21 : Flat Try.prog 21 := Try.isAgg21

theorem eI22 : (Try.prog.info? 85).map (fun i => (i.zero, i.size, i.bytes)) = some (some (.agg #[.int .i64 0, .int .i64 0]), 2, 16) := by kernel_rfl

theorem eT22 : ElemT Try.prog 22 85 2 16 := elemT Try.underlying22 eI22 rfl

theorem eZ22 : ∃ i z, Try.prog.info? 85 = some i ∧ i.zero = some z ∧ i.size = 2 ∧ i.bytes = 16 ∧ z.cells.toList = [.int .i64 0, .int .i64 0] := by obtain ⟨i, h1, h2, h3, h4⟩ := info_parts eI22; exact ⟨i, _, h1, h2, h3, h4, rfl⟩

theorem fl22 : Flat Try.prog 22 := Try.isAgg22

theorem eI23 : (Try.prog.info? 70).map (fun i => (i.zero, i.size, i.bytes)) = some (some (.slice none 0 0), 1, 24) := by kernel_rfl

theorem eT23 : ElemT Try.prog 23 70 1 24 := elemT Try.underlying23 eI23 rfl

theorem eZ23 : ∃ i z, Try.prog.info? 70 = some i ∧ i.zero = some z ∧ i.size = 1 ∧ i.bytes = 24 ∧ z.cells.toList = [.slice none 0 0] := by obtain ⟨i, h1, h2, h3, h4⟩ := info_parts eI23; exact ⟨i, _, h1, h2, h3, h4, rfl⟩

theorem fl23 : Flat Try.prog 23 := Try.isAgg23

theorem fl24 : Flat Try.prog 24 := Try.isAgg24

theorem eI25 : (Try.prog.info? 3).map (fun i => (i.zero, i.size, i.bytes)) = some (some (.int .i64 0), 1, 8) := by kernel_rfl

theorem eT25 : ElemT Try.prog 25 3 1 8 := elemT Try.underlying25 eI25 rfl

theorem eZ25 : ∃ i z, Try.prog.info? 3 = some i ∧ i.zero = some z ∧ i.size = 1 ∧ i.bytes = 8 ∧ z.cells.toList = [.int .i64 0] := by obtain ⟨i, h1, h2, h3, h4⟩ := info_parts eI25; exact ⟨i, _, h1, h2, h3, h4, rfl⟩

theorem fl25 : Flat Try.prog 25 := Try.isAgg25

theorem fl26 : Flat Try.prog 26 := Try.isAgg26

theorem fl28 : Flat Try.prog 28 := Try.isAgg28

theorem eI29 : (Try.prog.info? 70).map (fun i => (i.zero, i.size, i.bytes)) = some (some (.slice none 0 0), 1, 24) := by kernel_rfl

theorem eT29 : ElemT Try.prog 29 70 1 24 := elemT Try.underlying29 eI29 rfl

theorem eZ29 : ∃ i z, Try.prog.info? 70 = some i ∧ i.zero = some z ∧ i.size = 1 ∧ i.bytes = 24 ∧ z.cells.toList = [.slice none 0 0] := by obtain ⟨i, h1, h2, h3, h4⟩ := info_parts eI29; exact ⟨i, _, h1, h2, h3, h4, rfl⟩

theorem fl29 : Flat Try.prog 29 := Try.isAgg29

theorem fl31 : Flat Try.prog 31 := Try.isAgg31

theorem fl32 : Flat Try.prog 32 := Try.isAgg32

theorem fl33 : Flat Try.prog 33 := Try.isAgg33

theorem fl34 : Flat Try.prog 34 := Try.isAgg34

theorem fl35 : Flat Try.prog 35 := Try.isAgg35

theorem fl36 : Flat Try.prog 36 := Try.isAgg36

theorem fl37 : Flat Try.prog 37 := Try.isAgg37

theorem fl39 : Flat Try.prog 39 := Try.isAgg39

theorem fl41 : Flat Try.prog 41 := Try.isAgg41

theorem fl42 : Flat Try.prog 42 := Try.isAgg42

theorem fl43 : Flat Try.prog 43 := Try.isAgg43

theorem fl44 : Flat Try.prog 44 := Try.isAgg44

theorem fl45 : Flat Try.prog 45 := Try.isAgg45

theorem fl46 : Flat Try.prog 46 := Try.isAgg46

theorem fl47 : Flat Try.prog 47 := Try.isAgg47

theorem wd48 : Wide Try.prog 48 5 := ⟨Try.isAgg48, Try.sizeOf48⟩

theorem eI49 : (Try.prog.info? 25).map (fun i => (i.zero, i.size, i.bytes)) = some (some (.slice none 0 0), 1, 24) := by kernel_rfl

theorem eT49 : ElemT Try.prog 49 25 1 24 := elemT Try.underlying49 eI49 rfl

theorem eZ49 : ∃ i z, Try.prog.info? 25 = some i ∧ i.zero = some z ∧ i.size = 1 ∧ i.bytes = 24 ∧ z.cells.toList = [.slice none 0 0] := by obtain ⟨i, h1, h2, h3, h4⟩ := info_parts eI49; exact ⟨i, _, h1, h2, h3, h4, rfl⟩

theorem fl49 : Flat Try.prog 49 := Try.isAgg49

theorem fl51 : Flat Try.prog 51 := Try.isAgg51

theorem fl53 : Flat Try.prog 53 := Try.isAgg53

theorem fl55 : Flat Try.prog 55 := Try.isAgg55

theorem fl57 : Flat Try.prog 57 := Try.isAgg57

theorem eI58 : (Try.prog.info? 2).map (fun i => (i.zero, i.size, i.bytes)) = some (some (.int .i64 0), 1, 8) := by kernel_rfl

theorem eT58 : ElemT Try.prog 58 2 1 8 := elemT Try.underlying58 eI58 rfl

theorem eZ58 : ∃ i z, Try.prog.info? 2 = some i ∧ i.zero = some z ∧ i.size = 1 ∧ i.bytes = 8 ∧ z.cells.toList = [.int .i64 0] := by obtain ⟨i, h1, h2, h3, h4⟩ := info_parts eI58; exact ⟨i, _, h1, h2, h3, h4, rfl⟩

theorem fl58 : Flat Try.prog 58 := Try.isAgg58

theorem fl60 : Flat Try.prog 60 := Try.isAgg60

theorem fl61 : Flat Try.prog 61 := Try.isAgg61

theorem fl62 : Flat Try.prog 62 := Try.isAgg62

theorem fl64 : Flat Try.prog 64 := Try.isAgg64

theorem fl65 : Flat Try.prog 65 := Try.isAgg65

theorem fl66 : Flat Try.prog 66 := Try.isAgg66

theorem fl67 : Flat Try.prog 67 := Try.isAgg67

theorem fl68 : Flat Try.prog 68 := Try.isAgg68

theorem fl69 : Flat Try.prog 69 := Try.isAgg69

theorem eI70 : (Try.prog.info? 4).map (fun i => (i.zero, i.size, i.bytes)) = some (some (.bool false), 1, 1) := by kernel_rfl

theorem eT70 : ElemT Try.prog 70 4 1 1 := elemT Try.underlying70 eI70 rfl

theorem eZ70 : ∃ i z, Try.prog.info? 4 = some i ∧ i.zero = some z ∧ i.size = 1 ∧ i.bytes = 1 ∧ z.cells.toList = [.bool false] := by obtain ⟨i, h1, h2, h3, h4⟩ := info_parts eI70; exact ⟨i, _, h1, h2, h3, h4, rfl⟩

theorem fl70 : Flat Try.prog 70 := Try.isAgg70

theorem fl72 : Flat Try.prog 72 := Try.isAgg72

theorem fl73 : Flat Try.prog 73 := Try.isAgg73

theorem fl75 : Flat Try.prog 75 := Try.isAgg75

theorem fl76 : Flat Try.prog 76 := Try.isAgg76

theorem fl78 : Flat Try.prog 78 := Try.isAgg78

theorem fl79 : Flat Try.prog 79 := Try.isAgg79

theorem fl81 : Flat Try.prog 81 := Try.isAgg81

theorem fl82 : Flat Try.prog 82 := Try.isAgg82

theorem fl83 : Flat Try.prog 83 := Try.isAgg83

theorem fl84 : Flat Try.prog 84 := Try.isAgg84

theorem wd85 : Wide Try.prog 85 2 := ⟨Try.isAgg85, Try.sizeOf85⟩

theorem bld85_2 (x y : Int) (w : World) : (Instr.build 85 #[(0, .int .i64 x), (1, .int .i64 y)]).run Try.prog w = .ok (.agg #[.int .i64 x, .int .i64 y]) w := bld2 Try.underlying85 Try.zeroValue85 Try.sizeOf3 x y w

theorem ar85 : Arr2 Try.prog 85 3 := ⟨Try.underlying85, Try.underlying3, Try.sizeOf3, fl3, Try.eqGuardType85⟩

theorem fl86 : Flat Try.prog 86 := Try.isAgg86

theorem fl87 : Flat Try.prog 87 := Try.isAgg87

theorem fl88 : Flat Try.prog 88 := Try.isAgg88

theorem fl89 : Flat Try.prog 89 := Try.isAgg89

theorem fl90 : Flat Try.prog 90 := Try.isAgg90

theorem fl91 : Flat Try.prog 91 := Try.isAgg91

theorem fl93 : Flat Try.prog 93 := Try.isAgg93

theorem fl94 : Flat Try.prog 94 := Try.isAgg94

theorem fl95 : Flat Try.prog 95 := Try.isAgg95

theorem fl96 : Flat Try.prog 96 := Try.isAgg96

theorem fl97 : Flat Try.prog 97 := Try.isAgg97

theorem fl98 : Flat Try.prog 98 := Try.isAgg98

theorem fl99 : Flat Try.prog 99 := Try.isAgg99

theorem fl100 : Flat Try.prog 100 := Try.isAgg100

theorem fl101 : Flat Try.prog 101 := Try.isAgg101

theorem fl102 : Flat Try.prog 102 := Try.isAgg102

theorem fl103 : Flat Try.prog 103 := Try.isAgg103

theorem fl104 : Flat Try.prog 104 := Try.isAgg104

theorem fl105 : Flat Try.prog 105 := Try.isAgg105

theorem fl106 : Flat Try.prog 106 := Try.isAgg106

theorem fl107 : Flat Try.prog 107 := Try.isAgg107

theorem fl108 : Flat Try.prog 108 := Try.isAgg108

theorem fl109 : Flat Try.prog 109 := Try.isAgg109

theorem fl110 : Flat Try.prog 110 := Try.isAgg110

theorem fl111 : Flat Try.prog 111 := Try.isAgg111

theorem fl112 : Flat Try.prog 112 := Try.isAgg112

theorem fl114 : Flat Try.prog 114 := Try.isAgg114

theorem fl115 : Flat Try.prog 115 := Try.isAgg115

theorem fl116 : Flat Try.prog 116 := Try.isAgg116

theorem fl117 : Flat Try.prog 117 := Try.isAgg117

theorem wd118 : Wide Try.prog 118 2 := ⟨Try.isAgg118, Try.sizeOf118⟩

theorem wd119 : Wide Try.prog 119 2 := ⟨Try.isAgg119, Try.sizeOf119⟩

theorem fl120 : Flat Try.prog 120 := Try.isAgg120

theorem fl121 : Flat Try.prog 121 := Try.isAgg121

theorem fl123 : Flat Try.prog 123 := Try.isAgg123

theorem fl125 : Flat Try.prog 125 := Try.isAgg125

theorem fl126 : Flat Try.prog 126 := Try.isAgg126

theorem fl127 : Flat Try.prog 127 := Try.isAgg127

theorem fl128 : Flat Try.prog 128 := Try.isAgg128

theorem fl129 : Flat Try.prog 129 := Try.isAgg129

theorem fl130 : Flat Try.prog 130 := Try.isAgg130

theorem fl131 : Flat Try.prog 131 := Try.isAgg131

theorem fl132 : Flat Try.prog 132 := Try.isAgg132

theorem fl133 : Flat Try.prog 133 := Try.isAgg133

theorem fl134 : Flat Try.prog 134 := Try.isAgg134

theorem fl135 : Flat Try.prog 135 := Try.isAgg135

theorem fl136 : Flat Try.prog 136 := Try.isAgg136

theorem fl137 : Flat Try.prog 137 := Try.isAgg137

theorem fl138 : Flat Try.prog 138 := Try.isAgg138

theorem fl139 : Flat Try.prog 139 := Try.isAgg139

theorem fl140 : Flat Try.prog 140 := Try.isAgg140

theorem fl141 : Flat Try.prog 141 := Try.isAgg141

theorem fl142 : Flat Try.prog 142 := Try.isAgg142

theorem fl143 : Flat Try.prog 143 := Try.isAgg143

theorem fl144 : Flat Try.prog 144 := Try.isAgg144

theorem fl145 : Flat Try.prog 145 := Try.isAgg145

theorem fl147 : Flat Try.prog 147 := Try.isAgg147

theorem fl148 : Flat Try.prog 148 := Try.isAgg148

theorem fl149 : Flat Try.prog 149 := Try.isAgg149

theorem wd150 : Wide Try.prog 150 16 := ⟨Try.isAgg150, Try.sizeOf150⟩

theorem wd151 : Wide Try.prog 151 16 := ⟨Try.isAgg151, Try.sizeOf151⟩

theorem wd152 : Wide Try.prog 152 160 := ⟨Try.isAgg152, Try.sizeOf152⟩

theorem wd153 : Wide Try.prog 153 160 := ⟨Try.isAgg153, Try.sizeOf153⟩

theorem fl154 : Flat Try.prog 154 := Try.isAgg154

theorem wd155 : Wide Try.prog 155 1024 := ⟨Try.isAgg155, Try.sizeOf155⟩

theorem wd156 : Wide Try.prog 156 1024 := ⟨Try.isAgg156, Try.sizeOf156⟩

theorem fl157 : Flat Try.prog 157 := Try.isAgg157

theorem fl158 : Flat Try.prog 158 := Try.isAgg158

theorem fl159 : Flat Try.prog 159 := Try.isAgg159

theorem fl160 : Flat Try.prog 160 := Try.isAgg160

theorem fl161 : Flat Try.prog 161 := Try.isAgg161

theorem fl162 : Flat Try.prog 162 := Try.isAgg162

theorem fl163 : Flat Try.prog 163 := Try.isAgg163

theorem fl164 : Flat Try.prog 164 := Try.isAgg164

theorem fl165 : Flat Try.prog 165 := Try.isAgg165

theorem fl166 : Flat Try.prog 166 := Try.isAgg166

theorem fl167 : Flat Try.prog 167 := Try.isAgg167

theorem fl168 : Flat Try.prog 168 := Try.isAgg168

theorem fl169 : Flat Try.prog 169 := Try.isAgg169

theorem fl170 : Flat Try.prog 170 := Try.isAgg170

theorem fl171 : Flat Try.prog 171 := Try.isAgg171

theorem fl172 : Flat Try.prog 172 := Try.isAgg172

theorem fl173 : Flat Try.prog 173 := Try.isAgg173

theorem fl174 : Flat Try.prog 174 := Try.isAgg174

theorem fl175 : Flat Try.prog 175 := Try.isAgg175

theorem fl176 : Flat Try.prog 176 := Try.isAgg176

theorem fl177 : Flat Try.prog 177 := Try.isAgg177

theorem fl178 : Flat Try.prog 178 := Try.isAgg178

theorem fl179 : Flat Try.prog 179 := Try.isAgg179

theorem fl180 : Flat Try.prog 180 := Try.isAgg180

theorem fl181 : Flat Try.prog 181 := Try.isAgg181

theorem fl182 : Flat Try.prog 182 := Try.isAgg182

theorem fl183 : Flat Try.prog 183 := Try.isAgg183

theorem fl185 : Flat Try.prog 185 := Try.isAgg185

theorem fl186 : Flat Try.prog 186 := Try.isAgg186

theorem fl187 : Flat Try.prog 187 := Try.isAgg187

theorem fl188 : Flat Try.prog 188 := Try.isAgg188

theorem fl189 : Flat Try.prog 189 := Try.isAgg189

theorem fl190 : Flat Try.prog 190 := Try.isAgg190

theorem fl191 : Flat Try.prog 191 := Try.isAgg191

theorem fl192 : Flat Try.prog 192 := Try.isAgg192

theorem fl193 : Flat Try.prog 193 := Try.isAgg193

theorem fl194 : Flat Try.prog 194 := Try.isAgg194

theorem fl195 : Flat Try.prog 195 := Try.isAgg195

theorem fl196 : Flat Try.prog 196 := Try.isAgg196

theorem fl197 : Flat Try.prog 197 := Try.isAgg197

theorem fl198 : Flat Try.prog 198 := Try.isAgg198

theorem fl199 : Flat Try.prog 199 := Try.isAgg199

theorem fl200 : Flat Try.prog 200 := Try.isAgg200

theorem fl201 : Flat Try.prog 201 := Try.isAgg201

theorem fl202 : Flat Try.prog 202 := Try.isAgg202

theorem fl203 : Flat Try.prog 203 := Try.isAgg203

theorem fl204 : Flat Try.prog 204 := Try.isAgg204

theorem fl205 : Flat Try.prog 205 := Try.isAgg205

theorem wd206 : Wide Try.prog 206 4 := ⟨Try.isAgg206, Try.sizeOf206⟩

theorem wd207 : Wide Try.prog 207 4 := ⟨Try.isAgg207, Try.sizeOf207⟩

theorem wd208 : Wide Try.prog 208 0 := ⟨Try.isAgg208, Try.sizeOf208⟩

theorem wd209 : Wide Try.prog 209 0 := ⟨Try.isAgg209, Try.sizeOf209⟩

theorem wd210 : Wide Try.prog 210 0 := ⟨Try.isAgg210, Try.sizeOf210⟩

theorem fl211 : Flat Try.prog 211 := Try.isAgg211

theorem fl212 : Flat Try.prog 212 := Try.isAgg212

theorem fl213 : Flat Try.prog 213 := Try.isAgg213

theorem fl214 : Flat Try.prog 214 := Try.isAgg214

theorem fl215 : Flat Try.prog 215 := Try.isAgg215

theorem fl216 : Flat Try.prog 216 := Try.isAgg216

theorem fl217 : Flat Try.prog 217 := Try.isAgg217

theorem wd218 : Wide Try.prog 218 11 := ⟨Try.isAgg218, Try.sizeOf218⟩

theorem wd219 : Wide Try.prog 219 11 := ⟨Try.isAgg219, Try.sizeOf219⟩

end Go.Proofs.Ytdokijbdnajhgaa
