/-
  NARROWER THAN 'FOR EVERY INPUT', by the rows' own cells (each row's printed sentence says how): Keeps: laid · Refines: laid · RefinesQuiet: laid · Open: laid · EdgeInfinities: laid · EdgeNaNAtTheDoor: laid · EdgeOpenInt32: laid · EdgeNearestFloat: laid · EdgeHalfAPlace: laid · EdgeTwoRoundings: laid · EdgeLabelBrims: laid · EdgeGrammar: laid · EdgeCountsUnlooked: laid · EdgeTexts: laid.
  DERIVED. THE GIVEN ROWS OF THIS SEAT. 14 by the template 'for every input the law returns true; each argument reads behind the call as it read before'; 0 by the template 'total and deterministic' (their statements: Qxb6500378aDoorTotals.lean).
  GIVEN WITH THE SEED: the statements are not yours to turn. If you find one false, say at which input.
  Laid BY PROGRAM, IN A SANDBOX (cutbox-rows.mjs): the forced cells as the released guide's own fill.sh prints them over the translation dd229f77359812e6… (all of the seat's roots in one cut). By AI agents, Wed Nov 11 2026. No macro, syntax, notation, axiom, sorry.
-/
import Derived.Test.Qxb6500378aDoorChecked
import GoSem.PinnedTables
import GoSem.Claim
import GoSem.ClaimJoined
import GoSem.ClaimMapViews
import Derived.JoinedTies
import Derived.KernelRfl
namespace Go.Proofs.Qxb6500378aDoor
/- THE CELL 'sum', in the pinned program and in every row, IS THE sha256 OF THE DUMP (.gsa) THAT Qxb6500378aDoorProg.lean LOADS. Nothing in Lean hashes anything: it is a label: what it is worth is what the hold of that sum in a sandbox is worth. -/
noncomputable def Tryd.pinned : Pinned := { name := "qxb6500378adoor", sum := "dd229f77359812e62860e0eccb309aca9117a4e62ffdf07bc4139cad196d5996", checked := Tryd.checked }
namespace Rows
def none {H : Type} : Left H := { results := [], args := [] }

/- WHAT THE LISTED PACKAGE-LEVEL VARIABLES READ AS WHEN THE CALL BEGINS. Each datum BY PROGRAM (the guide's laid-datum.mjs) off the statement by which the dump's own 'gosem.cut.vars' lays the variable. In a bare row this is a premise. The card (Qxb6500378aDoorCards.lean) ties it to the program's text. -/
def laid_math_bits_deBruijn32tab {H : Type} : DataW H := .agg [.lit (.int .u8 0), .lit (.int .u8 1), .lit (.int .u8 28), .lit (.int .u8 2), .lit (.int .u8 29), .lit (.int .u8 14), .lit (.int .u8 24), .lit (.int .u8 3), .lit (.int .u8 30), .lit (.int .u8 22), .lit (.int .u8 20), .lit (.int .u8 15), .lit (.int .u8 25), .lit (.int .u8 17), .lit (.int .u8 4), .lit (.int .u8 8), .lit (.int .u8 31), .lit (.int .u8 27), .lit (.int .u8 13), .lit (.int .u8 23), .lit (.int .u8 21), .lit (.int .u8 19), .lit (.int .u8 16), .lit (.int .u8 7), .lit (.int .u8 26), .lit (.int .u8 12), .lit (.int .u8 18), .lit (.int .u8 6), .lit (.int .u8 11), .lit (.int .u8 5), .lit (.int .u8 10), .lit (.int .u8 9)]
def laid_math_bits_deBruijn64tab {H : Type} : DataW H := .agg [.lit (.int .u8 0), .lit (.int .u8 1), .lit (.int .u8 56), .lit (.int .u8 2), .lit (.int .u8 57), .lit (.int .u8 49), .lit (.int .u8 28), .lit (.int .u8 3), .lit (.int .u8 61), .lit (.int .u8 58), .lit (.int .u8 42), .lit (.int .u8 50), .lit (.int .u8 38), .lit (.int .u8 29), .lit (.int .u8 17), .lit (.int .u8 4), .lit (.int .u8 62), .lit (.int .u8 47), .lit (.int .u8 59), .lit (.int .u8 36), .lit (.int .u8 45), .lit (.int .u8 43), .lit (.int .u8 51), .lit (.int .u8 22), .lit (.int .u8 53), .lit (.int .u8 39), .lit (.int .u8 33), .lit (.int .u8 30), .lit (.int .u8 24), .lit (.int .u8 18), .lit (.int .u8 12), .lit (.int .u8 5), .lit (.int .u8 63), .lit (.int .u8 55), .lit (.int .u8 48), .lit (.int .u8 27), .lit (.int .u8 60), .lit (.int .u8 41), .lit (.int .u8 37), .lit (.int .u8 16), .lit (.int .u8 46), .lit (.int .u8 35), .lit (.int .u8 44), .lit (.int .u8 21), .lit (.int .u8 52), .lit (.int .u8 32), .lit (.int .u8 23), .lit (.int .u8 11), .lit (.int .u8 54), .lit (.int .u8 26), .lit (.int .u8 40), .lit (.int .u8 15), .lit (.int .u8 34), .lit (.int .u8 20), .lit (.int .u8 31), .lit (.int .u8 10), .lit (.int .u8 25), .lit (.int .u8 14), .lit (.int .u8 19), .lit (.int .u8 9), .lit (.int .u8 13), .lit (.int .u8 8), .lit (.int .u8 7), .lit (.int .u8 6)]
def laid_internal_strconv_uint64pow10 {H : Type} : DataW H := .agg [.lit (.int .u64 1), .lit (.int .u64 10), .lit (.int .u64 100), .lit (.int .u64 1000), .lit (.int .u64 10000), .lit (.int .u64 100000), .lit (.int .u64 1000000), .lit (.int .u64 10000000), .lit (.int .u64 100000000), .lit (.int .u64 1000000000), .lit (.int .u64 10000000000), .lit (.int .u64 100000000000), .lit (.int .u64 1000000000000), .lit (.int .u64 10000000000000), .lit (.int .u64 100000000000000), .lit (.int .u64 1000000000000000), .lit (.int .u64 10000000000000000), .lit (.int .u64 100000000000000000), .lit (.int .u64 1000000000000000000), .lit (.int .u64 10000000000000000000)]
def laid_internal_strconv_float32info {H : Type} : DataW H := .agg [.lit (.int .u64 23), .lit (.int .u64 8), .lit (.int .i64 (-127))]
def laid_internal_strconv_float64info {H : Type} : DataW H := .agg [.lit (.int .u64 52), .lit (.int .u64 11), .lit (.int .i64 (-1023))]
def laid_internal_strconv_optimize {H : Type} : DataW H := .lit (.bool true)
def laid_internal_strconv_powtab {H : Type} : DataW H := .slice [.lit (.int .i64 1), .lit (.int .i64 3), .lit (.int .i64 6), .lit (.int .i64 9), .lit (.int .i64 13), .lit (.int .i64 16), .lit (.int .i64 19), .lit (.int .i64 23), .lit (.int .i64 26)] []
def laid_internal_strconv_float64pow10 {H : Type} : DataW H := .slice [.lit (.float .f64 4607182418800017408), .lit (.float .f64 4621819117588971520), .lit (.float .f64 4636737291354636288), .lit (.float .f64 4652007308841189376), .lit (.float .f64 4666723172467343360), .lit (.float .f64 4681608360884174848), .lit (.float .f64 4696837146684686336), .lit (.float .f64 4711630319722168320), .lit (.float .f64 4726483295884279808), .lit (.float .f64 4741671816366391296), .lit (.float .f64 4756540486875873280), .lit (.float .f64 4771362005757984768), .lit (.float .f64 4786511204640096256), .lit (.float .f64 4801453603149578240), .lit (.float .f64 4816244402031689728), .lit (.float .f64 4831355200913801216), .lit (.float .f64 4846369599423283200), .lit (.float .f64 4861130398305394688), .lit (.float .f64 4876203697187506176), .lit (.float .f64 4891288408196988160), .lit (.float .f64 4906019910204099648), .lit (.float .f64 4921056587992461136), .lit (.float .f64 4936209963552724370)] []
def laid_internal_strconv_float32pow10 {H : Type} : DataW H := .slice [.lit (.float .f32 1065353216), .lit (.float .f32 1092616192), .lit (.float .f32 1120403456), .lit (.float .f32 1148846080), .lit (.float .f32 1176256512), .lit (.float .f32 1203982336), .lit (.float .f32 1232348160), .lit (.float .f32 1259902592), .lit (.float .f32 1287568416), .lit (.float .f32 1315859240), .lit (.float .f32 1343554297)] []
def laid_strconv_ErrRange {H : Type} : DataW H := .iface "*errors.errorString" (.ptr (.agg [.lit (.string [118, 97, 108, 117, 101, 32, 111, 117, 116, 32, 111, 102, 32, 114, 97, 110, 103, 101])]))
def laid_strconv_ErrSyntax {H : Type} : DataW H := .iface "*errors.errorString" (.ptr (.agg [.lit (.string [105, 110, 118, 97, 108, 105, 100, 32, 115, 121, 110, 116, 97, 120])]))
/-- One of Go's own tables, pinned by name: the form's constant. -/
def laid_internal_strconv_leftcheats : DataW Unit := Go.Pinned.leftcheats
/-- One of Go's own tables, pinned by name: the form's constant. -/
def laid_internal_strconv_pow10Tab : DataW Unit := Go.Pinned.pow10Tab

/-- 'quantlaw.Keeps': WHATEVER THE INPUT: true; the input reads as it did. -/
def keepsSpec : ChangeSpec := { name := "keeps", fn := fun _ => fun
  | [d] => { results := [.lit (.bool true)], args := [d] }
  | _ => none }
def keepsRow : OpenClaim := { program := "qxb6500378adoor", sum := "dd229f77359812e62860e0eccb309aca9117a4e62ffdf07bc4139cad196d5996", func := "e2e/quantlaw.Keeps", spec := "keeps", inPlace := ["math.Float64frombits", "math.archFloor", "math.Float64bits", "math.archTrunc", "math.archCeil", "math.RoundToEven", "math.Float32bits", "math.Float32frombits", "math.FMA"], named := ["internal/strconv.uint64pow10", "math/bits.deBruijn32tab", "math/bits.deBruijn64tab"], apart := false, laid := [("math/bits.deBruijn32tab", laid_math_bits_deBruijn32tab), ("math/bits.deBruijn64tab", laid_math_bits_deBruijn64tab), ("internal/strconv.uint64pow10", laid_internal_strconv_uint64pow10)] }
def KeepsSaid : Prop := keepsRow.holds Tryd.pinned (OpenSpec.ofChange keepsSpec)

/-- ITS FALSE NEIGHBOUR: 'it returns false'. Refute it at one input. -/
def keepsWrong : ChangeSpec := { name := "keeps", fn := fun _ => fun
  | [d] => { results := [.lit (.bool false)], args := [d] }
  | _ => none }
def KeepsWrongFalsely : Prop := keepsRow.holds Tryd.pinned (OpenSpec.ofChange keepsWrong)

/-- 'quantlaw.Refines': WHATEVER THE INPUT: true; the input reads as it did. -/
def refinesSpec : ChangeSpec := { name := "refines", fn := fun _ => fun
  | [d] => { results := [.lit (.bool true)], args := [d] }
  | _ => none }
def refinesRow : OpenClaim := { program := "qxb6500378adoor", sum := "dd229f77359812e62860e0eccb309aca9117a4e62ffdf07bc4139cad196d5996", func := "e2e/quantlaw.Refines", spec := "refines", inPlace := ["math.Float64frombits", "math.archFloor", "math.Float64bits", "math.archTrunc", "math.archCeil", "math.RoundToEven", "math.Float32bits", "math.Float32frombits", "math.FMA"], named := ["internal/strconv.uint64pow10", "math/bits.deBruijn32tab", "math/bits.deBruijn64tab"], apart := false, laid := [("math/bits.deBruijn32tab", laid_math_bits_deBruijn32tab), ("math/bits.deBruijn64tab", laid_math_bits_deBruijn64tab), ("internal/strconv.uint64pow10", laid_internal_strconv_uint64pow10)] }
def RefinesSaid : Prop := refinesRow.holds Tryd.pinned (OpenSpec.ofChange refinesSpec)

/-- ITS FALSE NEIGHBOUR: 'it returns false'. Refute it at one input. -/
def refinesWrong : ChangeSpec := { name := "refines", fn := fun _ => fun
  | [d] => { results := [.lit (.bool false)], args := [d] }
  | _ => none }
def RefinesWrongFalsely : Prop := refinesRow.holds Tryd.pinned (OpenSpec.ofChange refinesWrong)

/-- 'quantlaw.RefinesQuiet': WHATEVER THE INPUT: true; the input reads as it did. -/
def refinesQuietSpec : ChangeSpec := { name := "refinesQuiet", fn := fun _ => fun
  | [d] => { results := [.lit (.bool true)], args := [d] }
  | _ => none }
def refinesQuietRow : OpenClaim := { program := "qxb6500378adoor", sum := "dd229f77359812e62860e0eccb309aca9117a4e62ffdf07bc4139cad196d5996", func := "e2e/quantlaw.RefinesQuiet", spec := "refinesQuiet", inPlace := ["math.Float64frombits", "math.archFloor", "math.Float64bits", "math.archTrunc", "math.archCeil", "math.RoundToEven", "math.Float32bits", "math.Float32frombits", "math.FMA"], named := ["internal/strconv.uint64pow10", "math/bits.deBruijn32tab", "math/bits.deBruijn64tab"], apart := false, laid := [("math/bits.deBruijn32tab", laid_math_bits_deBruijn32tab), ("math/bits.deBruijn64tab", laid_math_bits_deBruijn64tab), ("internal/strconv.uint64pow10", laid_internal_strconv_uint64pow10)] }
def RefinesQuietSaid : Prop := refinesQuietRow.holds Tryd.pinned (OpenSpec.ofChange refinesQuietSpec)

/-- ITS FALSE NEIGHBOUR: 'it returns false'. Refute it at one input. -/
def refinesQuietWrong : ChangeSpec := { name := "refinesQuiet", fn := fun _ => fun
  | [d] => { results := [.lit (.bool false)], args := [d] }
  | _ => none }
def RefinesQuietWrongFalsely : Prop := refinesQuietRow.holds Tryd.pinned (OpenSpec.ofChange refinesQuietWrong)

/-- 'quantlaw.Open': WHATEVER THE INPUT: true; the input reads as it did. -/
def openSpec : ChangeSpec := { name := "open", fn := fun _ => fun
  | [d] => { results := [.lit (.bool true)], args := [d] }
  | _ => none }
def openRow : OpenClaim := { program := "qxb6500378adoor", sum := "dd229f77359812e62860e0eccb309aca9117a4e62ffdf07bc4139cad196d5996", func := "e2e/quantlaw.Open", spec := "open", inPlace := ["math.Float64frombits", "math.archFloor", "math.Float64bits", "math.archTrunc", "math.archCeil", "math.RoundToEven", "math.Float32bits", "math.Float32frombits", "math.FMA"], unfollowed := true, recurses := true, named := ["internal/strconv.uint64pow10", "math/bits.deBruijn32tab", "math/bits.deBruijn64tab"], apart := false, laid := [("math/bits.deBruijn32tab", laid_math_bits_deBruijn32tab), ("math/bits.deBruijn64tab", laid_math_bits_deBruijn64tab), ("internal/strconv.uint64pow10", laid_internal_strconv_uint64pow10)] }
def OpenSaid : Prop := openRow.holds Tryd.pinned (OpenSpec.ofChange openSpec)

/-- ITS FALSE NEIGHBOUR: 'it returns false'. Refute it at one input. -/
def openWrong : ChangeSpec := { name := "open", fn := fun _ => fun
  | [d] => { results := [.lit (.bool false)], args := [d] }
  | _ => none }
def OpenWrongFalsely : Prop := openRow.holds Tryd.pinned (OpenSpec.ofChange openWrong)

/-- 'quantlaw.EdgeInfinities': WHATEVER THE INPUT: true; the input reads as it did. -/
def edgeInfinitiesSpec : ChangeSpec := { name := "edgeInfinities", fn := fun _ => fun
  | [] => { results := [.lit (.bool true)], args := [] }
  | _ => none }
def edgeInfinitiesRow : OpenClaim := { program := "qxb6500378adoor", sum := "dd229f77359812e62860e0eccb309aca9117a4e62ffdf07bc4139cad196d5996", func := "e2e/quantlaw.EdgeInfinities", spec := "edgeInfinities", inPlace := ["math.Float64frombits", "math.archFloor", "math.Float64bits", "math.archTrunc", "math.archCeil", "math.RoundToEven", "math.Float32bits", "internal/strconv.float64frombits", "internal/strconv.float32frombits"], named := ["internal/strconv.float32info", "internal/strconv.optimize", "internal/strconv.float32pow10", "internal/strconv.pow10Tab", "internal/strconv.powtab", "internal/strconv.leftcheats", "internal/strconv.float64info", "internal/strconv.float64pow10", "strconv.ErrSyntax", "strconv.ErrRange", "internal/strconv.uint64pow10", "math/bits.deBruijn32tab", "math/bits.deBruijn64tab"], apart := false, laid := [("math/bits.deBruijn32tab", laid_math_bits_deBruijn32tab), ("math/bits.deBruijn64tab", laid_math_bits_deBruijn64tab), ("internal/strconv.float32info", laid_internal_strconv_float32info), ("internal/strconv.float64info", laid_internal_strconv_float64info), ("internal/strconv.optimize", laid_internal_strconv_optimize), ("internal/strconv.powtab", laid_internal_strconv_powtab), ("internal/strconv.float64pow10", laid_internal_strconv_float64pow10), ("internal/strconv.float32pow10", laid_internal_strconv_float32pow10), ("internal/strconv.uint64pow10", laid_internal_strconv_uint64pow10), ("strconv.ErrRange", laid_strconv_ErrRange), ("strconv.ErrSyntax", laid_strconv_ErrSyntax), ("internal/strconv.leftcheats", laid_internal_strconv_leftcheats), ("internal/strconv.pow10Tab", laid_internal_strconv_pow10Tab)] }
def EdgeInfinitiesSaid : Prop := edgeInfinitiesRow.holds Tryd.pinned (OpenSpec.ofChange edgeInfinitiesSpec)

/-- ITS FALSE NEIGHBOUR: 'it returns false'. Refute it at one input. -/
def edgeInfinitiesWrong : ChangeSpec := { name := "edgeInfinities", fn := fun _ => fun
  | [] => { results := [.lit (.bool false)], args := [] }
  | _ => none }
def EdgeInfinitiesWrongFalsely : Prop := edgeInfinitiesRow.holds Tryd.pinned (OpenSpec.ofChange edgeInfinitiesWrong)

/-- 'quantlaw.EdgeNaNAtTheDoor': WHATEVER THE INPUT: true; the input reads as it did. -/
def edgeNaNAtTheDoorSpec : ChangeSpec := { name := "edgeNaNAtTheDoor", fn := fun _ => fun
  | [] => { results := [.lit (.bool true)], args := [] }
  | _ => none }
def edgeNaNAtTheDoorRow : OpenClaim := { program := "qxb6500378adoor", sum := "dd229f77359812e62860e0eccb309aca9117a4e62ffdf07bc4139cad196d5996", func := "e2e/quantlaw.EdgeNaNAtTheDoor", spec := "edgeNaNAtTheDoor", inPlace := ["math.Float64frombits", "math.archFloor", "math.Float64bits", "math.archTrunc", "math.archCeil", "math.RoundToEven", "math.Float32bits", "math.Float32frombits"], named := ["internal/strconv.uint64pow10", "math/bits.deBruijn32tab", "math/bits.deBruijn64tab"], apart := false, laid := [("math/bits.deBruijn32tab", laid_math_bits_deBruijn32tab), ("math/bits.deBruijn64tab", laid_math_bits_deBruijn64tab), ("internal/strconv.uint64pow10", laid_internal_strconv_uint64pow10)] }
def EdgeNaNAtTheDoorSaid : Prop := edgeNaNAtTheDoorRow.holds Tryd.pinned (OpenSpec.ofChange edgeNaNAtTheDoorSpec)

/-- ITS FALSE NEIGHBOUR: 'it returns false'. Refute it at one input. -/
def edgeNaNAtTheDoorWrong : ChangeSpec := { name := "edgeNaNAtTheDoor", fn := fun _ => fun
  | [] => { results := [.lit (.bool false)], args := [] }
  | _ => none }
def EdgeNaNAtTheDoorWrongFalsely : Prop := edgeNaNAtTheDoorRow.holds Tryd.pinned (OpenSpec.ofChange edgeNaNAtTheDoorWrong)

/-- 'quantlaw.EdgeOpenInt32': WHATEVER THE INPUT: true; the input reads as it did. -/
def edgeOpenInt32Spec : ChangeSpec := { name := "edgeOpenInt32", fn := fun _ => fun
  | [] => { results := [.lit (.bool true)], args := [] }
  | _ => none }
def edgeOpenInt32Row : OpenClaim := { program := "qxb6500378adoor", sum := "dd229f77359812e62860e0eccb309aca9117a4e62ffdf07bc4139cad196d5996", func := "e2e/quantlaw.EdgeOpenInt32", spec := "edgeOpenInt32", inPlace := ["math.Float64frombits", "math.archFloor", "math.Float64bits", "math.archTrunc", "math.archCeil", "math.RoundToEven"], named := ["internal/strconv.uint64pow10", "math/bits.deBruijn32tab", "math/bits.deBruijn64tab"], apart := false, laid := [("math/bits.deBruijn32tab", laid_math_bits_deBruijn32tab), ("math/bits.deBruijn64tab", laid_math_bits_deBruijn64tab), ("internal/strconv.uint64pow10", laid_internal_strconv_uint64pow10)] }
def EdgeOpenInt32Said : Prop := edgeOpenInt32Row.holds Tryd.pinned (OpenSpec.ofChange edgeOpenInt32Spec)

/-- ITS FALSE NEIGHBOUR: 'it returns false'. Refute it at one input. -/
def edgeOpenInt32Wrong : ChangeSpec := { name := "edgeOpenInt32", fn := fun _ => fun
  | [] => { results := [.lit (.bool false)], args := [] }
  | _ => none }
def EdgeOpenInt32WrongFalsely : Prop := edgeOpenInt32Row.holds Tryd.pinned (OpenSpec.ofChange edgeOpenInt32Wrong)

/-- 'quantlaw.EdgeNearestFloat': WHATEVER THE INPUT: true; the input reads as it did. -/
def edgeNearestFloatSpec : ChangeSpec := { name := "edgeNearestFloat", fn := fun _ => fun
  | [] => { results := [.lit (.bool true)], args := [] }
  | _ => none }
def edgeNearestFloatRow : OpenClaim := { program := "qxb6500378adoor", sum := "dd229f77359812e62860e0eccb309aca9117a4e62ffdf07bc4139cad196d5996", func := "e2e/quantlaw.EdgeNearestFloat", spec := "edgeNearestFloat", inPlace := ["internal/strconv.float64frombits", "internal/strconv.float32frombits", "math.Float32bits", "math.Float64bits"], named := ["internal/strconv.float32info", "internal/strconv.optimize", "internal/strconv.float32pow10", "internal/strconv.pow10Tab", "internal/strconv.powtab", "internal/strconv.leftcheats", "internal/strconv.float64info", "internal/strconv.float64pow10", "strconv.ErrSyntax", "strconv.ErrRange", "internal/strconv.uint64pow10", "math/bits.deBruijn32tab", "math/bits.deBruijn64tab"], apart := false, laid := [("math/bits.deBruijn32tab", laid_math_bits_deBruijn32tab), ("math/bits.deBruijn64tab", laid_math_bits_deBruijn64tab), ("internal/strconv.float32info", laid_internal_strconv_float32info), ("internal/strconv.float64info", laid_internal_strconv_float64info), ("internal/strconv.optimize", laid_internal_strconv_optimize), ("internal/strconv.powtab", laid_internal_strconv_powtab), ("internal/strconv.float64pow10", laid_internal_strconv_float64pow10), ("internal/strconv.float32pow10", laid_internal_strconv_float32pow10), ("internal/strconv.uint64pow10", laid_internal_strconv_uint64pow10), ("strconv.ErrRange", laid_strconv_ErrRange), ("strconv.ErrSyntax", laid_strconv_ErrSyntax), ("internal/strconv.leftcheats", laid_internal_strconv_leftcheats), ("internal/strconv.pow10Tab", laid_internal_strconv_pow10Tab)] }
def EdgeNearestFloatSaid : Prop := edgeNearestFloatRow.holds Tryd.pinned (OpenSpec.ofChange edgeNearestFloatSpec)

/-- ITS FALSE NEIGHBOUR: 'it returns false'. Refute it at one input. -/
def edgeNearestFloatWrong : ChangeSpec := { name := "edgeNearestFloat", fn := fun _ => fun
  | [] => { results := [.lit (.bool false)], args := [] }
  | _ => none }
def EdgeNearestFloatWrongFalsely : Prop := edgeNearestFloatRow.holds Tryd.pinned (OpenSpec.ofChange edgeNearestFloatWrong)

/-- 'quantlaw.EdgeHalfAPlace': WHATEVER THE INPUT: true; the input reads as it did. -/
def edgeHalfAPlaceSpec : ChangeSpec := { name := "edgeHalfAPlace", fn := fun _ => fun
  | [] => { results := [.lit (.bool true)], args := [] }
  | _ => none }
def edgeHalfAPlaceRow : OpenClaim := { program := "qxb6500378adoor", sum := "dd229f77359812e62860e0eccb309aca9117a4e62ffdf07bc4139cad196d5996", func := "e2e/quantlaw.EdgeHalfAPlace", spec := "edgeHalfAPlace", inPlace := ["internal/strconv.float32bits", "internal/strconv.float64bits"], named := ["internal/strconv.optimize", "internal/strconv.uint64pow10", "math/bits.deBruijn32tab", "math/bits.deBruijn64tab", "internal/strconv.pow10Tab", "internal/strconv.leftcheats"], apart := false, laid := [("math/bits.deBruijn32tab", laid_math_bits_deBruijn32tab), ("math/bits.deBruijn64tab", laid_math_bits_deBruijn64tab), ("internal/strconv.optimize", laid_internal_strconv_optimize), ("internal/strconv.uint64pow10", laid_internal_strconv_uint64pow10), ("internal/strconv.leftcheats", laid_internal_strconv_leftcheats), ("internal/strconv.pow10Tab", laid_internal_strconv_pow10Tab)] }
def EdgeHalfAPlaceSaid : Prop := edgeHalfAPlaceRow.holds Tryd.pinned (OpenSpec.ofChange edgeHalfAPlaceSpec)

/-- ITS FALSE NEIGHBOUR: 'it returns false'. Refute it at one input. -/
def edgeHalfAPlaceWrong : ChangeSpec := { name := "edgeHalfAPlace", fn := fun _ => fun
  | [] => { results := [.lit (.bool false)], args := [] }
  | _ => none }
def EdgeHalfAPlaceWrongFalsely : Prop := edgeHalfAPlaceRow.holds Tryd.pinned (OpenSpec.ofChange edgeHalfAPlaceWrong)

/-- 'quantlaw.EdgeTwoRoundings': WHATEVER THE INPUT: true; the input reads as it did. -/
def edgeTwoRoundingsSpec : ChangeSpec := { name := "edgeTwoRoundings", fn := fun _ => fun
  | [] => { results := [.lit (.bool true)], args := [] }
  | _ => none }
def edgeTwoRoundingsRow : OpenClaim := { program := "qxb6500378adoor", sum := "dd229f77359812e62860e0eccb309aca9117a4e62ffdf07bc4139cad196d5996", func := "e2e/quantlaw.EdgeTwoRoundings", spec := "edgeTwoRoundings", inPlace := ["internal/strconv.float64frombits", "internal/strconv.float32frombits", "math.RoundToEven"], named := ["internal/strconv.float32info", "internal/strconv.optimize", "internal/strconv.float32pow10", "internal/strconv.pow10Tab", "internal/strconv.powtab", "internal/strconv.leftcheats", "internal/strconv.float64info", "internal/strconv.float64pow10", "strconv.ErrSyntax", "strconv.ErrRange", "internal/strconv.uint64pow10", "math/bits.deBruijn32tab", "math/bits.deBruijn64tab"], apart := false, laid := [("math/bits.deBruijn32tab", laid_math_bits_deBruijn32tab), ("math/bits.deBruijn64tab", laid_math_bits_deBruijn64tab), ("internal/strconv.float32info", laid_internal_strconv_float32info), ("internal/strconv.float64info", laid_internal_strconv_float64info), ("internal/strconv.optimize", laid_internal_strconv_optimize), ("internal/strconv.powtab", laid_internal_strconv_powtab), ("internal/strconv.float64pow10", laid_internal_strconv_float64pow10), ("internal/strconv.float32pow10", laid_internal_strconv_float32pow10), ("internal/strconv.uint64pow10", laid_internal_strconv_uint64pow10), ("strconv.ErrRange", laid_strconv_ErrRange), ("strconv.ErrSyntax", laid_strconv_ErrSyntax), ("internal/strconv.leftcheats", laid_internal_strconv_leftcheats), ("internal/strconv.pow10Tab", laid_internal_strconv_pow10Tab)] }
def EdgeTwoRoundingsSaid : Prop := edgeTwoRoundingsRow.holds Tryd.pinned (OpenSpec.ofChange edgeTwoRoundingsSpec)

/-- ITS FALSE NEIGHBOUR: 'it returns false'. Refute it at one input. -/
def edgeTwoRoundingsWrong : ChangeSpec := { name := "edgeTwoRoundings", fn := fun _ => fun
  | [] => { results := [.lit (.bool false)], args := [] }
  | _ => none }
def EdgeTwoRoundingsWrongFalsely : Prop := edgeTwoRoundingsRow.holds Tryd.pinned (OpenSpec.ofChange edgeTwoRoundingsWrong)

/-- 'quantlaw.EdgeLabelBrims': WHATEVER THE INPUT: true; the input reads as it did. -/
def edgeLabelBrimsSpec : ChangeSpec := { name := "edgeLabelBrims", fn := fun _ => fun
  | [] => { results := [.lit (.bool true)], args := [] }
  | _ => none }
def edgeLabelBrimsRow : OpenClaim := { program := "qxb6500378adoor", sum := "dd229f77359812e62860e0eccb309aca9117a4e62ffdf07bc4139cad196d5996", func := "e2e/quantlaw.EdgeLabelBrims", spec := "edgeLabelBrims", inPlace := ["internal/strconv.float32bits", "internal/strconv.float64bits"], named := ["internal/strconv.optimize", "internal/strconv.uint64pow10", "math/bits.deBruijn32tab", "math/bits.deBruijn64tab", "internal/strconv.pow10Tab", "internal/strconv.leftcheats"], apart := false, laid := [("math/bits.deBruijn32tab", laid_math_bits_deBruijn32tab), ("math/bits.deBruijn64tab", laid_math_bits_deBruijn64tab), ("internal/strconv.optimize", laid_internal_strconv_optimize), ("internal/strconv.uint64pow10", laid_internal_strconv_uint64pow10), ("internal/strconv.leftcheats", laid_internal_strconv_leftcheats), ("internal/strconv.pow10Tab", laid_internal_strconv_pow10Tab)] }
def EdgeLabelBrimsSaid : Prop := edgeLabelBrimsRow.holds Tryd.pinned (OpenSpec.ofChange edgeLabelBrimsSpec)

/-- ITS FALSE NEIGHBOUR: 'it returns false'. Refute it at one input. -/
def edgeLabelBrimsWrong : ChangeSpec := { name := "edgeLabelBrims", fn := fun _ => fun
  | [] => { results := [.lit (.bool false)], args := [] }
  | _ => none }
def EdgeLabelBrimsWrongFalsely : Prop := edgeLabelBrimsRow.holds Tryd.pinned (OpenSpec.ofChange edgeLabelBrimsWrong)

/-- 'quantlaw.EdgeGrammar': WHATEVER THE INPUT: true; the input reads as it did. -/
def edgeGrammarSpec : ChangeSpec := { name := "edgeGrammar", fn := fun _ => fun
  | [] => { results := [.lit (.bool true)], args := [] }
  | _ => none }
def edgeGrammarRow : OpenClaim := { program := "qxb6500378adoor", sum := "dd229f77359812e62860e0eccb309aca9117a4e62ffdf07bc4139cad196d5996", func := "e2e/quantlaw.EdgeGrammar", spec := "edgeGrammar", inPlace := ["internal/strconv.float64frombits", "internal/strconv.float32frombits", "math.Float32bits", "math.Float64bits"], named := ["internal/strconv.float32info", "internal/strconv.optimize", "internal/strconv.float32pow10", "internal/strconv.pow10Tab", "internal/strconv.powtab", "internal/strconv.leftcheats", "internal/strconv.float64info", "internal/strconv.float64pow10", "strconv.ErrSyntax", "strconv.ErrRange", "internal/strconv.uint64pow10", "math/bits.deBruijn32tab", "math/bits.deBruijn64tab"], apart := false, laid := [("math/bits.deBruijn32tab", laid_math_bits_deBruijn32tab), ("math/bits.deBruijn64tab", laid_math_bits_deBruijn64tab), ("internal/strconv.float32info", laid_internal_strconv_float32info), ("internal/strconv.float64info", laid_internal_strconv_float64info), ("internal/strconv.optimize", laid_internal_strconv_optimize), ("internal/strconv.powtab", laid_internal_strconv_powtab), ("internal/strconv.float64pow10", laid_internal_strconv_float64pow10), ("internal/strconv.float32pow10", laid_internal_strconv_float32pow10), ("internal/strconv.uint64pow10", laid_internal_strconv_uint64pow10), ("strconv.ErrRange", laid_strconv_ErrRange), ("strconv.ErrSyntax", laid_strconv_ErrSyntax), ("internal/strconv.leftcheats", laid_internal_strconv_leftcheats), ("internal/strconv.pow10Tab", laid_internal_strconv_pow10Tab)] }
def EdgeGrammarSaid : Prop := edgeGrammarRow.holds Tryd.pinned (OpenSpec.ofChange edgeGrammarSpec)

/-- ITS FALSE NEIGHBOUR: 'it returns false'. Refute it at one input. -/
def edgeGrammarWrong : ChangeSpec := { name := "edgeGrammar", fn := fun _ => fun
  | [] => { results := [.lit (.bool false)], args := [] }
  | _ => none }
def EdgeGrammarWrongFalsely : Prop := edgeGrammarRow.holds Tryd.pinned (OpenSpec.ofChange edgeGrammarWrong)

/-- 'quantlaw.EdgeCountsUnlooked': WHATEVER THE INPUT: true; the input reads as it did. -/
def edgeCountsUnlookedSpec : ChangeSpec := { name := "edgeCountsUnlooked", fn := fun _ => fun
  | [] => { results := [.lit (.bool true)], args := [] }
  | _ => none }
def edgeCountsUnlookedRow : OpenClaim := { program := "qxb6500378adoor", sum := "dd229f77359812e62860e0eccb309aca9117a4e62ffdf07bc4139cad196d5996", func := "e2e/quantlaw.EdgeCountsUnlooked", spec := "edgeCountsUnlooked", inPlace := ["math.Float64frombits", "math.archFloor", "math.Float64bits", "math.archTrunc", "math.archCeil", "math.RoundToEven", "math.Float32bits"], named := ["internal/strconv.uint64pow10", "math/bits.deBruijn32tab", "math/bits.deBruijn64tab"], apart := false, laid := [("math/bits.deBruijn32tab", laid_math_bits_deBruijn32tab), ("math/bits.deBruijn64tab", laid_math_bits_deBruijn64tab), ("internal/strconv.uint64pow10", laid_internal_strconv_uint64pow10)] }
def EdgeCountsUnlookedSaid : Prop := edgeCountsUnlookedRow.holds Tryd.pinned (OpenSpec.ofChange edgeCountsUnlookedSpec)

/-- ITS FALSE NEIGHBOUR: 'it returns false'. Refute it at one input. -/
def edgeCountsUnlookedWrong : ChangeSpec := { name := "edgeCountsUnlooked", fn := fun _ => fun
  | [] => { results := [.lit (.bool false)], args := [] }
  | _ => none }
def EdgeCountsUnlookedWrongFalsely : Prop := edgeCountsUnlookedRow.holds Tryd.pinned (OpenSpec.ofChange edgeCountsUnlookedWrong)

/-- 'quantlaw.EdgeTexts': WHATEVER THE INPUT: true; the input reads as it did. -/
def edgeTextsSpec : ChangeSpec := { name := "edgeTexts", fn := fun _ => fun
  | [] => { results := [.lit (.bool true)], args := [] }
  | _ => none }
def edgeTextsRow : OpenClaim := { program := "qxb6500378adoor", sum := "dd229f77359812e62860e0eccb309aca9117a4e62ffdf07bc4139cad196d5996", func := "e2e/quantlaw.EdgeTexts", spec := "edgeTexts", inPlace := ["internal/strconv.float64frombits", "internal/strconv.float32frombits", "math.RoundToEven", "internal/strconv.float32bits", "internal/strconv.float64bits"], named := ["internal/strconv.float32info", "internal/strconv.optimize", "internal/strconv.float32pow10", "internal/strconv.pow10Tab", "internal/strconv.powtab", "internal/strconv.leftcheats", "internal/strconv.float64info", "internal/strconv.float64pow10", "strconv.ErrSyntax", "strconv.ErrRange", "internal/strconv.uint64pow10", "math/bits.deBruijn32tab", "math/bits.deBruijn64tab"], apart := false, laid := [("math/bits.deBruijn32tab", laid_math_bits_deBruijn32tab), ("math/bits.deBruijn64tab", laid_math_bits_deBruijn64tab), ("internal/strconv.float32info", laid_internal_strconv_float32info), ("internal/strconv.float64info", laid_internal_strconv_float64info), ("internal/strconv.optimize", laid_internal_strconv_optimize), ("internal/strconv.powtab", laid_internal_strconv_powtab), ("internal/strconv.float64pow10", laid_internal_strconv_float64pow10), ("internal/strconv.float32pow10", laid_internal_strconv_float32pow10), ("internal/strconv.uint64pow10", laid_internal_strconv_uint64pow10), ("strconv.ErrRange", laid_strconv_ErrRange), ("strconv.ErrSyntax", laid_strconv_ErrSyntax), ("internal/strconv.leftcheats", laid_internal_strconv_leftcheats), ("internal/strconv.pow10Tab", laid_internal_strconv_pow10Tab)] }
def EdgeTextsSaid : Prop := edgeTextsRow.holds Tryd.pinned (OpenSpec.ofChange edgeTextsSpec)

/-- ITS FALSE NEIGHBOUR: 'it returns false'. Refute it at one input. -/
def edgeTextsWrong : ChangeSpec := { name := "edgeTexts", fn := fun _ => fun
  | [] => { results := [.lit (.bool false)], args := [] }
  | _ => none }
def EdgeTextsWrongFalsely : Prop := edgeTextsRow.holds Tryd.pinned (OpenSpec.ofChange edgeTextsWrong)

end Rows
end Go.Proofs.Qxb6500378aDoor
