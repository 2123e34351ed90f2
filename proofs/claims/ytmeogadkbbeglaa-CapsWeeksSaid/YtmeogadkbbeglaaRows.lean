/-
  No cell of these rows narrows 'for every input' (looked for: loops, veiled, ifaces, maps, wideKeys, modest, calm, conditions, laid).
  DERIVED. THE GIVEN ROWS OF THIS SEAT. 23 by the template 'for every input the law returns true; each argument reads behind the call as it read before'; 0 by the template 'total and deterministic' (their statements: YtmeogadkbbeglaaTotals.lean).
  GIVEN WITH THE SEED: the statements are not yours to turn. If you find one false, say at which input.
  Laid BY PROGRAM, IN A SANDBOX (cutbox-rows.mjs): the forced cells as the released guide's own fill.sh prints them over the translation 5cc5c791b2f8abed… (all of the seat's roots in one cut). By AI agents, Wed Nov 11 2026. No macro, syntax, notation, axiom, sorry.
-/
import Derived.Test.YtmeogadkbbeglaaChecked
import GoSem.Claim
import GoSem.ClaimJoined
import GoSem.ClaimMapViews
import Derived.JoinedTies
import Derived.KernelRfl
namespace Go.Proofs.Ytmeogadkbbeglaa
/- THE CELL 'sum', in the pinned program and in every row, IS THE sha256 OF THE DUMP (.gsa) THAT YtmeogadkbbeglaaProg.lean LOADS. Nothing in Lean hashes anything: it is a label: what it is worth is what the hold of that sum in a sandbox is worth. -/
noncomputable def Try.pinned : Pinned := { name := "ytmeogadkbbeglaa", sum := "5cc5c791b2f8abed3b21df3651ec4ebda1375e0818a3e5bd17865d28588aaca6", checked := Try.checked }
namespace Rows
def none {H : Type} : Left H := { results := [], args := [] }

/-- 'fareboxlaw07.TariffRights': WHATEVER THE INPUT: true; the input reads as it did. -/
def tariffRightsSpec : ChangeSpec := { name := "tariffRights", fn := fun _ => fun
  | [d] => { results := [.lit (.bool true)], args := [d] }
  | _ => none }
def tariffRightsRow : OpenClaim := { program := "ytmeogadkbbeglaa", sum := "5cc5c791b2f8abed3b21df3651ec4ebda1375e0818a3e5bd17865d28588aaca6", func := "farebox/fareboxlaw07.TariffRights", spec := "tariffRights", inPlace := ["math.Float64bits"], unfollowed := true, recurses := true, apart := false }
def TariffRightsSaid : Prop := tariffRightsRow.holds Try.pinned (OpenSpec.ofChange tariffRightsSpec)

/-- ITS FALSE NEIGHBOUR: 'it returns false'. Refute it at one input. -/
def tariffRightsWrong : ChangeSpec := { name := "tariffRights", fn := fun _ => fun
  | [d] => { results := [.lit (.bool false)], args := [d] }
  | _ => none }
def TariffRightsWrongFalsely : Prop := tariffRightsRow.holds Try.pinned (OpenSpec.ofChange tariffRightsWrong)

/-- 'fareboxlaw07.TariffAsks': WHATEVER THE INPUT: true; the input reads as it did. -/
def tariffAsksSpec : ChangeSpec := { name := "tariffAsks", fn := fun _ => fun
  | [d1, d2, d3, d4, d5] => { results := [.lit (.bool true)], args := [d1, d2, d3, d4, d5] }
  | _ => none }
def tariffAsksRow : OpenClaim := { program := "ytmeogadkbbeglaa", sum := "5cc5c791b2f8abed3b21df3651ec4ebda1375e0818a3e5bd17865d28588aaca6", func := "farebox/fareboxlaw07.TariffAsks", spec := "tariffAsks", inPlace := ["math.Float64bits"], unfollowed := true, recurses := true, apart := false }
def TariffAsksSaid : Prop := tariffAsksRow.holds Try.pinned (OpenSpec.ofChange tariffAsksSpec)

/-- ITS FALSE NEIGHBOUR: 'it returns false'. Refute it at one input. -/
def tariffAsksWrong : ChangeSpec := { name := "tariffAsks", fn := fun _ => fun
  | [d1, d2, d3, d4, d5] => { results := [.lit (.bool false)], args := [d1, d2, d3, d4, d5] }
  | _ => none }
def TariffAsksWrongFalsely : Prop := tariffAsksRow.holds Try.pinned (OpenSpec.ofChange tariffAsksWrong)

/-- 'fareboxlaw07.TariffWider': WHATEVER THE INPUT: true; the input reads as it did. -/
def tariffWiderSpec : ChangeSpec := { name := "tariffWider", fn := fun _ => fun
  | [d1, d2, d3, d4, d5] => { results := [.lit (.bool true)], args := [d1, d2, d3, d4, d5] }
  | _ => none }
def tariffWiderRow : OpenClaim := { program := "ytmeogadkbbeglaa", sum := "5cc5c791b2f8abed3b21df3651ec4ebda1375e0818a3e5bd17865d28588aaca6", func := "farebox/fareboxlaw07.TariffWider", spec := "tariffWider", inPlace := ["math.Float64bits"], unfollowed := true, recurses := true, apart := false }
def TariffWiderSaid : Prop := tariffWiderRow.holds Try.pinned (OpenSpec.ofChange tariffWiderSpec)

/-- ITS FALSE NEIGHBOUR: 'it returns false'. Refute it at one input. -/
def tariffWiderWrong : ChangeSpec := { name := "tariffWider", fn := fun _ => fun
  | [d1, d2, d3, d4, d5] => { results := [.lit (.bool false)], args := [d1, d2, d3, d4, d5] }
  | _ => none }
def TariffWiderWrongFalsely : Prop := tariffWiderRow.holds Try.pinned (OpenSpec.ofChange tariffWiderWrong)

/-- 'fareboxlaw07.TariffRates': WHATEVER THE INPUT: true; the input reads as it did. -/
def tariffRatesSpec : ChangeSpec := { name := "tariffRates", fn := fun _ => fun
  | [d1, d2, d3, d4] => { results := [.lit (.bool true)], args := [d1, d2, d3, d4] }
  | _ => none }
def tariffRatesRow : OpenClaim := { program := "ytmeogadkbbeglaa", sum := "5cc5c791b2f8abed3b21df3651ec4ebda1375e0818a3e5bd17865d28588aaca6", func := "farebox/fareboxlaw07.TariffRates", spec := "tariffRates", inPlace := ["math.Float64bits"], unfollowed := true, recurses := true, apart := false }
def TariffRatesSaid : Prop := tariffRatesRow.holds Try.pinned (OpenSpec.ofChange tariffRatesSpec)

/-- ITS FALSE NEIGHBOUR: 'it returns false'. Refute it at one input. -/
def tariffRatesWrong : ChangeSpec := { name := "tariffRates", fn := fun _ => fun
  | [d1, d2, d3, d4] => { results := [.lit (.bool false)], args := [d1, d2, d3, d4] }
  | _ => none }
def TariffRatesWrongFalsely : Prop := tariffRatesRow.holds Try.pinned (OpenSpec.ofChange tariffRatesWrong)

/-- 'fareboxlaw07.TariffCopies': WHATEVER THE INPUT: true; the input reads as it did. -/
def tariffCopiesSpec : ChangeSpec := { name := "tariffCopies", fn := fun _ => fun
  | [d] => { results := [.lit (.bool true)], args := [d] }
  | _ => none }
def tariffCopiesRow : OpenClaim := { program := "ytmeogadkbbeglaa", sum := "5cc5c791b2f8abed3b21df3651ec4ebda1375e0818a3e5bd17865d28588aaca6", func := "farebox/fareboxlaw07.TariffCopies", spec := "tariffCopies", inPlace := ["math.Float64bits"], unfollowed := true, recurses := true, apart := false }
def TariffCopiesSaid : Prop := tariffCopiesRow.holds Try.pinned (OpenSpec.ofChange tariffCopiesSpec)

/-- ITS FALSE NEIGHBOUR: 'it returns false'. Refute it at one input. -/
def tariffCopiesWrong : ChangeSpec := { name := "tariffCopies", fn := fun _ => fun
  | [d] => { results := [.lit (.bool false)], args := [d] }
  | _ => none }
def TariffCopiesWrongFalsely : Prop := tariffCopiesRow.holds Try.pinned (OpenSpec.ofChange tariffCopiesWrong)

/-- 'fareboxlaw18.FareBack': WHATEVER THE INPUT: true; the input reads as it did. -/
def fareBackSpec : ChangeSpec := { name := "fareBack", fn := fun _ => fun
  | [d1, d2, d3] => { results := [.lit (.bool true)], args := [d1, d2, d3] }
  | _ => none }
def fareBackRow : OpenClaim := { program := "ytmeogadkbbeglaa", sum := "5cc5c791b2f8abed3b21df3651ec4ebda1375e0818a3e5bd17865d28588aaca6", func := "farebox/fareboxlaw18.FareBack", spec := "fareBack", inPlace := ["math.Float64bits"], unfollowed := true, recurses := true, apart := false }
def FareBackSaid : Prop := fareBackRow.holds Try.pinned (OpenSpec.ofChange fareBackSpec)

/-- ITS FALSE NEIGHBOUR: 'it returns false'. Refute it at one input. -/
def fareBackWrong : ChangeSpec := { name := "fareBack", fn := fun _ => fun
  | [d1, d2, d3] => { results := [.lit (.bool false)], args := [d1, d2, d3] }
  | _ => none }
def FareBackWrongFalsely : Prop := fareBackRow.holds Try.pinned (OpenSpec.ofChange fareBackWrong)

/-- 'fareboxlaw18.FareOff': WHATEVER THE INPUT: true; the input reads as it did. -/
def fareOffSpec : ChangeSpec := { name := "fareOff", fn := fun _ => fun
  | [d1, d2, d3] => { results := [.lit (.bool true)], args := [d1, d2, d3] }
  | _ => none }
def fareOffRow : OpenClaim := { program := "ytmeogadkbbeglaa", sum := "5cc5c791b2f8abed3b21df3651ec4ebda1375e0818a3e5bd17865d28588aaca6", func := "farebox/fareboxlaw18.FareOff", spec := "fareOff", inPlace := ["math.Float64bits"], unfollowed := true, recurses := true, apart := false }
def FareOffSaid : Prop := fareOffRow.holds Try.pinned (OpenSpec.ofChange fareOffSpec)

/-- ITS FALSE NEIGHBOUR: 'it returns false'. Refute it at one input. -/
def fareOffWrong : ChangeSpec := { name := "fareOff", fn := fun _ => fun
  | [d1, d2, d3] => { results := [.lit (.bool false)], args := [d1, d2, d3] }
  | _ => none }
def FareOffWrongFalsely : Prop := fareOffRow.holds Try.pinned (OpenSpec.ofChange fareOffWrong)

/-- 'fareboxlaw19.CapsDays': WHATEVER THE INPUT: true; the input reads as it did. -/
def capsDaysSpec : ChangeSpec := { name := "capsDays", fn := fun _ => fun
  | [d1, d2, d3] => { results := [.lit (.bool true)], args := [d1, d2, d3] }
  | _ => none }
def capsDaysRow : OpenClaim := { program := "ytmeogadkbbeglaa", sum := "5cc5c791b2f8abed3b21df3651ec4ebda1375e0818a3e5bd17865d28588aaca6", func := "farebox/fareboxlaw19.CapsDays", spec := "capsDays", inPlace := ["math.Float64bits"], unfollowed := true, recurses := true, apart := false }
def CapsDaysSaid : Prop := capsDaysRow.holds Try.pinned (OpenSpec.ofChange capsDaysSpec)

/-- ITS FALSE NEIGHBOUR: 'it returns false'. Refute it at one input. -/
def capsDaysWrong : ChangeSpec := { name := "capsDays", fn := fun _ => fun
  | [d1, d2, d3] => { results := [.lit (.bool false)], args := [d1, d2, d3] }
  | _ => none }
def CapsDaysWrongFalsely : Prop := capsDaysRow.holds Try.pinned (OpenSpec.ofChange capsDaysWrong)

/-- 'fareboxlaw19.CapsWeeks': WHATEVER THE INPUT: true; the input reads as it did. -/
def capsWeeksSpec : ChangeSpec := { name := "capsWeeks", fn := fun _ => fun
  | [d1, d2] => { results := [.lit (.bool true)], args := [d1, d2] }
  | _ => none }
def capsWeeksRow : OpenClaim := { program := "ytmeogadkbbeglaa", sum := "5cc5c791b2f8abed3b21df3651ec4ebda1375e0818a3e5bd17865d28588aaca6", func := "farebox/fareboxlaw19.CapsWeeks", spec := "capsWeeks", inPlace := ["math.Float64bits"], unfollowed := true, recurses := true, apart := false }
def CapsWeeksSaid : Prop := capsWeeksRow.holds Try.pinned (OpenSpec.ofChange capsWeeksSpec)

/-- ITS FALSE NEIGHBOUR: 'it returns false'. Refute it at one input. -/
def capsWeeksWrong : ChangeSpec := { name := "capsWeeks", fn := fun _ => fun
  | [d1, d2] => { results := [.lit (.bool false)], args := [d1, d2] }
  | _ => none }
def CapsWeeksWrongFalsely : Prop := capsWeeksRow.holds Try.pinned (OpenSpec.ofChange capsWeeksWrong)

/-- 'fareboxlaw19.CapsHold': WHATEVER THE INPUT: true; the input reads as it did. -/
def capsHoldSpec : ChangeSpec := { name := "capsHold", fn := fun _ => fun
  | [d1, d2, d3] => { results := [.lit (.bool true)], args := [d1, d2, d3] }
  | _ => none }
def capsHoldRow : OpenClaim := { program := "ytmeogadkbbeglaa", sum := "5cc5c791b2f8abed3b21df3651ec4ebda1375e0818a3e5bd17865d28588aaca6", func := "farebox/fareboxlaw19.CapsHold", spec := "capsHold", inPlace := ["math.Float64bits"], unfollowed := true, recurses := true, apart := false }
def CapsHoldSaid : Prop := capsHoldRow.holds Try.pinned (OpenSpec.ofChange capsHoldSpec)

/-- ITS FALSE NEIGHBOUR: 'it returns false'. Refute it at one input. -/
def capsHoldWrong : ChangeSpec := { name := "capsHold", fn := fun _ => fun
  | [d1, d2, d3] => { results := [.lit (.bool false)], args := [d1, d2, d3] }
  | _ => none }
def CapsHoldWrongFalsely : Prop := capsHoldRow.holds Try.pinned (OpenSpec.ofChange capsHoldWrong)

/-- 'fareboxlaw19.CapsLess': WHATEVER THE INPUT: true; the input reads as it did. -/
def capsLessSpec : ChangeSpec := { name := "capsLess", fn := fun _ => fun
  | [d1, d2, d3, d4, d5] => { results := [.lit (.bool true)], args := [d1, d2, d3, d4, d5] }
  | _ => none }
def capsLessRow : OpenClaim := { program := "ytmeogadkbbeglaa", sum := "5cc5c791b2f8abed3b21df3651ec4ebda1375e0818a3e5bd17865d28588aaca6", func := "farebox/fareboxlaw19.CapsLess", spec := "capsLess", inPlace := ["math.Float64bits"], unfollowed := true, recurses := true, apart := false }
def CapsLessSaid : Prop := capsLessRow.holds Try.pinned (OpenSpec.ofChange capsLessSpec)

/-- ITS FALSE NEIGHBOUR: 'it returns false'. Refute it at one input. -/
def capsLessWrong : ChangeSpec := { name := "capsLess", fn := fun _ => fun
  | [d1, d2, d3, d4, d5] => { results := [.lit (.bool false)], args := [d1, d2, d3, d4, d5] }
  | _ => none }
def CapsLessWrongFalsely : Prop := capsLessRow.holds Try.pinned (OpenSpec.ofChange capsLessWrong)

/-- 'fareboxlaw19.CapsMixed': WHATEVER THE INPUT: true; the input reads as it did. -/
def capsMixedSpec : ChangeSpec := { name := "capsMixed", fn := fun _ => fun
  | [d1, d2, d3, d4] => { results := [.lit (.bool true)], args := [d1, d2, d3, d4] }
  | _ => none }
def capsMixedRow : OpenClaim := { program := "ytmeogadkbbeglaa", sum := "5cc5c791b2f8abed3b21df3651ec4ebda1375e0818a3e5bd17865d28588aaca6", func := "farebox/fareboxlaw19.CapsMixed", spec := "capsMixed", inPlace := ["math.Float64bits"], unfollowed := true, recurses := true, apart := false }
def CapsMixedSaid : Prop := capsMixedRow.holds Try.pinned (OpenSpec.ofChange capsMixedSpec)

/-- ITS FALSE NEIGHBOUR: 'it returns false'. Refute it at one input. -/
def capsMixedWrong : ChangeSpec := { name := "capsMixed", fn := fun _ => fun
  | [d1, d2, d3, d4] => { results := [.lit (.bool false)], args := [d1, d2, d3, d4] }
  | _ => none }
def CapsMixedWrongFalsely : Prop := capsMixedRow.holds Try.pinned (OpenSpec.ofChange capsMixedWrong)

/-- 'fareboxlaw18.FareAsks': WHATEVER THE INPUT: true; the input reads as it did. -/
def fareAsksSpec : ChangeSpec := { name := "fareAsks", fn := fun _ => fun
  | [d1, d2, d3] => { results := [.lit (.bool true)], args := [d1, d2, d3] }
  | _ => none }
def fareAsksRow : OpenClaim := { program := "ytmeogadkbbeglaa", sum := "5cc5c791b2f8abed3b21df3651ec4ebda1375e0818a3e5bd17865d28588aaca6", func := "farebox/fareboxlaw18.FareAsks", spec := "fareAsks", inPlace := ["math.Float64bits"], unfollowed := true, recurses := true, apart := false }
def FareAsksSaid : Prop := fareAsksRow.holds Try.pinned (OpenSpec.ofChange fareAsksSpec)

/-- ITS FALSE NEIGHBOUR: 'it returns false'. Refute it at one input. -/
def fareAsksWrong : ChangeSpec := { name := "fareAsks", fn := fun _ => fun
  | [d1, d2, d3] => { results := [.lit (.bool false)], args := [d1, d2, d3] }
  | _ => none }
def FareAsksWrongFalsely : Prop := fareAsksRow.holds Try.pinned (OpenSpec.ofChange fareAsksWrong)

/-- 'fareboxlaw17.JourneyDays': WHATEVER THE INPUT: true; the input reads as it did. -/
def journeyDaysSpec : ChangeSpec := { name := "journeyDays", fn := fun _ => fun
  | [d1, d2, d3] => { results := [.lit (.bool true)], args := [d1, d2, d3] }
  | _ => none }
def journeyDaysRow : OpenClaim := { program := "ytmeogadkbbeglaa", sum := "5cc5c791b2f8abed3b21df3651ec4ebda1375e0818a3e5bd17865d28588aaca6", func := "farebox/fareboxlaw17.JourneyDays", spec := "journeyDays", inPlace := ["math.Float64bits"], unfollowed := true, recurses := true, apart := false }
def JourneyDaysSaid : Prop := journeyDaysRow.holds Try.pinned (OpenSpec.ofChange journeyDaysSpec)

/-- ITS FALSE NEIGHBOUR: 'it returns false'. Refute it at one input. -/
def journeyDaysWrong : ChangeSpec := { name := "journeyDays", fn := fun _ => fun
  | [d1, d2, d3] => { results := [.lit (.bool false)], args := [d1, d2, d3] }
  | _ => none }
def JourneyDaysWrongFalsely : Prop := journeyDaysRow.holds Try.pinned (OpenSpec.ofChange journeyDaysWrong)

/-- 'fareboxlaw17.JourneyBuilds': WHATEVER THE INPUT: true; the input reads as it did. -/
def journeyBuildsSpec : ChangeSpec := { name := "journeyBuilds", fn := fun _ => fun
  | [d1, d2] => { results := [.lit (.bool true)], args := [d1, d2] }
  | _ => none }
def journeyBuildsRow : OpenClaim := { program := "ytmeogadkbbeglaa", sum := "5cc5c791b2f8abed3b21df3651ec4ebda1375e0818a3e5bd17865d28588aaca6", func := "farebox/fareboxlaw17.JourneyBuilds", spec := "journeyBuilds", inPlace := ["math.Float64bits"], unfollowed := true, recurses := true, apart := false }
def JourneyBuildsSaid : Prop := journeyBuildsRow.holds Try.pinned (OpenSpec.ofChange journeyBuildsSpec)

/-- ITS FALSE NEIGHBOUR: 'it returns false'. Refute it at one input. -/
def journeyBuildsWrong : ChangeSpec := { name := "journeyBuilds", fn := fun _ => fun
  | [d1, d2] => { results := [.lit (.bool false)], args := [d1, d2] }
  | _ => none }
def JourneyBuildsWrongFalsely : Prop := journeyBuildsRow.holds Try.pinned (OpenSpec.ofChange journeyBuildsWrong)

/-- 'fareboxlaw17.JourneyCounts': WHATEVER THE INPUT: true; the input reads as it did. -/
def journeyCountsSpec : ChangeSpec := { name := "journeyCounts", fn := fun _ => fun
  | [d1, d2] => { results := [.lit (.bool true)], args := [d1, d2] }
  | _ => none }
def journeyCountsRow : OpenClaim := { program := "ytmeogadkbbeglaa", sum := "5cc5c791b2f8abed3b21df3651ec4ebda1375e0818a3e5bd17865d28588aaca6", func := "farebox/fareboxlaw17.JourneyCounts", spec := "journeyCounts", inPlace := ["math.Float64bits"], unfollowed := true, recurses := true, apart := false }
def JourneyCountsSaid : Prop := journeyCountsRow.holds Try.pinned (OpenSpec.ofChange journeyCountsSpec)

/-- ITS FALSE NEIGHBOUR: 'it returns false'. Refute it at one input. -/
def journeyCountsWrong : ChangeSpec := { name := "journeyCounts", fn := fun _ => fun
  | [d1, d2] => { results := [.lit (.bool false)], args := [d1, d2] }
  | _ => none }
def JourneyCountsWrongFalsely : Prop := journeyCountsRow.holds Try.pinned (OpenSpec.ofChange journeyCountsWrong)

/-- 'fareboxlaw17.JourneyLies': WHATEVER THE INPUT: true; the input reads as it did. -/
def journeyLiesSpec : ChangeSpec := { name := "journeyLies", fn := fun _ => fun
  | [d1, d2] => { results := [.lit (.bool true)], args := [d1, d2] }
  | _ => none }
def journeyLiesRow : OpenClaim := { program := "ytmeogadkbbeglaa", sum := "5cc5c791b2f8abed3b21df3651ec4ebda1375e0818a3e5bd17865d28588aaca6", func := "farebox/fareboxlaw17.JourneyLies", spec := "journeyLies", inPlace := ["math.Float64bits"], unfollowed := true, recurses := true, apart := false }
def JourneyLiesSaid : Prop := journeyLiesRow.holds Try.pinned (OpenSpec.ofChange journeyLiesSpec)

/-- ITS FALSE NEIGHBOUR: 'it returns false'. Refute it at one input. -/
def journeyLiesWrong : ChangeSpec := { name := "journeyLies", fn := fun _ => fun
  | [d1, d2] => { results := [.lit (.bool false)], args := [d1, d2] }
  | _ => none }
def JourneyLiesWrongFalsely : Prop := journeyLiesRow.holds Try.pinned (OpenSpec.ofChange journeyLiesWrong)

/-- 'fareboxlaw17.JourneyAlone': WHATEVER THE INPUT: true; the input reads as it did. -/
def journeyAloneSpec : ChangeSpec := { name := "journeyAlone", fn := fun _ => fun
  | [d1, d2] => { results := [.lit (.bool true)], args := [d1, d2] }
  | _ => none }
def journeyAloneRow : OpenClaim := { program := "ytmeogadkbbeglaa", sum := "5cc5c791b2f8abed3b21df3651ec4ebda1375e0818a3e5bd17865d28588aaca6", func := "farebox/fareboxlaw17.JourneyAlone", spec := "journeyAlone", inPlace := ["math.Float64bits"], unfollowed := true, recurses := true, apart := false }
def JourneyAloneSaid : Prop := journeyAloneRow.holds Try.pinned (OpenSpec.ofChange journeyAloneSpec)

/-- ITS FALSE NEIGHBOUR: 'it returns false'. Refute it at one input. -/
def journeyAloneWrong : ChangeSpec := { name := "journeyAlone", fn := fun _ => fun
  | [d1, d2] => { results := [.lit (.bool false)], args := [d1, d2] }
  | _ => none }
def JourneyAloneWrongFalsely : Prop := journeyAloneRow.holds Try.pinned (OpenSpec.ofChange journeyAloneWrong)

/-- 'fareboxlaw17.JourneySplits': WHATEVER THE INPUT: true; the input reads as it did. -/
def journeySplitsSpec : ChangeSpec := { name := "journeySplits", fn := fun _ => fun
  | [d1, d2] => { results := [.lit (.bool true)], args := [d1, d2] }
  | _ => none }
def journeySplitsRow : OpenClaim := { program := "ytmeogadkbbeglaa", sum := "5cc5c791b2f8abed3b21df3651ec4ebda1375e0818a3e5bd17865d28588aaca6", func := "farebox/fareboxlaw17.JourneySplits", spec := "journeySplits", inPlace := ["math.Float64bits"], unfollowed := true, recurses := true, apart := false }
def JourneySplitsSaid : Prop := journeySplitsRow.holds Try.pinned (OpenSpec.ofChange journeySplitsSpec)

/-- ITS FALSE NEIGHBOUR: 'it returns false'. Refute it at one input. -/
def journeySplitsWrong : ChangeSpec := { name := "journeySplits", fn := fun _ => fun
  | [d1, d2] => { results := [.lit (.bool false)], args := [d1, d2] }
  | _ => none }
def JourneySplitsWrongFalsely : Prop := journeySplitsRow.holds Try.pinned (OpenSpec.ofChange journeySplitsWrong)

/-- 'fareboxlaw21.ChargeRefunds': WHATEVER THE INPUT: true; the input reads as it did. -/
def chargeRefundsSpec : ChangeSpec := { name := "chargeRefunds", fn := fun _ => fun
  | [d1, d2, d3] => { results := [.lit (.bool true)], args := [d1, d2, d3] }
  | _ => none }
def chargeRefundsRow : OpenClaim := { program := "ytmeogadkbbeglaa", sum := "5cc5c791b2f8abed3b21df3651ec4ebda1375e0818a3e5bd17865d28588aaca6", func := "farebox/fareboxlaw21.ChargeRefunds", spec := "chargeRefunds", inPlace := ["math.Float64bits"], unfollowed := true, recurses := true, apart := false }
def ChargeRefundsSaid : Prop := chargeRefundsRow.holds Try.pinned (OpenSpec.ofChange chargeRefundsSpec)

/-- ITS FALSE NEIGHBOUR: 'it returns false'. Refute it at one input. -/
def chargeRefundsWrong : ChangeSpec := { name := "chargeRefunds", fn := fun _ => fun
  | [d1, d2, d3] => { results := [.lit (.bool false)], args := [d1, d2, d3] }
  | _ => none }
def ChargeRefundsWrongFalsely : Prop := chargeRefundsRow.holds Try.pinned (OpenSpec.ofChange chargeRefundsWrong)

/-- 'fareboxlaw21.ChargeCaps': WHATEVER THE INPUT: true; the input reads as it did. -/
def chargeCapsSpec : ChangeSpec := { name := "chargeCaps", fn := fun _ => fun
  | [d1, d2, d3, d4] => { results := [.lit (.bool true)], args := [d1, d2, d3, d4] }
  | _ => none }
def chargeCapsRow : OpenClaim := { program := "ytmeogadkbbeglaa", sum := "5cc5c791b2f8abed3b21df3651ec4ebda1375e0818a3e5bd17865d28588aaca6", func := "farebox/fareboxlaw21.ChargeCaps", spec := "chargeCaps", inPlace := ["math.Float64bits"], unfollowed := true, recurses := true, apart := false }
def ChargeCapsSaid : Prop := chargeCapsRow.holds Try.pinned (OpenSpec.ofChange chargeCapsSpec)

/-- ITS FALSE NEIGHBOUR: 'it returns false'. Refute it at one input. -/
def chargeCapsWrong : ChangeSpec := { name := "chargeCaps", fn := fun _ => fun
  | [d1, d2, d3, d4] => { results := [.lit (.bool false)], args := [d1, d2, d3, d4] }
  | _ => none }
def ChargeCapsWrongFalsely : Prop := chargeCapsRow.holds Try.pinned (OpenSpec.ofChange chargeCapsWrong)

/-- 'fareboxlaw21.ChargeAlike': WHATEVER THE INPUT: true; the input reads as it did. -/
def chargeAlikeSpec : ChangeSpec := { name := "chargeAlike", fn := fun _ => fun
  | [d1, d2, d3] => { results := [.lit (.bool true)], args := [d1, d2, d3] }
  | _ => none }
def chargeAlikeRow : OpenClaim := { program := "ytmeogadkbbeglaa", sum := "5cc5c791b2f8abed3b21df3651ec4ebda1375e0818a3e5bd17865d28588aaca6", func := "farebox/fareboxlaw21.ChargeAlike", spec := "chargeAlike", inPlace := ["math.Float64bits"], unfollowed := true, recurses := true, apart := false }
def ChargeAlikeSaid : Prop := chargeAlikeRow.holds Try.pinned (OpenSpec.ofChange chargeAlikeSpec)

/-- ITS FALSE NEIGHBOUR: 'it returns false'. Refute it at one input. -/
def chargeAlikeWrong : ChangeSpec := { name := "chargeAlike", fn := fun _ => fun
  | [d1, d2, d3] => { results := [.lit (.bool false)], args := [d1, d2, d3] }
  | _ => none }
def ChargeAlikeWrongFalsely : Prop := chargeAlikeRow.holds Try.pinned (OpenSpec.ofChange chargeAlikeWrong)

/-- 'fareboxlaw21.ChargeBuses': WHATEVER THE INPUT: true; the input reads as it did. -/
def chargeBusesSpec : ChangeSpec := { name := "chargeBuses", fn := fun _ => fun
  | [d1, d2, d3] => { results := [.lit (.bool true)], args := [d1, d2, d3] }
  | _ => none }
def chargeBusesRow : OpenClaim := { program := "ytmeogadkbbeglaa", sum := "5cc5c791b2f8abed3b21df3651ec4ebda1375e0818a3e5bd17865d28588aaca6", func := "farebox/fareboxlaw21.ChargeBuses", spec := "chargeBuses", inPlace := ["math.Float64bits"], unfollowed := true, recurses := true, apart := false }
def ChargeBusesSaid : Prop := chargeBusesRow.holds Try.pinned (OpenSpec.ofChange chargeBusesSpec)

/-- ITS FALSE NEIGHBOUR: 'it returns false'. Refute it at one input. -/
def chargeBusesWrong : ChangeSpec := { name := "chargeBuses", fn := fun _ => fun
  | [d1, d2, d3] => { results := [.lit (.bool false)], args := [d1, d2, d3] }
  | _ => none }
def ChargeBusesWrongFalsely : Prop := chargeBusesRow.holds Try.pinned (OpenSpec.ofChange chargeBusesWrong)

/- THE SECOND FORM. 'bulk': how many values and letters a reading holds, each counted each time it is reached (what is shared counts as often as it is met; a slice's spare places count too). A statement '..UptoSaid' is the law's where the arguments, and the package variables that the reading takes, are together of bulk at most 1048576: NARROWER than '..Said'. Prove '..Said' where nothing that the law and all that it calls make is longer than what came in: it says more and counts as full. Else prove '..UptoSaid'. A law counts once. -/
mutual
def uptoBulk {H : Type} : DataW H → Nat
  | .lit (.string bytes) => bytes.length + 1
  | .lit _ => 1
  | .nil => 1
  | .ptr d => uptoBulk d + 1
  | .slice elems spare => uptoBulkAll elems + uptoBulkAll spare + 1
  | .agg parts => uptoBulkAll parts + 1
  | .iface _ d => uptoBulk d + 1
  | .map entries => uptoBulkEntries entries + 1
  | .held _ => 1
def uptoBulkAll {H : Type} : List (DataW H) → Nat
  | [] => 0
  | d :: r => uptoBulk d + uptoBulkAll r
def uptoBulkEntries {H : Type} : List (Lit × DataW H) → Nat
  | [] => 0
  | x :: r => uptoBulkEntry x + uptoBulkEntries r
def uptoBulkEntry {H : Type} : Lit × DataW H → Nat
  | (.string bytes, d) => bytes.length + uptoBulk d + 1
  | (_, d) => uptoBulk d + 1
 end
def uptoSmall : (H : Type) → List (DataW H) → Bool := fun _ ds => decide (uptoBulkAll ds ≤ 1048576)
def OpenSpec.upto (s : _root_.Go.ChangeSpec) : _root_.Go.OpenSpec := { _root_.Go.OpenSpec.ofChange s with cond := some uptoSmall }

/-- 'fareboxlaw07.TariffRights', WHERE WHAT IT READS IS OF BULK AT MOST 1048576: true; the input reads as it did. -/
def tariffRightsUptoRow : OpenClaim := { program := "ytmeogadkbbeglaa", sum := "5cc5c791b2f8abed3b21df3651ec4ebda1375e0818a3e5bd17865d28588aaca6", func := "farebox/fareboxlaw07.TariffRights", spec := "tariffRights", inPlace := ["math.Float64bits"], unfollowed := true, recurses := true, apart := false, narrowed := true }
def TariffRightsUptoSaid : Prop := tariffRightsUptoRow.holds Try.pinned (OpenSpec.upto tariffRightsSpec)

/-- 'fareboxlaw07.TariffAsks', WHERE WHAT IT READS IS OF BULK AT MOST 1048576: true; the input reads as it did. -/
def tariffAsksUptoRow : OpenClaim := { program := "ytmeogadkbbeglaa", sum := "5cc5c791b2f8abed3b21df3651ec4ebda1375e0818a3e5bd17865d28588aaca6", func := "farebox/fareboxlaw07.TariffAsks", spec := "tariffAsks", inPlace := ["math.Float64bits"], unfollowed := true, recurses := true, apart := false, narrowed := true }
def TariffAsksUptoSaid : Prop := tariffAsksUptoRow.holds Try.pinned (OpenSpec.upto tariffAsksSpec)

/-- 'fareboxlaw07.TariffWider', WHERE WHAT IT READS IS OF BULK AT MOST 1048576: true; the input reads as it did. -/
def tariffWiderUptoRow : OpenClaim := { program := "ytmeogadkbbeglaa", sum := "5cc5c791b2f8abed3b21df3651ec4ebda1375e0818a3e5bd17865d28588aaca6", func := "farebox/fareboxlaw07.TariffWider", spec := "tariffWider", inPlace := ["math.Float64bits"], unfollowed := true, recurses := true, apart := false, narrowed := true }
def TariffWiderUptoSaid : Prop := tariffWiderUptoRow.holds Try.pinned (OpenSpec.upto tariffWiderSpec)

/-- 'fareboxlaw07.TariffRates', WHERE WHAT IT READS IS OF BULK AT MOST 1048576: true; the input reads as it did. -/
def tariffRatesUptoRow : OpenClaim := { program := "ytmeogadkbbeglaa", sum := "5cc5c791b2f8abed3b21df3651ec4ebda1375e0818a3e5bd17865d28588aaca6", func := "farebox/fareboxlaw07.TariffRates", spec := "tariffRates", inPlace := ["math.Float64bits"], unfollowed := true, recurses := true, apart := false, narrowed := true }
def TariffRatesUptoSaid : Prop := tariffRatesUptoRow.holds Try.pinned (OpenSpec.upto tariffRatesSpec)

/-- 'fareboxlaw07.TariffCopies', WHERE WHAT IT READS IS OF BULK AT MOST 1048576: true; the input reads as it did. -/
def tariffCopiesUptoRow : OpenClaim := { program := "ytmeogadkbbeglaa", sum := "5cc5c791b2f8abed3b21df3651ec4ebda1375e0818a3e5bd17865d28588aaca6", func := "farebox/fareboxlaw07.TariffCopies", spec := "tariffCopies", inPlace := ["math.Float64bits"], unfollowed := true, recurses := true, apart := false, narrowed := true }
def TariffCopiesUptoSaid : Prop := tariffCopiesUptoRow.holds Try.pinned (OpenSpec.upto tariffCopiesSpec)

/-- 'fareboxlaw18.FareBack', WHERE WHAT IT READS IS OF BULK AT MOST 1048576: true; the input reads as it did. -/
def fareBackUptoRow : OpenClaim := { program := "ytmeogadkbbeglaa", sum := "5cc5c791b2f8abed3b21df3651ec4ebda1375e0818a3e5bd17865d28588aaca6", func := "farebox/fareboxlaw18.FareBack", spec := "fareBack", inPlace := ["math.Float64bits"], unfollowed := true, recurses := true, apart := false, narrowed := true }
def FareBackUptoSaid : Prop := fareBackUptoRow.holds Try.pinned (OpenSpec.upto fareBackSpec)

/-- 'fareboxlaw18.FareOff', WHERE WHAT IT READS IS OF BULK AT MOST 1048576: true; the input reads as it did. -/
def fareOffUptoRow : OpenClaim := { program := "ytmeogadkbbeglaa", sum := "5cc5c791b2f8abed3b21df3651ec4ebda1375e0818a3e5bd17865d28588aaca6", func := "farebox/fareboxlaw18.FareOff", spec := "fareOff", inPlace := ["math.Float64bits"], unfollowed := true, recurses := true, apart := false, narrowed := true }
def FareOffUptoSaid : Prop := fareOffUptoRow.holds Try.pinned (OpenSpec.upto fareOffSpec)

/-- 'fareboxlaw19.CapsDays', WHERE WHAT IT READS IS OF BULK AT MOST 1048576: true; the input reads as it did. -/
def capsDaysUptoRow : OpenClaim := { program := "ytmeogadkbbeglaa", sum := "5cc5c791b2f8abed3b21df3651ec4ebda1375e0818a3e5bd17865d28588aaca6", func := "farebox/fareboxlaw19.CapsDays", spec := "capsDays", inPlace := ["math.Float64bits"], unfollowed := true, recurses := true, apart := false, narrowed := true }
def CapsDaysUptoSaid : Prop := capsDaysUptoRow.holds Try.pinned (OpenSpec.upto capsDaysSpec)

/-- 'fareboxlaw19.CapsWeeks', WHERE WHAT IT READS IS OF BULK AT MOST 1048576: true; the input reads as it did. -/
def capsWeeksUptoRow : OpenClaim := { program := "ytmeogadkbbeglaa", sum := "5cc5c791b2f8abed3b21df3651ec4ebda1375e0818a3e5bd17865d28588aaca6", func := "farebox/fareboxlaw19.CapsWeeks", spec := "capsWeeks", inPlace := ["math.Float64bits"], unfollowed := true, recurses := true, apart := false, narrowed := true }
def CapsWeeksUptoSaid : Prop := capsWeeksUptoRow.holds Try.pinned (OpenSpec.upto capsWeeksSpec)

/-- 'fareboxlaw19.CapsHold', WHERE WHAT IT READS IS OF BULK AT MOST 1048576: true; the input reads as it did. -/
def capsHoldUptoRow : OpenClaim := { program := "ytmeogadkbbeglaa", sum := "5cc5c791b2f8abed3b21df3651ec4ebda1375e0818a3e5bd17865d28588aaca6", func := "farebox/fareboxlaw19.CapsHold", spec := "capsHold", inPlace := ["math.Float64bits"], unfollowed := true, recurses := true, apart := false, narrowed := true }
def CapsHoldUptoSaid : Prop := capsHoldUptoRow.holds Try.pinned (OpenSpec.upto capsHoldSpec)

/-- 'fareboxlaw19.CapsLess', WHERE WHAT IT READS IS OF BULK AT MOST 1048576: true; the input reads as it did. -/
def capsLessUptoRow : OpenClaim := { program := "ytmeogadkbbeglaa", sum := "5cc5c791b2f8abed3b21df3651ec4ebda1375e0818a3e5bd17865d28588aaca6", func := "farebox/fareboxlaw19.CapsLess", spec := "capsLess", inPlace := ["math.Float64bits"], unfollowed := true, recurses := true, apart := false, narrowed := true }
def CapsLessUptoSaid : Prop := capsLessUptoRow.holds Try.pinned (OpenSpec.upto capsLessSpec)

/-- 'fareboxlaw19.CapsMixed', WHERE WHAT IT READS IS OF BULK AT MOST 1048576: true; the input reads as it did. -/
def capsMixedUptoRow : OpenClaim := { program := "ytmeogadkbbeglaa", sum := "5cc5c791b2f8abed3b21df3651ec4ebda1375e0818a3e5bd17865d28588aaca6", func := "farebox/fareboxlaw19.CapsMixed", spec := "capsMixed", inPlace := ["math.Float64bits"], unfollowed := true, recurses := true, apart := false, narrowed := true }
def CapsMixedUptoSaid : Prop := capsMixedUptoRow.holds Try.pinned (OpenSpec.upto capsMixedSpec)

/-- 'fareboxlaw18.FareAsks', WHERE WHAT IT READS IS OF BULK AT MOST 1048576: true; the input reads as it did. -/
def fareAsksUptoRow : OpenClaim := { program := "ytmeogadkbbeglaa", sum := "5cc5c791b2f8abed3b21df3651ec4ebda1375e0818a3e5bd17865d28588aaca6", func := "farebox/fareboxlaw18.FareAsks", spec := "fareAsks", inPlace := ["math.Float64bits"], unfollowed := true, recurses := true, apart := false, narrowed := true }
def FareAsksUptoSaid : Prop := fareAsksUptoRow.holds Try.pinned (OpenSpec.upto fareAsksSpec)

/-- 'fareboxlaw17.JourneyDays', WHERE WHAT IT READS IS OF BULK AT MOST 1048576: true; the input reads as it did. -/
def journeyDaysUptoRow : OpenClaim := { program := "ytmeogadkbbeglaa", sum := "5cc5c791b2f8abed3b21df3651ec4ebda1375e0818a3e5bd17865d28588aaca6", func := "farebox/fareboxlaw17.JourneyDays", spec := "journeyDays", inPlace := ["math.Float64bits"], unfollowed := true, recurses := true, apart := false, narrowed := true }
def JourneyDaysUptoSaid : Prop := journeyDaysUptoRow.holds Try.pinned (OpenSpec.upto journeyDaysSpec)

/-- 'fareboxlaw17.JourneyBuilds', WHERE WHAT IT READS IS OF BULK AT MOST 1048576: true; the input reads as it did. -/
def journeyBuildsUptoRow : OpenClaim := { program := "ytmeogadkbbeglaa", sum := "5cc5c791b2f8abed3b21df3651ec4ebda1375e0818a3e5bd17865d28588aaca6", func := "farebox/fareboxlaw17.JourneyBuilds", spec := "journeyBuilds", inPlace := ["math.Float64bits"], unfollowed := true, recurses := true, apart := false, narrowed := true }
def JourneyBuildsUptoSaid : Prop := journeyBuildsUptoRow.holds Try.pinned (OpenSpec.upto journeyBuildsSpec)

/-- 'fareboxlaw17.JourneyCounts', WHERE WHAT IT READS IS OF BULK AT MOST 1048576: true; the input reads as it did. -/
def journeyCountsUptoRow : OpenClaim := { program := "ytmeogadkbbeglaa", sum := "5cc5c791b2f8abed3b21df3651ec4ebda1375e0818a3e5bd17865d28588aaca6", func := "farebox/fareboxlaw17.JourneyCounts", spec := "journeyCounts", inPlace := ["math.Float64bits"], unfollowed := true, recurses := true, apart := false, narrowed := true }
def JourneyCountsUptoSaid : Prop := journeyCountsUptoRow.holds Try.pinned (OpenSpec.upto journeyCountsSpec)

/-- 'fareboxlaw17.JourneyLies', WHERE WHAT IT READS IS OF BULK AT MOST 1048576: true; the input reads as it did. -/
def journeyLiesUptoRow : OpenClaim := { program := "ytmeogadkbbeglaa", sum := "5cc5c791b2f8abed3b21df3651ec4ebda1375e0818a3e5bd17865d28588aaca6", func := "farebox/fareboxlaw17.JourneyLies", spec := "journeyLies", inPlace := ["math.Float64bits"], unfollowed := true, recurses := true, apart := false, narrowed := true }
def JourneyLiesUptoSaid : Prop := journeyLiesUptoRow.holds Try.pinned (OpenSpec.upto journeyLiesSpec)

/-- 'fareboxlaw17.JourneyAlone', WHERE WHAT IT READS IS OF BULK AT MOST 1048576: true; the input reads as it did. -/
def journeyAloneUptoRow : OpenClaim := { program := "ytmeogadkbbeglaa", sum := "5cc5c791b2f8abed3b21df3651ec4ebda1375e0818a3e5bd17865d28588aaca6", func := "farebox/fareboxlaw17.JourneyAlone", spec := "journeyAlone", inPlace := ["math.Float64bits"], unfollowed := true, recurses := true, apart := false, narrowed := true }
def JourneyAloneUptoSaid : Prop := journeyAloneUptoRow.holds Try.pinned (OpenSpec.upto journeyAloneSpec)

/-- 'fareboxlaw17.JourneySplits', WHERE WHAT IT READS IS OF BULK AT MOST 1048576: true; the input reads as it did. -/
def journeySplitsUptoRow : OpenClaim := { program := "ytmeogadkbbeglaa", sum := "5cc5c791b2f8abed3b21df3651ec4ebda1375e0818a3e5bd17865d28588aaca6", func := "farebox/fareboxlaw17.JourneySplits", spec := "journeySplits", inPlace := ["math.Float64bits"], unfollowed := true, recurses := true, apart := false, narrowed := true }
def JourneySplitsUptoSaid : Prop := journeySplitsUptoRow.holds Try.pinned (OpenSpec.upto journeySplitsSpec)

/-- 'fareboxlaw21.ChargeRefunds', WHERE WHAT IT READS IS OF BULK AT MOST 1048576: true; the input reads as it did. -/
def chargeRefundsUptoRow : OpenClaim := { program := "ytmeogadkbbeglaa", sum := "5cc5c791b2f8abed3b21df3651ec4ebda1375e0818a3e5bd17865d28588aaca6", func := "farebox/fareboxlaw21.ChargeRefunds", spec := "chargeRefunds", inPlace := ["math.Float64bits"], unfollowed := true, recurses := true, apart := false, narrowed := true }
def ChargeRefundsUptoSaid : Prop := chargeRefundsUptoRow.holds Try.pinned (OpenSpec.upto chargeRefundsSpec)

/-- 'fareboxlaw21.ChargeCaps', WHERE WHAT IT READS IS OF BULK AT MOST 1048576: true; the input reads as it did. -/
def chargeCapsUptoRow : OpenClaim := { program := "ytmeogadkbbeglaa", sum := "5cc5c791b2f8abed3b21df3651ec4ebda1375e0818a3e5bd17865d28588aaca6", func := "farebox/fareboxlaw21.ChargeCaps", spec := "chargeCaps", inPlace := ["math.Float64bits"], unfollowed := true, recurses := true, apart := false, narrowed := true }
def ChargeCapsUptoSaid : Prop := chargeCapsUptoRow.holds Try.pinned (OpenSpec.upto chargeCapsSpec)

/-- 'fareboxlaw21.ChargeAlike', WHERE WHAT IT READS IS OF BULK AT MOST 1048576: true; the input reads as it did. -/
def chargeAlikeUptoRow : OpenClaim := { program := "ytmeogadkbbeglaa", sum := "5cc5c791b2f8abed3b21df3651ec4ebda1375e0818a3e5bd17865d28588aaca6", func := "farebox/fareboxlaw21.ChargeAlike", spec := "chargeAlike", inPlace := ["math.Float64bits"], unfollowed := true, recurses := true, apart := false, narrowed := true }
def ChargeAlikeUptoSaid : Prop := chargeAlikeUptoRow.holds Try.pinned (OpenSpec.upto chargeAlikeSpec)

/-- 'fareboxlaw21.ChargeBuses', WHERE WHAT IT READS IS OF BULK AT MOST 1048576: true; the input reads as it did. -/
def chargeBusesUptoRow : OpenClaim := { program := "ytmeogadkbbeglaa", sum := "5cc5c791b2f8abed3b21df3651ec4ebda1375e0818a3e5bd17865d28588aaca6", func := "farebox/fareboxlaw21.ChargeBuses", spec := "chargeBuses", inPlace := ["math.Float64bits"], unfollowed := true, recurses := true, apart := false, narrowed := true }
def ChargeBusesUptoSaid : Prop := chargeBusesUptoRow.holds Try.pinned (OpenSpec.upto chargeBusesSpec)

end Rows
end Go.Proofs.Ytmeogadkbbeglaa
