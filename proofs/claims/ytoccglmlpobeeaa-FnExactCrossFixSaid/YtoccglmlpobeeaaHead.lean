/- the three closed facts that read the head of the program, at little cost -/
import Derived.Test.YtoccglmlpobeeaaProg
import Derived.ProofKit
import Derived.JoinedOf
set_option linter.unusedVariables false
set_option linter.unusedSimpArgs false
namespace Go.Proofs.Ytoccglmlpobeeaa
open Go.ChangeShapes Go.WideShapes Go.ChangeAt Go.RowKit
/-- a word without a blank, then a blank -/
theorem words_cons : ∀ (l r : List Char), l.all (fun c => c != Char.ofNat 32) = true → wordsSigns (l ++ Char.ofNat 32 :: r) = l :: wordsSigns r
  | [], r, _ => by simp [wordsSigns]
  | c :: l, r, h => by
    have hc : c ≠ Char.ofNat 32 := by
      simp only [List.all_cons, Bool.and_eq_true, bne_iff_ne] at h
      exact h.1
    have hl : l.all (fun c => c != Char.ofNat 32) = true := by
      simp only [List.all_cons, Bool.and_eq_true] at h
      exact h.2
    have ih := words_cons l r hl
    show wordsSigns (c :: (l ++ Char.ofNat 32 :: r)) = _
    rw [wordsSigns, ih]
    exact hc
/-- the head of a program that was cut behind a harness: its words, the rest left closed -/
theorem head_words {P : Program} (l : List Char) (hs : P.initOrder = String.ofList l)
    (hl : l = "harness".toList ++ Char.ofNat 32 :: ((l.drop 8).take 64 ++ Char.ofNat 32 :: ("cut".toList ++ Char.ofNat 32 :: l.drop 77)))
    (hx : isSumSigns ((l.drop 8).take 64) = true) (hb : ((l.drop 8).take 64).all (fun c => c != Char.ofNat 32) = true) :
    ∃ rest, behindMainWord (wordsSigns P.initOrder.toList) = "cut".toList :: rest := by
  refine ⟨wordsSigns (l.drop 77), ?_⟩
  rw [hs, String.toList_ofList]
  have e : wordsSigns l = "harness".toList :: (l.drop 8).take 64 :: "cut".toList :: wordsSigns (l.drop 77) := by
    conv => lhs; rw [hl]
    rw [words_cons _ _ (by decide +kernel), words_cons _ _ hb, words_cons _ _ (by decide +kernel)]
  rw [e]
  simp only [behindMainWord, hx, Bool.and_true]
  rw [if_pos (by decide +kernel)]
theorem make_of {P : Program} (h : ∃ rest, behindMainWord (wordsSigns P.initOrder.toList) = "cut".toList :: rest) : P.make = some .cut := by
  obtain ⟨rest, hr⟩ := h
  unfold Program.make
  rw [hr]
  show (if _ then _ else _) = _
  rw [if_neg (by decide +kernel), if_pos (by simp)]
theorem strip_cut (rest : List (List Char)) : stripLifts liftWords ("cut".toList :: rest) = ([], "cut".toList :: rest) := by
  have hw : liftWords.all (fun o => !("cut".toList == o.toList)) = true := by decide +kernel
  have go : ∀ (os : List String), os.all (fun o => !("cut".toList == o.toList)) = true → stripLifts os ("cut".toList :: rest) = ([], "cut".toList :: rest) := by
    intro os
    induction os with
    | nil => intro _; rfl
    | cons o os ih =>
      intro h
      simp only [List.all_cons, Bool.and_eq_true, Bool.not_eq_true'] at h
      rw [stripLifts, h.1]
      exact ih h.2
  exact go _ hw
theorem lifts_of {P : Program} (h : ∃ rest, behindMainWord (wordsSigns P.initOrder.toList) = "cut".toList :: rest) : P.liftsFinal = false := by
  obtain ⟨rest, hr⟩ := h
  unfold Program.liftsFinal Program.headLifts
  simp only [hr, strip_cut, List.head?_cons]
  have e1 : (some "cut".toList == some "carried".toList) = false := by decide +kernel
  have e2 : (some "cut".toList == some "cut".toList) = true := by decide +kernel
  simp
theorem enter_of {P : Program} (h : ∃ rest, behindMainWord (wordsSigns P.initOrder.toList) = "cut".toList :: rest)
    (h1 : P.laysLater = false) (h2 : P.bearsReflect = false) (h3 : P.doorFits [] = true) : P.mayEnter = true := by
  obtain ⟨rest, hr⟩ := h
  unfold Program.mayEnter
  rw [hr]
  simp only [strip_cut, h1, h2, h3, List.head?_cons]
  simp
/-- the closed facts of a row, but for the three that read the head -/
def lessFacts (P : Program) (f : FuncId) (fn : Func) (s : ChangeSpec) (c : OpenClaim) : Bool :=
  c.wf (OpenSpec.ofChange s) && laidOutB P && mapsRowed P &&
  fn.params.all (P.readableRec ·) && namedTie P c.named s.vars &&
  (c.stops == []) && (P.stops == []) && (c.knobs == []) && (P.stopKnobs == []) &&
  (c.inPlace == P.inPlace f) && (c.unfollowed == P.unfollowed f) && (c.recurses == P.recurses f) && (c.named == P.varsNamed f) &&
  (c.maps == (fn.params.toList ++ s.plain.varTypes P).any (P.mapsRec ·)) && (c.ifaces == (fn.params.toList ++ s.plain.varTypes P).any (P.ifacesRec ·)) && (c.mapsOut == P.mapsAmong fn.resultTypes.toList) &&
  (c.loops == (fn.params.toList ++ s.plain.varTypes P).any (P.loopsFrom ·)) && (c.wideKeys == (fn.params.toList ++ s.plain.varTypes P ++ fn.resultTypes.toList).any (P.wideKeysFrom ·)) &&
  s.vars.all (P.varReadable ·) && fn.resultTypes.all (fun t => P.readableRec t && decide (t < P.types.size)) && (c.ifacesOut == fn.resultTypes.toList.any (P.ifacesRec ·)) && (c.loopsOut == fn.resultTypes.toList.any (P.loopsFrom ·)) && (c.plainKeys == P.plainKeys) && c.shortTexts.isNone && P.stopsHeard && (c.kinds == (if c.domain.isEmpty then [] else fn.params.toList.map fun t => match P.underlying t with | some (.int k) => some k | _ => none)) && (c.pinned == c.pinnedBy) &&
  (c.veiled == (fn.params.toList ++ s.plain.varTypes P ++ fn.resultTypes.toList).any (P.veiledRec ·)) && c.veiledFits P fn.params.toList (fn.params.toList ++ s.plain.varTypes P ++ fn.resultTypes.toList)
theorem joined_of {P : Program} {f : FuncId} {fn : Func} {s : ChangeSpec} {c : OpenClaim} (h : lessFacts P f fn s c = true) (me : P.mayEnter = true) (lf : (c.lifted == P.liftsFinal) = true) (mk : (P.make == some c.make) = true) : joinedFacts P f fn s c = true := by
  unfold lessFacts at h
  unfold joinedFacts
  simp only [Bool.and_eq_true] at h ⊢
  simp only [h, me, lf, mk, and_self]
  exact ⟨⟨⟨⟨trivial, h.1.1.1.2⟩, trivial⟩, trivial⟩, trivial⟩
set_option maxRecDepth 1000000 in
theorem Try.head : ∃ rest, behindMainWord (wordsSigns Try.prog.initOrder.toList) = "cut".toList :: rest := head_words _ rfl (by kernel_rfl) (by kernel_rfl) (by kernel_rfl)
theorem Try.enters : Try.prog.mayEnter = true := enter_of Try.head (by kernel_rfl) (by kernel_rfl) (by kernel_rfl)
theorem Try.make_eq : Try.prog.make = some .cut := make_of Try.head
theorem Try.lifts_eq : Try.prog.liftsFinal = false := lifts_of Try.head
end Go.Proofs.Ytoccglmlpobeeaa
