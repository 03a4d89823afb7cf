import Derived.Test.YtekkoodlnaapeaaGreatDoorSx4
/- An oracle for spec.l3Num: numbers inside a text. -/
set_option linter.unusedVariables false
set_option linter.unusedSimpArgs false
set_option linter.constructorNameAsVariable false
/- An oracle for spec.l3Num: numbers inside a text. -/
namespace Go.Proofs.YtekkoodlnaapeaaGreatDoor.SX
def num3 (s n : SI) : SV := .t [.x (.i .i64 s), .x (.i .i64 n)]
def orcNum3 (C : Ctx) (args : List SV) (m : Mem) : Option (SV × Mem) :=
  match args with
  | [.v (.s q), .v (.i .i64 a), .v (.b script)] => match Nat.ble q.length 1000000 with
    | true => match sdrop C.R C.D q a with
      | some r => match r with
        | .d s :: r => match dfind C.D s with
          | some p => match endOk script r with
            | true => match s.inB C.R 0 1000000 with
              | true => match frc (a.add (lvar p.1)) with
                | some e => some (num3 s e, m)
                | none => none
              | false => none
            | false => none
          | none => none
        | .b x :: r => match digRun script (.b x :: r) 0 0 with
          | some (v, n) => match Nat.ble v 1000000 with
            | true => match fzN v, fzN n with
              | some v, some n => match frc (a.add (.c (.ofNat n))) with
                | some e => match n with
                  | 0 => none
                  | Nat.succ 0 => some (num3 (.c (.ofNat v)) e, m)
                  | _ => match Nat.beq x 48 with
                    | true => none
                    | false => some (num3 (.c (.ofNat v)) e, m)
                | none => none
              | _, _ => none
            | false => none
          | none => none
        | [] => none
      | none => none
    | false => none
  | _ => none
noncomputable def orcN (C : Ctx) (T : List SI) (f : Nat) : Option (List SV → Mem → Option (SV × Mem)) := match Nat.beq f 103 with
  | true => some (orcNum3 C)
  | false => orcA C T f
end Go.Proofs.YtekkoodlnaapeaaGreatDoor.SX
