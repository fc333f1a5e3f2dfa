/- The kinds of rows of this chapter, and what the program's table of types says of them. -/
import Derived.Test.YtnhmhcobpbilhaaDoorBU
import Derived.Test.YtnhmhcobpbilhaaDoorLU
import Derived.KernelRfl
import Derived.Test.YtnhmhcobpbilhaaDoorProg
namespace Go.Proofs.YtnhmhcobpbilhaaDoor
set_option linter.unusedSectionVars false
set_option linter.unusedSimpArgs false
set_option linter.unusedVariables false
set_option maxRecDepth 100000

/-- a defect -/
structure Df where
  c : List UInt8
  a : Int
  l : Int
  s : Int
deriving DecidableEq
inductive U where
  | df | int | str | bool | pair | u8 | ldf
deriving DecidableEq
noncomputable def El : U → Type
  | .df => Df
  | .int => Int
  | .str => List UInt8
  | .bool => Bool
  | .pair => Int × Int
  | .u8 => UInt8
  | .ldf => List Df
noncomputable def E : Univ U El where
  enc := fun u => match u with
    | .df => fun (x : Df) => [.str x.c, .int .i64 x.a, .int .i64 x.l, .int .i64 x.s]
    | .int => fun (x : Int) => [.int .i64 x]
    | .str => fun (x : List UInt8) => [.str x]
    | .bool => fun (x : Bool) => [.bool x]
    | .pair => fun (x : Int × Int) => [.int .i64 x.1, .int .i64 x.2]
    | .u8 => fun (x : UInt8) => [.int .u8 (Int.ofNat x.toNat)]
    | .ldf => fun (x : List Df) => [.lst .df x]
  dec := fun u cs => match u with
    | .df => match cs with
      | [.str c, .int .i64 a, .int .i64 l, .int .i64 s] => some (⟨c, a, l, s⟩ : Df)
      | _ => none
    | .int => match cs with
      | [.int .i64 x] => some x
      | _ => none
    | .str => match cs with
      | [.str x] => some x
      | _ => none
    | .bool => match cs with
      | [.bool x] => some x
      | _ => none
    | .pair => match cs with
      | [.int .i64 x, .int .i64 y] => some (x, y)
      | _ => none
    | .u8 => none
    | .ldf => match cs with
      | [.lst .df x] => some (x : List Df)
      | [.nils] => some ([] : List Df)
      | _ => none
  dflt := fun u => match u with
    | .df => (⟨[], 0, 0, 0⟩ : Df)
    | .int => (0 : Int)
    | .str => ([] : List UInt8)
    | .bool => false
    | .pair => ((0, 0) : Int × Int)
    | .u8 => (0 : UInt8)
    | .ldf => ([] : List Df)
  sz := fun u => match u with | .df => 4 | .pair => 2 | _ => 1
  by_ := fun u => match u with | .df => 40 | .int => 8 | .str => 16 | .bool => 1 | .pair => 16 | .u8 => 1 | .ldf => 24
  tid := fun u => match u with | .df => 34 | .int => 3 | .str => 9 | .bool => 4 | .pair => 42 | .u8 => 5 | .ldf => 22
  agg := fun u => match u with | .df => true | .pair => true | _ => false
  fl := fun u => match u with | .ldf => false | _ => true
  G := fun w => Lib.TabIs Tryd.prog w "internal/strconv.uint64pow10" .u64 Lib.pow10Tab
  keq := fun _ _ _ => false
  kok := fun _ => false
  vok := fun _ => false

theorem E_good : UGood Tryd.prog E where
  len := fun u x => by cases u <;> rfl
  pos := fun u => by cases u <;> decide
  bpos := fun u => by cases u <;> decide
  cell := fun u x c hc => by
    cases u <;> simp only [E, List.mem_cons, List.not_mem_nil, or_false] at hc <;> (repeat' (rcases hc with rfl | hc)) <;> first | rfl | (subst hc; rfl)
  flat := fun u hu x c hc => by
    cases u
    case ldf => cases hu
    all_goals simp only [E, List.mem_cons, List.not_mem_nil, or_false] at hc <;> (repeat' (rcases hc with rfl | hc)) <;> first | rfl | (subst hc; rfl)
  gst := fun w w' h hb => tab_below h hb
  key := fun u h => by cases h
  val := fun u h => by cases h
  dec := fun u cs x h => by
    cases u
    case u8 => cases h
    case ldf =>
      simp only [E] at h
      split at h
      · cases h; exact ⟨rfl, fun j c hj => ⟨c, hj, .inl rfl⟩⟩
      · cases h
        refine ⟨rfl, fun j c hj => ?_⟩
        match j, hj with
        | 0, hj => cases hj; exact ⟨_, rfl, .inr ⟨rfl, .df, rfl⟩⟩
      · cases h
    all_goals simp only [E] at h
    all_goals split at h <;> first | (cases h; exact ⟨rfl, fun j c hj => ⟨c, hj, .inl rfl⟩⟩) | cases h
  info := fun u => by
    cases u
    · exact info_of Tryd.type34 rfl rfl rfl rfl rfl
    · exact info_of Tryd.type3 rfl rfl rfl rfl rfl
    · exact info_of Tryd.type9 rfl rfl rfl rfl rfl
    · exact info_of Tryd.type4 rfl rfl rfl rfl rfl
    · exact info_of Tryd.type42 rfl rfl rfl rfl rfl
    · exact info_of Tryd.type5 rfl rfl rfl rfl rfl
    · refine ⟨_, _, Tryd.type22, rfl, rfl, rfl, rfl, fun j c hj => ?_⟩
      match j, hj with
      | 0, hj => cases hj; exact ⟨_, rfl, fun _ _ _ => .lstE _ _ _⟩
theorem byteU : ByteU E .u8 (fun s => s) (fun s => s) where
  sz := rfl
  by_ := rfl
  len := fun _ => rfl
  enc := fun s i h => ⟨s[i], List.getElem?_eq_getElem h, by simp [E, List.getD, List.getElem?_eq_getElem h]⟩
  lenU := fun _ => rfl
  encU := fun xs i y h => ⟨y, h, rfl⟩

noncomputable def tds : List (TypeId × TD U) := [(3, .int .i64), (4, .bool), (5, .int .u8), (9, .str), (22, .slice .df), (34, .struct [(0, 1, false), (1, 1, false), (2, 1, false), (3, 1, false)] 4), (37, .slice .pair), (41, .slice .bool), (42, .arr 2 1 false 2), (62, .one), (67, .slice .int), (76, .bld .u8), (88, .slice .ldf), (93, .slice .str)]
noncomputable def zeros : List (TypeId × Value) := [(34, (Tryd.t34.zero).getD (.int .i64 0)), (42, (Tryd.t42.zero).getD (.int .i64 0))]
noncomputable def eqs : List (TypeId × List Nat) := [(34, [2, 0, 0, 0]), (42, [0, 0])]
theorem tab : TabOk Tryd.prog E tds zeros eqs := tabOk (by kernel_rfl) E_good (by kernel_rfl) (by
  intro p hp
  simp only [zeros, List.mem_cons, List.not_mem_nil, or_false] at hp
  rcases hp with rfl | rfl
  · exact ⟨Tryd.t34, Tryd.type34, rfl⟩
  · exact ⟨Tryd.t42, Tryd.type42, rfl⟩) (by kernel_rfl)

noncomputable def d_df : Df := ⟨[], 0, 0, 0⟩
noncomputable def d_int : Int := 0
noncomputable def d_str : List UInt8 := []
noncomputable def d_bool : Bool := false
noncomputable def d_pair : Int × Int := (0, 0)
noncomputable def d_u8 : UInt8 := 0
noncomputable def d_ldf : List Df := []
abbrev R := Option (Fin U El)
end Go.Proofs.YtnhmhcobpbilhaaDoor
