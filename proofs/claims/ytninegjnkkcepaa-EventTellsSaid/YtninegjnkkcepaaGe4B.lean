import Derived.Test.YtninegjnkkcepaaTye4
namespace Go.Proofs.Ytninegjnkkcepaa
open Go
set_option linter.unusedVariables false
set_option linter.unusedSimpArgs false
abbrev pt (b o : Nat) : Value := .pointer (some ⟨b, o, none⟩)
structure api_Pair where
  Key : Str
  Value : Str
instance : Inhabited api_Pair := ⟨⟨[], []⟩⟩
def r_api_Pair : Rep api_Pair where
  sz := 2
  R := fun _ x cs => cs = [.string (bs x.Key), .string (bs x.Value)]
  len := fun h => by subst h; rfl
  one := by
    intro M x cs h
    subst h
    exact fun v hv => List.all_eq_true.1 (show (List.all [.string (bs x.Key), .string (bs x.Value)] (·.oneCell')) = true from rfl) v hv
  mono := fun _ h => h
structure api_Answer where
  Err : Int
  Found : Bool
  Value : Str
  Pairs : (List api_Pair)
instance : Inhabited api_Answer := ⟨⟨0, false, [], []⟩⟩
def r_api_Answer : Rep api_Answer where
  sz := 4
  R := fun M x cs => ∃ v3, SlR r_api_Pair M v3 x.Pairs ∧ cs = [.int .i64 x.Err, .bool x.Found, .string (bs x.Value), v3]
  len := fun ⟨v3, h3, h⟩ => by subst h; rfl
  one := by
    rintro M x cs ⟨v3, h3, h⟩
    subst h
    obtain ⟨A3, c3, rfl, _⟩ := h3.form
    exact fun v hv => List.all_eq_true.1 (show (List.all [.int .i64 x.Err, .bool x.Found, .string (bs x.Value), .slice A3 x.Pairs.length c3] (·.oneCell')) = true from rfl) v hv
  mono := fun hM ⟨v3, h3, h⟩ => ⟨v3, SlR.mono h3 hM, h⟩
structure api_Event where
  What : Int
  Task : Int
  Call : Int
  Answer : api_Answer
instance : Inhabited api_Event := ⟨⟨0, 0, 0, ⟨0, false, [], []⟩⟩⟩
def r_api_Event : Rep api_Event where
  sz := 7
  R := fun M x cs => ∃ v6, SlR r_api_Pair M v6 x.Answer.Pairs ∧ cs = [.int .u8 x.What, .int .i64 x.Task, .int .i64 x.Call, .int .i64 x.Answer.Err, .bool x.Answer.Found, .string (bs x.Answer.Value), v6]
  len := fun ⟨v6, h6, h⟩ => by subst h; rfl
  one := by
    rintro M x cs ⟨v6, h6, h⟩
    subst h
    obtain ⟨A6, c6, rfl, _⟩ := h6.form
    exact fun v hv => List.all_eq_true.1 (show (List.all [.int .u8 x.What, .int .i64 x.Task, .int .i64 x.Call, .int .i64 x.Answer.Err, .bool x.Answer.Found, .string (bs x.Answer.Value), .slice A6 x.Answer.Pairs.length c6] (·.oneCell')) = true from rfl) v hv
  mono := fun hM ⟨v6, h6, h⟩ => ⟨v6, SlR.mono h6 hM, h⟩
structure event_task where
  at_ : Int
  calls : Int
instance : Inhabited event_task := ⟨⟨0, 0⟩⟩
def r_event_task : Rep event_task where
  sz := 2
  R := fun _ x cs => cs = [.int .i64 x.at_, .int .i64 x.calls]
  len := fun h => by subst h; rfl
  one := by
    intro M x cs h
    subst h
    exact fun v hv => List.all_eq_true.1 (show (List.all [.int .i64 x.at_, .int .i64 x.calls] (·.oneCell')) = true from rfl) v hv
  mono := fun _ h => h
structure event_Recorder where
  tasks : (List event_task)
  l : (List api_Event)
instance : Inhabited event_Recorder := ⟨⟨[], []⟩⟩
def r_event_Recorder : Rep event_Recorder where
  sz := 2
  R := fun M x cs => ∃ v0 v1, SlR r_event_task M v0 x.tasks ∧ SlR r_api_Event M v1 x.l ∧ cs = [v0, v1]
  len := fun ⟨v0, v1, h0, h1, h⟩ => by subst h; rfl
  one := by
    rintro M x cs ⟨v0, v1, h0, h1, h⟩
    subst h
    obtain ⟨A0, c0, rfl, _⟩ := h0.form
    obtain ⟨A1, c1, rfl, _⟩ := h1.form
    exact fun v hv => List.all_eq_true.1 (show (List.all [.slice A0 x.tasks.length c0, .slice A1 x.l.length c1] (·.oneCell')) = true from rfl) v hv
  mono := fun hM ⟨v0, v1, h0, h1, h⟩ => ⟨v0, v1, SlR.mono h0 hM, SlR.mono h1 hM, h⟩
structure event_Place where
  Task : Int
  Call : Int
instance : Inhabited event_Place := ⟨⟨0, 0⟩⟩
def r_event_Place : Rep event_Place where
  sz := 2
  R := fun _ x cs => cs = [.int .i64 x.Task, .int .i64 x.Call]
  len := fun h => by subst h; rfl
  one := by
    intro M x cs h
    subst h
    exact fun v hv => List.all_eq_true.1 (show (List.all [.int .i64 x.Task, .int .i64 x.Call] (·.oneCell')) = true from rfl) v hv
  mono := fun _ h => h
structure ferrymanlaw06_Step where
  What : Int
  Task : Int
  Answer : api_Answer
instance : Inhabited ferrymanlaw06_Step := ⟨⟨0, 0, ⟨0, false, [], []⟩⟩⟩
def r_ferrymanlaw06_Step : Rep ferrymanlaw06_Step where
  sz := 6
  R := fun M x cs => ∃ v5, SlR r_api_Pair M v5 x.Answer.Pairs ∧ cs = [.int .u8 x.What, .int .i64 x.Task, .int .i64 x.Answer.Err, .bool x.Answer.Found, .string (bs x.Answer.Value), v5]
  len := fun ⟨v5, h5, h⟩ => by subst h; rfl
  one := by
    rintro M x cs ⟨v5, h5, h⟩
    subst h
    obtain ⟨A5, c5, rfl, _⟩ := h5.form
    exact fun v hv => List.all_eq_true.1 (show (List.all [.int .u8 x.What, .int .i64 x.Task, .int .i64 x.Answer.Err, .bool x.Answer.Found, .string (bs x.Answer.Value), .slice A5 x.Answer.Pairs.length c5] (·.oneCell')) = true from rfl) v hv
  mono := fun hM ⟨v5, h5, h⟩ => ⟨v5, SlR.mono h5 hM, h⟩
structure ferrymanref06_Place where
  Task : Int
  Call : Int
instance : Inhabited ferrymanref06_Place := ⟨⟨0, 0⟩⟩
def r_ferrymanref06_Place : Rep ferrymanref06_Place where
  sz := 2
  R := fun _ x cs => cs = [.int .i64 x.Task, .int .i64 x.Call]
  len := fun h => by subst h; rfl
  one := by
    intro M x cs h
    subst h
    exact fun v hv => List.all_eq_true.1 (show (List.all [.int .i64 x.Task, .int .i64 x.Call] (·.oneCell')) = true from rfl) v hv
  mono := fun _ h => h
def rw_api_Event : Rep api_Event where
  sz := 7
  R := fun M x cs => ∃ v6, SlRw r_api_Pair M v6 x.Answer.Pairs ∧ cs = [.int .u8 x.What, .int .i64 x.Task, .int .i64 x.Call, .int .i64 x.Answer.Err, .bool x.Answer.Found, .string (bs x.Answer.Value), v6]
  len := fun ⟨v6, h6, h⟩ => by subst h; rfl
  one := by
    rintro M x cs ⟨v6, h6, h⟩
    subst h
    obtain ⟨A6, c6, rfl, _⟩ := h6.form
    exact fun v hv => List.all_eq_true.1 (show (List.all [.int .u8 x.What, .int .i64 x.Task, .int .i64 x.Call, .int .i64 x.Answer.Err, .bool x.Answer.Found, .string (bs x.Answer.Value), .slice A6 x.Answer.Pairs.length c6] (·.oneCell')) = true from rfl) v hv
  mono := fun hM ⟨v6, h6, h⟩ => ⟨v6, SlRw.mono h6 hM, h⟩
abbrev get_api_Event (x : api_Event) : List api_Pair := x.Answer.Pairs
theorem led_api_Event : Led rw_api_Event r_api_Pair get_api_Event 6 := ⟨by rintro M x cs ⟨v, h, rfl⟩; exact ⟨v, h, rfl, fun M' L hL => ⟨{ x with Answer := { x.Answer with Pairs := L } }, ⟨v, hL, rfl⟩, rfl⟩⟩⟩
theorem txt_api_Pair : Texts r_api_Pair := ⟨by
    rintro M x cs rfl v hv
    simp only [List.mem_cons, List.not_mem_nil, or_false] at hv
    rcases hv with rfl | rfl <;> exact ⟨_, rfl⟩,
  fun cs hl hs => by
    match cs, hl with
    | [a0, a1], _ =>
      obtain ⟨x0, rfl⟩ := hs a0 (by simp)
      obtain ⟨x1, rfl⟩ := hs a1 (by simp)
      exact ⟨⟨x0, x1⟩, fun _ => rfl⟩⟩
instance : DecidableEq event_Place := fun a b => decidable_of_iff (a.Task = b.Task ∧ a.Call = b.Call) ⟨fun h => by cases a; cases b; simp_all, fun h => by subst h; simp⟩
def enc_event_Place (x : event_Place) : Value := .agg #[.int .i64 x.Task, .int .i64 x.Call]
theorem key62 : KeyT Try.prog 62 enc_event_Place := keyT_struct Try.underlying62 (fun w a b => by
    have h := eq62 w a.Task a.Call b.Task b.Call
    have e : ((a.Task == b.Task) && (a.Call == b.Call)) = decide (a = b) := by
      by_cases hc : a = b
      · subst hc; simp
      · have : ¬ (a.Task = b.Task ∧ a.Call = b.Call) := fun hh => hc (by cases a; cases b; simp_all)
        rw [decide_eq_false hc]
        simp only [← Bool.decide_and, Bool.and_eq_false_iff, beq_eq_false_iff_ne, ne_eq]; by_cases h1 : a.Task = b.Task <;> simp_all
    rw [← e]; exact h)
  (fun w e a => by
    have hi : ∀ (n : Nat) (t : TypeId) (k : IntKind) (x : Int), Try.prog.underlying t = some (.int k) → (Instr.checkKey e (n + 1) t (.int k x)).run Try.prog w = .ok () w := fun n t k x hu => by simp [Instr.checkKey, run_underlying hu, Result.andThen]
    have hb : ∀ (n : Nat) (t : TypeId) (x : Bool), Try.prog.underlying t = some .bool → (Instr.checkKey e (n + 1) t (.bool x)).run Try.prog w = .ok () w := fun n t x hu => by simp [Instr.checkKey, run_underlying hu, Result.andThen]
    have p0 : (part 3 #[.int .i64 a.Task, .int .i64 a.Call] 0).run Try.prog w = .ok (.int .i64 a.Task) w := part_one ty3 rfl
    have p1 : (part 3 #[.int .i64 a.Task, .int .i64 a.Call] 1).run Try.prog w = .ok (.int .i64 a.Call) w := part_one ty3 rfl
    have h : ∀ n, (Instr.checkKey e (n + 2) 62 (enc_event_Place a)).run Try.prog w = .ok () w := fun n => by
      unfold Instr.checkKey
      simp [enc_event_Place, run_underlying Try.underlying62, Result.andThen, p0, p1, hi n 3 _ _ Try.underlying3]
    exact h 9998) (fun a => by
    have h : ∀ n, Instr.sameBits (n + 2) (enc_event_Place a) (enc_event_Place a) = true := fun n => by simp [Instr.sameBits, enc_event_Place]
    exact h 9998)
abbrev B30 (b : Nat) (x : api_Answer) (A3 : Option Addr) (c3 : Nat) : Asr := Blk b (.cells #[.int .i64 x.Err, .bool x.Found, .string (bs x.Value), .slice A3 x.Pairs.length c3] 30 (0, 0))
abbrev B32 (b : Nat) (x : api_Event) (A6 : Option Addr) (c6 : Nat) : Asr := Blk b (.cells #[.int .u8 x.What, .int .i64 x.Task, .int .i64 x.Call, .int .i64 x.Answer.Err, .bool x.Answer.Found, .string (bs x.Answer.Value), .slice A6 x.Answer.Pairs.length c6] 32 (0, 0))
abbrev B40 (b : Nat) (x : ferrymanlaw06_Step) (A5 : Option Addr) (c5 : Nat) : Asr := Blk b (.cells #[.int .u8 x.What, .int .i64 x.Task, .int .i64 x.Answer.Err, .bool x.Answer.Found, .string (bs x.Answer.Value), .slice A5 x.Answer.Pairs.length c5] 40 (0, 0))
end Go.Proofs.Ytninegjnkkcepaa
