/- Structs copied, as the laws do. Printed by a program. -/
import Derived.Test.YthnilnggpbploaaTySz
import Derived.Test.YthnilnggpbploaaOwn2
namespace Go.Proofs.Ythnilnggpbploaa
open Go.RowKit
open Cel (rd own rd_len rd_one own_rd own_lt rd_below rd_mono own_keep)

theorem ne2 (n : Nat) : ¬ n = n + 1 + 1 := by omega
theorem own_Val {w : World} {x : ValD} (hx : okVal x) : own w [.int .i64 x.K, .int .i64 x.N, .string x.S] x [] :=
  ⟨[.int .i64 x.K], [.int .i64 x.N, .string x.S], [], [], rfl, by simp, ⟨rfl, hx.1, rfl⟩, ⟨[.int .i64 x.N], [.string x.S], [], [], rfl, by simp, ⟨rfl, hx.2.1, rfl⟩, ⟨rfl, hx.2.2, rfl⟩⟩⟩
def zeroVal : ValD := ⟨0, 0, ⟨#[]⟩⟩
theorem okzeroVal : okVal zeroVal := ⟨⟨by decide, by decide⟩, ⟨by decide, by decide⟩, (Nat.zero_le _)⟩
def ToVal (x : ValD) (w : World) (e : Ending) (w' : World) : Prop :=
  e = .returned (.agg #[.int .i64 x.K, .int .i64 x.N, .string x.S]) ∧ Below w.heap.size w w'
theorem own_Fact {w : World} {x : FactD} (hx : okFact x) {u0 : Value} {f0 : List Nat} (h0 : OwnS w x.Fields u0 f0) : own w [.string x.Kind, u0] x f0 :=
  ⟨[.string x.Kind], [u0], [], f0, rfl, by simp, ⟨rfl, hx, rfl⟩, ⟨u0, rfl, h0⟩⟩
def zeroFact : FactD := ⟨⟨#[]⟩, []⟩
theorem okzeroFact : okFact zeroFact := (Nat.zero_le _)
def ToFact (x : FactD) (w : World) (e : Ending) (w' : World) : Prop :=
  ∃ a0 c0 f0, e = .returned (.agg #[.string x.Kind, .slice a0 x.Fields.length c0]) ∧ OwnS w' x.Fields (.slice a0 x.Fields.length c0) f0 ∧ Fr w.heap.size f0 ∧ Below w.heap.size w w'
theorem own_Call {w : World} {x : CallD} (hx : okCall x) {u0 : Value} {f0 : List Nat} (h0 : OwnS w x.F.Fields u0 f0) : own w [.string x.Key, .string x.F.Kind, u0, .int .i64 x.Try] x f0 :=
  ⟨[.string x.Key], [.string x.F.Kind, u0, .int .i64 x.Try], [], f0, rfl, by simp, ⟨rfl, hx.1, rfl⟩, ⟨[.string x.F.Kind, u0], [.int .i64 x.Try], f0, [], rfl, by simp, own_Fact hx.2.1 h0, ⟨rfl, hx.2.2, rfl⟩⟩⟩
def zeroCall : CallD := ⟨⟨#[]⟩, zeroFact, 0⟩
theorem okzeroCall : okCall zeroCall := ⟨(Nat.zero_le _), okzeroFact, ⟨by decide, by decide⟩⟩
def ToCall (x : CallD) (w : World) (e : Ending) (w' : World) : Prop :=
  ∃ a0 c0 f0, e = .returned (.agg #[.string x.Key, .string x.F.Kind, .slice a0 x.F.Fields.length c0, .int .i64 x.Try]) ∧ OwnS w' x.F.Fields (.slice a0 x.F.Fields.length c0) f0 ∧ Fr w.heap.size f0 ∧ Below w.heap.size w w'
theorem own_Sent {w : World} {x : SentD} (hx : okSent x) {u0 : Value} {f0 : List Nat} (h0 : OwnS w x.C.F.Fields u0 f0) : own w [.string x.Name, .string x.C.Key, .string x.C.F.Kind, u0, .int .i64 x.C.Try] x f0 :=
  ⟨[.string x.Name], [.string x.C.Key, .string x.C.F.Kind, u0, .int .i64 x.C.Try], [], f0, rfl, by simp, ⟨rfl, hx.1, rfl⟩, own_Call hx.2 h0⟩
def zeroSent : SentD := ⟨⟨#[]⟩, zeroCall⟩
theorem okzeroSent : okSent zeroSent := ⟨(Nat.zero_le _), okzeroCall⟩
def ToSent (x : SentD) (w : World) (e : Ending) (w' : World) : Prop :=
  ∃ a0 c0 f0, e = .returned (.agg #[.string x.Name, .string x.C.Key, .string x.C.F.Kind, .slice a0 x.C.F.Fields.length c0, .int .i64 x.C.Try]) ∧ OwnS w' x.C.F.Fields (.slice a0 x.C.F.Fields.length c0) f0 ∧ Fr w.heap.size f0 ∧ Below w.heap.size w w'
set_option maxRecDepth 20000 in
theorem toVal_w (x : ValD) (w : World) :
    Calls Try.prog 28 #[.agg #[.int .i64 x.K, .int .i64 x.N, .string x.S]] w (ToVal x w) := by
  go_enter Try.func28, Try.ntmps28
  go_wp2
  refine ret_mk (.agg #[.int .i64 x.K, .int .i64 x.N, .string x.S]) (by simp [results, Try.results28, go_sem]) rfl ⟨rfl, (by simp (maxDischargeDepth := 60))⟩
set_option maxRecDepth 20000 in
theorem toSVal_w (l : List ValD) (v : Value) (w : World) (h : Sl w l v) (hs : sznSVal l ≤ 1048576) :
    Calls Try.prog 25 #[v] w (RetS l w) := by
  obtain ⟨a, c, rfl, hl, -⟩ := h.open
  have hsz : Hid (sznSVal l = l.length + (l.map sznVal).sum) := rfl
  have hlen : l.length ≤ 1048576 := by have := hsz.out; omega
  have hmk : ∀ w, (Instr.makeSlice 41 (.int .i64 l.length) (.int .i64 l.length)).run Try.prog w = .ok (.slice (some ⟨w.heap.size, 0, none⟩) l.length l.length) (w.alloc (.cells (madeCells #[.int .i64 0, .int .i64 0, .string ⟨#[]⟩] (l.length * 3)) 57)) :=
    make_row 41 57 (.agg #[.int .i64 0, .int .i64 0, .string ⟨#[]⟩]) 3 32 Try.underlying41 (by kernel_rfl) rfl l.length l.length rfl (by omega) (by decide)
  have hZ : OwnS (w.alloc (.cells (madeCells #[.int .i64 0, .int .i64 0, .string ⟨#[]⟩] (l.length * 3)) 57)) (List.replicate l.length zeroVal) (.slice (some ⟨w.heap.size, 0, none⟩) l.length l.length) [w.heap.size] :=
    OwnS.zeroed w #[.int .i64 0, .int .i64 0, .string ⟨#[]⟩] 57 zeroVal l.length (by simp [maxLen]; omega) rfl (fun w => own_Val (w := w) okzeroVal)
  go_enter Try.func25, Try.ntmps25
  go_wp2
  go_loopw [4] (fun i wr => ∃ (k : Nat) (fp : List Nat), i = .int .i64 k ∧ k ≤ l.length ∧ OwnS wr (l.take k ++ List.replicate (l.length - k) zeroVal) (.slice (some ⟨w.heap.size, 0, none⟩) l.length l.length) fp ∧ Fr w.heap.size fp ∧ Below w.heap.size w wr) (fun i _ => l.length - (intOf i).toNat)
  case atStart => exact ⟨0, [w.heap.size], rfl, by omega, by simpa using hZ, by simp [Fr], by simp⟩
  case round =>
    clear hmk hZ
    obtain ⟨k, fp, rfl, hk, ho, hf, hB⟩ := hrel
    by_cases hlt : k < l.length
    · obtain ⟨b, o, rfl, hbl, hok, hc⟩ := (h.to hB).atVal k hlt
      have hle : sznVal l[k] ≤ 1048576 := by have h1 := sum_step sznVal l k hlt; have h2 := sum_le sznVal l (k + 1); have := hsz.out; omega
      have hput := Lib.hid (set_fill l zeroVal k hlt)
      generalize l[k] = x at *
      obtain ⟨c0, c1, c2⟩ := hc
      skip
      go_wp2_with fail
      refine (toVal_w x  _ ).mono ?_
      rintro e w1 ⟨rfl, hb1⟩
      have hx := own_Val hok (w := w1)
      have ho1 := ho.below hb1
      have hd : ∀ b ∈ ([] : List Nat), b ∉ fp := by simp
      obtain ⟨fp', p1, p2, p3⟩ := ho1.put hf.1 k (by simp; omega) hx hd (by simp)
      obtain ⟨-, hg, hz, hsp⟩ := ho1.spare
      obtain ⟨z0, e0⟩ := hsp k hlt 0 (by decide); replace e0 : w1.cell? ⟨w.heap.size, k * 3, none⟩ = some z0 := e0; obtain ⟨z1, e1⟩ := hsp k hlt 1 (by decide); replace e1 : w1.cell? ⟨w.heap.size, k * 3 + 1, none⟩ = some z1 := e1; obtain ⟨z2, e2⟩ := hsp k hlt 2 (by decide); replace e2 : w1.cell? ⟨w.heap.size, k * 3 + 2, none⟩ = some z2 := e2
      rw [hput.out] at p1
      clear hsp hx
      go_wp2
      go_roundw
      case rel => exact ⟨k + 1, fp', by go_num, by omega, p1, ⟨p2, fun b hb => by rcases p3 b hb with h | h; exact hf.2 b h; cases h⟩, below_setCells (via hB hb1) (Nat.le_refl _) _ [.int .i64 x.K, .int .i64 x.N, .string x.S]⟩
      case measure => simp [intOf]; omega
    · obtain rfl : k = l.length := by omega
      rw [List.take_length, Nat.sub_self, List.replicate_zero, List.append_nil] at ho
      go_wp2
      go_ret
      exact ⟨_, _, fp, rfl, ho, hf, hB⟩
set_option maxRecDepth 20000 in
theorem toFact_w (x : FactD) (v0 : Value) (w : World) (s0 : Sl w x.Fields v0) (hs : sznFact x ≤ 1048576) :
    Calls Try.prog 22 #[.agg #[.string x.Kind, v0]] w (ToFact x w) := by
  obtain ⟨a0, c0, rfl, hl0, -⟩ := s0.open
  have hsz : sznFact x = x.Kind.size + sznSVal x.Fields := rfl
  have g1 : sznSVal x.Fields ≤ 1048576 := by omega
  clear hsz hs
  go_enter Try.func22, Try.ntmps22
  go_wp2_with fail
  refine (toSVal_w x.Fields _ _ (s0.to (by simp (maxDischargeDepth := 60))) g1).mono ?_
  rintro e w1 ⟨A0, C0, f0, rfl, o0, hf1, hb1⟩
  have B1 := via (w0 := w) (by simp (maxDischargeDepth := 60)) hb1
  have z1 : w.heap.size + 3 ≤ w1.heap.size := by have := hb1.size; simp at this; omega
  have X1 : Bx w1 w.heap.size [.string x.Kind, .slice a0 x.Fields.length c0] := Bx.via (by simp (maxDischargeDepth := 60)) hb1
  have R1 : Bx w1 (w.heap.size + 1) [.string ⟨#[]⟩, .slice none 0 0] := Bx.via (by simp (maxDischargeDepth := 60)) hb1
  have O1 : Bx w1 (w.heap.size + 1 + 1) [.string x.Kind, .slice none 0 0] := Bx.via (by simp (maxDischargeDepth := 60)) hb1
  have r0 : Rng (w.heap.size + 3) w1.heap.size f0 := fun b hb => ⟨Nat.le_trans (by simp) (hf1.2 b (by simp [hb])), o0.lt b hb⟩
  have x0 := X1.c 0 _ rfl
  have y0 := R1.c 0 _ rfl
  have k0 := O1.c 0 _ rfl
  have x1 := X1.c 1 _ rfl
  have y1 := R1.c 1 _ rfl
  have k1 := O1.c 1 _ rfl
  have zx := X1.z
  have zr := R1.z
  have zo := O1.z
  go_wp2
  have H1 : Fr w.heap.size f0 := hf1.mono (by simp; omega)
  have hF : Fr w.heap.size f0 := H1
  refine ret_mk (.agg #[.string x.Kind, .slice A0 x.Fields.length C0]) (by simp [results, Try.results22, go_sem, *]) rfl ⟨A0, C0, f0, rfl, (((o0.out r0 (by simp) _).out r0 (by simp) _).out r0 (by simp) _), hF, (by simp (maxDischargeDepth := 60) [bl_le, B1])⟩
set_option maxRecDepth 20000 in
theorem toCall_w (x : CallD) (v0 : Value) (w : World) (s0 : Sl w x.F.Fields v0) (hs : sznCall x ≤ 1048576) :
    Calls Try.prog 19 #[.agg #[.string x.Key, .string x.F.Kind, v0, .int .i64 x.Try]] w (ToCall x w) := by
  obtain ⟨a0, c0, rfl, hl0, -⟩ := s0.open
  have hsz : sznCall x = x.Key.size + sznFact x.F := rfl
  have g1 : sznFact x.F ≤ 1048576 := by omega
  clear hsz hs
  go_enter Try.func19, Try.ntmps19
  go_wp2_with fail
  refine (toFact_w x.F _ _ (s0.to (by simp (maxDischargeDepth := 60))) g1).mono ?_
  rintro e w1 ⟨A0, C0, f0, rfl, o0, hf1, hb1⟩
  have B1 := via (w0 := w) (by simp (maxDischargeDepth := 60)) hb1
  have z1 : w.heap.size + 3 ≤ w1.heap.size := by have := hb1.size; simp at this; omega
  have X1 : Bx w1 w.heap.size [.string x.Key, .string x.F.Kind, .slice a0 x.F.Fields.length c0, .int .i64 x.Try] := Bx.via (by simp (maxDischargeDepth := 60)) hb1
  have R1 : Bx w1 (w.heap.size + 1) [.string ⟨#[]⟩, .string ⟨#[]⟩, .slice none 0 0, .int .i64 0] := Bx.via (by simp (maxDischargeDepth := 60)) hb1
  have O1 : Bx w1 (w.heap.size + 1 + 1) [.string x.Key, .string ⟨#[]⟩, .slice none 0 0, .int .i64 0] := Bx.via (by simp (maxDischargeDepth := 60)) hb1
  have r0 : Rng (w.heap.size + 3) w1.heap.size f0 := fun b hb => ⟨Nat.le_trans (by simp) (hf1.2 b (by simp [hb])), o0.lt b hb⟩
  have x0 := X1.c 0 _ rfl
  have y0 := R1.c 0 _ rfl
  have k0 := O1.c 0 _ rfl
  have x1 := X1.c 1 _ rfl
  have y1 := R1.c 1 _ rfl
  have k1 := O1.c 1 _ rfl
  have x2 := X1.c 2 _ rfl
  have y2 := R1.c 2 _ rfl
  have k2 := O1.c 2 _ rfl
  have x3 := X1.c 3 _ rfl
  have y3 := R1.c 3 _ rfl
  have k3 := O1.c 3 _ rfl
  have zx := X1.z
  have zr := R1.z
  have zo := O1.z
  go_wp2
  have H1 : Fr w.heap.size f0 := hf1.mono (by simp; omega)
  have hF : Fr w.heap.size f0 := H1
  refine ret_mk (.agg #[.string x.Key, .string x.F.Kind, .slice A0 x.F.Fields.length C0, .int .i64 x.Try]) (by simp [results, Try.results19, go_sem, *]) rfl ⟨A0, C0, f0, rfl, (((((((o0.out r0 (by simp) _).out r0 (by simp) _).out r0 (by simp) _).out r0 (by simp) _).out r0 (by simp) _).out r0 (by simp) _).out r0 (by simp) _), hF, (by simp (maxDischargeDepth := 60) [bl_le, B1])⟩
set_option maxRecDepth 20000 in
theorem toSent_w (x : SentD) (v0 : Value) (w : World) (s0 : Sl w x.C.F.Fields v0) (hs : sznSent x ≤ 1048576) :
    Calls Try.prog 14 #[.agg #[.string x.Name, .string x.C.Key, .string x.C.F.Kind, v0, .int .i64 x.C.Try]] w (ToSent x w) := by
  obtain ⟨a0, c0, rfl, hl0, -⟩ := s0.open
  have hsz : sznSent x = x.Name.size + sznCall x.C := rfl
  have g1 : sznCall x.C ≤ 1048576 := by omega
  clear hsz hs
  go_enter Try.func14, Try.ntmps14
  go_wp2_with fail
  refine (toCall_w x.C _ _ (s0.to (by simp (maxDischargeDepth := 60))) g1).mono ?_
  rintro e w1 ⟨A0, C0, f0, rfl, o0, hf1, hb1⟩
  have B1 := via (w0 := w) (by simp (maxDischargeDepth := 60)) hb1
  have z1 : w.heap.size + 3 ≤ w1.heap.size := by have := hb1.size; simp at this; omega
  have X1 : Bx w1 w.heap.size [.string x.Name, .string x.C.Key, .string x.C.F.Kind, .slice a0 x.C.F.Fields.length c0, .int .i64 x.C.Try] := Bx.via (by simp (maxDischargeDepth := 60)) hb1
  have R1 : Bx w1 (w.heap.size + 1) [.string ⟨#[]⟩, .string ⟨#[]⟩, .string ⟨#[]⟩, .slice none 0 0, .int .i64 0] := Bx.via (by simp (maxDischargeDepth := 60)) hb1
  have O1 : Bx w1 (w.heap.size + 1 + 1) [.string x.Name, .string ⟨#[]⟩, .string ⟨#[]⟩, .slice none 0 0, .int .i64 0] := Bx.via (by simp (maxDischargeDepth := 60)) hb1
  have r0 : Rng (w.heap.size + 3) w1.heap.size f0 := fun b hb => ⟨Nat.le_trans (by simp) (hf1.2 b (by simp [hb])), o0.lt b hb⟩
  have x0 := X1.c 0 _ rfl
  have y0 := R1.c 0 _ rfl
  have k0 := O1.c 0 _ rfl
  have x1 := X1.c 1 _ rfl
  have y1 := R1.c 1 _ rfl
  have k1 := O1.c 1 _ rfl
  have x2 := X1.c 2 _ rfl
  have y2 := R1.c 2 _ rfl
  have k2 := O1.c 2 _ rfl
  have x3 := X1.c 3 _ rfl
  have y3 := R1.c 3 _ rfl
  have k3 := O1.c 3 _ rfl
  have x4 := X1.c 4 _ rfl
  have y4 := R1.c 4 _ rfl
  have k4 := O1.c 4 _ rfl
  have zx := X1.z
  have zr := R1.z
  have zo := O1.z
  go_wp2
  have H1 : Fr w.heap.size f0 := hf1.mono (by simp; omega)
  have hF : Fr w.heap.size f0 := H1
  refine ret_mk (.agg #[.string x.Name, .string x.C.Key, .string x.C.F.Kind, .slice A0 x.C.F.Fields.length C0, .int .i64 x.C.Try]) (by simp [results, Try.results14, go_sem, *]) rfl ⟨A0, C0, f0, rfl, (((((((((o0.out r0 (by simp) _).out r0 (by simp) _).out r0 (by simp) _).out r0 (by simp) _).out r0 (by simp) _).out r0 (by simp) _).out r0 (by simp) _).out r0 (by simp) _).out r0 (by simp) _), hF, (by simp (maxDischargeDepth := 60) [bl_le, B1])⟩
set_option maxRecDepth 20000 in
theorem toSSent_w (l : List SentD) (v : Value) (w : World) (h : Sl w l v) (hs : sznSSent l ≤ 1048576) :
    Calls Try.prog 6 #[v] w (RetS l w) := by
  obtain ⟨a, c, rfl, hl, -⟩ := h.open
  have hsz : Hid (sznSSent l = l.length + (l.map sznSent).sum) := rfl
  have hlen : l.length ≤ 1048576 := by have := hsz.out; omega
  have hmk : ∀ w, (Instr.makeSlice 26 (.int .i64 l.length) (.int .i64 l.length)).run Try.prog w = .ok (.slice (some ⟨w.heap.size, 0, none⟩) l.length l.length) (w.alloc (.cells (madeCells #[.string ⟨#[]⟩, .string ⟨#[]⟩, .string ⟨#[]⟩, .slice none 0 0, .int .i64 0] (l.length * 5)) 47)) :=
    make_row 26 47 (.agg #[.string ⟨#[]⟩, .string ⟨#[]⟩, .string ⟨#[]⟩, .slice none 0 0, .int .i64 0]) 5 80 Try.underlying26 (by kernel_rfl) rfl l.length l.length rfl (by omega) (by decide)
  have hZ : OwnS (w.alloc (.cells (madeCells #[.string ⟨#[]⟩, .string ⟨#[]⟩, .string ⟨#[]⟩, .slice none 0 0, .int .i64 0] (l.length * 5)) 47)) (List.replicate l.length zeroSent) (.slice (some ⟨w.heap.size, 0, none⟩) l.length l.length) [w.heap.size] :=
    OwnS.zeroed w #[.string ⟨#[]⟩, .string ⟨#[]⟩, .string ⟨#[]⟩, .slice none 0 0, .int .i64 0] 47 zeroSent l.length (by simp [maxLen]; omega) rfl (fun w => own_Sent (w := w) okzeroSent (OwnS.nil w))
  go_enter Try.func6, Try.ntmps6
  go_wp2
  go_loopw [4] (fun i wr => ∃ (k : Nat) (fp : List Nat), i = .int .i64 k ∧ k ≤ l.length ∧ OwnS wr (l.take k ++ List.replicate (l.length - k) zeroSent) (.slice (some ⟨w.heap.size, 0, none⟩) l.length l.length) fp ∧ Fr w.heap.size fp ∧ Below w.heap.size w wr) (fun i _ => l.length - (intOf i).toNat)
  case atStart => exact ⟨0, [w.heap.size], rfl, by omega, by simpa using hZ, by simp [Fr], by simp⟩
  case round =>
    clear hmk hZ
    obtain ⟨k, fp, rfl, hk, ho, hf, hB⟩ := hrel
    by_cases hlt : k < l.length
    · obtain ⟨b, o, v0, rfl, hbl, hok, hc, s0⟩ := (h.to hB).atSent k hlt
      have hle : sznSent l[k] ≤ 1048576 := by have h1 := sum_step sznSent l k hlt; have h2 := sum_le sznSent l (k + 1); have := hsz.out; omega
      have hput := Lib.hid (set_fill l zeroSent k hlt)
      generalize l[k] = x at *
      obtain ⟨c0, c1, c2, c3, c4⟩ := hc
      obtain ⟨a0, q0, rfl, hl0, -⟩ := s0.open
      go_wp2_with fail
      refine (toSent_w x _ _ s0 hle).mono ?_
      rintro e w1 ⟨A0, C0, f0, rfl, o0, hf1, hb1⟩
      have hx := own_Sent hok o0
      have ho1 := ho.below hb1
      have hd : ∀ b ∈ f0, b ∉ fp := fun b hb hb2 => by have := ho.lt b hb2; have := hf1.2 b hb; omega
      obtain ⟨fp', p1, p2, p3⟩ := ho1.put hf.1 k (by simp; omega) hx hd hf1.1
      obtain ⟨-, hg, hz, hsp⟩ := ho1.spare
      obtain ⟨z0, e0⟩ := hsp k hlt 0 (by decide); replace e0 : w1.cell? ⟨w.heap.size, k * 5, none⟩ = some z0 := e0; obtain ⟨z1, e1⟩ := hsp k hlt 1 (by decide); replace e1 : w1.cell? ⟨w.heap.size, k * 5 + 1, none⟩ = some z1 := e1; obtain ⟨z2, e2⟩ := hsp k hlt 2 (by decide); replace e2 : w1.cell? ⟨w.heap.size, k * 5 + 2, none⟩ = some z2 := e2; obtain ⟨z3, e3⟩ := hsp k hlt 3 (by decide); replace e3 : w1.cell? ⟨w.heap.size, k * 5 + 3, none⟩ = some z3 := e3; obtain ⟨z4, e4⟩ := hsp k hlt 4 (by decide); replace e4 : w1.cell? ⟨w.heap.size, k * 5 + 4, none⟩ = some z4 := e4
      rw [hput.out] at p1
      clear hsp hx
      go_wp2
      go_roundw
      case rel => exact ⟨k + 1, fp', by go_num, by omega, p1, ⟨p2, fun b hb => by rcases p3 b hb with h | h; exact hf.2 b h; exact Nat.le_trans hB.size (hf1.2 b h)⟩, below_setCells (via hB hb1) (Nat.le_refl _) _ [.string x.Name, .string x.C.Key, .string x.C.F.Kind, .slice A0 x.C.F.Fields.length C0, .int .i64 x.C.Try]⟩
      case measure => simp [intOf]; omega
    · obtain rfl : k = l.length := by omega
      rw [List.take_length, Nat.sub_self, List.replicate_zero, List.append_nil] at ho
      go_wp2
      go_ret
      exact ⟨_, _, fp, rfl, ho, hf, hB⟩
end Go.Proofs.Ythnilnggpbploaa
