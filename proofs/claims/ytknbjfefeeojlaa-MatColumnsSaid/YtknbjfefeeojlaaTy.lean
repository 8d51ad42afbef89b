/- The facts on this program's types and functions that the walks use: each by the kernel. -/
import Derived.Test.YtknbjfefeeojlaaS
namespace Go.Proofs.Ytknbjfefeeojlaa
open Go.RowKit

theorem sc2 : Sc Try.prog 2 := .mk Try.underlying2 rfl
theorem sz2 : Sz Try.prog 2 1 := .mk (by kernel_rfl)
theorem zr2 : Zr Try.prog 2 (.int .i64 0) := .mk (by kernel_rfl)
theorem zc2 : Zc Try.prog 2 [.int .i64 0] := ⟨_, zr2, rfl⟩
theorem in2 : ∃ i, Try.prog.info? 2 = some i ∧ i.size = 1 ∧ i.bytes = 8 ∧ i.zero = some (.int .i64 0) := by
  obtain ⟨i, h1, h2⟩ := Option.map_eq_some_iff.1 (show (Try.prog.info? 2).map (fun i => (i.size, i.bytes, i.zero)) = some (1, 8, some (.int .i64 0)) by kernel_rfl)
  simp only [Prod.mk.injEq] at h2; exact ⟨i, h1, h2⟩
theorem sc3 : Sc Try.prog 3 := .mk Try.underlying3 rfl
theorem sz3 : Sz Try.prog 3 1 := .mk (by kernel_rfl)
theorem zr3 : Zr Try.prog 3 (.int .i64 0) := .mk (by kernel_rfl)
theorem zc3 : Zc Try.prog 3 [.int .i64 0] := ⟨_, zr3, rfl⟩
theorem in3 : ∃ i, Try.prog.info? 3 = some i ∧ i.size = 1 ∧ i.bytes = 8 ∧ i.zero = some (.int .i64 0) := by
  obtain ⟨i, h1, h2⟩ := Option.map_eq_some_iff.1 (show (Try.prog.info? 3).map (fun i => (i.size, i.bytes, i.zero)) = some (1, 8, some (.int .i64 0)) by kernel_rfl)
  simp only [Prod.mk.injEq] at h2; exact ⟨i, h1, h2⟩
theorem sc4 : Sc Try.prog 4 := .mk Try.underlying4 rfl
theorem sz4 : Sz Try.prog 4 1 := .mk (by kernel_rfl)
theorem zr4 : Zr Try.prog 4 (.bool false) := .mk (by kernel_rfl)
theorem zc4 : Zc Try.prog 4 [.bool false] := ⟨_, zr4, rfl⟩
theorem in4 : ∃ i, Try.prog.info? 4 = some i ∧ i.size = 1 ∧ i.bytes = 1 ∧ i.zero = some (.bool false) := by
  obtain ⟨i, h1, h2⟩ := Option.map_eq_some_iff.1 (show (Try.prog.info? 4).map (fun i => (i.size, i.bytes, i.zero)) = some (1, 1, some (.bool false)) by kernel_rfl)
  simp only [Prod.mk.injEq] at h2; exact ⟨i, h1, h2⟩
theorem sc9 : Sc Try.prog 9 := .mk Try.underlying9 rfl
theorem sz9 : Sz Try.prog 9 1 := .mk (by kernel_rfl)
theorem zr9 : Zr Try.prog 9 (.string ByteArray.empty) := .mk (by kernel_rfl)
theorem zc9 : Zc Try.prog 9 [.string ByteArray.empty] := ⟨_, zr9, rfl⟩
theorem in9 : ∃ i, Try.prog.info? 9 = some i ∧ i.size = 1 ∧ i.bytes = 16 ∧ i.zero = some (.string ByteArray.empty) := by
  obtain ⟨i, h1, h2⟩ := Option.map_eq_some_iff.1 (show (Try.prog.info? 9).map (fun i => (i.size, i.bytes, i.zero)) = some (1, 16, some (.string ByteArray.empty)) by kernel_rfl)
  simp only [Prod.mk.injEq] at h2; exact ⟨i, h1, h2⟩
theorem sc23 : Sc Try.prog 23 := .mk Try.underlying23 rfl
theorem sz23 : Sz Try.prog 23 1 := .mk (by kernel_rfl)
theorem sl23 : Sl Try.prog 23 49 := Try.underlying23
theorem zr23 : Zr Try.prog 23 (.slice none 0 0) := .mk (by kernel_rfl)
theorem zc23 : Zc Try.prog 23 [.slice none 0 0] := ⟨_, zr23, rfl⟩
theorem in23 : ∃ i, Try.prog.info? 23 = some i ∧ i.size = 1 ∧ i.bytes = 24 ∧ i.zero = some (.slice none 0 0) := by
  obtain ⟨i, h1, h2⟩ := Option.map_eq_some_iff.1 (show (Try.prog.info? 23).map (fun i => (i.size, i.bytes, i.zero)) = some (1, 24, some (.slice none 0 0)) by kernel_rfl)
  simp only [Prod.mk.injEq] at h2; exact ⟨i, h1, h2⟩
theorem sc25 : Sc Try.prog 25 := .mk Try.underlying25 rfl
theorem sz25 : Sz Try.prog 25 1 := .mk (by kernel_rfl)
theorem sl25 : Sl Try.prog 25 30 := Try.underlying25
theorem zr25 : Zr Try.prog 25 (.slice none 0 0) := .mk (by kernel_rfl)
theorem zc25 : Zc Try.prog 25 [.slice none 0 0] := ⟨_, zr25, rfl⟩
theorem in25 : ∃ i, Try.prog.info? 25 = some i ∧ i.size = 1 ∧ i.bytes = 24 ∧ i.zero = some (.slice none 0 0) := by
  obtain ⟨i, h1, h2⟩ := Option.map_eq_some_iff.1 (show (Try.prog.info? 25).map (fun i => (i.size, i.bytes, i.zero)) = some (1, 24, some (.slice none 0 0)) by kernel_rfl)
  simp only [Prod.mk.injEq] at h2; exact ⟨i, h1, h2⟩
theorem sc30 : Sc Try.prog 30 := .mk Try.underlying30 rfl
theorem sz30 : Sz Try.prog 30 1 := .mk (by kernel_rfl)
theorem sl30 : Sl Try.prog 30 43 := Try.underlying30
theorem zr30 : Zr Try.prog 30 (.slice none 0 0) := .mk (by kernel_rfl)
theorem zc30 : Zc Try.prog 30 [.slice none 0 0] := ⟨_, zr30, rfl⟩
theorem in30 : ∃ i, Try.prog.info? 30 = some i ∧ i.size = 1 ∧ i.bytes = 24 ∧ i.zero = some (.slice none 0 0) := by
  obtain ⟨i, h1, h2⟩ := Option.map_eq_some_iff.1 (show (Try.prog.info? 30).map (fun i => (i.size, i.bytes, i.zero)) = some (1, 24, some (.slice none 0 0)) by kernel_rfl)
  simp only [Prod.mk.injEq] at h2; exact ⟨i, h1, h2⟩
theorem sc39 : Sc Try.prog 39 := .mk Try.underlying39 rfl
theorem sz39 : Sz Try.prog 39 1 := .mk (by kernel_rfl)
theorem sl39 : Sl Try.prog 39 124 := Try.underlying39
theorem zr39 : Zr Try.prog 39 (.slice none 0 0) := .mk (by kernel_rfl)
theorem zc39 : Zc Try.prog 39 [.slice none 0 0] := ⟨_, zr39, rfl⟩
theorem in39 : ∃ i, Try.prog.info? 39 = some i ∧ i.size = 1 ∧ i.bytes = 24 ∧ i.zero = some (.slice none 0 0) := by
  obtain ⟨i, h1, h2⟩ := Option.map_eq_some_iff.1 (show (Try.prog.info? 39).map (fun i => (i.size, i.bytes, i.zero)) = some (1, 24, some (.slice none 0 0)) by kernel_rfl)
  simp only [Prod.mk.injEq] at h2; exact ⟨i, h1, h2⟩
theorem ag41 : Ag Try.prog 41 2 := .mk Try.underlying41 rfl (by kernel_rfl)
theorem sz41 : Sz Try.prog 41 2 := .mk (by kernel_rfl)
theorem zr41 : Zr Try.prog 41 (.agg #[.bool false, .slice none 0 0]) := .mk (by kernel_rfl)
theorem zc41 : Zc Try.prog 41 [.bool false, .slice none 0 0] := ⟨_, zr41, rfl⟩
theorem in41 : ∃ i, Try.prog.info? 41 = some i ∧ i.size = 2 ∧ i.bytes = 32 ∧ i.zero = some (.agg #[.bool false, .slice none 0 0]) := by
  obtain ⟨i, h1, h2⟩ := Option.map_eq_some_iff.1 (show (Try.prog.info? 41).map (fun i => (i.size, i.bytes, i.zero)) = some (2, 32, some (.agg #[.bool false, .slice none 0 0])) by kernel_rfl)
  simp only [Prod.mk.injEq] at h2; exact ⟨i, h1, h2⟩
theorem fd41_0 : Fd Try.prog 41 0 0 := .mk (s := 1) Try.underlying41 rfl rfl (by kernel_rfl) (by decide)
theorem fd41_1 : Fd Try.prog 41 1 1 := .mk (s := 1) Try.underlying41 rfl rfl (by kernel_rfl) (by decide)
theorem pl41 : places Try.prog 41 [(0, 1), (1, 1)] [.bool false, .slice none 0 0] := .mk Try.underlying41 (by kernel_rfl) zr41 rfl
theorem ag43 : Ag Try.prog 43 4 := .mk Try.underlying43 rfl (by kernel_rfl)
theorem sz43 : Sz Try.prog 43 4 := .mk (by kernel_rfl)
theorem zr43 : Zr Try.prog 43 (.agg #[.bool false, .slice none 0 0, .bool false, .slice none 0 0]) := .mk (by kernel_rfl)
theorem zc43 : Zc Try.prog 43 [.bool false, .slice none 0 0, .bool false, .slice none 0 0] := ⟨_, zr43, rfl⟩
theorem in43 : ∃ i, Try.prog.info? 43 = some i ∧ i.size = 4 ∧ i.bytes = 64 ∧ i.zero = some (.agg #[.bool false, .slice none 0 0, .bool false, .slice none 0 0]) := by
  obtain ⟨i, h1, h2⟩ := Option.map_eq_some_iff.1 (show (Try.prog.info? 43).map (fun i => (i.size, i.bytes, i.zero)) = some (4, 64, some (.agg #[.bool false, .slice none 0 0, .bool false, .slice none 0 0])) by kernel_rfl)
  simp only [Prod.mk.injEq] at h2; exact ⟨i, h1, h2⟩
theorem fd43_0 : Fd Try.prog 43 0 0 := .mk (s := 2) Try.underlying43 rfl rfl (by kernel_rfl) (by decide)
theorem fd43_1 : Fd Try.prog 43 1 2 := .mk (s := 2) Try.underlying43 rfl rfl (by kernel_rfl) (by decide)
theorem pl43 : places Try.prog 43 [(0, 2), (2, 2)] [.bool false, .slice none 0 0, .bool false, .slice none 0 0] := .mk Try.underlying43 (by kernel_rfl) zr43 rfl
theorem sc49 : Sc Try.prog 49 := .mk Try.underlying49 rfl
theorem sz49 : Sz Try.prog 49 1 := .mk (by kernel_rfl)
theorem sl49 : Sl Try.prog 49 2 := Try.underlying49
theorem zr49 : Zr Try.prog 49 (.slice none 0 0) := .mk (by kernel_rfl)
theorem zc49 : Zc Try.prog 49 [.slice none 0 0] := ⟨_, zr49, rfl⟩
theorem in49 : ∃ i, Try.prog.info? 49 = some i ∧ i.size = 1 ∧ i.bytes = 24 ∧ i.zero = some (.slice none 0 0) := by
  obtain ⟨i, h1, h2⟩ := Option.map_eq_some_iff.1 (show (Try.prog.info? 49).map (fun i => (i.size, i.bytes, i.zero)) = some (1, 24, some (.slice none 0 0)) by kernel_rfl)
  simp only [Prod.mk.injEq] at h2; exact ⟨i, h1, h2⟩
theorem sc53 : Sc Try.prog 53 := .mk Try.underlying53 rfl
theorem sz53 : Sz Try.prog 53 1 := .mk (by kernel_rfl)
theorem zr53 : Zr Try.prog 53 (.nilFunc) := .mk (by kernel_rfl)
theorem zc53 : Zc Try.prog 53 [.nilFunc] := ⟨_, zr53, rfl⟩
theorem in53 : ∃ i, Try.prog.info? 53 = some i ∧ i.size = 1 ∧ i.bytes = 8 ∧ i.zero = some (.nilFunc) := by
  obtain ⟨i, h1, h2⟩ := Option.map_eq_some_iff.1 (show (Try.prog.info? 53).map (fun i => (i.size, i.bytes, i.zero)) = some (1, 8, some (.nilFunc)) by kernel_rfl)
  simp only [Prod.mk.injEq] at h2; exact ⟨i, h1, h2⟩
theorem ag55 : Ag Try.prog 55 3 := .mk Try.underlying55 rfl (by kernel_rfl)
theorem sz55 : Sz Try.prog 55 3 := .mk (by kernel_rfl)
theorem zr55 : Zr Try.prog 55 (.agg #[.int .i64 0, .int .i64 0, .nilFunc]) := .mk (by kernel_rfl)
theorem zc55 : Zc Try.prog 55 [.int .i64 0, .int .i64 0, .nilFunc] := ⟨_, zr55, rfl⟩
theorem in55 : ∃ i, Try.prog.info? 55 = some i ∧ i.size = 3 ∧ i.bytes = 24 ∧ i.zero = some (.agg #[.int .i64 0, .int .i64 0, .nilFunc]) := by
  obtain ⟨i, h1, h2⟩ := Option.map_eq_some_iff.1 (show (Try.prog.info? 55).map (fun i => (i.size, i.bytes, i.zero)) = some (3, 24, some (.agg #[.int .i64 0, .int .i64 0, .nilFunc])) by kernel_rfl)
  simp only [Prod.mk.injEq] at h2; exact ⟨i, h1, h2⟩
theorem fd55_0 : Fd Try.prog 55 0 0 := .mk (s := 1) Try.underlying55 rfl rfl (by kernel_rfl) (by decide)
theorem fd55_1 : Fd Try.prog 55 1 1 := .mk (s := 1) Try.underlying55 rfl rfl (by kernel_rfl) (by decide)
theorem fd55_2 : Fd Try.prog 55 2 2 := .mk (s := 1) Try.underlying55 rfl rfl (by kernel_rfl) (by decide)
theorem pl55 : places Try.prog 55 [(0, 1), (1, 1), (2, 1)] [.int .i64 0, .int .i64 0, .nilFunc] := .mk Try.underlying55 (by kernel_rfl) zr55 rfl
theorem sc56 : Sc Try.prog 56 := .mk Try.underlying56 rfl
theorem sz56 : Sz Try.prog 56 1 := .mk (by kernel_rfl)
theorem sl56 : Sl Try.prog 56 25 := Try.underlying56
theorem zr56 : Zr Try.prog 56 (.slice none 0 0) := .mk (by kernel_rfl)
theorem zc56 : Zc Try.prog 56 [.slice none 0 0] := ⟨_, zr56, rfl⟩
theorem in56 : ∃ i, Try.prog.info? 56 = some i ∧ i.size = 1 ∧ i.bytes = 24 ∧ i.zero = some (.slice none 0 0) := by
  obtain ⟨i, h1, h2⟩ := Option.map_eq_some_iff.1 (show (Try.prog.info? 56).map (fun i => (i.size, i.bytes, i.zero)) = some (1, 24, some (.slice none 0 0)) by kernel_rfl)
  simp only [Prod.mk.injEq] at h2; exact ⟨i, h1, h2⟩
theorem sc62 : Sc Try.prog 62 := .mk Try.underlying62 rfl
theorem sz62 : Sz Try.prog 62 1 := .mk (by kernel_rfl)
theorem zr62 : Zr Try.prog 62 (.nilFunc) := .mk (by kernel_rfl)
theorem zc62 : Zc Try.prog 62 [.nilFunc] := ⟨_, zr62, rfl⟩
theorem in62 : ∃ i, Try.prog.info? 62 = some i ∧ i.size = 1 ∧ i.bytes = 8 ∧ i.zero = some (.nilFunc) := by
  obtain ⟨i, h1, h2⟩ := Option.map_eq_some_iff.1 (show (Try.prog.info? 62).map (fun i => (i.size, i.bytes, i.zero)) = some (1, 8, some (.nilFunc)) by kernel_rfl)
  simp only [Prod.mk.injEq] at h2; exact ⟨i, h1, h2⟩
theorem sc66 : Sc Try.prog 66 := .mk Try.underlying66 rfl
theorem sz66 : Sz Try.prog 66 1 := .mk (by kernel_rfl)
theorem zr66 : Zr Try.prog 66 (.pointer none) := .mk (by kernel_rfl)
theorem zc66 : Zc Try.prog 66 [.pointer none] := ⟨_, zr66, rfl⟩
theorem in66 : ∃ i, Try.prog.info? 66 = some i ∧ i.size = 1 ∧ i.bytes = 8 ∧ i.zero = some (.pointer none) := by
  obtain ⟨i, h1, h2⟩ := Option.map_eq_some_iff.1 (show (Try.prog.info? 66).map (fun i => (i.size, i.bytes, i.zero)) = some (1, 8, some (.pointer none)) by kernel_rfl)
  simp only [Prod.mk.injEq] at h2; exact ⟨i, h1, h2⟩
theorem sc67 : Sc Try.prog 67 := .mk Try.underlying67 rfl
theorem sz67 : Sz Try.prog 67 1 := .mk (by kernel_rfl)
theorem zr67 : Zr Try.prog 67 (.int .i64 0) := .mk (by kernel_rfl)
theorem zc67 : Zc Try.prog 67 [.int .i64 0] := ⟨_, zr67, rfl⟩
theorem in67 : ∃ i, Try.prog.info? 67 = some i ∧ i.size = 1 ∧ i.bytes = 8 ∧ i.zero = some (.int .i64 0) := by
  obtain ⟨i, h1, h2⟩ := Option.map_eq_some_iff.1 (show (Try.prog.info? 67).map (fun i => (i.size, i.bytes, i.zero)) = some (1, 8, some (.int .i64 0)) by kernel_rfl)
  simp only [Prod.mk.injEq] at h2; exact ⟨i, h1, h2⟩
theorem ag71 : Ag Try.prog 71 4 := .mk Try.underlying71 rfl (by kernel_rfl)
theorem sz71 : Sz Try.prog 71 4 := .mk (by kernel_rfl)
theorem zr71 : Zr Try.prog 71 (.agg #[.int .i64 0, .slice none 0 0, .slice none 0 0, .slice none 0 0]) := .mk (by kernel_rfl)
theorem zc71 : Zc Try.prog 71 [.int .i64 0, .slice none 0 0, .slice none 0 0, .slice none 0 0] := ⟨_, zr71, rfl⟩
theorem in71 : ∃ i, Try.prog.info? 71 = some i ∧ i.size = 4 ∧ i.bytes = 80 ∧ i.zero = some (.agg #[.int .i64 0, .slice none 0 0, .slice none 0 0, .slice none 0 0]) := by
  obtain ⟨i, h1, h2⟩ := Option.map_eq_some_iff.1 (show (Try.prog.info? 71).map (fun i => (i.size, i.bytes, i.zero)) = some (4, 80, some (.agg #[.int .i64 0, .slice none 0 0, .slice none 0 0, .slice none 0 0])) by kernel_rfl)
  simp only [Prod.mk.injEq] at h2; exact ⟨i, h1, h2⟩
theorem fd71_0 : Fd Try.prog 71 0 0 := .mk (s := 1) Try.underlying71 rfl rfl (by kernel_rfl) (by decide)
theorem fd71_1 : Fd Try.prog 71 1 1 := .mk (s := 1) Try.underlying71 rfl rfl (by kernel_rfl) (by decide)
theorem fd71_2 : Fd Try.prog 71 2 2 := .mk (s := 1) Try.underlying71 rfl rfl (by kernel_rfl) (by decide)
theorem fd71_3 : Fd Try.prog 71 3 3 := .mk (s := 1) Try.underlying71 rfl rfl (by kernel_rfl) (by decide)
theorem pl71 : places Try.prog 71 [(0, 1), (1, 1), (2, 1), (3, 1)] [.int .i64 0, .slice none 0 0, .slice none 0 0, .slice none 0 0] := .mk Try.underlying71 (by kernel_rfl) zr71 rfl
theorem sc74 : Sc Try.prog 74 := .mk Try.underlying74 rfl
theorem sz74 : Sz Try.prog 74 1 := .mk (by kernel_rfl)
theorem sl74 : Sl Try.prog 74 3 := Try.underlying74
theorem zr74 : Zr Try.prog 74 (.slice none 0 0) := .mk (by kernel_rfl)
theorem zc74 : Zc Try.prog 74 [.slice none 0 0] := ⟨_, zr74, rfl⟩
theorem in74 : ∃ i, Try.prog.info? 74 = some i ∧ i.size = 1 ∧ i.bytes = 24 ∧ i.zero = some (.slice none 0 0) := by
  obtain ⟨i, h1, h2⟩ := Option.map_eq_some_iff.1 (show (Try.prog.info? 74).map (fun i => (i.size, i.bytes, i.zero)) = some (1, 24, some (.slice none 0 0)) by kernel_rfl)
  simp only [Prod.mk.injEq] at h2; exact ⟨i, h1, h2⟩
theorem ag85 : Ag Try.prog 85 8 := .mk Try.underlying85 rfl (by kernel_rfl)
theorem sz85 : Sz Try.prog 85 8 := .mk (by kernel_rfl)
theorem zr85 : Zr Try.prog 85 (.agg #[.bool false, .slice none 0 0, .bool false, .slice none 0 0, .bool false, .slice none 0 0, .bool false, .slice none 0 0]) := .mk (by kernel_rfl)
theorem zc85 : Zc Try.prog 85 [.bool false, .slice none 0 0, .bool false, .slice none 0 0, .bool false, .slice none 0 0, .bool false, .slice none 0 0] := ⟨_, zr85, rfl⟩
theorem in85 : ∃ i, Try.prog.info? 85 = some i ∧ i.size = 8 ∧ i.bytes = 128 ∧ i.zero = some (.agg #[.bool false, .slice none 0 0, .bool false, .slice none 0 0, .bool false, .slice none 0 0, .bool false, .slice none 0 0]) := by
  obtain ⟨i, h1, h2⟩ := Option.map_eq_some_iff.1 (show (Try.prog.info? 85).map (fun i => (i.size, i.bytes, i.zero)) = some (8, 128, some (.agg #[.bool false, .slice none 0 0, .bool false, .slice none 0 0, .bool false, .slice none 0 0, .bool false, .slice none 0 0])) by kernel_rfl)
  simp only [Prod.mk.injEq] at h2; exact ⟨i, h1, h2⟩
theorem sc86 : Sc Try.prog 86 := .mk Try.underlying86 rfl
theorem sz86 : Sz Try.prog 86 1 := .mk (by kernel_rfl)
theorem zr86 : Zr Try.prog 86 (.nilFunc) := .mk (by kernel_rfl)
theorem zc86 : Zc Try.prog 86 [.nilFunc] := ⟨_, zr86, rfl⟩
theorem in86 : ∃ i, Try.prog.info? 86 = some i ∧ i.size = 1 ∧ i.bytes = 8 ∧ i.zero = some (.nilFunc) := by
  obtain ⟨i, h1, h2⟩ := Option.map_eq_some_iff.1 (show (Try.prog.info? 86).map (fun i => (i.size, i.bytes, i.zero)) = some (1, 8, some (.nilFunc)) by kernel_rfl)
  simp only [Prod.mk.injEq] at h2; exact ⟨i, h1, h2⟩
theorem ag89 : Ag Try.prog 89 4 := .mk Try.underlying89 rfl (by kernel_rfl)
theorem sz89 : Sz Try.prog 89 4 := .mk (by kernel_rfl)
theorem zr89 : Zr Try.prog 89 (.agg #[.bool false, .slice none 0 0, .bool false, .slice none 0 0]) := .mk (by kernel_rfl)
theorem zc89 : Zc Try.prog 89 [.bool false, .slice none 0 0, .bool false, .slice none 0 0] := ⟨_, zr89, rfl⟩
theorem in89 : ∃ i, Try.prog.info? 89 = some i ∧ i.size = 4 ∧ i.bytes = 64 ∧ i.zero = some (.agg #[.bool false, .slice none 0 0, .bool false, .slice none 0 0]) := by
  obtain ⟨i, h1, h2⟩ := Option.map_eq_some_iff.1 (show (Try.prog.info? 89).map (fun i => (i.size, i.bytes, i.zero)) = some (4, 64, some (.agg #[.bool false, .slice none 0 0, .bool false, .slice none 0 0])) by kernel_rfl)
  simp only [Prod.mk.injEq] at h2; exact ⟨i, h1, h2⟩
theorem fd89_0 : Fd Try.prog 89 0 0 := .mk (s := 2) Try.underlying89 rfl rfl (by kernel_rfl) (by decide)
theorem fd89_1 : Fd Try.prog 89 1 2 := .mk (s := 2) Try.underlying89 rfl rfl (by kernel_rfl) (by decide)
theorem pl89 : places Try.prog 89 [(0, 2), (2, 2)] [.bool false, .slice none 0 0, .bool false, .slice none 0 0] := .mk Try.underlying89 (by kernel_rfl) zr89 rfl
theorem ag96 : Ag Try.prog 96 4 := .mk Try.underlying96 rfl (by kernel_rfl)
theorem sz96 : Sz Try.prog 96 4 := .mk (by kernel_rfl)
theorem zr96 : Zr Try.prog 96 (.agg #[.int .i64 0, .slice none 0 0, .slice none 0 0, .slice none 0 0]) := .mk (by kernel_rfl)
theorem zc96 : Zc Try.prog 96 [.int .i64 0, .slice none 0 0, .slice none 0 0, .slice none 0 0] := ⟨_, zr96, rfl⟩
theorem in96 : ∃ i, Try.prog.info? 96 = some i ∧ i.size = 4 ∧ i.bytes = 80 ∧ i.zero = some (.agg #[.int .i64 0, .slice none 0 0, .slice none 0 0, .slice none 0 0]) := by
  obtain ⟨i, h1, h2⟩ := Option.map_eq_some_iff.1 (show (Try.prog.info? 96).map (fun i => (i.size, i.bytes, i.zero)) = some (4, 80, some (.agg #[.int .i64 0, .slice none 0 0, .slice none 0 0, .slice none 0 0])) by kernel_rfl)
  simp only [Prod.mk.injEq] at h2; exact ⟨i, h1, h2⟩
theorem fd96_0 : Fd Try.prog 96 0 0 := .mk (s := 1) Try.underlying96 rfl rfl (by kernel_rfl) (by decide)
theorem fd96_1 : Fd Try.prog 96 1 1 := .mk (s := 1) Try.underlying96 rfl rfl (by kernel_rfl) (by decide)
theorem fd96_2 : Fd Try.prog 96 2 2 := .mk (s := 1) Try.underlying96 rfl rfl (by kernel_rfl) (by decide)
theorem fd96_3 : Fd Try.prog 96 3 3 := .mk (s := 1) Try.underlying96 rfl rfl (by kernel_rfl) (by decide)
theorem pl96 : places Try.prog 96 [(0, 1), (1, 1), (2, 1), (3, 1)] [.int .i64 0, .slice none 0 0, .slice none 0 0, .slice none 0 0] := .mk Try.underlying96 (by kernel_rfl) zr96 rfl
theorem sc107 : Sc Try.prog 107 := .mk Try.underlying107 rfl
theorem sz107 : Sz Try.prog 107 1 := .mk (by kernel_rfl)
theorem zr107 : Zr Try.prog 107 (.nilFunc) := .mk (by kernel_rfl)
theorem zc107 : Zc Try.prog 107 [.nilFunc] := ⟨_, zr107, rfl⟩
theorem in107 : ∃ i, Try.prog.info? 107 = some i ∧ i.size = 1 ∧ i.bytes = 8 ∧ i.zero = some (.nilFunc) := by
  obtain ⟨i, h1, h2⟩ := Option.map_eq_some_iff.1 (show (Try.prog.info? 107).map (fun i => (i.size, i.bytes, i.zero)) = some (1, 8, some (.nilFunc)) by kernel_rfl)
  simp only [Prod.mk.injEq] at h2; exact ⟨i, h1, h2⟩
theorem ag109 : Ag Try.prog 109 1 := .mk Try.underlying109 rfl (by kernel_rfl)
theorem sz109 : Sz Try.prog 109 1 := .mk (by kernel_rfl)
theorem zr109 : Zr Try.prog 109 (.agg #[.nilFunc]) := .mk (by kernel_rfl)
theorem zc109 : Zc Try.prog 109 [.nilFunc] := ⟨_, zr109, rfl⟩
theorem in109 : ∃ i, Try.prog.info? 109 = some i ∧ i.size = 1 ∧ i.bytes = 8 ∧ i.zero = some (.agg #[.nilFunc]) := by
  obtain ⟨i, h1, h2⟩ := Option.map_eq_some_iff.1 (show (Try.prog.info? 109).map (fun i => (i.size, i.bytes, i.zero)) = some (1, 8, some (.agg #[.nilFunc])) by kernel_rfl)
  simp only [Prod.mk.injEq] at h2; exact ⟨i, h1, h2⟩
theorem fd109_0 : Fd Try.prog 109 0 0 := .mk (s := 1) Try.underlying109 rfl rfl (by kernel_rfl) (by decide)
theorem pl109 : places Try.prog 109 [(0, 1)] [.nilFunc] := .mk Try.underlying109 (by kernel_rfl) zr109 rfl
theorem sc118 : Sc Try.prog 118 := .mk Try.underlying118 rfl
theorem sz118 : Sz Try.prog 118 1 := .mk (by kernel_rfl)
theorem sl118 : Sl Try.prog 118 41 := Try.underlying118
theorem zr118 : Zr Try.prog 118 (.slice none 0 0) := .mk (by kernel_rfl)
theorem zc118 : Zc Try.prog 118 [.slice none 0 0] := ⟨_, zr118, rfl⟩
theorem in118 : ∃ i, Try.prog.info? 118 = some i ∧ i.size = 1 ∧ i.bytes = 24 ∧ i.zero = some (.slice none 0 0) := by
  obtain ⟨i, h1, h2⟩ := Option.map_eq_some_iff.1 (show (Try.prog.info? 118).map (fun i => (i.size, i.bytes, i.zero)) = some (1, 24, some (.slice none 0 0)) by kernel_rfl)
  simp only [Prod.mk.injEq] at h2; exact ⟨i, h1, h2⟩
theorem sc122 : Sc Try.prog 122 := .mk Try.underlying122 rfl
theorem sz122 : Sz Try.prog 122 1 := .mk (by kernel_rfl)
theorem zr122 : Zr Try.prog 122 (.int .u64 0) := .mk (by kernel_rfl)
theorem zc122 : Zc Try.prog 122 [.int .u64 0] := ⟨_, zr122, rfl⟩
theorem in122 : ∃ i, Try.prog.info? 122 = some i ∧ i.size = 1 ∧ i.bytes = 8 ∧ i.zero = some (.int .u64 0) := by
  obtain ⟨i, h1, h2⟩ := Option.map_eq_some_iff.1 (show (Try.prog.info? 122).map (fun i => (i.size, i.bytes, i.zero)) = some (1, 8, some (.int .u64 0)) by kernel_rfl)
  simp only [Prod.mk.injEq] at h2; exact ⟨i, h1, h2⟩
theorem sc124 : Sc Try.prog 124 := .mk Try.underlying124 rfl
theorem sz124 : Sz Try.prog 124 1 := .mk (by kernel_rfl)
theorem zr124 : Zr Try.prog 124 (.int .u32 0) := .mk (by kernel_rfl)
theorem zc124 : Zc Try.prog 124 [.int .u32 0] := ⟨_, zr124, rfl⟩
theorem in124 : ∃ i, Try.prog.info? 124 = some i ∧ i.size = 1 ∧ i.bytes = 4 ∧ i.zero = some (.int .u32 0) := by
  obtain ⟨i, h1, h2⟩ := Option.map_eq_some_iff.1 (show (Try.prog.info? 124).map (fun i => (i.size, i.bytes, i.zero)) = some (1, 4, some (.int .u32 0)) by kernel_rfl)
  simp only [Prod.mk.injEq] at h2; exact ⟨i, h1, h2⟩
theorem ag133 : Ag Try.prog 133 4 := .mk Try.underlying133 rfl (by kernel_rfl)
theorem sz133 : Sz Try.prog 133 4 := .mk (by kernel_rfl)
theorem zr133 : Zr Try.prog 133 (.agg #[.int .i64 0, .int .i64 0, .int .i64 0, .int .i64 0]) := .mk (by kernel_rfl)
theorem zc133 : Zc Try.prog 133 [.int .i64 0, .int .i64 0, .int .i64 0, .int .i64 0] := ⟨_, zr133, rfl⟩
theorem in133 : ∃ i, Try.prog.info? 133 = some i ∧ i.size = 4 ∧ i.bytes = 32 ∧ i.zero = some (.agg #[.int .i64 0, .int .i64 0, .int .i64 0, .int .i64 0]) := by
  obtain ⟨i, h1, h2⟩ := Option.map_eq_some_iff.1 (show (Try.prog.info? 133).map (fun i => (i.size, i.bytes, i.zero)) = some (4, 32, some (.agg #[.int .i64 0, .int .i64 0, .int .i64 0, .int .i64 0])) by kernel_rfl)
  simp only [Prod.mk.injEq] at h2; exact ⟨i, h1, h2⟩
theorem fd133_0 : Fd Try.prog 133 0 0 := .mk (s := 1) Try.underlying133 rfl rfl (by kernel_rfl) (by decide)
theorem fd133_1 : Fd Try.prog 133 1 1 := .mk (s := 1) Try.underlying133 rfl rfl (by kernel_rfl) (by decide)
theorem fd133_2 : Fd Try.prog 133 2 2 := .mk (s := 1) Try.underlying133 rfl rfl (by kernel_rfl) (by decide)
theorem fd133_3 : Fd Try.prog 133 3 3 := .mk (s := 1) Try.underlying133 rfl rfl (by kernel_rfl) (by decide)
theorem pl133 : places Try.prog 133 [(0, 1), (1, 1), (2, 1), (3, 1)] [.int .i64 0, .int .i64 0, .int .i64 0, .int .i64 0] := .mk Try.underlying133 (by kernel_rfl) zr133 rfl
theorem sc138 : Sc Try.prog 138 := .mk Try.underlying138 rfl
theorem sz138 : Sz Try.prog 138 1 := .mk (by kernel_rfl)
theorem zr138 : Zr Try.prog 138 (.nilFunc) := .mk (by kernel_rfl)
theorem zc138 : Zc Try.prog 138 [.nilFunc] := ⟨_, zr138, rfl⟩
theorem in138 : ∃ i, Try.prog.info? 138 = some i ∧ i.size = 1 ∧ i.bytes = 8 ∧ i.zero = some (.nilFunc) := by
  obtain ⟨i, h1, h2⟩ := Option.map_eq_some_iff.1 (show (Try.prog.info? 138).map (fun i => (i.size, i.bytes, i.zero)) = some (1, 8, some (.nilFunc)) by kernel_rfl)
  simp only [Prod.mk.injEq] at h2; exact ⟨i, h1, h2⟩
theorem ag140 : Ag Try.prog 140 1 := .mk Try.underlying140 rfl (by kernel_rfl)
theorem sz140 : Sz Try.prog 140 1 := .mk (by kernel_rfl)
theorem zr140 : Zr Try.prog 140 (.agg #[.nilFunc]) := .mk (by kernel_rfl)
theorem zc140 : Zc Try.prog 140 [.nilFunc] := ⟨_, zr140, rfl⟩
theorem in140 : ∃ i, Try.prog.info? 140 = some i ∧ i.size = 1 ∧ i.bytes = 8 ∧ i.zero = some (.agg #[.nilFunc]) := by
  obtain ⟨i, h1, h2⟩ := Option.map_eq_some_iff.1 (show (Try.prog.info? 140).map (fun i => (i.size, i.bytes, i.zero)) = some (1, 8, some (.agg #[.nilFunc])) by kernel_rfl)
  simp only [Prod.mk.injEq] at h2; exact ⟨i, h1, h2⟩
theorem fd140_0 : Fd Try.prog 140 0 0 := .mk (s := 1) Try.underlying140 rfl rfl (by kernel_rfl) (by decide)
theorem pl140 : places Try.prog 140 [(0, 1)] [.nilFunc] := .mk Try.underlying140 (by kernel_rfl) zr140 rfl
theorem sc141 : Sc Try.prog 141 := .mk Try.underlying141 rfl
theorem sz141 : Sz Try.prog 141 1 := .mk (by kernel_rfl)
theorem zr141 : Zr Try.prog 141 (.map none) := .mk (by kernel_rfl)
theorem zc141 : Zc Try.prog 141 [.map none] := ⟨_, zr141, rfl⟩
theorem in141 : ∃ i, Try.prog.info? 141 = some i ∧ i.size = 1 ∧ i.bytes = 8 ∧ i.zero = some (.map none) := by
  obtain ⟨i, h1, h2⟩ := Option.map_eq_some_iff.1 (show (Try.prog.info? 141).map (fun i => (i.size, i.bytes, i.zero)) = some (1, 8, some (.map none)) by kernel_rfl)
  simp only [Prod.mk.injEq] at h2; exact ⟨i, h1, h2⟩
theorem sc149 : Sc Try.prog 149 := .mk Try.underlying149 rfl
theorem sz149 : Sz Try.prog 149 1 := .mk (by kernel_rfl)
theorem zr149 : Zr Try.prog 149 (.nilFunc) := .mk (by kernel_rfl)
theorem zc149 : Zc Try.prog 149 [.nilFunc] := ⟨_, zr149, rfl⟩
theorem in149 : ∃ i, Try.prog.info? 149 = some i ∧ i.size = 1 ∧ i.bytes = 8 ∧ i.zero = some (.nilFunc) := by
  obtain ⟨i, h1, h2⟩ := Option.map_eq_some_iff.1 (show (Try.prog.info? 149).map (fun i => (i.size, i.bytes, i.zero)) = some (1, 8, some (.nilFunc)) by kernel_rfl)
  simp only [Prod.mk.injEq] at h2; exact ⟨i, h1, h2⟩
theorem e7 : Ent Try.prog 7 := enters_of Try.func7 (by kernel_rfl) rfl
theorem e8 : Ent Try.prog 8 := enters_of Try.func8 (by kernel_rfl) rfl
theorem e9 : Ent Try.prog 9 := enters_of Try.func9 (by kernel_rfl) rfl
theorem e10 : Ent Try.prog 10 := enters_of Try.func10 (by kernel_rfl) rfl
theorem e11 : Ent Try.prog 11 := enters_of Try.func11 (by kernel_rfl) rfl
theorem e12 : Ent Try.prog 12 := enters_of Try.func12 (by kernel_rfl) rfl
theorem e13 : Ent Try.prog 13 := enters_of Try.func13 (by kernel_rfl) rfl
theorem e14 : Ent Try.prog 14 := enters_of Try.func14 (by kernel_rfl) rfl
theorem e15 : Ent Try.prog 15 := enters_of Try.func15 (by kernel_rfl) rfl
theorem e16 : Ent Try.prog 16 := enters_of Try.func16 (by kernel_rfl) rfl
theorem e17 : Ent Try.prog 17 := enters_of Try.func17 (by kernel_rfl) rfl
theorem e18 : Ent Try.prog 18 := enters_of Try.func18 (by kernel_rfl) rfl
theorem e19 : Ent Try.prog 19 := enters_of Try.func19 (by kernel_rfl) rfl
theorem e20 : Ent Try.prog 20 := enters_of Try.func20 (by kernel_rfl) rfl
theorem e21 : Ent Try.prog 21 := enters_of Try.func21 (by kernel_rfl) rfl
theorem e22 : Ent Try.prog 22 := enters_of Try.func22 (by kernel_rfl) rfl
theorem e23 : Ent Try.prog 23 := enters_of Try.func23 (by kernel_rfl) rfl
theorem e24 : Ent Try.prog 24 := enters_of Try.func24 (by kernel_rfl) rfl
theorem e25 : Ent Try.prog 25 := enters_of Try.func25 (by kernel_rfl) rfl
theorem e26 : Ent Try.prog 26 := enters_of Try.func26 (by kernel_rfl) rfl
theorem e27 : Ent Try.prog 27 := enters_of Try.func27 (by kernel_rfl) rfl
theorem e28 : Ent Try.prog 28 := enters_of Try.func28 (by kernel_rfl) rfl
theorem e29 : Ent Try.prog 29 := enters_of Try.func29 (by kernel_rfl) rfl
theorem e30 : Ent Try.prog 30 := enters_of Try.func30 (by kernel_rfl) rfl
theorem e31 : Ent Try.prog 31 := enters_of Try.func31 (by kernel_rfl) rfl
theorem e32 : Ent Try.prog 32 := enters_of Try.func32 (by kernel_rfl) rfl
theorem e33 : Ent Try.prog 33 := enters_of Try.func33 (by kernel_rfl) rfl
theorem e34 : Ent Try.prog 34 := enters_of Try.func34 (by kernel_rfl) rfl
theorem e35 : Ent Try.prog 35 := enters_of Try.func35 (by kernel_rfl) rfl
theorem e36 : Ent Try.prog 36 := enters_of Try.func36 (by kernel_rfl) rfl
theorem e37 : Ent Try.prog 37 := enters_of Try.func37 (by kernel_rfl) rfl
theorem e38 : Ent Try.prog 38 := enters_of Try.func38 (by kernel_rfl) rfl
theorem e39 : Ent Try.prog 39 := enters_of Try.func39 (by kernel_rfl) rfl
theorem e40 : Ent Try.prog 40 := enters_of Try.func40 (by kernel_rfl) rfl
theorem e41 : Ent Try.prog 41 := enters_of Try.func41 (by kernel_rfl) rfl
theorem e42 : Ent Try.prog 42 := enters_of Try.func42 (by kernel_rfl) rfl
theorem e43 : Ent Try.prog 43 := enters_of Try.func43 (by kernel_rfl) rfl
theorem e44 : Ent Try.prog 44 := enters_of Try.func44 (by kernel_rfl) rfl
theorem e45 : Ent Try.prog 45 := enters_of Try.func45 (by kernel_rfl) rfl
theorem e46 : Ent Try.prog 46 := enters_of Try.func46 (by kernel_rfl) rfl
theorem e47 : Ent Try.prog 47 := enters_of Try.func47 (by kernel_rfl) rfl
theorem e48 : Ent Try.prog 48 := enters_of Try.func48 (by kernel_rfl) rfl
theorem e49 : Ent Try.prog 49 := enters_of Try.func49 (by kernel_rfl) rfl
theorem e50 : Ent Try.prog 50 := enters_of Try.func50 (by kernel_rfl) rfl
theorem e51 : Ent Try.prog 51 := enters_of Try.func51 (by kernel_rfl) rfl
theorem e52 : Ent Try.prog 52 := enters_of Try.func52 (by kernel_rfl) rfl
theorem e53 : Ent Try.prog 53 := enters_of Try.func53 (by kernel_rfl) rfl
theorem e54 : Ent Try.prog 54 := enters_of Try.func54 (by kernel_rfl) rfl
theorem e55 : Ent Try.prog 55 := enters_of Try.func55 (by kernel_rfl) rfl
theorem e56 : Ent Try.prog 56 := enters_of Try.func56 (by kernel_rfl) rfl
theorem e57 : Ent Try.prog 57 := enters_of Try.func57 (by kernel_rfl) rfl
theorem e58 : Ent Try.prog 58 := enters_of Try.func58 (by kernel_rfl) rfl
theorem e59 : Ent Try.prog 59 := enters_of Try.func59 (by kernel_rfl) rfl
theorem e60 : Ent Try.prog 60 := enters_of Try.func60 (by kernel_rfl) rfl
theorem e61 : Ent Try.prog 61 := enters_of Try.func61 (by kernel_rfl) rfl
theorem e62 : Ent Try.prog 62 := enters_of Try.func62 (by kernel_rfl) rfl
theorem e63 : Ent Try.prog 63 := enters_of Try.func63 (by kernel_rfl) rfl
theorem e64 : Ent Try.prog 64 := enters_of Try.func64 (by kernel_rfl) rfl
theorem e65 : Ent Try.prog 65 := enters_of Try.func65 (by kernel_rfl) rfl
theorem e66 : Ent Try.prog 66 := enters_of Try.func66 (by kernel_rfl) rfl
theorem e67 : Ent Try.prog 67 := enters_of Try.func67 (by kernel_rfl) rfl
theorem e68 : Ent Try.prog 68 := enters_of Try.func68 (by kernel_rfl) rfl
theorem e69 : Ent Try.prog 69 := enters_of Try.func69 (by kernel_rfl) rfl
theorem e70 : Ent Try.prog 70 := enters_of Try.func70 (by kernel_rfl) rfl
theorem e71 : Ent Try.prog 71 := enters_of Try.func71 (by kernel_rfl) rfl
theorem e72 : Ent Try.prog 72 := enters_of Try.func72 (by kernel_rfl) rfl
theorem e73 : Ent Try.prog 73 := enters_of Try.func73 (by kernel_rfl) rfl
theorem e74 : Ent Try.prog 74 := enters_of Try.func74 (by kernel_rfl) rfl
theorem e75 : Ent Try.prog 75 := enters_of Try.func75 (by kernel_rfl) rfl
theorem e76 : Ent Try.prog 76 := enters_of Try.func76 (by kernel_rfl) rfl
theorem e77 : Ent Try.prog 77 := enters_of Try.func77 (by kernel_rfl) rfl
theorem e78 : Ent Try.prog 78 := enters_of Try.func78 (by kernel_rfl) rfl
theorem e79 : Ent Try.prog 79 := enters_of Try.func79 (by kernel_rfl) rfl
theorem e80 : Ent Try.prog 80 := enters_of Try.func80 (by kernel_rfl) rfl
theorem e81 : Ent Try.prog 81 := enters_of Try.func81 (by kernel_rfl) rfl
theorem e82 : Ent Try.prog 82 := enters_of Try.func82 (by kernel_rfl) rfl
theorem e83 : Ent Try.prog 83 := enters_of Try.func83 (by kernel_rfl) rfl
theorem e84 : Ent Try.prog 84 := enters_of Try.func84 (by kernel_rfl) rfl
theorem e85 : Ent Try.prog 85 := enters_of Try.func85 (by kernel_rfl) rfl
theorem e86 : Ent Try.prog 86 := enters_of Try.func86 (by kernel_rfl) rfl
theorem e87 : Ent Try.prog 87 := enters_of Try.func87 (by kernel_rfl) rfl
theorem e88 : Ent Try.prog 88 := enters_of Try.func88 (by kernel_rfl) rfl
theorem e89 : Ent Try.prog 89 := enters_of Try.func89 (by kernel_rfl) rfl
theorem e90 : Ent Try.prog 90 := enters_of Try.func90 (by kernel_rfl) rfl
theorem e91 : Ent Try.prog 91 := enters_of Try.func91 (by kernel_rfl) rfl
theorem e92 : Ent Try.prog 92 := enters_of Try.func92 (by kernel_rfl) rfl
theorem e93 : Ent Try.prog 93 := enters_of Try.func93 (by kernel_rfl) rfl
theorem e94 : Ent Try.prog 94 := enters_of Try.func94 (by kernel_rfl) rfl
theorem e95 : Ent Try.prog 95 := enters_of Try.func95 (by kernel_rfl) rfl
theorem e96 : Ent Try.prog 96 := enters_of Try.func96 (by kernel_rfl) rfl
theorem e97 : Ent Try.prog 97 := enters_of Try.func97 (by kernel_rfl) rfl
theorem e98 : Ent Try.prog 98 := enters_of Try.func98 (by kernel_rfl) rfl
theorem e99 : Ent Try.prog 99 := enters_of Try.func99 (by kernel_rfl) rfl
theorem e100 : Ent Try.prog 100 := enters_of Try.func100 (by kernel_rfl) rfl
theorem e101 : Ent Try.prog 101 := enters_of Try.func101 (by kernel_rfl) rfl
theorem e102 : Ent Try.prog 102 := enters_of Try.func102 (by kernel_rfl) rfl
theorem e103 : Ent Try.prog 103 := enters_of Try.func103 (by kernel_rfl) rfl
theorem e104 : Ent Try.prog 104 := enters_of Try.func104 (by kernel_rfl) rfl
theorem e105 : Ent Try.prog 105 := enters_of Try.func105 (by kernel_rfl) rfl
theorem e106 : Ent Try.prog 106 := enters_of Try.func106 (by kernel_rfl) rfl
theorem e107 : Ent Try.prog 107 := enters_of Try.func107 (by kernel_rfl) rfl
theorem e108 : Ent Try.prog 108 := enters_of Try.func108 (by kernel_rfl) rfl
theorem e109 : Ent Try.prog 109 := enters_of Try.func109 (by kernel_rfl) rfl
theorem e110 : Ent Try.prog 110 := enters_of Try.func110 (by kernel_rfl) rfl
theorem e111 : Ent Try.prog 111 := enters_of Try.func111 (by kernel_rfl) rfl
theorem e112 : Ent Try.prog 112 := enters_of Try.func112 (by kernel_rfl) rfl
theorem e113 : Ent Try.prog 113 := enters_of Try.func113 (by kernel_rfl) rfl
theorem e114 : Ent Try.prog 114 := enters_of Try.func114 (by kernel_rfl) rfl
theorem e115 : Ent Try.prog 115 := enters_of Try.func115 (by kernel_rfl) rfl
theorem e116 : Ent Try.prog 116 := enters_of Try.func116 (by kernel_rfl) rfl
theorem e117 : Ent Try.prog 117 := enters_of Try.func117 (by kernel_rfl) rfl
theorem e118 : Ent Try.prog 118 := enters_of Try.func118 (by kernel_rfl) rfl
theorem e119 : Ent Try.prog 119 := enters_of Try.func119 (by kernel_rfl) rfl
theorem e120 : Ent Try.prog 120 := enters_of Try.func120 (by kernel_rfl) rfl
theorem e121 : Ent Try.prog 121 := enters_of Try.func121 (by kernel_rfl) rfl
theorem e122 : Ent Try.prog 122 := enters_of Try.func122 (by kernel_rfl) rfl
theorem e123 : Ent Try.prog 123 := enters_of Try.func123 (by kernel_rfl) rfl
theorem e124 : Ent Try.prog 124 := enters_of Try.func124 (by kernel_rfl) rfl
theorem mixed : Try.prog.follows .mixedOrders = true := by kernel_rfl
end Go.Proofs.Ytknbjfefeeojlaa
