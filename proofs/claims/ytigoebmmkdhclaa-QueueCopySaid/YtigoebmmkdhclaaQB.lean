import Derived.Test.YtigoebmmkdhclaaGSwap
import Derived.Test.YtigoebmmkdhclaaPqFqueue_entries_Less
import Derived.Test.YtigoebmmkdhclaaPqFqueue_entries_Len
import Derived.Test.YtigoebmmkdhclaaQHeap
import Derived.Lib.Hide
import Derived.Outline
namespace Go.Proofs.Ytigoebmmkdhclaa.Pq
open Go.RowKit Go.Proofs.YtigoebmmkdhclaaW.PrintWords Go.Proofs.YtigoebmmkdhclaaW.PrintLast Go.Proofs.YtigoebmmkdhclaaW.PrintMore
open QHeap

theorem m_push (a : Addr) (w : World) : (method 178 46 (.pointer (some a)) "Push").run Try.prog w = .ok (48, .pointer (some a)) w := by kernel_rfl
theorem m_pop (a : Addr) (w : World) : (method 178 46 (.pointer (some a)) "Pop").run Try.prog w = .ok (47, .pointer (some a)) w := by kernel_rfl
theorem m_load {a : Addr} {w : World} {v : Value} (h : w.cell? a = some v) : (loadVar 42 a).run Try.prog w = .ok v w := by
  simp [loadVar, isAgg, go_sem, h]
theorem m_recv (nm : String) {a : Addr} {w : World} {v : Value} (h : w.cell? a = some v) : (receiverAt 46 (.val (.pointer (some a))) false (some nm)).run Try.prog w = .ok v w := by
  have hl := m_load h
  have hu : Try.prog.underlying 46 = some (.pointer 42) := by kernel_rfl
  have hw : ∀ s1 s2, (Builtin.ssaWrapNilChk_ #[46] 46 #[.pointer (some a), strVal s1, strVal s2]).run Try.prog w = .ok (.pointer (some a)) w := fun _ _ => rfl
  unfold receiverAt
  simp only [Sem.run_bind, run_underlying hu, Result.andThen_ok, Place.get, Sem.run_pure, hw, asAddr, hl]
/-- A method with a plain receiver, by a pointer to it. -/
theorem m_val (nm : String) (f : FuncId) (h1 : (Try.prog.info? 46).bind (fun i => (i.methods.find? (·.name == nm)).map (fun m => m.path.size)) = some 0)
    (h2 : (Try.prog.info? 46).bind (fun i => (i.methods.find? (·.name == nm)).map (fun m => m.func)) = some (some (f, false))) {a : Addr} {w : World} {v : Value} (h : w.cell? a = some v) :
    (method 178 46 (.pointer (some a)) nm).run Try.prog w = .ok (f, v) w := by
  obtain ⟨i, hi, h1⟩ := Option.bind_eq_some_iff.1 h1
  obtain ⟨m, hm, h1⟩ := Option.map_eq_some_iff.1 h1
  rw [hi] at h2
  simp only [Option.bind_some, hm, Option.map_some, Option.some.injEq] at h2
  have hp : m.path = #[] := by simpa using h1
  have hr := fun n => m_recv n h
  have ht : (typeInfo 46).run Try.prog w = .ok i w := by simp [typeInfo, hi, go_sem]
  unfold method
  simp only [Sem.run_bind, ht, Result.andThen_ok, hm, hp, follow, Sem.run_pure, h2, Array.isEmpty_empty, if_true, hr]
theorem m_less {a : Addr} {w : World} {v : Value} (h : w.cell? a = some v) : (method 178 46 (.pointer (some a)) "Less").run Try.prog w = .ok (42, v) w := m_val "Less" 42 (by kernel_rfl) (by kernel_rfl) h
theorem m_len {a : Addr} {w : World} {v : Value} (h : w.cell? a = some v) : (method 178 46 (.pointer (some a)) "Len").run Try.prog w = .ok (41, v) w := m_val "Len" 41 (by kernel_rfl) (by kernel_rfl) h
theorem m_swap {a : Addr} {w : World} {v : Value} (h : w.cell? a = some v) : (method 178 46 (.pointer (some a)) "Swap").run Try.prog w = .ok (43, v) w := m_val "Swap" 43 (by kernel_rfl) (by kernel_rfl) h

/-! what the three comparers come to -/
theorem cmp_eq (a b : Int) : cmp_Compare_int.f a b = some (if a < b then -1 else if b < a then 1 else 0) := by
  unfold cmp_Compare_int.f cmp_isNaN_int.f
  simp
  split
  · rfl
  · split <;> rfl
end Go.Proofs.Ytigoebmmkdhclaa.Pq
