/- What is known of layer 16. No condition. -/
import Derived.Test.YtonhliipbdniiaaPmL1
namespace Go.Proofs.Ytonhliipbdniiaa
open Go.RowKit
set_option maxRecDepth 100000
set_option linter.unusedVariables false

def usK : List ByteArray := [⟨#[97]⟩, ⟨#[98]⟩, ⟨#[99]⟩]
def gsK (v : Value) : List Grp := [⟨⟨#[103]⟩, v, [⟨#[98]⟩]⟩]
theorem gok_k (v : Value) : GOk usK [] ⟨⟨#[103]⟩, v, [⟨#[98]⟩]⟩ := by
  refine ⟨by kernel_rfl, rfl, fun k h _ => ?_⟩
  match k, h with
  | 0, _ => exact ⟨by kernel_rfl, rfl⟩
theorem uok_k (v : Value) : UOk usK (gsK v) := by
  refine ⟨by decide, by simp [gsK], fun k h _ => ?_, fun k h _ => ?_⟩
  · match k, h with
    | 0, _ => exact ⟨by kernel_rfl, by kernel_rfl⟩
    | 1, _ => exact ⟨by kernel_rfl, by kernel_rfl⟩
    | 2, _ => exact ⟨by kernel_rfl, by kernel_rfl⟩
  · match k, h with
    | 0, _ => exact gok_k v
theorem in_k (gs : List Grp) (v : Value) (h : SameG (gsK v) gs) (who grp : ByteArray) : inB usK gs who grp = inB usK (gsK v) who grp := (h.inB usK who grp).symm
def nK : Nod := ⟨2, 0, 416, 0, 0, ⟨#[102]⟩, ⟨#[97]⟩, ⟨#[103]⟩, ⟨#[]⟩, 0, false, ⟨#[]⟩⟩
def dK : Nod := ⟨1, 0, 2147484136, 0, 0, ⟨#[47]⟩, ⟨#[97]⟩, ⟨#[103]⟩, ⟨#[]⟩, 0, false, ⟨#[]⟩⟩
def sK : Stat := ⟨65535, 4294967295, 255, 4294967295, 18446744073709551615, 384, 4294967295, 4294967295, 18446744073709551615, ⟨#[]⟩, ⟨#[]⟩, ⟨#[]⟩, ⟨#[]⟩⟩
theorem nok_k : NodOk nK := ⟨by decide, by decide, by decide, by decide, by decide, by decide, by decide, by decide, by decide, by decide, by decide⟩
theorem dok_k : NodOk dK := ⟨by decide, by decide, by decide, by decide, by decide, by decide, by decide, by decide, by decide, by decide, by decide⟩
theorem sok_k : StatOk sK := ⟨by decide, by decide, by decide, by decide, by decide, by decide, by decide, by decide, by decide, by decide, by decide, by decide, by decide⟩
theorem inv (v : Value) (w g : Nat) : True := trivial
theorem in_ag (v : Value) : inB usK (gsK v) ⟨#[97]⟩ ⟨#[103]⟩ = false := by kernel_rfl
theorem in_bg (v : Value) : inB usK (gsK v) ⟨#[98]⟩ ⟨#[103]⟩ = true := by kernel_rfl
theorem in_cg (v : Value) : inB usK (gsK v) ⟨#[99]⟩ ⟨#[103]⟩ = false := by kernel_rfl
theorem own_a : decide ((⟨#[97]⟩ : ByteArray) = ⟨#[97]⟩) = true := by decide
theorem own_b : decide ((⟨#[98]⟩ : ByteArray) = ⟨#[97]⟩) = false := by decide
theorem own_c : decide ((⟨#[99]⟩ : ByteArray) = ⟨#[97]⟩) = false := by decide
theorem chN_same {us : List ByteArray} {gs gs' : List Grp} (h : SameG gs gs') (who : ByteArray) (n : Nod) (s : Stat) : chN us gs who n s = chN us gs' who n s := by
  unfold chN chP
  rw [h.inB us who n.gid, h.inB us who s.gid]
theorem openN_same {us : List ByteArray} {gs gs' : List Grp} (h : SameG gs gs') (who : ByteArray) (n : Nod) (mode : Nat) : openN us gs who n mode = openN us gs' who n mode := by
  unfold openN
  rw [h.inB us who n.gid]
theorem ch_ka (v : Value) : chN usK (gsK v) ⟨#[97]⟩ nK sK = 0 := by kernel_rfl
theorem ch_kb (v : Value) : chN usK (gsK v) ⟨#[98]⟩ nK sK = 5 := by kernel_rfl
theorem op_ka (v : Value) : openN usK (gsK v) ⟨#[97]⟩ nK 2 = 0 := by kernel_rfl
theorem op_kb (v : Value) : openN usK (gsK v) ⟨#[98]⟩ nK 1 = 5 := by kernel_rfl
theorem op_kd (v : Value) : openN usK (gsK v) ⟨#[97]⟩ dK 1 = 12 := by kernel_rfl
theorem ms_1 (v : Value) : mayS (inB usK (gsK v) ⟨#[97]⟩ nK.gid) (decide ((⟨#[97]⟩ : ByteArray) = nK.uid)) nK.mode 2 = true := by kernel_rfl
theorem ms_2 (v : Value) : mayS (inB usK (gsK v) ⟨#[98]⟩ nK.gid) (decide ((⟨#[98]⟩ : ByteArray) = nK.uid)) nK.mode 4 = true := by kernel_rfl
theorem ms_3 (v : Value) : mayS (inB usK (gsK v) ⟨#[98]⟩ nK.gid) (decide ((⟨#[98]⟩ : ByteArray) = nK.uid)) nK.mode 2 = false := by kernel_rfl
theorem ms_4 (v : Value) : mayS (inB usK (gsK v) ⟨#[99]⟩ nK.gid) (decide ((⟨#[99]⟩ : ByteArray) = nK.uid)) nK.mode 4 = false := by kernel_rfl
/-- What the calls of known return. -/
structure KnP (p : Nat) (gs : List Grp) : Prop where
  m1 : ∀ W, TabAt W p usK gs → Calls Try.prog 16 #[.pointer (some ⟨p, 0, none⟩), .string ⟨#[97]⟩, .agg nK.cells, .int .u32 2] W fun e w' => e = .returned (.bool true) ∧ Below W.heap.size W w'
  m2 : ∀ W, TabAt W p usK gs → Calls Try.prog 16 #[.pointer (some ⟨p, 0, none⟩), .string ⟨#[98]⟩, .agg nK.cells, .int .u32 4] W fun e w' => e = .returned (.bool true) ∧ Below W.heap.size W w'
  m3 : ∀ W, TabAt W p usK gs → Calls Try.prog 16 #[.pointer (some ⟨p, 0, none⟩), .string ⟨#[98]⟩, .agg nK.cells, .int .u32 2] W fun e w' => e = .returned (.bool false) ∧ Below W.heap.size W w'
  m4 : ∀ W, TabAt W p usK gs → Calls Try.prog 16 #[.pointer (some ⟨p, 0, none⟩), .string ⟨#[99]⟩, .agg nK.cells, .int .u32 4] W fun e w' => e = .returned (.bool false) ∧ Below W.heap.size W w'
  o1 : ∀ W, TabAt W p usK gs → Calls Try.prog 18 #[.pointer (some ⟨p, 0, none⟩), .string ⟨#[97]⟩, .agg nK.cells, .int .u8 2] W fun e w' => e = .returned (.int .i64 0) ∧ Below W.heap.size W w'
  o2 : ∀ W, TabAt W p usK gs → Calls Try.prog 18 #[.pointer (some ⟨p, 0, none⟩), .string ⟨#[98]⟩, .agg nK.cells, .int .u8 1] W fun e w' => e = .returned (.int .i64 5) ∧ Below W.heap.size W w'
  o3 : ∀ W, TabAt W p usK gs → Calls Try.prog 18 #[.pointer (some ⟨p, 0, none⟩), .string ⟨#[97]⟩, .agg dK.cells, .int .u8 1] W fun e w' => e = .returned (.int .i64 12) ∧ Below W.heap.size W w'
  b1 : ∀ W, Calls Try.prog 35 #[.agg dK.cells, .int .u32 511] W fun e w' => e = .returned (.int .u32 489) ∧ Below W.heap.size W w'
  c1 : ∀ W, TabAt W p usK gs → Calls Try.prog 21 #[.pointer (some ⟨p, 0, none⟩), .string ⟨#[97]⟩, .agg nK.cells, .agg sK.cells] W fun e w' => e = .returned (.int .i64 0) ∧ Below W.heap.size W w'
  c2 : ∀ W, TabAt W p usK gs → Calls Try.prog 21 #[.pointer (some ⟨p, 0, none⟩), .string ⟨#[98]⟩, .agg nK.cells, .agg sK.cells] W fun e w' => e = .returned (.int .i64 5) ∧ Below W.heap.size W w'
theorem SameG.ub {us : List ByteArray} {gs gs' : List Grp} (h : SameG gs gs') (hu : UB us gs) : UB us gs' := by
  refine ⟨hu.users, by rw [← h.length]; exact hu.groups, fun g hg => ?_⟩
  have h1 : (g.name, g.mem) ∈ gs'.map (fun g => (g.name, g.mem)) := List.mem_map.2 ⟨g, hg, rfl⟩
  rw [← h] at h1
  obtain ⟨g', hg', e⟩ := List.mem_map.1 h1
  simp only [Prod.mk.injEq] at e
  rw [← e.2]; exact hu.mems g' hg'
theorem ub_k (v : Value) : UB usK (gsK v) := ⟨by decide, by simp [gsK], fun g hg => by simp [gsK] at hg; subst hg; simp⟩
theorem knP (p : Nat) (v : Value) (gs : List Grp) (h : SameG (gsK v) gs) : KnP p gs where
  m1 W hT := by have := pmay_any p usK gs ⟨#[97]⟩ nK 2 W hT (h.ub (ub_k v)) nok_k (by decide); rw [← h.inB, ms_1] at this; exact this
  m2 W hT := by have := pmay_any p usK gs ⟨#[98]⟩ nK 4 W hT (h.ub (ub_k v)) nok_k (by decide); rw [← h.inB, ms_2] at this; exact this
  m3 W hT := by have := pmay_any p usK gs ⟨#[98]⟩ nK 2 W hT (h.ub (ub_k v)) nok_k (by decide); rw [← h.inB, ms_3] at this; exact this
  m4 W hT := by have := pmay_any p usK gs ⟨#[99]⟩ nK 4 W hT (h.ub (ub_k v)) nok_k (by decide); rw [← h.inB, ms_4] at this; exact this
  o1 W hT := by have := popen_any p usK gs ⟨#[97]⟩ nK 2 W hT (h.ub (ub_k v)) nok_k (by decide); rw [← openN_same h, op_ka] at this; exact this
  o2 W hT := by have := popen_any p usK gs ⟨#[98]⟩ nK 1 W hT (h.ub (ub_k v)) nok_k (by decide); rw [← openN_same h, op_kb] at this; exact this
  o3 W hT := by have := popen_any p usK gs ⟨#[97]⟩ dK 1 W hT (h.ub (ub_k v)) dok_k (by decide); rw [← openN_same h, op_kd] at this; exact this
  b1 W := born_known dK W rfl
  c1 W hT := by have := change_any p usK gs ⟨#[97]⟩ nK sK W hT (h.ub (ub_k v)) nok_k sok_k; rw [← chN_same h, ch_ka] at this; exact this
  c2 W hT := by have := change_any p usK gs ⟨#[98]⟩ nK sK W hT (h.ub (ub_k v)) nok_k sok_k; rw [← chN_same h, ch_kb] at this; exact this
end Go.Proofs.Ytonhliipbdniiaa
