/- A valid tree whose numbers are in their types; what is done to it keeps it so. Plain. -/
import Derived.Test.YtpmlhmficmillaaGreatTr11Z
import Derived.Test.YtpmlhmficmillaaGreatBunTB
import Derived.Test.YtpmlhmficmillaaGreatBunTK
namespace Go.Proofs.YtpmlhmficmillaaGreat
set_option maxRecDepth 100000
set_option linter.unusedVariables false

def Nods (l : List Nod) : Prop := ∀ n ∈ l, NodOk n
theorem Nods.set {l : List Nod} (h : Nods l) {y : Nod} (hy : NodOk y) : Nods (setL l y) := fun n hn => by
  rcases mem_setL.1 hn with e | ⟨h1, _⟩
  · rw [e]; exact hy
  · exact h n h1
theorem NodOk.touch {x : Nod} (h : NodOk x) {who : ByteArray} {now : Nat} (hw : who.size ≤ maxLen) (hn : now < 4294967296) : NodOk (touchN x who now) :=
  ⟨h.path, by show (x.vers + 1) % 4294967296 < _; omega, h.mode, h.atm, hn, h.name, h.uid, h.gid, hw, h.up, h.data⟩
theorem NodOk.gone {x : Nod} (h : NodOk x) : NodOk (goneN x) := ⟨h.path, h.vers, h.mode, h.atm, h.mtm, h.name, h.uid, h.gid, h.muid, by show 0 < _; omega, h.data⟩
structure Good (t : Tr) : Prop where
  ok : OkC t
  nod : Nods t.n
  next : t.next < 9223372036854775808
theorem Good.tr {t : Tr} (h : Good t) : TrOk t.n :=
  ⟨h.ok.sort, by have := h.ok.few; omega, h.nod, fun n hn => (h.ok.low n hn).1, fun n hn => by have := h.ok.len n hn; omega⟩
theorem root_dir (uid : ByteArray) (now : Nat) : dirB (rootN uid now) = true := by show (!decide ((2147484157 : Nat) &&& 2147483648 = 0)) = true; decide
theorem root_bits (uid : ByteArray) (now : Nat) : bitsB (rootN uid now).mode = true := by show bitsB 2147484157 = true; decide
theorem root_name (uid : ByteArray) (now : Nat) : (rootN uid now).name.size ≤ maxLen := by show (1 : Nat) ≤ maxLen; unfold maxLen; omega
theorem root_nod (uid : ByteArray) (now : Nat) (h1 : uid.size ≤ maxLen) (hn : now < 4294967296) : NodOk (rootN uid now) :=
  ⟨by show (1 : Nat) < _; omega, by show (0 : Nat) < _; omega, by show (2147484157 : Nat) < _; omega, hn, hn, root_name uid now, h1, h1, h1, by show (1 : Nat) < _; omega, Nat.zero_le _⟩
end Go.Proofs.YtpmlhmficmillaaGreat
