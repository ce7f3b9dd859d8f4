/-
  What digitsOf and scaled of the program compute.
-/
import Derived.Test.YtiebcdajoddkpaaGreatDoorWords
import Derived.Test.YtiebcdajoddkpaaGreatDoorShelf
import Derived.Test.YtiebcdajoddkpaaGreatDoorNumSpec
namespace Go.Proofs.YtiebcdajoddkpaaGreatDoor
open Go.RowKit

set_option maxRecDepth 100000 in
theorem trimD (l : List UInt8) : Lib.trimLeftS l [48, 49, 50, 51, 52, 53, 54, 55, 56, 57] = l.dropWhile isD := by
  unfold Lib.trimLeftS
  congr 1
  funext c
  have h : ∀ n : Fin 256, ([48, 49, 50, 51, 52, 53, 54, 55, 56, 57] : List UInt8).contains (UInt8.ofNat n.val) = isD (UInt8.ofNat n.val) := by decide
  have := h ⟨c.toNat, c.toNat_lt⟩
  rwa [UInt8.ofNat_toNat] at this
set_option maxRecDepth 100000 in
theorem trimSg (l : List UInt8) : Lib.trimLeftS l [43, 45] = l.dropWhile isSg := by
  unfold Lib.trimLeftS
  congr 1
  funext c
  have h : ∀ n : Fin 256, ([43, 45] : List UInt8).contains (UInt8.ofNat n.val) = isSg (UInt8.ofNat n.val) := by decide
  have := h ⟨c.toNat, c.toNat_lt⟩
  rwa [UInt8.ofNat_toNat] at this
theorem take_drop_len (p : UInt8 → Bool) (l : List UInt8) : (l.takeWhile p).length + (l.dropWhile p).length = l.length := by
  rw [← List.length_append, List.takeWhile_append_dropWhile]

set_option maxHeartbeats 400000 in
theorem digitsOf_any (s : ByteArray) (w : World) (hs : s.size ≤ 1048576) :
    Calls Tryz.prog 185 #[.string s] w fun e w' => e = .returned (.int .i64 (s.data.toList.takeWhile isD).length) ∧ Below w.heap.size w w' := by
  have HL := Lib.hid (take_drop_len isD s.data.toList)
  have HS := Lib.hid (Lib.size_eq s)
  have HK := Lib.hid (fun W => Tryz.strings_TrimLeft_set s ⟨#[48, 49, 50, 51, 52, 53, 54, 55, 56, 57]⟩ W (by decide) (ascii_of_all (by decide)))
  go_enter Tryz.func185, Tryz.ntmps185
  go_wp2_with fail
  refine (HK.out _).mono ?_
  rintro e w' ⟨rfl, hB⟩
  rw [trimD]
  have hz : (ByteArray.mk (s.data.toList.dropWhile isD).toArray).size = (s.data.toList.dropWhile isD).length := by simp [ByteArray.size]
  generalize s.data.toList.dropWhile isD = D at *
  go_wp2_with fail
  go_ret
  refine ⟨ret_int ?_, hB⟩
  have h1 := HL.out
  have h2 := HS.out
  rw [IntWalk.wrap64_in _ ⟨by omega, by omega⟩]
  omega
theorem scaledN_le : ∀ (l : List UInt8) (n : Nat), n ≤ maxNum → (∀ c ∈ l, dV c ≤ 9) → scaledN l n ≤ maxNum
  | [], n, h, _ => h
  | c :: r, n, h, hd => by
    unfold scaledN
    have hm : maxNum = 999999999999999999 := rfl
    have h9 := hd c List.mem_cons_self
    split
    · exact Nat.le_refl _
    · exact scaledN_le r _ (by omega) (fun x hx => hd x (List.mem_cons_of_mem _ hx))

set_option maxRecDepth 100000 in
set_option maxHeartbeats 1000000 in
theorem scaled_any (s : ByteArray) (n0 : Nat) (w : World) (hs : s.size ≤ 2097152) (hn0 : n0 ≤ 999999999999999999) (hd : ∀ c ∈ s.data.toList, isD c = true) :
    Calls Tryz.prog 187 #[.int .i64 n0, .string s] w fun e w' => e = .returned (.int .i64 (scaledN s.data.toList n0)) ∧ Below w.heap.size w w' := by
  have hconv := run_bytes_of_string (P := Tryz.prog) w 9 22 5 s Tryz.underlying9 Tryz.underlying22 Tryz.underlying5
  have HC : Hid (∀ j (h : j < s.size), (bytesRow s (grownCap w s.size 0 5))[j]? = some (.int .u8 (s[j].toNat : Int))) := fun j h => bytesRow_at s _ j h
  generalize grownCap w s.size 0 5 = cap at *
  generalize bytesRow s cap = C at *
  have HD := Lib.hid hd
  have HB : Hid (Below w.heap.size w (w.alloc (.cells C 5 (C.size, C.size + 1))).drew) := by
    unfold Hid; exact (Below.new w _).drew
  clear hd
  go_enter Tryz.func187, Tryz.ntmps187
  go_wp2_with fail
  go_loop [0, 10] (fun n i => ∃ (k m : Nat), k ≤ s.size ∧ m ≤ 999999999999999999 ∧ n = .int .i64 m ∧ i = .int .i64 k ∧ Hid (scaledN s.data.toList n0 = scaledN (s.data.toList.drop k) m)) (fun _ i => s.size - (intOf i).toNat)
  case atStart => exact ⟨0, n0, Nat.zero_le _, hn0, rfl, rfl, rfl⟩
  case round =>
    obtain ⟨k, m, hk, hm, rfl, rfl, hS⟩ := hrel
    clear hconv
    by_cases hlt : k < s.size
    · have HR := Lib.hid (drop_cons s k hlt)
      have hcell : (w.alloc (.cells C 5 (C.size, C.size + 1))).cell? ⟨w.heap.size, k, none⟩ = some (.int .u8 (s[k].toNat : Int)) := by
        rw [World.cell?_alloc_mark]; exact HC.out k hlt
      have hdk : isD s[k] = true := HD.out _ (by have : s.data.toList[k]'(by rw [← Lib.size_eq]; exact hlt) = s[k] := rfl; rw [← this]; exact List.getElem_mem _)
      have hge : 48 ≤ s[k].toNat := by simp [isD] at hdk; exact hdk.1
      have hle : s[k].toNat ≤ 57 := by simp [isD] at hdk; exact hdk.2
      have hdv : dV s[k] + 48 = s[k].toNat := by unfold dV; omega
      obtain ⟨d, hdd⟩ : ∃ d : Nat, d = dV s[k] := ⟨_, rfl⟩
      rw [← hdd] at hdv
      have HE : Hid (scaledN s.data.toList n0 = if (999999999999999999 - d) / 10 < m then 999999999999999999 else scaledN (s.data.toList.drop (k + 1)) (10 * m + d)) := by
        unfold Hid
        rw [hS.out, HR.out, hdd]
        rfl
      rw [← hdv] at hcell
      have hd9 : d ≤ 9 := by omega
      clear hdk hge hle hdd hdv hS
      go_wp2_with fail
      · go_ret
        have hc : (999999999999999999 - (d : Int)) / 10 < m := by assumption
        exact ⟨ret_int (by rw [HE.out, if_pos (by omega)]; rfl), HB.out⟩
      · have hc : (m : Int) ≤ (999999999999999999 - d) / 10 := by assumption
        refine ⟨⟨k + 1, 10 * m + d, by omega, by omega, by go_num, by go_num, ?_⟩, by simp [intOf]; omega⟩
        unfold Hid
        rw [HE.out, if_neg (by omega)]
    · have HE : Hid (scaledN s.data.toList n0 = m) := by
        unfold Hid
        rw [hS.out, drop_end s k (by omega)]
        rfl
      go_wp2_with fail
      go_ret
      exact ⟨ret_int (by rw [HE.out]), HB.out⟩
end Go.Proofs.YtiebcdajoddkpaaGreatDoor
