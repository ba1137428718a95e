/- Own text of this seat (R6): lemmas on the way to the statement; no condition of its own. -/
import Derived.Test.YtanogodfnfkkbaaR5
set_option linter.unusedVariables false
namespace Go.Proofs.Ytanogodfnfkkbaa
open Go Go.E
theorem encrypt_all (kv bv : Value) (key blk : List UInt8) (w0 : World) (M : PH) (hM : On M w0) (hkey : Bs M kv key) (hblk : Bs M bv blk) : Ok Try.prog 14 #[kv, bv] w0 M (fun M' r => ∃ s, r = .tuple #[s, .int .i64 (Aes.encR key blk).2] ∧ Bs M' s (Aes.encR key blk).1) := by
  by_cases hk : key.length = 16
  · by_cases hb : blk.length = 16
    · have e : Aes.encR key blk = (_, 0) := if_pos ⟨hk, hb⟩
      rw [e]; exact encrypt_ok _ _ _ _ _ _ hM hkey hblk hk hb
    · have e : Aes.encR key blk = ([], 2) := if_neg (fun h => hb h.2)
      rw [e]
      exact (encrypt_bad _ _ _ _ _ _ hM hkey hblk (.inr hb)).mono fun e w' ⟨v, M', h1, h2, h3, h4, h5, h6⟩ => ⟨v, M', h1, h2, h3, h4, _, h6, Bs.nil _⟩
  · have e : Aes.encR key blk = ([], 2) := if_neg (fun h => hk h.1)
    rw [e]
    exact (encrypt_bad _ _ _ _ _ _ hM hkey hblk (.inl hk)).mono fun e w' ⟨v, M', h1, h2, h3, h4, h5, h6⟩ => ⟨v, M', h1, h2, h3, h4, _, h6, Bs.nil _⟩

theorem decrypt_all (kv bv : Value) (key blk : List UInt8) (w0 : World) (M : PH) (hM : On M w0) (hkey : Bs M kv key) (hblk : Bs M bv blk) : Ok Try.prog 18 #[kv, bv] w0 M (fun M' r => ∃ s, r = .tuple #[s, .int .i64 (Aes.decR key blk).2] ∧ Bs M' s (Aes.decR key blk).1) := by
  by_cases hk : key.length = 16
  · by_cases hb : blk.length = 16
    · have e : Aes.decR key blk = (_, 0) := if_pos ⟨hk, hb⟩
      rw [e]; exact decrypt_ok _ _ _ _ _ _ hM hkey hblk hk hb
    · have e : Aes.decR key blk = ([], 2) := if_neg (fun h => hb h.2)
      rw [e]
      exact (decrypt_bad _ _ _ _ _ _ hM hkey hblk (.inr hb)).mono fun e w' ⟨v, M', h1, h2, h3, h4, h5, h6⟩ => ⟨v, M', h1, h2, h3, h4, _, h6, Bs.nil _⟩
  · have e : Aes.decR key blk = ([], 2) := if_neg (fun h => hk h.1)
    rw [e]
    exact (decrypt_bad _ _ _ _ _ _ hM hkey hblk (.inl hk)).mono fun e w' ⟨v, M', h1, h2, h3, h4, h5, h6⟩ => ⟨v, M', h1, h2, h3, h4, _, h6, Bs.nil _⟩

theorem rencrypt_all (kv bv : Value) (key blk : List UInt8) (w0 : World) (M : PH) (hM : On M w0) (hkey : Bs M kv key) (hblk : Bs M bv blk) : Ok Try.prog 17 #[kv, bv] w0 M (fun M' r => ∃ s, r = .tuple #[s, .int .i64 (Aes.encR key blk).2] ∧ Bs M' s (Aes.encR key blk).1) := by
  by_cases hk : key.length = 16
  · by_cases hb : blk.length = 16
    · have e : Aes.encR key blk = (_, 0) := if_pos ⟨hk, hb⟩
      rw [e]; exact rencrypt_ok _ _ _ _ _ _ hM hkey hblk hk hb
    · have e : Aes.encR key blk = ([], 2) := if_neg (fun h => hb h.2)
      rw [e]
      exact (rencrypt_bad2 _ _ _ _ _ _ hM hkey hblk hk hb).mono fun e w' ⟨v, M', h1, h2, h3, h4, h5, h6⟩ => ⟨v, M', h1, h2, h3, h4, _, h6, Bs.nil _⟩
  · have e : Aes.encR key blk = ([], 2) := if_neg (fun h => hk h.1)
    rw [e]
    exact (rencrypt_bad1 _ _ _ _ _ _ hM hkey hblk hk).mono fun e w' ⟨v, M', h1, h2, h3, h4, h5, h6⟩ => ⟨v, M', h1, h2, h3, h4, _, h6, Bs.nil _⟩

theorem rdecrypt_all (kv bv : Value) (key blk : List UInt8) (w0 : World) (M : PH) (hM : On M w0) (hkey : Bs M kv key) (hblk : Bs M bv blk) : Ok Try.prog 19 #[kv, bv] w0 M (fun M' r => ∃ s, r = .tuple #[s, .int .i64 (Aes.decR key blk).2] ∧ Bs M' s (Aes.decR key blk).1) := by
  by_cases hk : key.length = 16
  · by_cases hb : blk.length = 16
    · have e : Aes.decR key blk = (_, 0) := if_pos ⟨hk, hb⟩
      rw [e]; exact rdecrypt_ok _ _ _ _ _ _ hM hkey hblk hk hb
    · have e : Aes.decR key blk = ([], 2) := if_neg (fun h => hb h.2)
      rw [e]
      exact (rdecrypt_bad2 _ _ _ _ _ _ hM hkey hblk hk hb).mono fun e w' ⟨v, M', h1, h2, h3, h4, h5, h6⟩ => ⟨v, M', h1, h2, h3, h4, _, h6, Bs.nil _⟩
  · have e : Aes.decR key blk = ([], 2) := if_neg (fun h => hk h.1)
    rw [e]
    exact (rdecrypt_bad1 _ _ _ _ _ _ hM hkey hblk hk).mono fun e w' ⟨v, M', h1, h2, h3, h4, h5, h6⟩ => ⟨v, M', h1, h2, h3, h4, _, h6, Bs.nil _⟩

theorem keys_all (v : Value) (key : List UInt8) (w0 : World) (M : PH) (hM : On M w0) (hkey : Bs M v key) : Ok Try.prog 20 #[v] w0 M (fun M' r => M = M' ∧ r = .tuple #[.agg (bs (Aes.keysR key).1), .int .i64 (Aes.keysR key).2]) := by
  by_cases hk : key.length = 16
  · have e : Aes.keysR key = (_, 0) := if_pos hk
    rw [e]; exact keys_ok _ _ _ _ hM hkey hk
  · have e : Aes.keysR key = (_, 2) := if_neg hk
    rw [e]; exact keys_bad _ _ _ _ hM hkey hk

theorem rKeys_all (v : Value) (key : List UInt8) (w0 : World) (M : PH) (hM : On M w0) (hkey : Bs M v key) : Ok Try.prog 21 #[v] w0 M (fun M' r => M = M' ∧ r = .tuple #[.agg (bs (Aes.keysR key).1), .int .i64 (Aes.keysR key).2]) := by
  by_cases hk : key.length = 16
  · have e : Aes.keysR key = (_, 0) := if_pos hk
    rw [e]; exact rKeys_ok _ _ _ _ hM hkey hk
  · have e : Aes.keysR key = (_, 2) := if_neg hk
    rw [e]; exact rKeys_bad _ _ _ _ hM hkey hk

theorem law_blocks (v0 v1 : Value) (l0 l1 : List UInt8) (w0 : World) (M : PH) (hM : On M w0) (h0 : Bs M v0 l0) (h1 : Bs M v1 l1) : Ok Try.prog 6 #[v0, v1] w0 M (fun M' r => M = M' ∧ r = .bool true) := by
  have hS := hM.st
  have h0' := h0
  have h1' := h1
  obtain ⟨a0, c0, rfl, p1, p2, p3, p4⟩ := h0
  obtain ⟨a1, c1, rfl, q1, q2, q3, q4⟩ := h1
  have hk0 := h0'.take (h := min l0.length 40) (by omega)
  have hb0 := h1'.take (h := min l1.length 40) (by omega)
  have hkl : (l0.take (min l0.length 40)).length ≤ 40 := by rw [List.length_take]; omega
  have hbl : (l1.take (min l1.length 40)).length ≤ 40 := by rw [List.length_take]; omega
  have hG := Grow.refl w0.heap.size M
  generalize l0.take (min l0.length 40) = key at hk0 hkl
  generalize l1.take (min l1.length 40) = blk at hb0 hbl
  refine enterB (l := [.slice a0 l0.length c0, .slice a1 l1.length c1]) 108 Try.func6 rfl Try.ntmps6 rfl ?_
  refine CW.seq ?_
  refine CW.region ?_
  refine WL.step rfl (Stp.res rfl rfl (Res.assign rfl rfl) ?_)
  refine WL.nil (Thn_n ?_)
  refine CW.seq ?_
  have hS := hS.drew
  refine CW.still mixed (by kernel_rfl) ?_
  refine SL.step rfl rfl rfl (Res.move rfl rfl) ?_
  refine SL.step rfl rfl rfl (Res.move rfl rfl) ?_
  refine SL.step rfl rfl rfl (Res.len rfl rfl rfl rfl Try.underlying26) ?_
  refine SL.step rfl rfl rfl (Res.minN (b := 40) rfl rfl rfl) ?_
  refine SL.step rfl rfl rfl (Res.sliceHi rfl rfl rfl Try.underlying26 sz5 (by omega)) ?_
  refine SL.step rfl rfl rfl (Res.move rfl rfl) ?_
  refine SL.step rfl rfl rfl (Res.move rfl rfl) ?_
  refine SL.step rfl rfl rfl (Res.len rfl rfl rfl rfl Try.underlying26) ?_
  refine SL.step rfl rfl rfl (Res.minN (b := 40) rfl rfl rfl) ?_
  refine SL.step rfl rfl rfl (Res.sliceHi rfl rfl rfl Try.underlying26 sz5 (by omega)) ?_
  refine SL.step rfl rfl rfl (Res.assign rfl rfl) ?_
  refine SL.step rfl rfl rfl (Res.assign rfl rfl) ?_
  refine SL.nil (Thn_n ?_)
  refine CW.seq ?_
  refine CW.region ?_
  refine WL.step rfl (Stp.res rfl rfl (Res.move rfl rfl) ?_)
  refine WL.step rfl (Stp.callG (args := [_]) rfl rfl rfl cal16 rfl rfl hS (bytes_ok _ _ _ _ hS.on hk0 (by omega)) ?_)
  rintro _ w _ hS hGa hk5
  have hG := hG.trans hGa
  have hk0 := hk0.mono hGa.1
  have hb0 := hb0.mono hGa.1
  refine WL.step rfl (Stp.res rfl rfl (Res.move rfl rfl) ?_)
  refine WL.step rfl (Stp.callG (args := [_]) rfl rfl rfl cal16 rfl rfl hS (bytes_ok _ _ _ _ hS.on hb0 (by omega)) ?_)
  rintro _ w _ hS hGa hb6
  have hG := hG.trans hGa
  have hk5 := hk5.mono hGa.1
  have hk0 := hk0.mono hGa.1
  have hb0 := hb0.mono hGa.1
  refine WL.step rfl (Stp.res rfl rfl (Res.assign rfl rfl) ?_)
  refine WL.step rfl (Stp.res rfl rfl (Res.assign rfl rfl) ?_)
  refine WL.nil (Thn_n ?_)
  refine CW.seq ?_
  refine CW.region ?_
  refine WL.step rfl (Stp.res rfl rfl (Res.move rfl rfl) ?_)
  refine WL.step rfl (Stp.res rfl rfl (Res.move rfl rfl) ?_)
  refine WL.step rfl (Stp.callG (args := [_, _]) rfl rfl rfl cal14 rfl rfl hS (encrypt_all _ _ _ _ _ _ hS.on hk5 hb6) ?_)
  rintro _ w _ hS hGa ⟨s7, rfl, hs7⟩
  have hG := hG.trans hGa
  have hk5 := hk5.mono hGa.1
  have hb6 := hb6.mono hGa.1
  have hk0 := hk0.mono hGa.1
  have hb0 := hb0.mono hGa.1
  refine WL.step rfl (Stp.res rfl rfl (Res.move rfl rfl) ?_)
  refine WL.step rfl (Stp.res rfl rfl (Res.extract (l := [_, _]) rfl rfl rfl) ?_)
  refine WL.step rfl (Stp.res rfl rfl (Res.extract (l := [_, _]) rfl rfl rfl) ?_)
  refine WL.step rfl (Stp.res rfl rfl (Res.assign rfl rfl) ?_)
  refine WL.step rfl (Stp.res rfl rfl (Res.assign rfl rfl) ?_)
  refine WL.nil (Thn_n ?_)
  refine CW.seq ?_
  refine CW.region ?_
  refine WL.step rfl (Stp.res rfl rfl (Res.move rfl rfl) ?_)
  refine WL.step rfl (Stp.res rfl rfl (Res.move rfl rfl) ?_)
  refine WL.step rfl (Stp.callG (args := [_, _]) rfl rfl rfl cal17 rfl rfl hS (rencrypt_all _ _ _ _ _ _ hS.on hk0 hb0) ?_)
  rintro _ w _ hS hGa ⟨s9, rfl, hs9⟩
  have hG := hG.trans hGa
  have hk5 := hk5.mono hGa.1
  have hb6 := hb6.mono hGa.1
  have hs7 := hs7.mono hGa.1
  have hk0 := hk0.mono hGa.1
  have hb0 := hb0.mono hGa.1
  refine WL.step rfl (Stp.res rfl rfl (Res.move rfl rfl) ?_)
  refine WL.step rfl (Stp.res rfl rfl (Res.extract (l := [_, _]) rfl rfl rfl) ?_)
  refine WL.step rfl (Stp.res rfl rfl (Res.extract (l := [_, _]) rfl rfl rfl) ?_)
  refine WL.step rfl (Stp.res rfl rfl (Res.assign rfl rfl) ?_)
  refine WL.step rfl (Stp.res rfl rfl (Res.assign rfl rfl) ?_)
  refine WL.nil (Thn_n ?_)
  refine CW.seq ?_
  refine CW.region ?_
  refine WL.step rfl (Stp.res rfl rfl (Res.move rfl rfl) ?_)
  refine WL.step rfl (Stp.res rfl rfl (Res.move rfl rfl) ?_)
  refine WL.step rfl (Stp.callG (args := [_, _]) rfl rfl rfl cal18 rfl rfl hS (decrypt_all _ _ _ _ _ _ hS.on hk5 hb6) ?_)
  rintro _ w _ hS hGa ⟨s11, rfl, hs11⟩
  have hG := hG.trans hGa
  have hk5 := hk5.mono hGa.1
  have hb6 := hb6.mono hGa.1
  have hs7 := hs7.mono hGa.1
  have hs9 := hs9.mono hGa.1
  have hk0 := hk0.mono hGa.1
  have hb0 := hb0.mono hGa.1
  refine WL.step rfl (Stp.res rfl rfl (Res.move rfl rfl) ?_)
  refine WL.step rfl (Stp.res rfl rfl (Res.extract (l := [_, _]) rfl rfl rfl) ?_)
  refine WL.step rfl (Stp.res rfl rfl (Res.extract (l := [_, _]) rfl rfl rfl) ?_)
  refine WL.step rfl (Stp.res rfl rfl (Res.assign rfl rfl) ?_)
  refine WL.step rfl (Stp.res rfl rfl (Res.assign rfl rfl) ?_)
  refine WL.nil (Thn_n ?_)
  refine CW.seq ?_
  refine CW.region ?_
  refine WL.step rfl (Stp.res rfl rfl (Res.move rfl rfl) ?_)
  refine WL.step rfl (Stp.res rfl rfl (Res.move rfl rfl) ?_)
  refine WL.step rfl (Stp.callG (args := [_, _]) rfl rfl rfl cal19 rfl rfl hS (rdecrypt_all _ _ _ _ _ _ hS.on hk0 hb0) ?_)
  rintro _ w _ hS hGa ⟨s13, rfl, hs13⟩
  have hG := hG.trans hGa
  have hk5 := hk5.mono hGa.1
  have hb6 := hb6.mono hGa.1
  have hs7 := hs7.mono hGa.1
  have hs9 := hs9.mono hGa.1
  have hs11 := hs11.mono hGa.1
  have hk0 := hk0.mono hGa.1
  have hb0 := hb0.mono hGa.1
  refine WL.step rfl (Stp.res rfl rfl (Res.move rfl rfl) ?_)
  refine WL.step rfl (Stp.res rfl rfl (Res.extract (l := [_, _]) rfl rfl rfl) ?_)
  refine WL.step rfl (Stp.res rfl rfl (Res.extract (l := [_, _]) rfl rfl rfl) ?_)
  refine WL.step rfl (Stp.res rfl rfl (Res.assign rfl rfl) ?_)
  refine WL.step rfl (Stp.res rfl rfl (Res.assign rfl rfl) ?_)
  refine WL.nil (Thn_n ?_)
  refine CW.seq ?_
  refine CW.region ?_
  refine WL.step rfl (Stp.res rfl rfl (Res.move rfl rfl) ?_)
  refine WL.step rfl (Stp.callG (args := [_]) rfl rfl rfl cal20 rfl rfl hS (keys_all _ _ _ _ hS.on hk5) ?_)
  rintro _ w _ hS hGa ⟨hMe, rfl⟩
  have hG := hG.trans hGa
  have hk5 := hk5.mono hGa.1
  have hb6 := hb6.mono hGa.1
  have hs7 := hs7.mono hGa.1
  have hs9 := hs9.mono hGa.1
  have hs11 := hs11.mono hGa.1
  have hs13 := hs13.mono hGa.1
  have hk0 := hk0.mono hGa.1
  have hb0 := hb0.mono hGa.1
  refine WL.step rfl (Stp.res rfl rfl (Res.move rfl rfl) ?_)
  refine WL.step rfl (Stp.res rfl rfl (Res.extract (l := [_, _]) rfl rfl rfl) ?_)
  refine WL.step rfl (Stp.res rfl rfl (Res.extract (l := [_, _]) rfl rfl rfl) ?_)
  refine WL.step rfl (Stp.alloc (cs := bs (List.replicate 176 0)) rfl z36 rfl rfl rfl hS ?_)
  intro b15 w hb15 hS hkp hnw
  refine WL.step rfl (Stp.storeAllB 0 rfl rfl rfl sz36 rfl hS rfl ⟨List.length_replicate .., Aes.keysR_len _⟩ ?_)
  intro w hS hpt
  refine WL.step rfl (Stp.res rfl rfl (Res.assign rfl rfl) ?_)
  refine WL.nil (Thn_n ?_)
  refine CW.seq ?_
  refine CW.region ?_
  refine WL.step rfl (Stp.res rfl rfl (Res.move rfl rfl) ?_)
  refine WL.step rfl (Stp.callG (args := [_]) rfl rfl rfl cal21 rfl rfl hS (rKeys_all _ _ _ _ hS.on hk0) ?_)
  rintro _ w _ hS hGa ⟨hMe, rfl⟩
  have hG := hG.trans hGa
  have hk5 := hk5.mono hGa.1
  have hb6 := hb6.mono hGa.1
  have hs7 := hs7.mono hGa.1
  have hs9 := hs9.mono hGa.1
  have hs11 := hs11.mono hGa.1
  have hs13 := hs13.mono hGa.1
  have hk0 := hk0.mono hGa.1
  have hb0 := hb0.mono hGa.1
  refine WL.step rfl (Stp.res rfl rfl (Res.move rfl rfl) ?_)
  refine WL.step rfl (Stp.res rfl rfl (Res.extract (l := [_, _]) rfl rfl rfl) ?_)
  refine WL.step rfl (Stp.res rfl rfl (Res.extract (l := [_, _]) rfl rfl rfl) ?_)
  refine WL.step rfl (Stp.alloc (cs := bs (List.replicate 176 0)) rfl z36 rfl rfl rfl hS ?_)
  intro b17 w hb17 hS hkp hnw
  refine WL.step rfl (Stp.storeAllB 0 rfl rfl rfl sz36 rfl hS rfl ⟨List.length_replicate .., Aes.keysR_len _⟩ ?_)
  intro w hS hpt
  refine WL.step rfl (Stp.res rfl rfl (Res.assign rfl rfl) ?_)
  refine WL.nil (Thn_n ?_)
  refine CW.seq ?_
  refine CW.region ?_
  refine WL.step rfl (Stp.res rfl rfl (Res.move rfl rfl) ?_)
  refine WL.step rfl (Stp.res rfl rfl (Res.move rfl rfl) ?_)
  refine WL.step rfl (Stp.callA (args := [_, _]) rfl rfl rfl cal15 rfl rfl (samebytes_t _ _ _ _ _ _ hS.on hs7 hs9 rfl) ?_)
  refine WL.step rfl (Stp.res rfl rfl (Res.move rfl rfl) ?_)
  refine WL.stepG 3 true rfl rfl rfl rfl (Stp.res rfl rfl (Res.move rfl rfl) ?_)
  refine WL.stepG 3 true rfl rfl rfl rfl (Stp.res rfl rfl (Res.move rfl rfl) ?_)
  refine WL.stepG 3 true rfl rfl rfl rfl (Stp.res rfl rfl (Res.to (Res.eql rfl rfl rfl) rfl) ?_)
  refine WL.step rfl (Stp.res rfl rfl (Res.pickT rfl rfl rfl) ?_)
  refine WL.step rfl (Stp.res rfl rfl (Res.move rfl rfl) ?_)
  refine WL.stepG 8 true rfl rfl rfl rfl (Stp.res rfl rfl (Res.move rfl rfl) ?_)
  refine WL.stepG 8 true rfl rfl rfl rfl (Stp.res rfl rfl (Res.move rfl rfl) ?_)
  refine WL.stepG 8 true rfl rfl rfl rfl (Stp.callA (args := [_, _]) rfl rfl rfl cal15 rfl rfl (samebytes_t _ _ _ _ _ _ hS.on hs11 hs13 rfl) ?_)
  refine WL.step rfl (Stp.res rfl rfl (Res.pickT rfl rfl rfl) ?_)
  refine WL.step rfl (Stp.res rfl rfl (Res.move rfl rfl) ?_)
  refine WL.stepG 13 true rfl rfl rfl rfl (Stp.res rfl rfl (Res.move rfl rfl) ?_)
  refine WL.stepG 13 true rfl rfl rfl rfl (Stp.res rfl rfl (Res.move rfl rfl) ?_)
  refine WL.stepG 13 true rfl rfl rfl rfl (Stp.res rfl rfl (Res.to (Res.eql rfl rfl rfl) rfl) ?_)
  refine WL.step rfl (Stp.res rfl rfl (Res.pickT rfl rfl rfl) ?_)
  refine WL.step rfl (Stp.res rfl rfl (Res.move rfl rfl) ?_)
  refine WL.stepG 18 true rfl rfl rfl rfl (Stp.res rfl rfl (Res.loadAll rfl rfl Try.underlying36 rfl (by rw [size_bs, Aes.keysR_len]; exact sz36) (hS.get (i := 1) rfl)) ?_)
  refine WL.stepG 18 true rfl rfl rfl rfl (Stp.res rfl rfl (Res.loadAll rfl rfl Try.underlying36 rfl (by rw [size_bs, Aes.keysR_len]; exact sz36) (hS.get (i := 0) rfl)) ?_)
  refine WL.stepG 18 true rfl rfl rfl rfl (Stp.res rfl rfl (Res.to (Res.eqlR rfl rfl rfl (by kernel_rfl) Try.underlying36 Try.underlying29 Try.underlying5 sz5 sz29 ⟨Aes.keysR_len _, Aes.keysR_len _⟩) rfl) ?_)
  refine WL.step rfl (Stp.res rfl rfl (Res.pickT rfl rfl rfl) ?_)
  refine WL.step rfl (Stp.res rfl rfl (Res.move rfl rfl) ?_)
  refine WL.stepG 23 true rfl rfl rfl rfl (Stp.res rfl rfl (Res.move rfl rfl) ?_)
  refine WL.stepG 23 true rfl rfl rfl rfl (Stp.res rfl rfl (Res.move rfl rfl) ?_)
  refine WL.stepG 23 true rfl rfl rfl rfl (Stp.res rfl rfl (Res.to (Res.eql rfl rfl rfl) rfl) ?_)
  refine WL.step rfl (Stp.res rfl rfl (Res.pickT rfl rfl rfl) ?_)
  refine WL.step rfl (Stp.res rfl rfl (Res.move rfl rfl) ?_)
  refine WL.stepG 28 true rfl rfl rfl rfl (Stp.res rfl rfl (Res.move rfl rfl) ?_)
  refine WL.stepG 28 true rfl rfl rfl rfl (Stp.res rfl rfl (Res.move rfl rfl) ?_)
  refine WL.stepG 28 true rfl rfl rfl rfl (Stp.callA (args := [_, _]) rfl rfl rfl cal15 rfl rfl (samebytes_t _ _ _ _ _ _ hS.on hk5 hk0 rfl) ?_)
  refine WL.step rfl (Stp.res rfl rfl (Res.pickT rfl rfl rfl) ?_)
  refine WL.step rfl (Stp.res rfl rfl (Res.move rfl rfl) ?_)
  refine WL.stepG 33 true rfl rfl rfl rfl (Stp.res rfl rfl (Res.move rfl rfl) ?_)
  refine WL.stepG 33 true rfl rfl rfl rfl (Stp.res rfl rfl (Res.move rfl rfl) ?_)
  refine WL.stepG 33 true rfl rfl rfl rfl (Stp.callA (args := [_, _]) rfl rfl rfl cal15 rfl rfl (samebytes_t _ _ _ _ _ _ hS.on hb6 hb0 rfl) ?_)
  refine WL.step rfl (Stp.res rfl rfl (Res.pickT rfl rfl rfl) ?_)
  refine WL.step rfl (Stp.res rfl rfl (Res.move rfl rfl) ?_)
  refine WL.stepG 38 true rfl rfl rfl rfl (Stp.callG (args := []) rfl rfl rfl cal8 rfl rfl hS (works_ok _ _ hS.on) ?_)
  rintro _ w _ hS hGa ⟨hMe, rfl⟩
  have hG := hG.trans hGa
  refine WL.step rfl (Stp.res rfl rfl (Res.pickT rfl rfl rfl) ?_)
  refine WL.step rfl (Stp.res rfl rfl (Res.assign rfl rfl) ?_)
  refine WL.nil (Thn_n ?_)
  refine CW.ret ?_
  exact fq_tmp rfl rfl ⟨M, ((hS.drop (i := 0) rfl hb17).drop (i := 0) rfl hb15).known hG.1, PH.le.refl _, Fresh.refl _ _, rfl, rfl⟩
end Go.Proofs.Ytanogodfnfkkbaa
