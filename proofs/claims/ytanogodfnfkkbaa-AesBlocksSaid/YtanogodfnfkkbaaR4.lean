/- Own text of this seat (R4): lemmas on the way to the statement; no condition of its own. -/
import Derived.Test.YtanogodfnfkkbaaR3
set_option linter.unusedVariables false
namespace Go.Proofs.Ytanogodfnfkkbaa
open Go Go.E
theorem rKeys_ok (v : Value) (key : List UInt8) (w0 : World) (M : PH) (hM : On M w0) (hkey : Bs M v key) (hk : key.length = 16) : Ok Try.prog 21 #[v] w0 M (fun M' r => M = M' ∧ r = .tuple #[.agg (bs (Aes.keysL key)), .int .i64 0]) := by
  have hS := hM.st
  refine enterB (l := [v]) 9 Try.func21 rfl Try.ntmps21 rfl ?_
  refine CW.seq ?_
  refine CW.region ?_
  refine WL.step rfl (Stp.alloc (cs := bs (List.replicate 176 0)) rfl z36 rfl rfl rfl hS ?_)
  intro b2 w hb2 hS hkp hnw
  refine WL.step rfl (Stp.res rfl rfl (Res.assign rfl rfl) ?_)
  refine WL.nil (Thn_n ?_)
  refine CW.seq ?_
  refine CW.region ?_
  refine WL.step rfl (Stp.callG (args := []) rfl rfl rfl cal13 rfl rfl hS (rtable_ok _ _ hS.on) ?_)
  rintro _ w M1 hS hG1 ht
  refine WL.step rfl (Stp.res rfl rfl (Res.move rfl rfl) ?_)
  refine WL.step rfl (Stp.callG (args := [_, _]) rfl rfl rfl cal28 rfl rfl hS (rkeysBy_ok _ _ key _ _ hS.on ht (hkey.mono hG1.1) hk) ?_)
  rintro _ w _ hS _ ⟨rfl, rfl⟩
  refine WL.step rfl (Stp.res rfl rfl (Res.extract (l := [_, _]) rfl rfl rfl) ?_)
  refine WL.step rfl (Stp.res rfl rfl (Res.extract (l := [_, _]) rfl rfl rfl) ?_)
  refine WL.step rfl (Stp.storeAllB 0 rfl rfl rfl sz36 rfl hS rfl ⟨List.length_replicate .., Aes.keysL_length _⟩ ?_)
  intro w hS hpt
  refine WL.step rfl (Stp.res rfl rfl (Res.assign rfl rfl) ?_)
  refine WL.nil (Thn_n ?_)
  refine CW.ret ?_
  exact fq_cell_tmp rfl rfl rfl (hS.get (i := 0) rfl) Try.underlying36 rfl (by rw [size_bs, Aes.keysL_length]; exact sz36) ⟨M, (hS.known hG1.1).drop (i := 0) rfl hb2, PH.le.refl _, Fresh.refl _ _, rfl, rfl⟩

theorem rKeys_bad (v : Value) (key : List UInt8) (w0 : World) (M : PH) (hM : On M w0) (hkey : Bs M v key) (hk : key.length ≠ 16) : Ok Try.prog 21 #[v] w0 M (fun M' r => M = M' ∧ r = .tuple #[.agg (bs (List.replicate 176 0)), .int .i64 2]) := by
  have hS := hM.st
  refine enterB (l := [v]) 9 Try.func21 rfl Try.ntmps21 rfl ?_
  refine CW.seq ?_
  refine CW.region ?_
  refine WL.step rfl (Stp.alloc (cs := bs (List.replicate 176 0)) rfl z36 rfl rfl rfl hS ?_)
  intro b2 w hb2 hS hkp hnw
  refine WL.step rfl (Stp.res rfl rfl (Res.assign rfl rfl) ?_)
  refine WL.nil (Thn_n ?_)
  refine CW.seq ?_
  refine CW.region ?_
  refine WL.step rfl (Stp.callG (args := []) rfl rfl rfl cal13 rfl rfl hS (rtable_ok _ _ hS.on) ?_)
  rintro _ w M1 hS hG1 ht
  refine WL.step rfl (Stp.res rfl rfl (Res.move rfl rfl) ?_)
  refine WL.step rfl (Stp.callG (args := [_, _]) rfl rfl rfl cal28 rfl rfl hS (rkeysBy_bad _ _ key _ _ hS.on (hkey.mono hG1.1) hk) ?_)
  rintro _ w _ hS _ ⟨rfl, rfl⟩
  refine WL.step rfl (Stp.res rfl rfl (Res.extract (l := [_, _]) rfl rfl rfl) ?_)
  refine WL.step rfl (Stp.res rfl rfl (Res.extract (l := [_, _]) rfl rfl rfl) ?_)
  refine WL.step rfl (Stp.storeAllB 0 rfl rfl rfl sz36 rfl hS rfl ⟨List.length_replicate .., List.length_replicate ..⟩ ?_)
  intro w hS hpt
  refine WL.step rfl (Stp.res rfl rfl (Res.assign rfl rfl) ?_)
  refine WL.nil (Thn_n ?_)
  refine CW.ret ?_
  exact fq_cell_tmp rfl rfl rfl (hS.get (i := 0) rfl) Try.underlying36 rfl (by rw [size_bs, List.length_replicate]; exact sz36) ⟨M, (hS.known hG1.1).drop (i := 0) rfl hb2, PH.le.refl _, Fresh.refl _ _, rfl, rfl⟩

theorem rencrypt_bad1 (kv bv : Value) (key blk : List UInt8) (w0 : World) (M : PH) (hM : On M w0) (hkey : Bs M kv key) (hblk : Bs M bv blk) (hk : key.length ≠ 16) : Ok Try.prog 17 #[kv, bv] w0 M (fun M' r => M = M' ∧ r = .tuple #[.slice none 0 0, .int .i64 2]) := by
  have hS := hM.st
  obtain ⟨ba, bc, rfl, b1, b2, b3, b4⟩ := hblk
  refine enterB (l := [kv, .slice ba blk.length bc]) 66 Try.func17 rfl Try.ntmps17 rfl ?_
  refine CW.seq ?_
  refine CW.region ?_
  refine WL.step rfl (Stp.res rfl rfl (Res.assign rfl rfl) ?_)
  refine WL.step rfl (Stp.res rfl rfl (Res.assign rfl rfl) ?_)
  refine WL.nil (Thn_n ?_)
  refine CW.seq ?_
  refine CW.region ?_
  refine WL.step rfl (Stp.callG (args := []) rfl rfl rfl cal13 rfl rfl hS (rtable_ok _ _ hS.on) ?_)
  rintro _ w M1 hS hG1 ht
  refine WL.step rfl (Stp.res rfl rfl (Res.assign rfl rfl) ?_)
  refine WL.nil (Thn_n ?_)
  refine CW.seq ?_
  refine CW.region ?_
  refine WL.step rfl (Stp.res rfl rfl (Res.move rfl rfl) ?_)
  refine WL.step rfl (Stp.res rfl rfl (Res.move rfl rfl) ?_)
  refine WL.step rfl (Stp.callG (args := [_, _]) rfl rfl rfl cal28 rfl rfl hS (rkeysBy_bad _ _ key _ _ hS.on (hkey.mono hG1.1) hk) ?_)
  rintro _ w _ hS _ ⟨rfl, rfl⟩
  refine WL.step rfl (Stp.res rfl rfl (Res.move rfl rfl) ?_)
  refine WL.step rfl (Stp.res rfl rfl (Res.extract (l := [_, _]) rfl rfl rfl) ?_)
  refine WL.step rfl (Stp.res rfl rfl (Res.extract (l := [_, _]) rfl rfl rfl) ?_)
  refine WL.step rfl (Stp.alloc (cs := bs (List.replicate 176 0)) rfl z36 rfl rfl rfl hS ?_)
  intro b7 w hb7 hS hkp hnw
  refine WL.step rfl (Stp.storeAllB 0 rfl rfl rfl sz36 rfl hS rfl ⟨List.length_replicate .., List.length_replicate ..⟩ ?_)
  intro w hS hpt
  refine WL.step rfl (Stp.res rfl rfl (Res.assign rfl rfl) ?_)
  refine WL.nil (Thn_n ?_)
  refine CW.seq ?_
  refine CW.seq ?_
  refine CW.region ?_
  refine WL.step rfl (Stp.res rfl rfl (Res.move rfl rfl) ?_)
  refine WL.step rfl (Stp.res rfl rfl (Res.neq rfl rfl rfl) ?_)
  refine WL.step rfl (Stp.res rfl rfl (Res.move rfl rfl) ?_)
  refine WL.skipG 2 false rfl rfl rfl rfl rfl rfl ?_
  refine WL.skipG 2 false rfl rfl rfl rfl rfl rfl ?_
  refine WL.skipG 2 false rfl rfl rfl rfl rfl rfl ?_
  refine WL.step rfl (Stp.res rfl rfl (Res.pickT rfl rfl rfl) ?_)
  refine WL.nil (Thn_n ?_)
  refine CW.condT rfl ?_
  refine CW.seq ?_
  refine CW.region ?_
  refine WL.step rfl (Stp.res rfl rfl (Res.assign rfl rfl) ?_)
  refine WL.step rfl (Stp.res rfl rfl (Res.assign rfl rfl) ?_)
  refine WL.nil (Thn_n ?_)
  refine CW.ret (Thn_r ?_)
  exact fq_tmp2 rfl rfl rfl ⟨M, (hS.known hG1.1).drop (i := 0) rfl hb7, PH.le.refl _, Fresh.refl _ _, rfl, rfl⟩

theorem rencrypt_bad2 (kv bv : Value) (key blk : List UInt8) (w0 : World) (M : PH) (hM : On M w0) (hkey : Bs M kv key) (hblk : Bs M bv blk) (hk : key.length = 16) (hb16 : blk.length ≠ 16) : Ok Try.prog 17 #[kv, bv] w0 M (fun M' r => M = M' ∧ r = .tuple #[.slice none 0 0, .int .i64 2]) := by
  have hS := hM.st
  obtain ⟨ba, bc, rfl, b1, b2, b3, b4⟩ := hblk
  refine enterB (l := [kv, .slice ba blk.length bc]) 66 Try.func17 rfl Try.ntmps17 rfl ?_
  refine CW.seq ?_
  refine CW.region ?_
  refine WL.step rfl (Stp.res rfl rfl (Res.assign rfl rfl) ?_)
  refine WL.step rfl (Stp.res rfl rfl (Res.assign rfl rfl) ?_)
  refine WL.nil (Thn_n ?_)
  refine CW.seq ?_
  refine CW.region ?_
  refine WL.step rfl (Stp.callG (args := []) rfl rfl rfl cal13 rfl rfl hS (rtable_ok _ _ hS.on) ?_)
  rintro _ w M1 hS hG1 ht
  refine WL.step rfl (Stp.res rfl rfl (Res.assign rfl rfl) ?_)
  refine WL.nil (Thn_n ?_)
  refine CW.seq ?_
  refine CW.region ?_
  refine WL.step rfl (Stp.res rfl rfl (Res.move rfl rfl) ?_)
  refine WL.step rfl (Stp.res rfl rfl (Res.move rfl rfl) ?_)
  refine WL.step rfl (Stp.callG (args := [_, _]) rfl rfl rfl cal28 rfl rfl hS (rkeysBy_ok _ _ key _ _ hS.on ht (hkey.mono hG1.1) hk) ?_)
  rintro _ w _ hS _ ⟨rfl, rfl⟩
  refine WL.step rfl (Stp.res rfl rfl (Res.move rfl rfl) ?_)
  refine WL.step rfl (Stp.res rfl rfl (Res.extract (l := [_, _]) rfl rfl rfl) ?_)
  refine WL.step rfl (Stp.res rfl rfl (Res.extract (l := [_, _]) rfl rfl rfl) ?_)
  refine WL.step rfl (Stp.alloc (cs := bs (List.replicate 176 0)) rfl z36 rfl rfl rfl hS ?_)
  intro b7 w hb7 hS hkp hnw
  refine WL.step rfl (Stp.storeAllB 0 rfl rfl rfl sz36 rfl hS rfl ⟨List.length_replicate .., Aes.keysL_length _⟩ ?_)
  intro w hS hpt
  refine WL.step rfl (Stp.res rfl rfl (Res.assign rfl rfl) ?_)
  refine WL.nil (Thn_n ?_)
  refine CW.seq ?_
  refine CW.seq ?_
  refine CW.region ?_
  refine WL.step rfl (Stp.res rfl rfl (Res.move rfl rfl) ?_)
  refine WL.step rfl (Stp.res rfl rfl (Res.neq rfl rfl rfl) ?_)
  refine WL.step rfl (Stp.res rfl rfl (Res.move rfl rfl) ?_)
  refine WL.stepG 2 false rfl rfl rfl rfl (Stp.res rfl rfl (Res.move rfl rfl) ?_)
  refine WL.stepG 2 false rfl rfl rfl rfl (Stp.res rfl rfl (Res.len rfl rfl rfl rfl Try.underlying26) ?_)
  refine WL.stepG 2 false rfl rfl rfl rfl (Stp.res rfl rfl (Res.neq rfl rfl rfl) ?_)
  refine WL.step rfl (Stp.res rfl rfl (Res.pickF rfl rfl rfl) ?_)
  refine WL.nil (Thn_n ?_)
  refine CW.iteT rfl (by omega) ?_
  refine CW.seq ?_
  refine CW.region ?_
  refine WL.step rfl (Stp.res rfl rfl (Res.assign rfl rfl) ?_)
  refine WL.step rfl (Stp.res rfl rfl (Res.assign rfl rfl) ?_)
  refine WL.nil (Thn_n ?_)
  refine CW.ret (Thn_r ?_)
  exact fq_tmp2 rfl rfl rfl ⟨M, (hS.known hG1.1).drop (i := 0) rfl hb7, PH.le.refl _, Fresh.refl _ _, rfl, rfl⟩

theorem rdecrypt_bad1 (kv bv : Value) (key blk : List UInt8) (w0 : World) (M : PH) (hM : On M w0) (hkey : Bs M kv key) (hblk : Bs M bv blk) (hk : key.length ≠ 16) : Ok Try.prog 19 #[kv, bv] w0 M (fun M' r => M = M' ∧ r = .tuple #[.slice none 0 0, .int .i64 2]) := by
  have hS := hM.st
  obtain ⟨ba, bc, rfl, b1, b2, b3, b4⟩ := hblk
  refine enterB (l := [kv, .slice ba blk.length bc]) 84 Try.func19 rfl Try.ntmps19 rfl ?_
  refine CW.seq ?_
  refine CW.region ?_
  refine WL.step rfl (Stp.res rfl rfl (Res.assign rfl rfl) ?_)
  refine WL.step rfl (Stp.res rfl rfl (Res.assign rfl rfl) ?_)
  refine WL.nil (Thn_n ?_)
  refine CW.seq ?_
  refine CW.region ?_
  refine WL.step rfl (Stp.callG (args := []) rfl rfl rfl cal13 rfl rfl hS (rtable_ok _ _ hS.on) ?_)
  rintro _ w M1 hS hG1 ht
  refine WL.step rfl (Stp.res rfl rfl (Res.assign rfl rfl) ?_)
  refine WL.nil (Thn_n ?_)
  refine CW.seq ?_
  refine CW.region ?_
  refine WL.step rfl (Stp.res rfl rfl (Res.move rfl rfl) ?_)
  refine WL.step rfl (Stp.res rfl rfl (Res.move rfl rfl) ?_)
  refine WL.step rfl (Stp.callG (args := [_, _]) rfl rfl rfl cal28 rfl rfl hS (rkeysBy_bad _ _ key _ _ hS.on (hkey.mono hG1.1) hk) ?_)
  rintro _ w _ hS _ ⟨rfl, rfl⟩
  refine WL.step rfl (Stp.res rfl rfl (Res.move rfl rfl) ?_)
  refine WL.step rfl (Stp.res rfl rfl (Res.extract (l := [_, _]) rfl rfl rfl) ?_)
  refine WL.step rfl (Stp.res rfl rfl (Res.extract (l := [_, _]) rfl rfl rfl) ?_)
  refine WL.step rfl (Stp.alloc (cs := bs (List.replicate 176 0)) rfl z36 rfl rfl rfl hS ?_)
  intro b7 w hb7 hS hkp hnw
  refine WL.step rfl (Stp.storeAllB 0 rfl rfl rfl sz36 rfl hS rfl ⟨List.length_replicate .., List.length_replicate ..⟩ ?_)
  intro w hS hpt
  refine WL.step rfl (Stp.res rfl rfl (Res.assign rfl rfl) ?_)
  refine WL.nil (Thn_n ?_)
  refine CW.seq ?_
  refine CW.seq ?_
  refine CW.region ?_
  refine WL.step rfl (Stp.res rfl rfl (Res.move rfl rfl) ?_)
  refine WL.step rfl (Stp.res rfl rfl (Res.neq rfl rfl rfl) ?_)
  refine WL.step rfl (Stp.res rfl rfl (Res.move rfl rfl) ?_)
  refine WL.skipG 2 false rfl rfl rfl rfl rfl rfl ?_
  refine WL.skipG 2 false rfl rfl rfl rfl rfl rfl ?_
  refine WL.skipG 2 false rfl rfl rfl rfl rfl rfl ?_
  refine WL.step rfl (Stp.res rfl rfl (Res.pickT rfl rfl rfl) ?_)
  refine WL.nil (Thn_n ?_)
  refine CW.condT rfl ?_
  refine CW.seq ?_
  refine CW.region ?_
  refine WL.step rfl (Stp.res rfl rfl (Res.assign rfl rfl) ?_)
  refine WL.step rfl (Stp.res rfl rfl (Res.assign rfl rfl) ?_)
  refine WL.nil (Thn_n ?_)
  refine CW.ret (Thn_r ?_)
  exact fq_tmp2 rfl rfl rfl ⟨M, (hS.known hG1.1).drop (i := 0) rfl hb7, PH.le.refl _, Fresh.refl _ _, rfl, rfl⟩

theorem rdecrypt_bad2 (kv bv : Value) (key blk : List UInt8) (w0 : World) (M : PH) (hM : On M w0) (hkey : Bs M kv key) (hblk : Bs M bv blk) (hk : key.length = 16) (hb16 : blk.length ≠ 16) : Ok Try.prog 19 #[kv, bv] w0 M (fun M' r => M = M' ∧ r = .tuple #[.slice none 0 0, .int .i64 2]) := by
  have hS := hM.st
  obtain ⟨ba, bc, rfl, b1, b2, b3, b4⟩ := hblk
  refine enterB (l := [kv, .slice ba blk.length bc]) 84 Try.func19 rfl Try.ntmps19 rfl ?_
  refine CW.seq ?_
  refine CW.region ?_
  refine WL.step rfl (Stp.res rfl rfl (Res.assign rfl rfl) ?_)
  refine WL.step rfl (Stp.res rfl rfl (Res.assign rfl rfl) ?_)
  refine WL.nil (Thn_n ?_)
  refine CW.seq ?_
  refine CW.region ?_
  refine WL.step rfl (Stp.callG (args := []) rfl rfl rfl cal13 rfl rfl hS (rtable_ok _ _ hS.on) ?_)
  rintro _ w M1 hS hG1 ht
  refine WL.step rfl (Stp.res rfl rfl (Res.assign rfl rfl) ?_)
  refine WL.nil (Thn_n ?_)
  refine CW.seq ?_
  refine CW.region ?_
  refine WL.step rfl (Stp.res rfl rfl (Res.move rfl rfl) ?_)
  refine WL.step rfl (Stp.res rfl rfl (Res.move rfl rfl) ?_)
  refine WL.step rfl (Stp.callG (args := [_, _]) rfl rfl rfl cal28 rfl rfl hS (rkeysBy_ok _ _ key _ _ hS.on ht (hkey.mono hG1.1) hk) ?_)
  rintro _ w _ hS _ ⟨rfl, rfl⟩
  refine WL.step rfl (Stp.res rfl rfl (Res.move rfl rfl) ?_)
  refine WL.step rfl (Stp.res rfl rfl (Res.extract (l := [_, _]) rfl rfl rfl) ?_)
  refine WL.step rfl (Stp.res rfl rfl (Res.extract (l := [_, _]) rfl rfl rfl) ?_)
  refine WL.step rfl (Stp.alloc (cs := bs (List.replicate 176 0)) rfl z36 rfl rfl rfl hS ?_)
  intro b7 w hb7 hS hkp hnw
  refine WL.step rfl (Stp.storeAllB 0 rfl rfl rfl sz36 rfl hS rfl ⟨List.length_replicate .., Aes.keysL_length _⟩ ?_)
  intro w hS hpt
  refine WL.step rfl (Stp.res rfl rfl (Res.assign rfl rfl) ?_)
  refine WL.nil (Thn_n ?_)
  refine CW.seq ?_
  refine CW.seq ?_
  refine CW.region ?_
  refine WL.step rfl (Stp.res rfl rfl (Res.move rfl rfl) ?_)
  refine WL.step rfl (Stp.res rfl rfl (Res.neq rfl rfl rfl) ?_)
  refine WL.step rfl (Stp.res rfl rfl (Res.move rfl rfl) ?_)
  refine WL.stepG 2 false rfl rfl rfl rfl (Stp.res rfl rfl (Res.move rfl rfl) ?_)
  refine WL.stepG 2 false rfl rfl rfl rfl (Stp.res rfl rfl (Res.len rfl rfl rfl rfl Try.underlying26) ?_)
  refine WL.stepG 2 false rfl rfl rfl rfl (Stp.res rfl rfl (Res.neq rfl rfl rfl) ?_)
  refine WL.step rfl (Stp.res rfl rfl (Res.pickF rfl rfl rfl) ?_)
  refine WL.nil (Thn_n ?_)
  refine CW.iteT rfl (by omega) ?_
  refine CW.seq ?_
  refine CW.region ?_
  refine WL.step rfl (Stp.res rfl rfl (Res.assign rfl rfl) ?_)
  refine WL.step rfl (Stp.res rfl rfl (Res.assign rfl rfl) ?_)
  refine WL.nil (Thn_n ?_)
  refine CW.ret (Thn_r ?_)
  exact fq_tmp2 rfl rfl rfl ⟨M, (hS.known hG1.1).drop (i := 0) rfl hb7, PH.le.refl _, Fresh.refl _ _, rfl, rfl⟩

theorem rencrypt_ok (kv bv : Value) (key blk : List UInt8) (w0 : World) (M : PH) (hM : On M w0) (hkey : Bs M kv key) (hblk : Bs M bv blk) (hk : key.length = 16) (hb16 : blk.length = 16) : Ok Try.prog 17 #[kv, bv] w0 M (fun M' r => ∃ s, r = .tuple #[s, .int .i64 0] ∧ Bs M' s (Aes.enc key blk)) := by
  have hS := hM.st
  have hblk0 := hblk
  obtain ⟨ba, bc, rfl, b1, b2, b3, b4⟩ := hblk
  refine enterB (l := [kv, .slice ba blk.length bc]) 66 Try.func17 rfl Try.ntmps17 rfl ?_
  refine CW.seq ?_
  refine CW.region ?_
  refine WL.step rfl (Stp.res rfl rfl (Res.assign rfl rfl) ?_)
  refine WL.step rfl (Stp.res rfl rfl (Res.assign rfl rfl) ?_)
  refine WL.nil (Thn_n ?_)
  refine CW.seq ?_
  refine CW.region ?_
  refine WL.step rfl (Stp.callG (args := []) rfl rfl rfl cal13 rfl rfl hS (rtable_ok _ _ hS.on) ?_)
  rintro _ w M1 hS hG1 ht
  refine WL.step rfl (Stp.res rfl rfl (Res.assign rfl rfl) ?_)
  refine WL.nil (Thn_n ?_)
  refine CW.seq ?_
  refine CW.region ?_
  refine WL.step rfl (Stp.res rfl rfl (Res.move rfl rfl) ?_)
  refine WL.step rfl (Stp.res rfl rfl (Res.move rfl rfl) ?_)
  refine WL.step rfl (Stp.callG (args := [_, _]) rfl rfl rfl cal28 rfl rfl hS (rkeysBy_ok _ _ key _ _ hS.on ht (hkey.mono hG1.1) hk) ?_)
  rintro _ w _ hS _ ⟨rfl, rfl⟩
  refine WL.step rfl (Stp.res rfl rfl (Res.move rfl rfl) ?_)
  refine WL.step rfl (Stp.res rfl rfl (Res.extract (l := [_, _]) rfl rfl rfl) ?_)
  refine WL.step rfl (Stp.res rfl rfl (Res.extract (l := [_, _]) rfl rfl rfl) ?_)
  refine WL.step rfl (Stp.alloc (cs := bs (List.replicate 176 0)) rfl z36 rfl rfl rfl hS ?_)
  intro b7 w hb7 hS hkp hnw
  refine WL.step rfl (Stp.storeAllB 0 rfl rfl rfl sz36 rfl hS rfl ⟨List.length_replicate .., Aes.keysL_length _⟩ ?_)
  intro w hS hpt
  refine WL.step rfl (Stp.res rfl rfl (Res.assign rfl rfl) ?_)
  refine WL.nil (Thn_n ?_)
  refine CW.seq ?_
  refine CW.seq ?_
  refine CW.region ?_
  refine WL.step rfl (Stp.res rfl rfl (Res.move rfl rfl) ?_)
  refine WL.step rfl (Stp.res rfl rfl (Res.neq rfl rfl rfl) ?_)
  refine WL.step rfl (Stp.res rfl rfl (Res.move rfl rfl) ?_)
  refine WL.stepG 2 false rfl rfl rfl rfl (Stp.res rfl rfl (Res.move rfl rfl) ?_)
  refine WL.stepG 2 false rfl rfl rfl rfl (Stp.res rfl rfl (Res.len rfl rfl rfl rfl Try.underlying26) ?_)
  refine WL.stepG 2 false rfl rfl rfl rfl (Stp.res rfl rfl (Res.neq rfl rfl rfl) ?_)
  refine WL.step rfl (Stp.res rfl rfl (Res.pickF rfl rfl rfl) ?_)
  refine WL.nil (Thn_n ?_)
  refine CW.iteF rfl (by omega) ?_
  refine CW.skip (Thn_n ?_)
  refine CW.seq ?_
  obtain ⟨tb, to_, tc, rfl, tc1, tc2, tcell⟩ := ht.at (by rw [Aes.boxL_len]; omega)
  refine CW.region ?_
  refine WL.step rfl (Stp.res rfl rfl (Res.move rfl rfl) ?_)
  refine WL.step rfl (Stp.res rfl rfl (Res.idxAN (k := 0) rfl rfl rfl Try.underlying36 sz29 rfl (by omega)) ?_)
  refine WL.step rfl (Stp.res rfl rfl (Res.loadNB (l := Aes.rk key (0)) rfl rfl Try.underlying29 rfl sz29 (Aes.rk_length hk _) (fun j hj => hS.ocell (i := 0) rfl (by rw [bs_get (by rw [Aes.keysL_length]; omega), Aes.keysL_at key _ j (by omega) hj]))) ?_)
  refine WL.step rfl (Stp.callG (args := [_, _]) rfl rfl rfl cal29 rfl rfl hS (rxor_ok _ blk (Aes.rk key 0) _ _ hS.on (hblk0.mono hG1.1) hb16 (Aes.rk_length hk _)) ?_)
  rintro _ w M2 hS hG2 hs2
  refine WL.step rfl (Stp.res rfl rfl (Res.assign rfl rfl) ?_)
  refine WL.nil (Thn_n ?_)
  refine CW.seq ?_
  refine CW.seq ?_
  refine CW.region ?_
  refine WL.step rfl (Stp.res rfl rfl (Res.assign rfl rfl) ?_)
  refine WL.nil (Thn_n ?_)
  refine CW.block ?_
  refine CW.loop (σ := Nat × Value × PH) (fun s => [(6, .slice (some ⟨tb, to_, none⟩) Aes.boxL.length tc), (7, .pointer (some ⟨b7, 0, none⟩)), (9, s.2.1), (10, .int .i64 ((s.1 : Int) + 1))])
    (fun s w' => s.1 ≤ 10 ∧ M1.le s.2.2 ∧ Grow w0.heap.size M s.2.2 ∧ St w0 w' s.2.2 [(b7, .cells (bs (Aes.keysL key)) 36 (0, 0))] ∧ Bs s.2.2 s.2.1 (Aes.encAt key blk s.1)) (fun s => 11 - s.1) (0, _, M2) ⟨rfl, rfl, rfl, rfl, trivial⟩ ⟨by dsimp only; omega, hG2.1, hG1.trans hG2, hS, hs2⟩ ?_
  rintro ⟨r, v, Mr⟩ w1 ⟨hr, hle1, hGr, hS, hv⟩
  dsimp only at hr hle1 hGr hS hv ⊢
  refine CW.seq ?_
  refine CW.seq ?_
  refine CW.region ?_
  refine WL.step rfl (Stp.res rfl rfl (Res.move rfl rfl) ?_)
  refine WL.step rfl (Stp.res rfl rfl (Res.leq rfl rfl rfl) ?_)
  refine WL.nil (Thn_n ?_)
  refine CW.ite rfl (fun h => ?_) (fun h => ?_)
  · have hlt : r ≤ 9 := by omega
    obtain ⟨vb, vo, vc, rfl, vc1, vc2, vcell⟩ := hv.at (by rw [Aes.encAt_length]; omega)
    refine CW.skip (Thn_n ?_)
    refine CW.seq ?_
    refine CW.block ?_
    refine CW.seq ?_
    refine CW.region ?_
    refine WL.step rfl (Stp.makeB (k := 16) (c := 16) rfl rfl rfl et26 ⟨Nat.le_refl 16, by decide⟩ rfl rfl hS ?_)
    intro b35 w hb35 hS hkp hnw
    refine WL.step rfl (Stp.res rfl rfl (Res.assign rfl rfl) ?_)
    refine WL.nil (Thn_n ?_)
    refine CW.seq ?_
    refine CW.seq ?_
    refine CW.region ?_
    refine WL.step rfl (Stp.res rfl rfl (Res.assign rfl rfl) ?_)
    refine WL.nil (Thn_n ?_)
    refine CW.block ?_
    refine CW.loop (σ := Nat) (fun k => [(6, .slice (some ⟨tb, to_, none⟩) Aes.boxL.length tc), (7, .pointer (some ⟨b7, 0, none⟩)), (9, .slice (some ⟨vb, vo, none⟩) (Aes.encAt key blk r).length vc), (10, .int .i64 ((r : Int) + 1)), (11, .slice (some ⟨b35, 0, none⟩) 16 16), (12, .int .i64 (k : Int))])
      (fun k w' => k ≤ 16 ∧ St w0 w' Mr [(b35, .cells (bs (Aes.upTo k (fun j => Aes.sub ((Aes.encAt key blk r).getD ((j + 4 * (j % 4)) % 16) 0)) (List.replicate 16 0))) 5 (0, 0)), (b7, .cells (bs (Aes.keysL key)) 36 (0, 0))]) (fun k => 16 - k) 0 ⟨rfl, rfl, rfl, rfl, rfl, rfl, trivial⟩ ⟨by omega, by rw [Aes.upTo_zero]; exact hS⟩ ?_
    rintro k w2 ⟨hk16, hS⟩
    refine CW.seq ?_
    refine CW.seq ?_
    refine CW.region ?_
    refine WL.step rfl (Stp.res rfl rfl (Res.move rfl rfl) ?_)
    refine WL.step rfl (Stp.res rfl rfl (Res.lss rfl rfl rfl) ?_)
    refine WL.nil (Thn_n ?_)
    refine CW.ite rfl (fun h2 => ?_) (fun h2 => ?_)
    · have hlk : k < 16 := by omega
      refine CW.skip (Thn_n ?_)
      refine CW.seq ?_
      refine CW.block ?_
      refine CW.region ?_
      refine WL.step rfl (Stp.res rfl rfl (Res.move rfl rfl) ?_)
      refine WL.step rfl (Stp.res rfl rfl (Res.move rfl rfl) ?_)
      refine WL.step rfl (Stp.res rfl rfl (Res.move rfl rfl) ?_)
      refine WL.step rfl (Stp.res rfl rfl (Res.move rfl rfl) ?_)
      refine WL.step rfl (Stp.res rfl rfl (Res.move rfl rfl) ?_)
      refine WL.step rfl (Stp.res rfl rfl (Res.move rfl rfl) ?_)
      refine WL.step rfl (Stp.res rfl rfl (Res.rem rfl rfl rfl (by omega)) ?_)
      refine WL.step rfl (Stp.res rfl rfl (Res.mul rfl rfl rfl (by omega)) ?_)
      refine WL.step rfl (Stp.res rfl rfl (Res.add rfl rfl rfl (by omega)) ?_)
      refine WL.step rfl (Stp.res rfl rfl (Res.rem rfl rfl rfl (by omega)) ?_)
      refine WL.step rfl (Stp.res rfl rfl (Res.idxS1 (k := (k + 4 * (k % 4)) % 16) rfl rfl rfl Try.underlying26 sz5 (by omega) (by rw [Aes.encAt_length]; omega)) ?_)
      refine WL.step rfl (Stp.res rfl rfl (Res.load1 rfl rfl Try.underlying5 rfl (hS.cell (vcell _ (by rw [Aes.encAt_length]; omega)))) ?_)
      refine WL.step rfl (Stp.res rfl rfl (Res.idxS1 (k := UInt8.toNat _) rfl rfl rfl Try.underlying26 sz5 (Int.toNat_natCast _) ⟨Int.natCast_nonneg _, by rw [Aes.boxL_len]; exact Int.ofNat_lt.2 (UInt8.toNat_lt _)⟩) ?_)
      refine WL.step rfl (Stp.res rfl rfl (Res.load1 rfl rfl Try.underlying5 rfl (hS.cell (PH.cell_mono hle1 (tcell _ (by rw [Aes.boxL_len]; exact UInt8.toNat_lt _))))) ?_)
      refine WL.step rfl (Stp.res rfl rfl (Res.idxS0 (k := k) rfl rfl rfl Try.underlying26 sz5 (Int.toNat_natCast _) (by omega)) ?_)
      refine WL.step rfl (Stp.storeB 0 rfl rfl rfl sz5 rfl hS rfl (by simp; omega) ?_)
      intro w hS hpt
      refine WL.nil (Blk_n (Thn_n ?_))
      refine CW.region ?_
      refine WL.step rfl (Stp.res rfl rfl (Res.move rfl rfl) ?_)
      refine WL.step rfl (Stp.res rfl rfl (Res.add rfl rfl rfl (by omega)) ?_)
      refine WL.step rfl (Stp.res rfl rfl (Res.assign rfl rfl) ?_)
      refine WL.nil (Thn_n ?_)
      refine ⟨k + 1, ⟨rfl, rfl, rfl, rfl, rfl, rfl, trivial⟩, ⟨by omega, ?_⟩, by omega⟩
      rw [← Aes.upTo_set]
      exact hS
    · obtain rfl : k = 16 := by omega
      rw [Aes.upTo_all _ _ 16 (List.length_replicate ..), ← Aes.turn_sub] at hS
      have hF := hS.freezeG (i := 0) rfl hb35
      obtain ⟨MT, hGT, hlT, hT, hS⟩ : ∃ MT, Grow w0.heap.size M MT ∧ M1.le MT ∧ Bs MT (.slice (some ⟨b35, 0, none⟩) 16 16) (Aes.turnB 1 (Aes.subB (Aes.encAt key blk r))) ∧ St w0 w2 MT [(b7, .cells (bs (Aes.keysL key)) 36 (0, 0))] := ⟨_, hGr.trans hF.2, hle1.trans hF.2.1, Bs.of' (PH.add_self _ _ _) (by simp) (by omega), hF.1⟩
      refine CW.exit (Thn_x (Thn_x (Blk_x (Thn_n ?_))))
      refine CW.seq ?_
      refine CW.seq ?_
      refine CW.region ?_
      refine WL.step rfl (Stp.res rfl rfl (Res.move rfl rfl) ?_)
      refine WL.step rfl (Stp.res rfl rfl (Res.lss rfl rfl rfl) ?_)
      refine WL.nil (Thn_n ?_)
      refine CW.ite rfl (fun h3 => ?_) (fun h3 => ?_)
      · have hc : r + 1 < 10 := by omega
        refine CW.region ?_
        refine WL.step rfl (Stp.res rfl rfl (Res.move rfl rfl) ?_)
        refine WL.step rfl (Stp.res rfl rfl (Res.build (vals := [(0, byte 2), (1, byte 3), (2, byte 1), (3, byte 1)]) (cs := bs [2, 3, 1, 1]) rfl rfl (fun _ => by kernel_rfl)) ?_)
        refine WL.step rfl (Stp.callG (args := [_, _]) rfl rfl rfl cal30 rfl rfl hS (rmix_ok _ _ [2, 3, 1, 1] _ _ hS.on hT (by simp) rfl) ?_)
        rintro _ w MY hS hGY hX
        have hGT := hGT.trans hGY
        refine WL.step rfl (Stp.res rfl rfl (Res.assign rfl rfl) ?_)
        refine WL.nil (Thn_n ?_)
        refine CW.region ?_
        refine WL.step rfl (Stp.res rfl rfl (Res.move rfl rfl) ?_)
        refine WL.step rfl (Stp.res rfl rfl (Res.move rfl rfl) ?_)
        refine WL.step rfl (Stp.res rfl rfl (Res.idxAN (k := r + 1) rfl rfl rfl Try.underlying36 sz29 (by omega) (by omega)) ?_)
        refine WL.step rfl (Stp.res rfl rfl (Res.loadNB (l := Aes.rk key (r + 1)) rfl rfl Try.underlying29 rfl sz29 (Aes.rk_length hk _) (fun j hj => hS.ocell (i := 0) rfl (by rw [bs_get (by rw [Aes.keysL_length]; omega), Aes.keysL_at key _ j (by omega) hj]))) ?_)
        refine WL.step rfl (Stp.callG (args := [_, _]) rfl rfl rfl cal29 rfl rfl hS (rxor_ok _ _ (Aes.rk key (r + 1)) _ _ hS.on hX (by simp) (Aes.rk_length hk _)) ?_)
        rintro _ w MX hS hGX hX
        refine WL.step rfl (Stp.res rfl rfl (Res.assign rfl rfl) ?_)
        refine WL.nil (Blk_n (Thn_n ?_))
        refine CW.region ?_
        refine WL.step rfl (Stp.res rfl rfl (Res.move rfl rfl) ?_)
        refine WL.step rfl (Stp.res rfl rfl (Res.add rfl rfl rfl (by omega)) ?_)
        refine WL.step rfl (Stp.res rfl rfl (Res.assign rfl rfl) ?_)
        refine WL.nil (Thn_n ?_)
        refine ⟨(r + 1, _, MX), ⟨rfl, rfl, rfl, i64c (by dsimp only; omega), trivial⟩, ⟨by dsimp only; omega, ?_, hGT.trans hGX, hS, ?_⟩, by dsimp only; omega⟩
        · first | exact hlT.trans (hGY.1.trans hGX.1) | exact hlT.trans hGX.1
        · show Bs MX _ (Aes.encRound key (r + 1) (Aes.encAt key blk r))
          first | (rw [Aes.encRound, if_pos hc]; exact hX) | (rw [Aes.encRound, if_neg hc]; exact hX)
      · have hc : ¬ r + 1 < 10 := by omega
        have hX := hT
        refine CW.skip (Thn_n ?_)
        refine CW.region ?_
        refine WL.step rfl (Stp.res rfl rfl (Res.move rfl rfl) ?_)
        refine WL.step rfl (Stp.res rfl rfl (Res.move rfl rfl) ?_)
        refine WL.step rfl (Stp.res rfl rfl (Res.idxAN (k := r + 1) rfl rfl rfl Try.underlying36 sz29 (by omega) (by omega)) ?_)
        refine WL.step rfl (Stp.res rfl rfl (Res.loadNB (l := Aes.rk key (r + 1)) rfl rfl Try.underlying29 rfl sz29 (Aes.rk_length hk _) (fun j hj => hS.ocell (i := 0) rfl (by rw [bs_get (by rw [Aes.keysL_length]; omega), Aes.keysL_at key _ j (by omega) hj]))) ?_)
        refine WL.step rfl (Stp.callG (args := [_, _]) rfl rfl rfl cal29 rfl rfl hS (rxor_ok _ _ (Aes.rk key (r + 1)) _ _ hS.on hX (by simp) (Aes.rk_length hk _)) ?_)
        rintro _ w MX hS hGX hX
        refine WL.step rfl (Stp.res rfl rfl (Res.assign rfl rfl) ?_)
        refine WL.nil (Blk_n (Thn_n ?_))
        refine CW.region ?_
        refine WL.step rfl (Stp.res rfl rfl (Res.move rfl rfl) ?_)
        refine WL.step rfl (Stp.res rfl rfl (Res.add rfl rfl rfl (by omega)) ?_)
        refine WL.step rfl (Stp.res rfl rfl (Res.assign rfl rfl) ?_)
        refine WL.nil (Thn_n ?_)
        refine ⟨(r + 1, _, MX), ⟨rfl, rfl, rfl, i64c (by dsimp only; omega), trivial⟩, ⟨by dsimp only; omega, ?_, hGT.trans hGX, hS, ?_⟩, by dsimp only; omega⟩
        · first | exact hlT.trans (hGY.1.trans hGX.1) | exact hlT.trans hGX.1
        · show Bs MX _ (Aes.encRound key (r + 1) (Aes.encAt key blk r))
          first | (rw [Aes.encRound, if_pos hc]; exact hX) | (rw [Aes.encRound, if_neg hc]; exact hX)
  · obtain rfl : r = 10 := by omega
    refine CW.exit (Thn_x (Thn_x (Blk_x (Thn_n ?_))))
    refine CW.seq ?_
    refine CW.region ?_
    refine WL.step rfl (Stp.res rfl rfl (Res.move rfl rfl) ?_)
    refine WL.step rfl (Stp.res rfl rfl (Res.assign rfl rfl) ?_)
    refine WL.step rfl (Stp.res rfl rfl (Res.assign rfl rfl) ?_)
    refine WL.nil (Thn_n ?_)
    refine CW.ret ?_
    exact fq_tmp2 rfl rfl rfl ⟨Mr, hS.drop (i := 0) rfl hb7, hGr.1, hGr.2, _, rfl, hv⟩

theorem rdecrypt_ok (kv bv : Value) (key blk : List UInt8) (w0 : World) (M : PH) (hM : On M w0) (hkey : Bs M kv key) (hblk : Bs M bv blk) (hk : key.length = 16) (hb16 : blk.length = 16) : Ok Try.prog 19 #[kv, bv] w0 M (fun M' r => ∃ s, r = .tuple #[s, .int .i64 0] ∧ Bs M' s (Aes.dec key blk)) := by
  have hS := hM.st
  have hblk0 := hblk
  obtain ⟨ba, bc, rfl, b1, b2, b3, b4⟩ := hblk
  refine enterB (l := [kv, .slice ba blk.length bc]) 84 Try.func19 rfl Try.ntmps19 rfl ?_
  refine CW.seq ?_
  refine CW.region ?_
  refine WL.step rfl (Stp.res rfl rfl (Res.assign rfl rfl) ?_)
  refine WL.step rfl (Stp.res rfl rfl (Res.assign rfl rfl) ?_)
  refine WL.nil (Thn_n ?_)
  refine CW.seq ?_
  refine CW.region ?_
  refine WL.step rfl (Stp.callG (args := []) rfl rfl rfl cal13 rfl rfl hS (rtable_ok _ _ hS.on) ?_)
  rintro _ w M1 hS hG1 ht
  refine WL.step rfl (Stp.res rfl rfl (Res.assign rfl rfl) ?_)
  refine WL.nil (Thn_n ?_)
  refine CW.seq ?_
  refine CW.region ?_
  refine WL.step rfl (Stp.res rfl rfl (Res.move rfl rfl) ?_)
  refine WL.step rfl (Stp.res rfl rfl (Res.move rfl rfl) ?_)
  refine WL.step rfl (Stp.callG (args := [_, _]) rfl rfl rfl cal28 rfl rfl hS (rkeysBy_ok _ _ key _ _ hS.on ht (hkey.mono hG1.1) hk) ?_)
  rintro _ w _ hS _ ⟨rfl, rfl⟩
  refine WL.step rfl (Stp.res rfl rfl (Res.move rfl rfl) ?_)
  refine WL.step rfl (Stp.res rfl rfl (Res.extract (l := [_, _]) rfl rfl rfl) ?_)
  refine WL.step rfl (Stp.res rfl rfl (Res.extract (l := [_, _]) rfl rfl rfl) ?_)
  refine WL.step rfl (Stp.alloc (cs := bs (List.replicate 176 0)) rfl z36 rfl rfl rfl hS ?_)
  intro b7 w hb7 hS hkp hnw
  refine WL.step rfl (Stp.storeAllB 0 rfl rfl rfl sz36 rfl hS rfl ⟨List.length_replicate .., Aes.keysL_length _⟩ ?_)
  intro w hS hpt
  refine WL.step rfl (Stp.res rfl rfl (Res.assign rfl rfl) ?_)
  refine WL.nil (Thn_n ?_)
  refine CW.seq ?_
  refine CW.seq ?_
  refine CW.region ?_
  refine WL.step rfl (Stp.res rfl rfl (Res.move rfl rfl) ?_)
  refine WL.step rfl (Stp.res rfl rfl (Res.neq rfl rfl rfl) ?_)
  refine WL.step rfl (Stp.res rfl rfl (Res.move rfl rfl) ?_)
  refine WL.stepG 2 false rfl rfl rfl rfl (Stp.res rfl rfl (Res.move rfl rfl) ?_)
  refine WL.stepG 2 false rfl rfl rfl rfl (Stp.res rfl rfl (Res.len rfl rfl rfl rfl Try.underlying26) ?_)
  refine WL.stepG 2 false rfl rfl rfl rfl (Stp.res rfl rfl (Res.neq rfl rfl rfl) ?_)
  refine WL.step rfl (Stp.res rfl rfl (Res.pickF rfl rfl rfl) ?_)
  refine WL.nil (Thn_n ?_)
  refine CW.iteF rfl (by omega) ?_
  refine CW.skip (Thn_n ?_)
  refine CW.seq ?_
  obtain ⟨tb, to_, tc, rfl, tc1, tc2, tcell⟩ := ht.at (by rw [Aes.boxL_len]; omega)
  refine CW.region ?_
  refine WL.step rfl (Stp.makeB (k := 256) (c := 256) rfl rfl rfl et26 ⟨Nat.le_refl 256, by decide⟩ rfl rfl hS ?_)
  intro b29 w hb29 hS hkp hnw
  refine WL.step rfl (Stp.res rfl rfl (Res.assign rfl rfl) ?_)
  refine WL.nil (Thn_n ?_)
  refine CW.seq ?_
  refine CW.seq ?_
  refine CW.region ?_
  refine WL.step rfl (Stp.res rfl rfl (Res.assign rfl rfl) ?_)
  refine WL.nil (Thn_n ?_)
  refine CW.block ?_
  refine CW.loop (σ := Nat) (fun m => [(1, .slice ba blk.length bc), (6, .slice (some ⟨tb, to_, none⟩) Aes.boxL.length tc), (7, .pointer (some ⟨b7, 0, none⟩)), (9, .slice (some ⟨b29, 0, none⟩) 256 256), (10, .int .i64 (m : Int))])
    (fun m w' => m ≤ 256 ∧ St w0 w' M1 [(b29, .cells (bs (Aes.unAt m)) 5 (0, 0)), (b7, .cells (bs (Aes.keysL key)) 36 (0, 0))]) (fun m => 256 - m) 0 ⟨rfl, rfl, rfl, rfl, rfl, trivial⟩ ⟨by omega, hS⟩ ?_
  rintro m w1 ⟨hm, hS⟩
  refine CW.seq ?_
  refine CW.seq ?_
  refine CW.region ?_
  refine WL.step rfl (Stp.res rfl rfl (Res.move rfl rfl) ?_)
  refine WL.step rfl (Stp.res rfl rfl (Res.lss rfl rfl rfl) ?_)
  refine WL.nil (Thn_n ?_)
  refine CW.ite rfl (fun h1 => ?_) (fun h1 => ?_)
  · have hlt : m < 256 := by omega
    refine CW.skip (Thn_n ?_)
    refine CW.seq ?_
    refine CW.block ?_
    refine CW.region ?_
    refine WL.step rfl (Stp.res rfl rfl (Res.move rfl rfl) ?_)
    refine WL.step rfl (Stp.res rfl rfl (Res.move rfl rfl) ?_)
    refine WL.step rfl (Stp.res rfl rfl (Res.move rfl rfl) ?_)
    refine WL.step rfl (Stp.res rfl rfl (Res.idxS1 (k := m) rfl rfl rfl Try.underlying26 sz5 (Int.toNat_natCast _) (by rw [Aes.boxL_len]; omega)) ?_)
    refine WL.step rfl (Stp.res rfl rfl (Res.load1 rfl rfl Try.underlying5 rfl (hS.cell (tcell _ (by rw [Aes.boxL_len]; omega)))) ?_)
    refine WL.step rfl (Stp.res rfl rfl (Res.move rfl rfl) ?_)
    refine WL.step rfl (Stp.res rfl rfl (Res.convB (k := m) rfl rfl Try.underlying3 Try.underlying5) ?_)
    refine WL.step rfl (Stp.res rfl rfl (Res.idxS0 (k := UInt8.toNat _) rfl rfl rfl Try.underlying26 sz5 (Int.toNat_natCast _) ⟨Int.natCast_nonneg _, Int.ofNat_lt.2 (UInt8.toNat_lt _)⟩) ?_)
    refine WL.step rfl (Stp.storeB 0 rfl rfl rfl sz5 rfl hS rfl (by rw [Aes.unAt_len]; exact UInt8.toNat_lt _) ?_)
    intro w hS hpt
    refine WL.nil (Blk_n (Thn_n ?_))
    refine CW.region ?_
    refine WL.step rfl (Stp.res rfl rfl (Res.move rfl rfl) ?_)
    refine WL.step rfl (Stp.res rfl rfl (Res.add rfl rfl rfl (by omega)) ?_)
    refine WL.step rfl (Stp.res rfl rfl (Res.assign rfl rfl) ?_)
    refine WL.nil (Thn_n ?_)
    exact ⟨m + 1, ⟨rfl, rfl, rfl, rfl, rfl, trivial⟩, ⟨by omega, hS⟩, by omega⟩
  · obtain rfl : m = 256 := by omega
    refine CW.exit (Thn_x (Thn_x (Blk_x (Thn_n ?_))))
    refine CW.seq ?_
    refine CW.region ?_
    refine WL.step rfl (Stp.lit (vals := []) (cs := bs []) (e := 5) rfl rfl (fun _ => by kernel_rfl) rfl rfl hS ?_)
    intro b42 w hb42 hS hkp hnw
    refine WL.step rfl (Stp.res rfl rfl (Res.move rfl rfl) ?_)
    refine WL.step rfl (Stp.appendB (l := []) (r := blk) rfl rfl rfl rfl et26 (Src.ofBs Try.underlying26 hS (hblk0.mono hG1.1)) hS (OwnB.of hb42 (Nat.le_refl 0) (by omega) [] rfl rfl) (by rw [hb16]; decide) rfl rfl ?_)
    intro v' w g' hS hown
    rw [List.nil_append] at hown
    obtain ⟨M3, hS, hle3, hfr3, hv3⟩ := hown.give hS
    refine WL.step rfl (Stp.res rfl rfl (Res.assign rfl rfl) ?_)
    refine WL.nil (Thn_n ?_)
    refine CW.seq ?_
    refine CW.seq ?_
    refine CW.region ?_
    refine WL.step rfl (Stp.res rfl rfl (Res.assign rfl rfl) ?_)
    refine WL.nil (Thn_n ?_)
    refine CW.block ?_
    refine CW.loop (σ := Nat × Value × PH) (fun s => [(6, .slice (some ⟨tb, to_, none⟩) Aes.boxL.length tc), (7, .pointer (some ⟨b7, 0, none⟩)), (9, .slice (some ⟨b29, 0, none⟩) 256 256), (11, s.2.1), (12, .int .i64 (10 - (s.1 : Int)))])
      (fun s w' => s.1 ≤ 10 ∧ Grow w0.heap.size M s.2.2 ∧ St w0 w' s.2.2 [(b29, .cells (bs (Aes.unAt 256)) 5 (0, 0)), (b7, .cells (bs (Aes.keysL key)) 36 (0, 0))] ∧ Bs s.2.2 s.2.1 (Aes.decAt key blk s.1)) (fun s => 11 - s.1) (0, _, M3) ⟨rfl, rfl, rfl, rfl, rfl, trivial⟩ ⟨by dsimp only; omega, hG1.trans ⟨hle3, hfr3⟩, hS, hv3⟩ ?_
    rintro ⟨n, v, Mn⟩ w2 ⟨hn, hGn, hS, hv⟩
    dsimp only at hn hGn hS hv ⊢
    refine CW.seq ?_
    refine CW.seq ?_
    refine CW.region ?_
    refine WL.step rfl (Stp.res rfl rfl (Res.move rfl rfl) ?_)
    refine WL.step rfl (Stp.res rfl rfl (Res.geq rfl rfl rfl) ?_)
    refine WL.nil (Thn_n ?_)
    refine CW.ite rfl (fun h2 => ?_) (fun h2 => ?_)
    · have hlt : n ≤ 9 := by omega
      refine CW.skip (Thn_n ?_)
      refine CW.seq ?_
      refine CW.block ?_
      refine CW.seq ?_
      refine CW.region ?_
      refine WL.step rfl (Stp.res rfl rfl (Res.move rfl rfl) ?_)
      refine WL.step rfl (Stp.res rfl rfl (Res.move rfl rfl) ?_)
      refine WL.step rfl (Stp.res rfl rfl (Res.idxAN (k := 10 - n) rfl rfl rfl Try.underlying36 sz29 (by omega) (by omega)) ?_)
      refine WL.step rfl (Stp.res rfl rfl (Res.loadNB (l := Aes.rk key (10 - n)) rfl rfl Try.underlying29 rfl sz29 (Aes.rk_length hk _) (fun j hj => hS.ocell (i := 1) rfl (by rw [bs_get (by rw [Aes.keysL_length]; omega), Aes.keysL_at key _ j (by omega) hj]))) ?_)
      refine WL.step rfl (Stp.callG (args := [_, _]) rfl rfl rfl cal29 rfl rfl hS (rxor_ok _ _ (Aes.rk key (10 - n)) _ _ hS.on hv (Aes.decAt_length key hb16 _) (Aes.rk_length hk _)) ?_)
      rintro xv w M5 hS hG5 hs5
      refine WL.step rfl (Stp.res rfl rfl (Res.assign rfl rfl) ?_)
      refine WL.nil (Thn_n ?_)
      refine CW.seq ?_
      refine CW.seq ?_
      refine CW.region ?_
      refine WL.step rfl (Stp.res rfl rfl (Res.move rfl rfl) ?_)
      refine WL.step rfl (Stp.res rfl rfl (Res.lss rfl rfl rfl) ?_)
      refine WL.nil (Thn_n ?_)
      refine CW.ite rfl (fun h3 => ?_) (fun h3 => ?_)
      · have hc : 10 - n < 10 := by omega
        refine CW.region ?_
        refine WL.step rfl (Stp.res rfl rfl (Res.move rfl rfl) ?_)
        refine WL.step rfl (Stp.res rfl rfl (Res.build (vals := [(0, byte 14), (1, byte 11), (2, byte 13), (3, byte 9)]) (cs := bs [14, 11, 13, 9]) rfl rfl (fun _ => by kernel_rfl)) ?_)
        refine WL.step rfl (Stp.callG (args := [_, _]) rfl rfl rfl cal30 rfl rfl hS (rmix_ok _ _ [14, 11, 13, 9] _ _ hS.on hs5 (by simp) rfl) ?_)
        rintro xv w MY hS hGY hY
        obtain ⟨X, MX, hGX, hXe, hXl, hXb, hS⟩ : ∃ X MX, Grow w0.heap.size M MX ∧ Aes.decStep key (10 - n) (Aes.decAt key blk n) = Aes.backB (Aes.turnB 3 X) ∧ X.length = 16 ∧ Bs MX xv X ∧ St w0 w MX [(b29, .cells (bs (Aes.unAt 256)) 5 (0, 0)), (b7, .cells (bs (Aes.keysL key)) 36 (0, 0))] := ⟨_, MY, hGn.trans (hG5.trans hGY), by rw [Aes.decStep, if_pos hc], by simp, hY, hS⟩
        obtain ⟨xb, xo, xc, rfl, xc1, xc2, xcell⟩ := hXb.at (by omega)
        refine WL.step rfl (Stp.res rfl rfl (Res.assign rfl rfl) ?_)
        refine WL.nil (Thn_n ?_)
        refine CW.seq ?_
        refine CW.region ?_
        refine WL.step rfl (Stp.makeB (k := 16) (c := 16) rfl rfl rfl et26 ⟨Nat.le_refl 16, by decide⟩ rfl rfl hS ?_)
        intro b59 w hb59 hS hkp hnw
        refine WL.step rfl (Stp.res rfl rfl (Res.assign rfl rfl) ?_)
        refine WL.nil (Thn_n ?_)
        refine CW.seq ?_
        refine CW.seq ?_
        refine CW.region ?_
        refine WL.step rfl (Stp.res rfl rfl (Res.assign rfl rfl) ?_)
        refine WL.nil (Thn_n ?_)
        refine CW.block ?_
        refine CW.loop (σ := Nat) (fun k => [(6, .slice (some ⟨tb, to_, none⟩) Aes.boxL.length tc), (7, .pointer (some ⟨b7, 0, none⟩)), (9, .slice (some ⟨b29, 0, none⟩) 256 256), (11, .slice (some ⟨xb, xo, none⟩) X.length xc), (12, .int .i64 (10 - (n : Int))), (13, .slice (some ⟨b59, 0, none⟩) 16 16), (14, .int .i64 (k : Int))])
          (fun k w' => k ≤ 16 ∧ St w0 w' MX [(b59, .cells (bs (Aes.scat X k)) 5 (0, 0)), (b29, .cells (bs (Aes.unAt 256)) 5 (0, 0)), (b7, .cells (bs (Aes.keysL key)) 36 (0, 0))]) (fun k => 16 - k) 0 ⟨rfl, rfl, rfl, rfl, rfl, rfl, rfl, trivial⟩ ⟨by omega, by rw [Aes.scat_zero]; exact hS⟩ ?_
        rintro k w3 ⟨hk16, hS⟩
        refine CW.seq ?_
        refine CW.seq ?_
        refine CW.region ?_
        refine WL.step rfl (Stp.res rfl rfl (Res.move rfl rfl) ?_)
        refine WL.step rfl (Stp.res rfl rfl (Res.lss rfl rfl rfl) ?_)
        refine WL.nil (Thn_n ?_)
        refine CW.ite rfl (fun h5 => ?_) (fun h5 => ?_)
        · have hlk : k < 16 := by omega
          refine CW.skip (Thn_n ?_)
          refine CW.seq ?_
          refine CW.block ?_
          refine CW.region ?_
          refine WL.step rfl (Stp.res rfl rfl (Res.move rfl rfl) ?_)
          refine WL.step rfl (Stp.res rfl rfl (Res.move rfl rfl) ?_)
          refine WL.step rfl (Stp.res rfl rfl (Res.move rfl rfl) ?_)
          refine WL.step rfl (Stp.res rfl rfl (Res.rem rfl rfl rfl (by omega)) ?_)
          refine WL.step rfl (Stp.res rfl rfl (Res.mul rfl rfl rfl (by omega)) ?_)
          refine WL.step rfl (Stp.res rfl rfl (Res.add rfl rfl rfl (by omega)) ?_)
          refine WL.step rfl (Stp.res rfl rfl (Res.rem rfl rfl rfl (by omega)) ?_)
          refine WL.step rfl (Stp.res rfl rfl (Res.move rfl rfl) ?_)
          refine WL.step rfl (Stp.res rfl rfl (Res.move rfl rfl) ?_)
          refine WL.step rfl (Stp.res rfl rfl (Res.move rfl rfl) ?_)
          refine WL.step rfl (Stp.res rfl rfl (Res.idxS1 (k := k) rfl rfl rfl Try.underlying26 sz5 (Int.toNat_natCast _) (by omega)) ?_)
          refine WL.step rfl (Stp.res rfl rfl (Res.load1 rfl rfl Try.underlying5 rfl (hS.cell (xcell _ (by omega)))) ?_)
          refine WL.step rfl (Stp.res rfl rfl (Res.idxS0 (k := UInt8.toNat _) rfl rfl rfl Try.underlying26 sz5 (Int.toNat_natCast _) ⟨Int.natCast_nonneg _, Int.ofNat_lt.2 (UInt8.toNat_lt _)⟩) ?_)
          refine WL.step rfl (Stp.res rfl rfl (Res.load1 (v := byte (Aes.back (X.getD k 0))) rfl rfl Try.underlying5 rfl (hS.ocell (i := 1) rfl (by rw [bs_get (by rw [Aes.unAt_len]; exact UInt8.toNat_lt _), Aes.unAt_at]))) ?_)
          refine WL.step rfl (Stp.res rfl rfl (Res.idxS0 (k := (k + 4 * (k % 4)) % 16) rfl rfl rfl Try.underlying26 sz5 (by omega) (by omega)) ?_)
          refine WL.step rfl (Stp.storeB 0 rfl rfl rfl sz5 rfl hS rfl (by rw [Aes.scat_len]; omega) ?_)
          intro w hS hpt
          rw [Aes.scat_step _ hlk] at hS
          refine WL.nil (Blk_n (Thn_n ?_))
          refine CW.region ?_
          refine WL.step rfl (Stp.res rfl rfl (Res.move rfl rfl) ?_)
          refine WL.step rfl (Stp.res rfl rfl (Res.add rfl rfl rfl (by omega)) ?_)
          refine WL.step rfl (Stp.res rfl rfl (Res.assign rfl rfl) ?_)
          refine WL.nil (Thn_n ?_)
          exact ⟨k + 1, ⟨rfl, rfl, rfl, rfl, rfl, rfl, rfl, trivial⟩, ⟨by omega, hS⟩, by omega⟩
        · obtain rfl : k = 16 := by omega
          rw [Aes.scat_all] at hS
          have hF := hS.freezeG (i := 0) rfl hb59
          refine CW.exit (Thn_x (Thn_x (Blk_x (Thn_n ?_))))
          refine CW.region ?_
          refine WL.step rfl (Stp.res rfl rfl (Res.move rfl rfl) ?_)
          refine WL.step rfl (Stp.res rfl rfl (Res.assign rfl rfl) ?_)
          refine WL.nil (Blk_n (Thn_n ?_))
          refine CW.region ?_
          refine WL.step rfl (Stp.res rfl rfl (Res.move rfl rfl) ?_)
          refine WL.step rfl (Stp.res rfl rfl (Res.sub rfl rfl rfl (by omega)) ?_)
          refine WL.step rfl (Stp.res rfl rfl (Res.assign rfl rfl) ?_)
          refine WL.nil (Thn_n ?_)
          refine ⟨(n + 1, _, _), ⟨rfl, rfl, rfl, rfl, i64c (by dsimp only; omega), trivial⟩, ⟨by dsimp only; omega, hGX.trans hF.2, hF.1, ?_⟩, by dsimp only; omega⟩
          show Bs _ _ (Aes.decStep key (10 - n) (Aes.decAt key blk n))
          rw [hXe]
          exact Bs.of' (PH.add_self _ _ _) (by simp) (by omega)
      · have hc : ¬ 10 - n < 10 := by omega
        obtain ⟨X, MX, hGX, hXe, hXl, hXb, hS⟩ : ∃ X MX, Grow w0.heap.size M MX ∧ Aes.decStep key (10 - n) (Aes.decAt key blk n) = Aes.backB (Aes.turnB 3 X) ∧ X.length = 16 ∧ Bs MX xv X ∧ St w0 w MX [(b29, .cells (bs (Aes.unAt 256)) 5 (0, 0)), (b7, .cells (bs (Aes.keysL key)) 36 (0, 0))] := ⟨_, M5, hGn.trans hG5, by rw [Aes.decStep, if_neg hc], by simp, hs5, hS⟩
        obtain ⟨xb, xo, xc, rfl, xc1, xc2, xcell⟩ := hXb.at (by omega)
        refine CW.skip (Thn_n ?_)
        refine CW.seq ?_
        refine CW.region ?_
        refine WL.step rfl (Stp.makeB (k := 16) (c := 16) rfl rfl rfl et26 ⟨Nat.le_refl 16, by decide⟩ rfl rfl hS ?_)
        intro b59 w hb59 hS hkp hnw
        refine WL.step rfl (Stp.res rfl rfl (Res.assign rfl rfl) ?_)
        refine WL.nil (Thn_n ?_)
        refine CW.seq ?_
        refine CW.seq ?_
        refine CW.region ?_
        refine WL.step rfl (Stp.res rfl rfl (Res.assign rfl rfl) ?_)
        refine WL.nil (Thn_n ?_)
        refine CW.block ?_
        refine CW.loop (σ := Nat) (fun k => [(6, .slice (some ⟨tb, to_, none⟩) Aes.boxL.length tc), (7, .pointer (some ⟨b7, 0, none⟩)), (9, .slice (some ⟨b29, 0, none⟩) 256 256), (11, .slice (some ⟨xb, xo, none⟩) X.length xc), (12, .int .i64 (10 - (n : Int))), (13, .slice (some ⟨b59, 0, none⟩) 16 16), (14, .int .i64 (k : Int))])
          (fun k w' => k ≤ 16 ∧ St w0 w' MX [(b59, .cells (bs (Aes.scat X k)) 5 (0, 0)), (b29, .cells (bs (Aes.unAt 256)) 5 (0, 0)), (b7, .cells (bs (Aes.keysL key)) 36 (0, 0))]) (fun k => 16 - k) 0 ⟨rfl, rfl, rfl, rfl, rfl, rfl, rfl, trivial⟩ ⟨by omega, by rw [Aes.scat_zero]; exact hS⟩ ?_
        rintro k w3 ⟨hk16, hS⟩
        refine CW.seq ?_
        refine CW.seq ?_
        refine CW.region ?_
        refine WL.step rfl (Stp.res rfl rfl (Res.move rfl rfl) ?_)
        refine WL.step rfl (Stp.res rfl rfl (Res.lss rfl rfl rfl) ?_)
        refine WL.nil (Thn_n ?_)
        refine CW.ite rfl (fun h5 => ?_) (fun h5 => ?_)
        · have hlk : k < 16 := by omega
          refine CW.skip (Thn_n ?_)
          refine CW.seq ?_
          refine CW.block ?_
          refine CW.region ?_
          refine WL.step rfl (Stp.res rfl rfl (Res.move rfl rfl) ?_)
          refine WL.step rfl (Stp.res rfl rfl (Res.move rfl rfl) ?_)
          refine WL.step rfl (Stp.res rfl rfl (Res.move rfl rfl) ?_)
          refine WL.step rfl (Stp.res rfl rfl (Res.rem rfl rfl rfl (by omega)) ?_)
          refine WL.step rfl (Stp.res rfl rfl (Res.mul rfl rfl rfl (by omega)) ?_)
          refine WL.step rfl (Stp.res rfl rfl (Res.add rfl rfl rfl (by omega)) ?_)
          refine WL.step rfl (Stp.res rfl rfl (Res.rem rfl rfl rfl (by omega)) ?_)
          refine WL.step rfl (Stp.res rfl rfl (Res.move rfl rfl) ?_)
          refine WL.step rfl (Stp.res rfl rfl (Res.move rfl rfl) ?_)
          refine WL.step rfl (Stp.res rfl rfl (Res.move rfl rfl) ?_)
          refine WL.step rfl (Stp.res rfl rfl (Res.idxS1 (k := k) rfl rfl rfl Try.underlying26 sz5 (Int.toNat_natCast _) (by omega)) ?_)
          refine WL.step rfl (Stp.res rfl rfl (Res.load1 rfl rfl Try.underlying5 rfl (hS.cell (xcell _ (by omega)))) ?_)
          refine WL.step rfl (Stp.res rfl rfl (Res.idxS0 (k := UInt8.toNat _) rfl rfl rfl Try.underlying26 sz5 (Int.toNat_natCast _) ⟨Int.natCast_nonneg _, Int.ofNat_lt.2 (UInt8.toNat_lt _)⟩) ?_)
          refine WL.step rfl (Stp.res rfl rfl (Res.load1 (v := byte (Aes.back (X.getD k 0))) rfl rfl Try.underlying5 rfl (hS.ocell (i := 1) rfl (by rw [bs_get (by rw [Aes.unAt_len]; exact UInt8.toNat_lt _), Aes.unAt_at]))) ?_)
          refine WL.step rfl (Stp.res rfl rfl (Res.idxS0 (k := (k + 4 * (k % 4)) % 16) rfl rfl rfl Try.underlying26 sz5 (by omega) (by omega)) ?_)
          refine WL.step rfl (Stp.storeB 0 rfl rfl rfl sz5 rfl hS rfl (by rw [Aes.scat_len]; omega) ?_)
          intro w hS hpt
          rw [Aes.scat_step _ hlk] at hS
          refine WL.nil (Blk_n (Thn_n ?_))
          refine CW.region ?_
          refine WL.step rfl (Stp.res rfl rfl (Res.move rfl rfl) ?_)
          refine WL.step rfl (Stp.res rfl rfl (Res.add rfl rfl rfl (by omega)) ?_)
          refine WL.step rfl (Stp.res rfl rfl (Res.assign rfl rfl) ?_)
          refine WL.nil (Thn_n ?_)
          exact ⟨k + 1, ⟨rfl, rfl, rfl, rfl, rfl, rfl, rfl, trivial⟩, ⟨by omega, hS⟩, by omega⟩
        · obtain rfl : k = 16 := by omega
          rw [Aes.scat_all] at hS
          have hF := hS.freezeG (i := 0) rfl hb59
          refine CW.exit (Thn_x (Thn_x (Blk_x (Thn_n ?_))))
          refine CW.region ?_
          refine WL.step rfl (Stp.res rfl rfl (Res.move rfl rfl) ?_)
          refine WL.step rfl (Stp.res rfl rfl (Res.assign rfl rfl) ?_)
          refine WL.nil (Blk_n (Thn_n ?_))
          refine CW.region ?_
          refine WL.step rfl (Stp.res rfl rfl (Res.move rfl rfl) ?_)
          refine WL.step rfl (Stp.res rfl rfl (Res.sub rfl rfl rfl (by omega)) ?_)
          refine WL.step rfl (Stp.res rfl rfl (Res.assign rfl rfl) ?_)
          refine WL.nil (Thn_n ?_)
          refine ⟨(n + 1, _, _), ⟨rfl, rfl, rfl, rfl, i64c (by dsimp only; omega), trivial⟩, ⟨by dsimp only; omega, hGX.trans hF.2, hF.1, ?_⟩, by dsimp only; omega⟩
          show Bs _ _ (Aes.decStep key (10 - n) (Aes.decAt key blk n))
          rw [hXe]
          exact Bs.of' (PH.add_self _ _ _) (by simp) (by omega)
    · obtain rfl : n = 10 := by omega
      refine CW.exit (Thn_x (Thn_x (Blk_x (Thn_n ?_))))
      refine CW.seq ?_
      refine CW.region ?_
      refine WL.step rfl (Stp.res rfl rfl (Res.move rfl rfl) ?_)
      refine WL.step rfl (Stp.res rfl rfl (Res.idxAN (k := 0) rfl rfl rfl Try.underlying36 sz29 rfl (by omega)) ?_)
      refine WL.step rfl (Stp.res rfl rfl (Res.loadNB (l := Aes.rk key (0)) rfl rfl Try.underlying29 rfl sz29 (Aes.rk_length hk _) (fun j hj => hS.ocell (i := 1) rfl (by rw [bs_get (by rw [Aes.keysL_length]; omega), Aes.keysL_at key _ j (by omega) hj]))) ?_)
      refine WL.step rfl (Stp.callG (args := [_, _]) rfl rfl rfl cal29 rfl rfl hS (rxor_ok _ _ (Aes.rk key 0) _ _ hS.on hv (Aes.decAt_length key hb16 _) (Aes.rk_length hk _)) ?_)
      rintro _ w M6 hS hG6 hs6
      refine WL.step rfl (Stp.res rfl rfl (Res.assign rfl rfl) ?_)
      refine WL.step rfl (Stp.res rfl rfl (Res.assign rfl rfl) ?_)
      refine WL.nil (Thn_n ?_)
      refine CW.ret ?_
      exact fq_tmp2 rfl rfl rfl ⟨M6, (hS.drop (i := 0) rfl hb29).drop (i := 0) rfl hb7, (hGn.trans hG6).1, (hGn.trans hG6).2, _, rfl, hs6⟩
end Go.Proofs.Ytanogodfnfkkbaa
