/- Lemmas on the way to the statement; no condition of its own. -/
import Derived.Test.YtcmgimicdcchlaaGreatDoorQP
import Derived.Test.YtcmgimicdcchlaaGreatDoorQE2
import Derived.Test.YtcmgimicdcchlaaGreatDoorQS
set_option linter.unusedVariables false
set_option maxRecDepth 20000
namespace Go.Proofs.YtcmgimicdcchlaaGreatDoor
open Go.Proofs.Tryz
open Go Go.E
theorem zPair : (Tryz.prog.info? 160).map (·.zero) = some (some (.agg #[.slice none 0 0, .slice none 0 0])) := by kernel_rfl
theorem swap_src {w0 w : World} {M : PH} {b3 b k : Nat} {o3 : Obj} {x y z : List UInt8} {rest : List Value} {T : TypeId} (hS : St w0 w M [(b3, o3), (b, .cells (Gb (x ++ y ++ z) rest) T (0, 0))]) (hk : k < z.length) (hy : y.length = 16) : w.cell? ⟨b, x.length + 16 + k, none⟩ = some (byte (z.getD k 0)) := by
  have hp := Gb_part (x := x ++ y) (y := z) (z := []) (rest := rest) hk
  simp only [List.append_nil, List.length_append, hy] at hp
  exact hS.ocell (i := 1) rfl hp
theorem swap_again (x y z : List UInt8) (rest : List Value) (hy : y.length = 16) (hz : z.length = 16) : ((Gb (x ++ z ++ z) rest).toList.take (x.length + 16) ++ y.map byte ++ (Gb (x ++ z ++ z) rest).toList.drop (x.length + 16 + y.length)).toArray = Gb (x ++ z ++ y) rest := by
  have h := Gb_copy (x ++ z) z [] rest y (by omega)
  simp only [List.append_nil, List.length_append, hz] at h
  exact h
theorem pad_made (l : List UInt8) (N : Nat) (hN : l.length ≤ N) : (((List.replicate N (0 : UInt8)).take 0 ++ l ++ (List.replicate N 0).drop (0 + l.length)).take (0 + l.length) ++ List.replicate (N - l.length) 0 ++ ((List.replicate N (0 : UInt8)).take 0 ++ l ++ (List.replicate N 0).drop (0 + l.length)).drop (0 + l.length + (N - l.length))) = l ++ List.replicate (N - l.length) 0 := by
  simp only [List.take_zero, List.nil_append, Nat.zero_add, List.take_left]
  rw [List.drop_eq_nil_of_le (by simp only [List.length_append, List.length_drop, List.length_replicate]; omega), List.append_nil]
theorem two_one (a b : Option Addr) (i j k l : Nat) : ∀ v ∈ (#[Value.slice a i j, Value.slice b k l] : Array Value).toList, v.oneCell' = true := by
  intro v hv
  simp at hv
  rcases hv with rfl | rfl <;> rfl
theorem itoa_len {n : Int} (h0 : 0 ≤ n) (h1 : n < 256) : (Lib.itoa n).length ≤ 3 := by
  rw [Lib.itoa, if_neg (by omega)]
  rw [Lib.decDigits]
  split
  · simp
  · rw [Lib.decDigits]
    split
    · simp
    · rw [Lib.decDigits, dif_pos (by omega)]; simp
theorem sz160 : (Tryz.prog.info? 160).map (·.size) = some 2 := by kernel_rfl
theorem cal105 : Callable Tryz.prog 105 := ⟨Tryz.f105, func105, rfl, by kernel_rfl⟩
theorem cal121 : Callable Tryz.prog 121 := ⟨Tryz.f121, func121, rfl, by kernel_rfl⟩
theorem cal122 : Callable Tryz.prog 122 := ⟨Tryz.f122, func122, rfl, by kernel_rfl⟩
theorem cal123 : Callable Tryz.prog 123 := ⟨Tryz.f123, func123, rfl, by kernel_rfl⟩
theorem cal124 : Callable Tryz.prog 124 := ⟨Tryz.f124, func124, rfl, by kernel_rfl⟩
theorem cal130 : Callable Tryz.prog 130 := ⟨Tryz.f130, func130, rfl, by kernel_rfl⟩
theorem cal151 : Callable Tryz.prog 151 := ⟨Tryz.f151, func151, rfl, by kernel_rfl⟩
theorem cal152 : Callable Tryz.prog 152 := ⟨Tryz.f152, func152, rfl, by kernel_rfl⟩
end Go.Proofs.YtcmgimicdcchlaaGreatDoor
set_option linter.unusedVariables false
set_option maxRecDepth 20000
namespace Go.Proofs.YtcmgimicdcchlaaGreatDoor
open Go.Proofs.Tryz
open Go Go.E
end Go.Proofs.YtcmgimicdcchlaaGreatDoor
set_option linter.unusedVariables false
set_option maxRecDepth 20000
namespace Go.Proofs.YtcmgimicdcchlaaGreatDoor
open Go.Proofs.Tryz
open Go Go.E
theorem keys_ok7 (kv : Value) (key : List UInt8) (use : Int) (w0 : World) (M : PH) (hM : On M w0) (hgl : GL M) (hkey : Bs M kv key) (hk : key.length = 16) (h0 : 0 ≤ use) (h1 : use < 256) : Ok Tryz.prog 121 #[kv, .int .i64 use] w0 M (fun M' r => ∃ s t, r = .tuple #[.agg #[s, t], .nilIface] ∧ Bs M' s (Mac.expand key ([101] ++ Lib.itoa use) 16) ∧ Bs M' t (Mac.expand key ([105] ++ Lib.itoa use) 16)) := by
  have hS := hM.st
  have hkey0 := hkey
  obtain ⟨ka, kc, rfl, k1, k2, k3, k4⟩ := hkey
  have hil := itoa_len h0 h1
  refine enterB (l := [.slice ka key.length kc, .int .i64 use]) 53 func121 rfl ntmps121 rfl ?_
  refine CW.seq ?_
  refine CW.region ?_
  refine WL.step rfl (Stp.alloc (cs := #[.slice none 0 0, .slice none 0 0]) rfl zPair rfl rfl rfl hS ?_)
  intro b4 w hb4 hS hkp hnw
  refine WL.step rfl (Stp.res rfl rfl (Res.assign rfl rfl) ?_)
  refine WL.nil (Thn_n ?_)
  refine CW.seq ?_
  refine CW.seq ?_
  refine CW.region ?_
  refine WL.step rfl (Stp.res rfl rfl (Res.move rfl rfl) ?_)
  refine WL.step rfl (Stp.res rfl rfl (Res.len rfl rfl rfl rfl underlying30) ?_)
  refine WL.step rfl (Stp.res rfl rfl (Res.toF (Res.neq rfl rfl rfl) (by omega)) ?_)
  refine WL.step rfl (Stp.res rfl rfl (Res.move rfl rfl) ?_)
  refine WL.stepG 3 false rfl rfl rfl rfl (Stp.res rfl rfl (Res.move rfl rfl) ?_)
  refine WL.stepG 3 false rfl rfl rfl rfl (Stp.res rfl rfl (Res.toF (Res.lss rfl rfl rfl) (by omega)) ?_)
  refine WL.step rfl (Stp.res rfl rfl (Res.pickF rfl rfl rfl) ?_)
  refine WL.step rfl (Stp.res rfl rfl (Res.move rfl rfl) ?_)
  refine WL.stepG 7 false rfl rfl rfl rfl (Stp.res rfl rfl (Res.move rfl rfl) ?_)
  refine WL.stepG 7 false rfl rfl rfl rfl (Stp.res rfl rfl (Res.toF (Res.geq rfl rfl rfl) (by omega)) ?_)
  refine WL.step rfl (Stp.res rfl rfl (Res.pickF rfl rfl rfl) ?_)
  refine WL.nil (Thn_n ?_)
  refine CW.condF rfl ?_
  refine CW.skip (Thn_n ?_)
  refine CW.seq ?_
  refine CW.region ?_
  refine WL.step rfl (Stp.res rfl rfl (Res.move rfl rfl) ?_)
  refine WL.step rfl (Stp.callG (args := [_]) rfl rfl rfl cal151 rfl rfl hS (itoa_ok use _ _ hS.on hgl (by omega) (by omega)) ?_)
  rintro _ w _ hS _ ⟨rfl, rfl⟩
  refine WL.step rfl (Stp.res rfl rfl (Res.assign rfl rfl) ?_)
  refine WL.nil (Thn_n ?_)
  refine CW.seq ?_
  refine CW.region ?_
  refine WL.step rfl (Stp.res rfl rfl (Res.move rfl rfl) ?_)
  refine WL.step rfl (Stp.res rfl rfl (Res.move rfl rfl) ?_)
  refine WL.step rfl (Stp.res rfl rfl (Res.addS (a := [101]) (by simp; omega) rfl rfl rfl) ?_)
  refine WL.step rfl (Stp.callG (args := [_, _, _]) rfl rfl rfl cal105 rfl rfl hS (expand_ok _ key _ 16 _ _ hS.on hgl hkey0 (by omega) (by simp; omega) (by decide)) ?_)
  rintro _ w M1 hS hG1 ⟨s, rfl, hs⟩
  obtain ⟨sa, sc, rfl, s1, s2, s3, s4⟩ := id hs
  refine WL.step rfl (Stp.res rfl rfl (Res.move rfl rfl) ?_)
  refine WL.step rfl (Stp.res rfl rfl (Res.extract (l := [_, _]) rfl rfl rfl) ?_)
  refine WL.step rfl (Stp.res rfl rfl (Res.extract (l := [_, _]) rfl rfl rfl) ?_)
  refine WL.step rfl (Stp.res rfl rfl (Res.assign rfl rfl) ?_)
  refine WL.step rfl (Stp.res rfl rfl (Res.assign rfl rfl) ?_)
  refine WL.nil (Thn_n ?_)
  refine CW.seq ?_
  refine CW.region ?_
  refine WL.step rfl (Stp.res rfl rfl (Res.move rfl rfl) ?_)
  refine WL.step rfl (Stp.res rfl rfl (Res.move rfl rfl) ?_)
  refine WL.step rfl (Stp.res rfl rfl (Res.addS (a := [105]) (by simp; omega) rfl rfl rfl) ?_)
  refine WL.step rfl (Stp.callG (args := [_, _, _]) rfl rfl rfl cal105 rfl rfl hS (expand_ok _ key _ 16 _ _ hS.on (hgl.mono hG1.1) (hkey0.mono hG1.1) (by omega) (by simp; omega) (by decide)) ?_)
  rintro _ w M2 hS hG2 ⟨t, rfl, ht⟩
  obtain ⟨ta, tc, rfl, t1, t2, t3, t4⟩ := id ht
  refine WL.step rfl (Stp.res rfl rfl (Res.move rfl rfl) ?_)
  refine WL.step rfl (Stp.res rfl rfl (Res.extract (l := [_, _]) rfl rfl rfl) ?_)
  refine WL.step rfl (Stp.res rfl rfl (Res.extract (l := [_, _]) rfl rfl rfl) ?_)
  refine WL.step rfl (Stp.res rfl rfl (Res.assign rfl rfl) ?_)
  refine WL.step rfl (Stp.res rfl rfl (Res.assign rfl rfl) ?_)
  refine WL.nil (Thn_n ?_)
  refine CW.seq ?_
  refine CW.seq ?_
  refine CW.region ?_
  refine WL.step rfl (Stp.res rfl rfl (Res.move rfl rfl) ?_)
  refine WL.step rfl (Stp.res rfl rfl (Res.toF (Res.neq rfl rfl rfl) (by decide)) ?_)
  refine WL.step rfl (Stp.res rfl rfl (Res.move rfl rfl) ?_)
  refine WL.stepG 2 false rfl rfl rfl rfl (Stp.res rfl rfl (Res.move rfl rfl) ?_)
  refine WL.stepG 2 false rfl rfl rfl rfl (Stp.res rfl rfl (Res.toF (Res.neq rfl rfl rfl) (by decide)) ?_)
  refine WL.step rfl (Stp.res rfl rfl (Res.pickF rfl rfl rfl) ?_)
  refine WL.nil (Thn_n ?_)
  refine CW.condF rfl ?_
  refine CW.skip (Thn_n ?_)
  refine CW.seq ?_
  refine CW.region ?_
  refine WL.step rfl (Stp.res rfl rfl (Res.move rfl rfl) ?_)
  refine WL.step rfl (Stp.res rfl rfl (Res.move rfl rfl) ?_)
  refine WL.step rfl (Stp.res rfl rfl (Res.build (vals := [(0, .slice sa (Mac.expand key ([101] ++ Lib.itoa use) 16).length sc), (1, .slice ta (Mac.expand key ([105] ++ Lib.itoa use) 16).length tc)]) (cs := #[.slice sa (Mac.expand key ([101] ++ Lib.itoa use) 16).length sc, .slice ta (Mac.expand key ([105] ++ Lib.itoa use) 16).length tc]) rfl rfl (fun _ => by kernel_rfl)) ?_)
  refine WL.step rfl (Stp.storeAll 0 rfl rfl rfl (sz160) (two_one _ _ _ _ _ _) rfl hS rfl rfl ?_)
  intro w hS hpt
  refine WL.step rfl (Stp.res rfl rfl (Res.assign rfl rfl) ?_)
  refine WL.nil (Thn_n ?_)
  refine CW.ret ?_
  exact fq_cell_tmp rfl rfl rfl (hS.get (i := 0) rfl) underlying160 rfl sz160 ⟨M2, hS.drop (i := 0) rfl hb4, (hG1.trans hG2).1, (hG1.trans hG2).2, _, _, rfl, hs.mono hG2.1, ht⟩
theorem keys_no1 (kv : Value) (key : List UInt8) (use : Int) (w0 : World) (M : PH) (hM : On M w0) (hkey : Bs M kv key) (hk : ¬ key.length = 16) : Ok Tryz.prog 121 #[kv, .int .i64 use] w0 M (fun M' r => M = M' ∧ r = .tuple #[.agg #[.slice none 0 0, .slice none 0 0], .iface 201 (.agg #[Go.E.str [107, 101, 121, 115], .int .i64 2])]) := by
  have hS := hM.st
  obtain ⟨ka, kc, rfl, k1, k2, k3, k4⟩ := hkey
  refine enterB (l := [.slice ka key.length kc, .int .i64 use]) 53 func121 rfl ntmps121 rfl ?_
  refine CW.seq ?_
  refine CW.region ?_
  refine WL.step rfl (Stp.alloc (cs := #[.slice none 0 0, .slice none 0 0]) rfl zPair rfl rfl rfl hS ?_)
  intro b4 w hb4 hS hkp hnw
  refine WL.step rfl (Stp.res rfl rfl (Res.assign rfl rfl) ?_)
  refine WL.nil (Thn_n ?_)
  refine CW.seq ?_
  refine CW.seq ?_
  refine CW.region ?_
  refine WL.step rfl (Stp.res rfl rfl (Res.move rfl rfl) ?_)
  refine WL.step rfl (Stp.res rfl rfl (Res.len rfl rfl rfl rfl underlying30) ?_)
  refine WL.step rfl (Stp.res rfl rfl (Res.to (Res.neq rfl rfl rfl) (by omega)) ?_)
  refine WL.step rfl (Stp.res rfl rfl (Res.move rfl rfl) ?_)
  refine WL.skipG 3 false rfl rfl rfl rfl rfl rfl ?_
  refine WL.skipG 3 false rfl rfl rfl rfl rfl rfl ?_
  refine WL.step rfl (Stp.res rfl rfl (Res.pickT rfl rfl rfl) ?_)
  refine WL.step rfl (Stp.res rfl rfl (Res.move rfl rfl) ?_)
  refine WL.skipG 7 false rfl rfl rfl rfl rfl rfl ?_
  refine WL.skipG 7 false rfl rfl rfl rfl rfl rfl ?_
  refine WL.step rfl (Stp.res rfl rfl (Res.pickT rfl rfl rfl) ?_)
  refine WL.nil (Thn_n ?_)
  refine CW.condT rfl ?_
  refine CW.seq ?_
  refine CW.region ?_
  refine WL.step rfl (Stp.res rfl rfl (Res.build (vals := []) (cs := #[.slice none 0 0, .slice none 0 0]) rfl rfl (fun _ => by kernel_rfl)) ?_)
  refine WL.step rfl (Stp.res rfl rfl (Res.build (vals := [(0, Go.E.str [107, 101, 121, 115]), (1, .int .i64 2)]) (cs := #[Go.E.str [107, 101, 121, 115], .int .i64 2]) rfl rfl (fun _ => by kernel_rfl)) ?_)
  refine WL.step rfl (Stp.res rfl rfl (Res.mkIface rfl rfl underlying201 rfl) ?_)
  refine WL.step rfl (Stp.storeAll 0 rfl rfl rfl (sz160) (two_one _ _ _ _ _ _) rfl hS rfl rfl ?_)
  intro w hS hpt
  refine WL.step rfl (Stp.res rfl rfl (Res.assign rfl rfl) ?_)
  refine WL.nil (Thn_n ?_)
  refine CW.ret (Thn_r ?_)
  exact fq_cell_tmp rfl rfl rfl (hS.get (i := 0) rfl) underlying160 rfl sz160 ⟨M, hS.drop (i := 0) rfl hb4, PH.le.refl _, Fresh.refl _ _, rfl, rfl⟩
theorem keys_no2 (kv : Value) (key : List UInt8) (use : Int) (w0 : World) (M : PH) (hM : On M w0) (hkey : Bs M kv key) (hk : key.length = 16) (h0 : use < 0) : Ok Tryz.prog 121 #[kv, .int .i64 use] w0 M (fun M' r => M = M' ∧ r = .tuple #[.agg #[.slice none 0 0, .slice none 0 0], .iface 201 (.agg #[Go.E.str [107, 101, 121, 115], .int .i64 2])]) := by
  have hS := hM.st
  obtain ⟨ka, kc, rfl, k1, k2, k3, k4⟩ := hkey
  refine enterB (l := [.slice ka key.length kc, .int .i64 use]) 53 func121 rfl ntmps121 rfl ?_
  refine CW.seq ?_
  refine CW.region ?_
  refine WL.step rfl (Stp.alloc (cs := #[.slice none 0 0, .slice none 0 0]) rfl zPair rfl rfl rfl hS ?_)
  intro b4 w hb4 hS hkp hnw
  refine WL.step rfl (Stp.res rfl rfl (Res.assign rfl rfl) ?_)
  refine WL.nil (Thn_n ?_)
  refine CW.seq ?_
  refine CW.seq ?_
  refine CW.region ?_
  refine WL.step rfl (Stp.res rfl rfl (Res.move rfl rfl) ?_)
  refine WL.step rfl (Stp.res rfl rfl (Res.len rfl rfl rfl rfl underlying30) ?_)
  refine WL.step rfl (Stp.res rfl rfl (Res.toF (Res.neq rfl rfl rfl) (by omega)) ?_)
  refine WL.step rfl (Stp.res rfl rfl (Res.move rfl rfl) ?_)
  refine WL.stepG 3 false rfl rfl rfl rfl (Stp.res rfl rfl (Res.move rfl rfl) ?_)
  refine WL.stepG 3 false rfl rfl rfl rfl (Stp.res rfl rfl (Res.to (Res.lss rfl rfl rfl) (by omega)) ?_)
  refine WL.step rfl (Stp.res rfl rfl (Res.pickF rfl rfl rfl) ?_)
  refine WL.step rfl (Stp.res rfl rfl (Res.move rfl rfl) ?_)
  refine WL.skipG 7 false rfl rfl rfl rfl rfl rfl ?_
  refine WL.skipG 7 false rfl rfl rfl rfl rfl rfl ?_
  refine WL.step rfl (Stp.res rfl rfl (Res.pickT rfl rfl rfl) ?_)
  refine WL.nil (Thn_n ?_)
  refine CW.condT rfl ?_
  refine CW.seq ?_
  refine CW.region ?_
  refine WL.step rfl (Stp.res rfl rfl (Res.build (vals := []) (cs := #[.slice none 0 0, .slice none 0 0]) rfl rfl (fun _ => by kernel_rfl)) ?_)
  refine WL.step rfl (Stp.res rfl rfl (Res.build (vals := [(0, Go.E.str [107, 101, 121, 115]), (1, .int .i64 2)]) (cs := #[Go.E.str [107, 101, 121, 115], .int .i64 2]) rfl rfl (fun _ => by kernel_rfl)) ?_)
  refine WL.step rfl (Stp.res rfl rfl (Res.mkIface rfl rfl underlying201 rfl) ?_)
  refine WL.step rfl (Stp.storeAll 0 rfl rfl rfl (sz160) (two_one _ _ _ _ _ _) rfl hS rfl rfl ?_)
  intro w hS hpt
  refine WL.step rfl (Stp.res rfl rfl (Res.assign rfl rfl) ?_)
  refine WL.nil (Thn_n ?_)
  refine CW.ret (Thn_r ?_)
  exact fq_cell_tmp rfl rfl rfl (hS.get (i := 0) rfl) underlying160 rfl sz160 ⟨M, hS.drop (i := 0) rfl hb4, PH.le.refl _, Fresh.refl _ _, rfl, rfl⟩
theorem keys_no3 (kv : Value) (key : List UInt8) (use : Int) (w0 : World) (M : PH) (hM : On M w0) (hkey : Bs M kv key) (hk : key.length = 16) (h0 : 0 ≤ use) (h1 : 256 ≤ use) : Ok Tryz.prog 121 #[kv, .int .i64 use] w0 M (fun M' r => M = M' ∧ r = .tuple #[.agg #[.slice none 0 0, .slice none 0 0], .iface 201 (.agg #[Go.E.str [107, 101, 121, 115], .int .i64 2])]) := by
  have hS := hM.st
  obtain ⟨ka, kc, rfl, k1, k2, k3, k4⟩ := hkey
  refine enterB (l := [.slice ka key.length kc, .int .i64 use]) 53 func121 rfl ntmps121 rfl ?_
  refine CW.seq ?_
  refine CW.region ?_
  refine WL.step rfl (Stp.alloc (cs := #[.slice none 0 0, .slice none 0 0]) rfl zPair rfl rfl rfl hS ?_)
  intro b4 w hb4 hS hkp hnw
  refine WL.step rfl (Stp.res rfl rfl (Res.assign rfl rfl) ?_)
  refine WL.nil (Thn_n ?_)
  refine CW.seq ?_
  refine CW.seq ?_
  refine CW.region ?_
  refine WL.step rfl (Stp.res rfl rfl (Res.move rfl rfl) ?_)
  refine WL.step rfl (Stp.res rfl rfl (Res.len rfl rfl rfl rfl underlying30) ?_)
  refine WL.step rfl (Stp.res rfl rfl (Res.toF (Res.neq rfl rfl rfl) (by omega)) ?_)
  refine WL.step rfl (Stp.res rfl rfl (Res.move rfl rfl) ?_)
  refine WL.stepG 3 false rfl rfl rfl rfl (Stp.res rfl rfl (Res.move rfl rfl) ?_)
  refine WL.stepG 3 false rfl rfl rfl rfl (Stp.res rfl rfl (Res.toF (Res.lss rfl rfl rfl) (by omega)) ?_)
  refine WL.step rfl (Stp.res rfl rfl (Res.pickF rfl rfl rfl) ?_)
  refine WL.step rfl (Stp.res rfl rfl (Res.move rfl rfl) ?_)
  refine WL.stepG 7 false rfl rfl rfl rfl (Stp.res rfl rfl (Res.move rfl rfl) ?_)
  refine WL.stepG 7 false rfl rfl rfl rfl (Stp.res rfl rfl (Res.to (Res.geq rfl rfl rfl) (by omega)) ?_)
  refine WL.step rfl (Stp.res rfl rfl (Res.pickF rfl rfl rfl) ?_)
  refine WL.nil (Thn_n ?_)
  refine CW.condT rfl ?_
  refine CW.seq ?_
  refine CW.region ?_
  refine WL.step rfl (Stp.res rfl rfl (Res.build (vals := []) (cs := #[.slice none 0 0, .slice none 0 0]) rfl rfl (fun _ => by kernel_rfl)) ?_)
  refine WL.step rfl (Stp.res rfl rfl (Res.build (vals := [(0, Go.E.str [107, 101, 121, 115]), (1, .int .i64 2)]) (cs := #[Go.E.str [107, 101, 121, 115], .int .i64 2]) rfl rfl (fun _ => by kernel_rfl)) ?_)
  refine WL.step rfl (Stp.res rfl rfl (Res.mkIface rfl rfl underlying201 rfl) ?_)
  refine WL.step rfl (Stp.storeAll 0 rfl rfl rfl (sz160) (two_one _ _ _ _ _ _) rfl hS rfl rfl ?_)
  intro w hS hpt
  refine WL.step rfl (Stp.res rfl rfl (Res.assign rfl rfl) ?_)
  refine WL.nil (Thn_n ?_)
  refine CW.ret (Thn_r ?_)
  exact fq_cell_tmp rfl rfl rfl (hS.get (i := 0) rfl) underlying160 rfl sz160 ⟨M, hS.drop (i := 0) rfl hb4, PH.le.refl _, Fresh.refl _ _, rfl, rfl⟩
end Go.Proofs.YtcmgimicdcchlaaGreatDoor
set_option linter.unusedVariables false
set_option maxRecDepth 20000
namespace Go.Proofs.YtcmgimicdcchlaaGreatDoor
open Go.Proofs.Tryz
open Go Go.E
theorem sxor_ok (v u : Value) (a b : List UInt8) (w0 : World) (M : PH) (hM : On M w0) (hv : Bs M v a) (hu : Bs M u b) (ha : a.length = 16) (hb : b.length = 16) : Ok Tryz.prog 130 #[v, u] w0 M (fun M' r => Bs M' r (Aes.xorB a b)) := by
  have hS := hM.st
  obtain ⟨vb, vo, vc, rfl, vc1, vc2, vcell⟩ := hv.at (by omega)
  obtain ⟨ub, uo, uc, rfl, uc1, uc2, ucell⟩ := hu.at (by omega)
  refine enterB (l := [.slice (some ⟨vb, vo, none⟩) a.length vc, .slice (some ⟨ub, uo, none⟩) b.length uc]) 27 func130 rfl ntmps130 rfl ?_
  refine CW.seq ?_
  refine CW.region ?_
  refine WL.step rfl (Stp.res rfl rfl (Res.assign rfl rfl) ?_)
  refine WL.nil (Thn_n ?_)
  refine CW.seq ?_
  refine CW.region ?_
  refine WL.step rfl (Stp.makeB (k := 16) (c := 16) rfl rfl rfl et30 ⟨Nat.le_refl 16, by decide⟩ rfl rfl hS ?_)
  intro b7 w hb7 hS hkp hnw
  refine WL.step rfl (Stp.res rfl rfl (Res.assign rfl rfl) ?_)
  refine WL.nil (Thn_n ?_)
  refine CW.seq ?_
  refine CW.seq ?_
  refine CW.region ?_
  refine WL.step rfl (Stp.res rfl rfl (Res.move rfl rfl) ?_)
  refine WL.step rfl (Stp.res rfl rfl (Res.len rfl rfl rfl rfl underlying30) ?_)
  refine WL.step rfl (Stp.res rfl rfl (Res.move rfl rfl) ?_)
  refine WL.nil (Thn_n ?_)
  refine CW.block ?_
  refine CW.loop (σ := Nat) (fun i => [(0, .slice (some ⟨vb, vo, none⟩) a.length vc), (1, .slice (some ⟨ub, uo, none⟩) b.length uc), (5, .slice (some ⟨b7, 0, none⟩) 16 16), (9, .int .i64 16), (10, .int .i64 (i : Int))])
    (fun i w' => i ≤ 16 ∧ St w0 w' M [(b7, .cells (bs (Aes.upTo i (fun j => a.getD j 0 ^^^ b.getD j 0) (List.replicate 16 0))) 5 (0, 0))]) (fun i => 16 - i) 0 ⟨rfl, rfl, rfl, rfl, rfl, trivial⟩ ⟨by omega, by rw [Aes.upTo_zero]; exact hS⟩ ?_
  rintro i w1 ⟨hi, hS⟩
  refine CW.seq ?_
  refine CW.region ?_
  refine WL.step rfl (Stp.res rfl rfl (Res.lss rfl rfl rfl) ?_)
  refine WL.nil (Thn_n ?_)
  refine CW.seq ?_
  refine CW.ite rfl (fun h => ?_) (fun h => ?_)
  · obtain hlt : i < 16 := by omega
    refine CW.skip (Thn_n ?_)
    refine CW.seq ?_
    refine CW.block ?_
    refine CW.seq ?_
    refine CW.region ?_
    refine WL.step rfl (Stp.res rfl rfl (Res.move rfl rfl) ?_)
    refine WL.step rfl (Stp.res rfl rfl (Res.assign rfl rfl) ?_)
    refine WL.nil (Thn_n ?_)
    have hS := hS.drew
    refine CW.tail 12 mixed (by kernel_rfl) ?_
    refine SL.step rfl rfl rfl (Res.move rfl rfl) ?_
    refine SL.step rfl rfl rfl (Res.move rfl rfl) ?_
    refine SL.step rfl rfl rfl (Res.move rfl rfl) ?_
    refine SL.step rfl rfl rfl (Res.move rfl rfl) ?_
    refine SL.step rfl rfl rfl (Res.idxS1 (k := i) rfl rfl rfl underlying30 sz5 (Int.toNat_natCast _) (by omega)) ?_
    refine SL.step rfl rfl rfl (Res.load1 rfl rfl underlying5 rfl (hS.cell (vcell _ (by omega)))) ?_
    refine SL.step rfl rfl rfl (Res.move rfl rfl) ?_
    refine SL.step rfl rfl rfl (Res.move rfl rfl) ?_
    refine SL.step rfl rfl rfl (Res.idxS1 (k := i) rfl rfl rfl underlying30 sz5 (Int.toNat_natCast _) (by omega)) ?_
    refine SL.step rfl rfl rfl (Res.load1 rfl rfl underlying5 rfl (hS.cell (ucell _ (by omega)))) ?_
    refine SL.step rfl rfl rfl (Res.xorB _ rfl rfl rfl) ?_
    first | refine SL.step rfl rfl rfl (Res.idxS0 rfl rfl rfl underlying30 sz5 (by first | exact Int.toNat_natCast _ | rfl) (by omega)) ?_ | refine SL.step rfl rfl rfl (Res.idxS1 rfl rfl rfl underlying30 sz5 (by first | exact Int.toNat_natCast _ | rfl) (by omega)) ?_
    refine SL.nil ?_
    first | refine WL.step rfl (Stp.storeB 0 rfl rfl rfl sz5 rfl hS rfl (by first | omega | (simp; done) | (simp; omega)) ?_) | refine WL.step rfl (Stp.storeB 1 rfl rfl rfl sz5 rfl hS rfl (by first | omega | (simp; done) | (simp; omega)) ?_) | refine WL.step rfl (Stp.storeB 2 rfl rfl rfl sz5 rfl hS rfl (by first | omega | (simp; done) | (simp; omega)) ?_)
    intro w hS hpt
    refine WL.nil (Blk_n (Thn_n ?_))
    refine CW.region ?_
    refine WL.step rfl (Stp.res rfl rfl (Res.add rfl rfl rfl (by omega)) ?_)
    refine WL.step rfl (Stp.res rfl rfl (Res.move rfl rfl) ?_)
    refine WL.nil (Thn_n ?_)
    refine ⟨i + 1, ⟨rfl, rfl, rfl, rfl, rfl, trivial⟩, ⟨by omega, ?_⟩, by omega⟩
    rw [← Aes.upTo_set]
    exact hS
  · obtain rfl : i = 16 := by omega
    refine CW.exit (Thn_x (Thn_x (Blk_x (Thn_n ?_))))
    refine CW.seq ?_
    refine CW.region ?_
    refine WL.step rfl (Stp.res rfl rfl (Res.move rfl rfl) ?_)
    refine WL.step rfl (Stp.res rfl rfl (Res.assign rfl rfl) ?_)
    refine WL.nil (Thn_n ?_)
    refine CW.ret ?_
    rw [Aes.upTo_all _ _ 16 (List.length_replicate ..)] at hS
    have hF := hS.freeze (i := 0) rfl hb7
    exact fq_tmp rfl rfl ⟨_, hF.1, hF.2, Fresh.add _ hb7, Bs.of' (PH.add_self _ _ _) (Aes.xorB_length a b) (by omega)⟩
theorem stag_ok (sv tv v : Value) (t l : List UInt8) (w0 : World) (M : PH) (hM : On M w0) (hgl : GL M) (ht : Bs M tv t) (hv : Bs M v l) (htl : t.length ≤ 1099511627776) (hlen : l.length ≤ 1000000) : Ok Tryz.prog 124 #[.agg #[sv, tv], v] w0 M (fun M' r => Bs M' r (Seal.tag t l)) := by
  have hS := hM.st
  refine enterB (l := [.agg #[sv, tv], v]) 13 func124 rfl ntmps124 rfl ?_
  refine CW.seq ?_
  refine CW.region ?_
  refine WL.step rfl (Stp.boxA rfl rfl rfl rfl hS ?_)
  intro b2 w hb2 hS hkp hnw
  refine WL.step rfl (Stp.res rfl rfl (Res.assign rfl rfl) ?_)
  refine WL.nil (Thn_n ?_)
  refine CW.seq ?_
  have hF := hS.freezeG (i := 0) rfl hb2
  obtain ⟨M1, hG1, hbox, hS⟩ : ∃ M1, Grow w0.heap.size M M1 ∧ M1 b2 = some (.cells #[sv, tv] 160 (0, 0)) ∧ St w0 w M1 [] := ⟨_, hF.2, PH.add_self _ _ _, hF.1⟩
  have hS := hS.drew
  have hK0 := hS.on
  refine CW.held (fun w => On M1 w) mixed ?_
  refine AL.take 0 rfl (by kernel_rfl) (by kernel_rfl) (by kernel_rfl) rfl rfl rfl hK0 (fun w hK => Res.fieldA rfl rfl underlying160 rfl (show SZ Tryz.prog _ 1 from sz30) (by decide)) ?_
  refine AL.take 1 rfl (by kernel_rfl) (by kernel_rfl) (by kernel_rfl) rfl rfl rfl hK0 (fun w hK => Res.load1 (v := tv) rfl rfl underlying30 rfl (w := w) (by have := hK _ _ hbox; simp [World.cell?, this])) ?_
  refine AL.take 3 rfl (by kernel_rfl) (by kernel_rfl) (by kernel_rfl) rfl rfl rfl hK0 (fun w hK => Res.move rfl rfl) ?_
  refine AL.two 2 6 rfl rfl (by kernel_rfl) rfl rfl ?_ ?_
  · refine Stp.makeB (k := 16) (c := 16) rfl rfl rfl et30 ⟨Nat.le_refl 16, by decide⟩ rfl rfl hS ?_
    intro b8 w hb8 hS hkp hnw
    have hK0 : On M1 w := by first | exact hS.on | exact (hS.known hle2).on
    refine ⟨hK0, ?_⟩
    refine AL.two 4 6 rfl rfl (by kernel_rfl) rfl rfl ?_ ?_
    · first | refine Stp.appendB (l := List.replicate 16 0) (r := l) rfl rfl rfl rfl et30 (Src.ofBs underlying30 hS (hv.mono hG1.1)) hS (OwnB.of hb8 (Nat.le_refl 16) (by omega) (List.replicate 16 0) (List.length_replicate ..) (by simp)) (by simp; omega) rfl rfl ?_ | refine Stp.appendB (l := List.replicate 16 0) (r := l) rfl rfl rfl rfl et30 (Src.ofBs underlying30 hS (hv.mono hG1.1)) hS.swap (OwnB.of hb8 (Nat.le_refl 16) (by omega) (List.replicate 16 0) (List.length_replicate ..) (by simp)) (by simp; omega) rfl rfl ?_
      intro v2 w g2 hS hown
      obtain ⟨M2, hS, hle2, hfr2, hv2⟩ := hown.give hS
      have hG2 : Grow w0.heap.size M1 M2 := ⟨hle2, hfr2⟩
      have hK0 : On M1 w := by first | exact hS.on | exact (hS.known hle2).on
      refine ⟨hK0, ?_⟩
      refine AL.two 5 6 rfl rfl (by kernel_rfl) rfl rfl ?_ ?_
      · refine Stp.callG (args := [_, _]) rfl rfl rfl cal104 rfl rfl hS (mac_ok _ _ t _ _ _ hS.on (hgl.mono (hG1.1.trans hle2)) (ht.mono (hG1.1.trans hle2)) hv2 htl (by simp; omega)) ?_
        rintro _ w _ hS _ ⟨rfl, rfl⟩
        have hK0 : On M1 w := by first | exact hS.on | exact (hS.known hle2).on
        refine ⟨hK0, ?_⟩
        refine AL.one 6 rfl (by kernel_rfl) rfl (Stp.alloc (cs := bs (List.replicate 32 0)) rfl z143 rfl rfl rfl hS ?_)
        intro b5 w hb5 hS hkp hnw
        have hK0 : On M1 w := by first | exact hS.on | exact (hS.known hle2).on
        refine ⟨hK0, ?_⟩
        refine AL.one 7 rfl (by kernel_rfl) rfl (Stp.storeAllB 0 rfl rfl rfl sz143 rfl hS rfl ⟨List.length_replicate .., Mac.sum_length _ _⟩ ?_)
        intro w hS hpt
        have hK0 : On M1 w := by first | exact hS.on | exact (hS.known hle2).on
        refine ⟨hK0, ?_⟩
        refine AL.done (by kernel_rfl) (Thn_n ?_)
        refine CW.seq ?_
        have hF := hS.freezeG (i := 0) rfl hb5
        refine CW.region ?_
        refine WL.step rfl (Stp.res rfl rfl (Res.sliceAHi (h := 16) rfl rfl rfl underlying143 sz5 (by decide)) ?_)
        refine WL.step rfl (Stp.res rfl rfl (Res.assign rfl rfl) ?_)
        refine WL.nil (Thn_n ?_)
        refine CW.ret ?_
        exact fq_tmp rfl rfl ⟨_, hF.1, ((hG1.trans hG2).trans hF.2).1, ((hG1.trans hG2).trans hF.2).2, (Bs.of' (k := 32) (PH.add_self _ _ _) (Mac.sum_length _ _) (by omega)).take (by rw [Mac.sum_length]; omega)⟩
      · refine Stp.alloc (cs := bs (List.replicate 32 0)) rfl z143 rfl rfl rfl hS ?_
        intro b5 w hb5 hS hkp hnw
        have hK0 : On M1 w := by first | exact hS.on | exact (hS.known hle2).on
        refine ⟨hK0, ?_⟩
        refine AL.one 5 rfl (by kernel_rfl) rfl (Stp.callG (args := [_, _]) rfl rfl rfl cal104 rfl rfl hS (mac_ok _ _ t _ _ _ hS.on (hgl.mono (hG1.1.trans hle2)) (ht.mono (hG1.1.trans hle2)) hv2 htl (by simp; omega)) ?_)
        rintro _ w _ hS _ ⟨rfl, rfl⟩
        have hK0 : On M1 w := by first | exact hS.on | exact (hS.known hle2).on
        refine ⟨hK0, ?_⟩
        refine AL.one 7 rfl (by kernel_rfl) rfl (Stp.storeAllB 0 rfl rfl rfl sz143 rfl hS rfl ⟨List.length_replicate .., Mac.sum_length _ _⟩ ?_)
        intro w hS hpt
        have hK0 : On M1 w := by first | exact hS.on | exact (hS.known hle2).on
        refine ⟨hK0, ?_⟩
        refine AL.done (by kernel_rfl) (Thn_n ?_)
        refine CW.seq ?_
        have hF := hS.freezeG (i := 0) rfl hb5
        refine CW.region ?_
        refine WL.step rfl (Stp.res rfl rfl (Res.sliceAHi (h := 16) rfl rfl rfl underlying143 sz5 (by decide)) ?_)
        refine WL.step rfl (Stp.res rfl rfl (Res.assign rfl rfl) ?_)
        refine WL.nil (Thn_n ?_)
        refine CW.ret ?_
        exact fq_tmp rfl rfl ⟨_, hF.1, ((hG1.trans hG2).trans hF.2).1, ((hG1.trans hG2).trans hF.2).2, (Bs.of' (k := 32) (PH.add_self _ _ _) (Mac.sum_length _ _) (by omega)).take (by rw [Mac.sum_length]; omega)⟩
    · refine Stp.alloc (cs := bs (List.replicate 32 0)) rfl z143 rfl rfl rfl hS ?_
      intro b5 w hb5 hS hkp hnw
      have hK0 : On M1 w := by first | exact hS.on | exact (hS.known hle2).on
      refine ⟨hK0, ?_⟩
      first | refine AL.one 4 rfl (by kernel_rfl) rfl (Stp.appendB (l := List.replicate 16 0) (r := l) rfl rfl rfl rfl et30 (Src.ofBs underlying30 hS (hv.mono hG1.1)) hS (OwnB.of hb8 (Nat.le_refl 16) (by omega) (List.replicate 16 0) (List.length_replicate ..) (by simp)) (by simp; omega) rfl rfl ?_) | refine AL.one 4 rfl (by kernel_rfl) rfl (Stp.appendB (l := List.replicate 16 0) (r := l) rfl rfl rfl rfl et30 (Src.ofBs underlying30 hS (hv.mono hG1.1)) hS.swap (OwnB.of hb8 (Nat.le_refl 16) (by omega) (List.replicate 16 0) (List.length_replicate ..) (by simp)) (by simp; omega) rfl rfl ?_)
      intro v2 w g2 hS hown
      obtain ⟨M2, hS, hle2, hfr2, hv2⟩ := hown.give hS
      have hG2 : Grow w0.heap.size M1 M2 := ⟨hle2, hfr2⟩
      have hK0 : On M1 w := by first | exact hS.on | exact (hS.known hle2).on
      refine ⟨hK0, ?_⟩
      refine AL.one 5 rfl (by kernel_rfl) rfl (Stp.callG (args := [_, _]) rfl rfl rfl cal104 rfl rfl hS (mac_ok _ _ t _ _ _ hS.on (hgl.mono (hG1.1.trans hle2)) (ht.mono (hG1.1.trans hle2)) hv2 htl (by simp; omega)) ?_)
      rintro _ w _ hS _ ⟨rfl, rfl⟩
      have hK0 : On M1 w := by first | exact hS.on | exact (hS.known hle2).on
      refine ⟨hK0, ?_⟩
      refine AL.one 7 rfl (by kernel_rfl) rfl (Stp.storeAllB 0 rfl rfl rfl sz143 rfl hS rfl ⟨List.length_replicate .., Mac.sum_length _ _⟩ ?_)
      intro w hS hpt
      have hK0 : On M1 w := by first | exact hS.on | exact (hS.known hle2).on
      refine ⟨hK0, ?_⟩
      refine AL.done (by kernel_rfl) (Thn_n ?_)
      refine CW.seq ?_
      have hF := hS.freezeG (i := 0) rfl hb5
      refine CW.region ?_
      refine WL.step rfl (Stp.res rfl rfl (Res.sliceAHi (h := 16) rfl rfl rfl underlying143 sz5 (by decide)) ?_)
      refine WL.step rfl (Stp.res rfl rfl (Res.assign rfl rfl) ?_)
      refine WL.nil (Thn_n ?_)
      refine CW.ret ?_
      exact fq_tmp rfl rfl ⟨_, hF.1, ((hG1.trans hG2).trans hF.2).1, ((hG1.trans hG2).trans hF.2).2, (Bs.of' (k := 32) (PH.add_self _ _ _) (Mac.sum_length _ _) (by omega)).take (by rw [Mac.sum_length]; omega)⟩
  · refine Stp.alloc (cs := bs (List.replicate 32 0)) rfl z143 rfl rfl rfl hS ?_
    intro b5 w hb5 hS hkp hnw
    have hK0 : On M1 w := by first | exact hS.on | exact (hS.known hle2).on
    refine ⟨hK0, ?_⟩
    refine AL.one 2 rfl (by kernel_rfl) rfl (Stp.makeB (k := 16) (c := 16) rfl rfl rfl et30 ⟨Nat.le_refl 16, by decide⟩ rfl rfl hS ?_)
    intro b8 w hb8 hS hkp hnw
    have hK0 : On M1 w := by first | exact hS.on | exact (hS.known hle2).on
    refine ⟨hK0, ?_⟩
    first | refine AL.one 4 rfl (by kernel_rfl) rfl (Stp.appendB (l := List.replicate 16 0) (r := l) rfl rfl rfl rfl et30 (Src.ofBs underlying30 hS (hv.mono hG1.1)) hS (OwnB.of hb8 (Nat.le_refl 16) (by omega) (List.replicate 16 0) (List.length_replicate ..) (by simp)) (by simp; omega) rfl rfl ?_) | refine AL.one 4 rfl (by kernel_rfl) rfl (Stp.appendB (l := List.replicate 16 0) (r := l) rfl rfl rfl rfl et30 (Src.ofBs underlying30 hS (hv.mono hG1.1)) hS.swap (OwnB.of hb8 (Nat.le_refl 16) (by omega) (List.replicate 16 0) (List.length_replicate ..) (by simp)) (by simp; omega) rfl rfl ?_)
    intro v2 w g2 hS hown
    obtain ⟨M2, hS, hle2, hfr2, hv2⟩ := hown.give hS
    have hG2 : Grow w0.heap.size M1 M2 := ⟨hle2, hfr2⟩
    have hK0 : On M1 w := by first | exact hS.on | exact (hS.known hle2).on
    refine ⟨hK0, ?_⟩
    refine AL.one 5 rfl (by kernel_rfl) rfl (Stp.callG (args := [_, _]) rfl rfl rfl cal104 rfl rfl hS (mac_ok _ _ t _ _ _ hS.on (hgl.mono (hG1.1.trans hle2)) (ht.mono (hG1.1.trans hle2)) hv2 htl (by simp; omega)) ?_)
    rintro _ w _ hS _ ⟨rfl, rfl⟩
    have hK0 : On M1 w := by first | exact hS.on | exact (hS.known hle2).on
    refine ⟨hK0, ?_⟩
    refine AL.one 7 rfl (by kernel_rfl) rfl (Stp.storeAllB 0 rfl rfl rfl sz143 rfl hS rfl ⟨List.length_replicate .., Mac.sum_length _ _⟩ ?_)
    intro w hS hpt
    have hK0 : On M1 w := by first | exact hS.on | exact (hS.known hle2).on
    refine ⟨hK0, ?_⟩
    refine AL.done (by kernel_rfl) (Thn_n ?_)
    refine CW.seq ?_
    have hF := hS.freezeG (i := 0) rfl hb5
    refine CW.region ?_
    refine WL.step rfl (Stp.res rfl rfl (Res.sliceAHi (h := 16) rfl rfl rfl underlying143 sz5 (by decide)) ?_)
    refine WL.step rfl (Stp.res rfl rfl (Res.assign rfl rfl) ?_)
    refine WL.nil (Thn_n ?_)
    refine CW.ret ?_
    exact fq_tmp rfl rfl ⟨_, hF.1, ((hG1.trans hG2).trans hF.2).1, ((hG1.trans hG2).trans hF.2).2, (Bs.of' (k := 32) (PH.add_self _ _ _) (Mac.sum_length _ _) (by omega)).take (by rw [Mac.sum_length]; omega)⟩
end Go.Proofs.YtcmgimicdcchlaaGreatDoor
set_option linter.unusedVariables false
set_option maxRecDepth 20000
namespace Go.Proofs.YtcmgimicdcchlaaGreatDoor
open Go.Proofs.Tryz
open Go Go.E
theorem swap_short (l : List UInt8) (rest : List Value) (T : TypeId) (cap : Nat) (w0 : World) (M : PH) (hM : On M w0) (b : Nat) (hb : w0.heap[b]? = some (.cells (Gb (l) rest) T (0, 0))) (hmb : M b = none) (hcap : l.length ≤ cap ∧ cap ≤ 9223372036854775807) (hl : l.length < 32) : OkO Tryz.prog 123 #[.slice (some ⟨b, 0, none⟩) l.length cap] w0 M b (fun M' o' v => M = M' ∧ o' = .cells (Gb (Seal.swapL l) rest) T (0, 0) ∧ v = .tuple #[]) := by
  have hS := hM.st1 hb hmb
  refine enterO (l := [.slice (some ⟨b, 0, none⟩) l.length cap]) 28 func123 rfl ntmps123 rfl ?_
  refine CW.seq ?_
  refine CW.region ?_
  refine WL.step rfl (Stp.res rfl rfl (Res.move rfl rfl) ?_)
  refine WL.step rfl (Stp.res rfl rfl (Res.len rfl rfl rfl rfl underlying30) ?_)
  refine WL.step rfl (Stp.res rfl rfl (Res.sub rfl rfl rfl (by omega)) ?_)
  refine WL.step rfl (Stp.res rfl rfl (Res.assign rfl rfl) ?_)
  refine WL.nil (Thn_n ?_)
  refine CW.seq ?_
  refine CW.seq ?_
  refine CW.region ?_
  refine WL.step rfl (Stp.res rfl rfl (Res.move rfl rfl) ?_)
  refine WL.step rfl (Stp.res rfl rfl (Res.lss rfl rfl rfl) ?_)
  refine WL.nil (Thn_n ?_)
  refine CW.iteT rfl (by omega) ?_
  refine CW.ret (Thn_r ?_)
  exact fq_noneR rfl ⟨M, _, hS, PH.le.refl _, Fresh.refl _ _, rfl, by rw [Seal.swapL, if_pos hl], rfl⟩
theorem swap_long (x y z : List UInt8) (rest : List Value) (T : TypeId) (cap : Nat) (w0 : World) (M : PH) (hM : On M w0) (b : Nat) (hb : w0.heap[b]? = some (.cells (Gb (x ++ y ++ z) rest) T (0, 0))) (hmb : M b = none) (hy : y.length = 16) (hz : z.length = 16) (hcap : (x ++ y ++ z).length ≤ cap ∧ cap ≤ 9223372036854775807) : OkO Tryz.prog 123 #[.slice (some ⟨b, 0, none⟩) (x ++ y ++ z).length cap] w0 M b (fun M' o' v => M = M' ∧ o' = .cells (Gb (x ++ z ++ y) rest) T (0, 0) ∧ v = .tuple #[]) := by
  have hS := hM.st1 hb hmb
  have hxl : (x ++ y ++ z).length = x.length + 32 := by simp; omega
  refine enterO (l := [.slice (some ⟨b, 0, none⟩) (x ++ y ++ z).length cap]) 28 func123 rfl ntmps123 rfl ?_
  refine CW.seq ?_
  refine CW.region ?_
  refine WL.step rfl (Stp.res rfl rfl (Res.move rfl rfl) ?_)
  refine WL.step rfl (Stp.res rfl rfl (Res.len rfl rfl rfl rfl underlying30) ?_)
  refine WL.step rfl (Stp.res rfl rfl (Res.cast (Res.sub rfl rfl rfl (by omega)) (v' := .int .i64 (x.length : Int)) (by congr 1; omega)) ?_)
  refine WL.step rfl (Stp.res rfl rfl (Res.assign rfl rfl) ?_)
  refine WL.nil (Thn_n ?_)
  refine CW.seq ?_
  refine CW.seq ?_
  refine CW.region ?_
  refine WL.step rfl (Stp.res rfl rfl (Res.move rfl rfl) ?_)
  refine WL.step rfl (Stp.res rfl rfl (Res.lss rfl rfl rfl) ?_)
  refine WL.nil (Thn_n ?_)
  refine CW.iteF rfl (by omega) ?_
  refine CW.skip (Thn_n ?_)
  refine CW.seq ?_
  refine CW.region ?_
  refine WL.step rfl (Stp.res rfl rfl (Res.move rfl rfl) ?_)
  refine WL.step rfl (Stp.res rfl rfl (Res.move rfl rfl) ?_)
  refine WL.step rfl (Stp.res rfl rfl (Res.cast (Res.sliceLo (l := x.length) rfl rfl rfl underlying30 sz5 (by omega)) (v' := .slice (some ⟨b, x.length, none⟩) 32 (cap - (x.length))) (by rw [if_neg (by omega)]; simp only [Option.map_some, addr_add, Nat.zero_add]; congr 1; omega)) ?_)
  refine WL.step rfl (Stp.res rfl rfl (Res.s2a rfl rfl underlying78 (by omega)) ?_)
  refine WL.step rfl (Stp.res rfl rfl (Res.loadNB (l := y) rfl rfl underlying78 rfl sz78 hy (fun j hj => hS.ocell (i := 0) rfl (Gb_part (by omega)))) ?_)
  refine WL.step rfl (Stp.alloc (cs := bs (List.replicate 16 0)) rfl z78 rfl rfl rfl hS ?_)
  intro b3 w hb3 hS hkp hnw
  refine WL.step rfl (Stp.storeAllB 0 rfl rfl rfl sz78 rfl hS rfl ⟨List.length_replicate .., hy⟩ ?_)
  intro w hS hpt
  refine WL.nil (Thn_n ?_)
  refine CW.seq ?_
  have hS := hS.drew
  refine CW.tail 7 mixed (by kernel_rfl) ?_
  refine SL.step rfl rfl rfl (Res.move rfl rfl) ?_
  refine SL.step rfl rfl rfl (Res.move rfl rfl) ?_
  refine SL.step rfl rfl rfl (Res.cast (Res.sliceLo (l := x.length) rfl rfl rfl underlying30 sz5 (by omega)) (v' := .slice (some ⟨b, x.length, none⟩) 32 (cap - (x.length))) (by rw [if_neg (by omega)]; simp only [Option.map_some, addr_add, Nat.zero_add]; congr 1; omega)) ?_
  refine SL.step rfl rfl rfl (Res.move rfl rfl) ?_
  refine SL.step rfl rfl rfl (Res.move rfl rfl) ?_
  refine SL.step rfl rfl rfl (Res.cast (Res.add rfl rfl rfl (by omega)) (v' := .int .i64 ((x.length + 16 : Nat) : Int)) (by congr 1)) ?_
  refine SL.step rfl rfl rfl (Res.cast (Res.sliceLo (l := x.length + 16) rfl rfl rfl underlying30 sz5 (by omega)) (v' := .slice (some ⟨b, x.length + 16, none⟩) 16 (cap - (x.length + 16))) (by rw [if_neg (by omega)]; simp only [Option.map_some, addr_add, Nat.zero_add]; congr 1; omega)) ?_
  refine SL.nil ?_
  refine WL.step rfl (Stp.copyC 1 (j := x.length) (r := z) rfl rfl rfl rfl underlying30 sz5 rfl rfl hS rfl (by simp; omega) (by omega) rfl (fun k hk => by simp only [addr_add]; exact swap_src hS (by omega) hy) (by simp; omega) ?_)
  intro w hS
  rw [Gb_copy x y z rest z (by omega)] at hS
  change St w0 w M [(b3, .cells (bs y) 78 (0, 0)), (b, .cells (Gb (x ++ z ++ z) rest) T (0, 0))] at hS
  refine WL.nil (Thn_n ?_)
  have hS := hS.drew
  refine CW.tail 5 mixed (by kernel_rfl) ?_
  refine SL.step rfl rfl rfl (Res.move rfl rfl) ?_
  refine SL.step rfl rfl rfl (Res.move rfl rfl) ?_
  refine SL.step rfl rfl rfl (Res.cast (Res.add rfl rfl rfl (by omega)) (v' := .int .i64 ((x.length + 16 : Nat) : Int)) (by congr 1)) ?_
  refine SL.step rfl rfl rfl (Res.cast (Res.sliceLo (l := x.length + 16) rfl rfl rfl underlying30 sz5 (by omega)) (v' := .slice (some ⟨b, x.length + 16, none⟩) 16 (cap - (x.length + 16))) (by rw [if_neg (by omega)]; simp only [Option.map_some, addr_add, Nat.zero_add]; congr 1; omega)) ?_
  refine SL.step rfl rfl rfl (Res.sliceA rfl rfl underlying78 (by decide) sz5) ?_
  refine SL.nil ?_
  refine WL.step rfl (Stp.copyC 1 (j := x.length + 16) (r := y) rfl rfl rfl rfl underlying30 sz5 rfl rfl hS rfl (by simp; omega) (by omega) rfl (fun k hk => by simp only [addr_add]; exact by rw [Nat.zero_add]; exact hS.ocell (i := 0) rfl (bs_get (by omega))) (by simp; omega) ?_)
  intro w hS
  rw [swap_again x y z rest hy hz] at hS
  change St w0 w M [(b3, .cells (bs y) 78 (0, 0)), (b, .cells (Gb (x ++ z ++ y) rest) T (0, 0))] at hS
  refine WL.nil ?_
  exact fq_none rfl ⟨M, _, hS.drop (i := 0) rfl hb3, PH.le.refl _, Fresh.refl _ _, rfl, rfl, rfl⟩
end Go.Proofs.YtcmgimicdcchlaaGreatDoor
set_option linter.unusedVariables false
set_option maxRecDepth 20000
namespace Go.Proofs.YtcmgimicdcchlaaGreatDoor
open Go.Proofs.Tryz
open Go Go.E
theorem chain_ok (sv tv v : Value) (k l : List UInt8) (w0 : World) (M : PH) (hM : On M w0) (hk : Bs M sv k) (hv : Bs M v l) (hkl : k.length = 16) (h0 : 0 < l.length) (hlen : l.length ≤ 1000000) : Ok Tryz.prog 122 #[.agg #[sv, tv], v] w0 M (fun M' r => ∃ b rest cap, M b = none ∧ w0.heap.size ≤ b ∧ M' b = some (.cells (Gb (Seal.chain k l) rest) 5 (0, 0)) ∧ (Seal.chain k l).length + rest.length = cap ∧ cap ≤ 9223372036854775807 ∧ r = .slice (some ⟨b, 0, none⟩) (Seal.chain k l).length cap) := by
  have hS := hM.st
  have hv0 := hv
  obtain ⟨va, vc, rfl, v1, v2, v3, v4⟩ := hv
  have hce := Seal.ceil_ge l.length
  have hpl := Seal.padTo_length l
  refine enterB (l := [.agg #[sv, tv], .slice va l.length vc]) 43 func122 rfl ntmps122 rfl ?_
  refine CW.seq ?_
  refine CW.region ?_
  refine WL.step rfl (Stp.boxA rfl rfl rfl rfl hS ?_)
  intro b2 w hb2 hS hkp hnw
  refine WL.step rfl (Stp.res rfl rfl (Res.assign rfl rfl) ?_)
  refine WL.nil (Thn_n ?_)
  refine CW.seq ?_
  have hF := hS.freezeG (i := 0) rfl hb2
  obtain ⟨M1, hG1, hbox, hS⟩ : ∃ M1, Grow w0.heap.size M M1 ∧ M1 b2 = some (.cells #[sv, tv] 160 (0, 0)) ∧ St w0 w M1 [] := ⟨_, hF.2, PH.add_self _ _ _, hF.1⟩
  refine CW.region ?_
  refine WL.step rfl (Stp.res rfl rfl (Res.move rfl rfl) ?_)
  refine WL.step rfl (Stp.res rfl rfl (Res.len rfl rfl rfl rfl underlying30) ?_)
  refine WL.step rfl (Stp.res rfl rfl (Res.add rfl rfl rfl (by omega)) ?_)
  refine WL.step rfl (Stp.res rfl rfl (Res.sub rfl rfl rfl (by omega)) ?_)
  refine WL.step rfl (Stp.res rfl rfl (Res.quo rfl rfl rfl (by omega)) ?_)
  refine WL.step rfl (Stp.res rfl rfl (Res.cast (Res.mul rfl rfl rfl (by omega)) (v' := .int .i64 ((Seal.ceil l.length : Nat) : Int)) (by congr 1; rw [Seal.ceil]; omega)) ?_)
  refine WL.step rfl (Stp.res rfl rfl (Res.assign rfl rfl) ?_)
  refine WL.nil (Thn_n ?_)
  refine CW.seq ?_
  refine CW.region ?_
  refine WL.step rfl (Stp.res rfl rfl (Res.move rfl rfl) ?_)
  refine WL.step rfl (Stp.makeB (k := 0) (c := Seal.ceil l.length) rfl rfl rfl et30 ⟨Nat.zero_le _, by omega⟩ rfl rfl hS ?_)
  intro b15 w hb15 hS hkp hnw
  refine WL.step rfl (Stp.res rfl rfl (Res.move rfl rfl) ?_)
  refine WL.step rfl (Stp.appendFit 0 (X := List.replicate (Seal.ceil l.length) 0) (len := 0) (cap := Seal.ceil l.length) (r := l) rfl rfl rfl rfl et30 (Src.ofBs underlying30 hS (hv0.mono hG1.1)) hS rfl ⟨by omega, by rw [List.length_replicate]; exact Nat.le_refl _⟩ rfl rfl ?_)
  intro w hS
  refine WL.step rfl (Stp.res rfl rfl (Res.move rfl rfl) ?_)
  refine WL.step rfl (Stp.res rfl rfl (Res.move rfl rfl) ?_)
  refine WL.step rfl (Stp.res rfl rfl (Res.len rfl rfl rfl rfl underlying30) ?_)
  refine WL.step rfl (Stp.res rfl rfl (Res.cast (Res.sub rfl rfl rfl (by omega)) (v' := .int .i64 ((Seal.ceil l.length - l.length : Nat) : Int)) (by congr 1; omega)) ?_)
  refine WL.step rfl (Stp.appendZFit 0 (m := Seal.ceil l.length - l.length) (len := 0 + l.length) (cap := Seal.ceil l.length) rfl rfl rfl rfl et30 underlying3 hS rfl ⟨by omega, by simp; omega⟩ (by omega) rfl rfl ?_)
  intro w hS
  rw [pad_made l (Seal.ceil l.length) hce.1] at hS
  rw [show 0 + l.length + (Seal.ceil l.length - l.length) = Seal.ceil l.length by omega]
  change St w0 w M1 [(b15, .cells (bs (Seal.padTo l)) 5 (0, 0))] at hS
  refine WL.step rfl (Stp.res rfl rfl (Res.assign rfl rfl) ?_)
  refine WL.nil (Thn_n ?_)
  refine CW.seq ?_
  have hF := hS.freezeG (i := 0) rfl hb15
  obtain ⟨M2, hG2, hpd, hS⟩ : ∃ M2, Grow w0.heap.size M1 M2 ∧ Bs M2 (.slice (some ⟨b15, 0, none⟩) (Seal.ceil l.length) (Seal.ceil l.length)) (Seal.padTo l) ∧ St w0 w M2 [] := ⟨_, hF.2, Bs.of' (PH.add_self _ _ _) (Seal.padTo_length l) (by omega), hF.1⟩
  refine CW.region ?_
  refine WL.step rfl (Stp.makeB (k := 16) (c := 16) rfl rfl rfl et30 ⟨Nat.le_refl 16, by decide⟩ rfl rfl hS ?_)
  intro b23 w hb23 hS hkp hnw
  refine WL.step rfl (Stp.res rfl rfl (Res.assign rfl rfl) ?_)
  refine WL.nil (Thn_n ?_)
  refine CW.seq ?_
  have hF := hS.freezeG (i := 0) rfl hb23
  obtain ⟨M3, hG3, hz, hS⟩ : ∃ M3, Grow w0.heap.size M2 M3 ∧ Bs M3 (.slice (some ⟨b23, 0, none⟩) 16 16) (List.replicate 16 0) ∧ St w0 w M3 ([] ++ []) := ⟨_, hF.2, Bs.of' (PH.add_self _ _ _) (List.length_replicate ..) (by omega), hF.1⟩
  refine CW.region ?_
  refine WL.step rfl (Stp.res rfl rfl (Res.assign rfl rfl) ?_)
  refine WL.nil (Thn_n ?_)
  refine CW.seq ?_
  refine CW.block ?_
  refine CW.loop (σ := Nat × PH × Value × Value × Owned × Option Addr × Nat) (fun s => [(1, .slice s.2.2.2.2.2.1 (Seal.ceil l.length - 16 * s.1) s.2.2.2.2.2.2), (2, .pointer (some ⟨b2, 0, none⟩)), (6, s.2.2.1), (7, s.2.2.2.1)])
    (fun s w' => 16 * s.1 ≤ Seal.ceil l.length ∧ Grow w0.heap.size M3 s.2.1 ∧ St w0 w' s.2.1 (s.2.2.2.2.1 ++ []) ∧ Bs s.2.1 (.slice s.2.2.2.2.2.1 (Seal.ceil l.length - 16 * s.1) s.2.2.2.2.2.2) ((Seal.padTo l).drop (16 * s.1)) ∧ Bs s.2.1 s.2.2.1 (Seal.cl k (Seal.padTo l) s.1) ∧ OwnB w0.heap.size s.2.2.2.2.1 s.2.2.2.1 (Seal.co k (Seal.padTo l) s.1) 5) (fun s => Seal.ceil l.length - 16 * s.1) (0, M3, _, _, [], _, _) ⟨rfl, rfl, rfl, rfl, trivial⟩ ⟨by dsimp only; omega, Grow.refl _ _, hS, hpd.mono hG3.1, hz, OwnB.nil _ _⟩ ?_
  rintro ⟨j, MJ, lv, ov, g, a, cap⟩ w1 ⟨hj, hGJ, hS, hbj, hlast, hown⟩
  dsimp only at hj hGJ hS hbj hlast hown ⊢
  obtain ⟨hl1, hl2, hl3⟩ := hbj.len
  rw [List.length_drop] at hl1 hl2
  refine CW.seq ?_
  refine CW.seq ?_
  refine CW.region ?_
  refine WL.step rfl (Stp.res rfl rfl (Res.move rfl rfl) ?_)
  refine WL.step rfl (Stp.res rfl rfl (Res.len rfl rfl rfl rfl underlying30) ?_)
  refine WL.step rfl (Stp.res rfl rfl (Res.gtr rfl rfl rfl) ?_)
  refine WL.nil (Thn_n ?_)
  refine CW.ite rfl (fun h => ?_) (fun h => ?_)
  · have hlt : 16 * j + 16 ≤ Seal.ceil l.length := by omega
    refine CW.skip (Thn_n ?_)
    refine CW.seq ?_
    refine CW.block ?_
    refine CW.seq ?_
    have hS := hS.drew
    have hK0 := hS.on
    refine CW.held (fun w => On MJ w) mixed ?_
    refine AL.take 0 rfl (by kernel_rfl) (by kernel_rfl) (by kernel_rfl) rfl rfl rfl hK0 (fun w hK => Res.fieldA rfl rfl underlying160 rfl (show SZ Tryz.prog _ 1 from sz30) (by decide)) ?_
    refine AL.take 1 rfl (by kernel_rfl) (by kernel_rfl) (by kernel_rfl) rfl rfl rfl hK0 (fun w hK => Res.load1 (v := sv) rfl rfl underlying30 rfl (w := w) (by have := hK _ _ (hGJ.1 _ _ ((hG2.trans hG3).1 _ _ hbox)); simp [World.cell?, this])) ?_
    refine AL.take 2 rfl (by kernel_rfl) (by kernel_rfl) (by kernel_rfl) rfl rfl rfl hK0 (fun w hK => Res.move rfl rfl) ?_
    refine AL.take 3 rfl (by kernel_rfl) (by kernel_rfl) (by kernel_rfl) rfl rfl rfl hK0 (fun w hK => Res.sliceHi (h := 16) rfl rfl rfl underlying30 sz5 (by omega)) ?_
    refine AL.take 4 rfl (by kernel_rfl) (by kernel_rfl) (by kernel_rfl) rfl rfl rfl hK0 (fun w hK => Res.move rfl rfl) ?_
    refine AL.one 5 rfl (by kernel_rfl) rfl (Stp.callG (args := [_, _]) rfl rfl rfl cal130 rfl rfl hS (sxor_ok _ _ (Seal.blk (Seal.padTo l) j) (Seal.cl k (Seal.padTo l) j) _ _ hS.on (hbj.take (by rw [List.length_drop]; omega)) hlast (Seal.blk_length (by omega)) (Seal.cl_length ..)) ?_)
    rintro xv w M5 hS hG5 hx
    have hK0 : On MJ w := (hS.known hG5.1).on
    refine ⟨hK0, ?_⟩
    refine AL.one 6 rfl (by kernel_rfl) rfl (Stp.callG (args := [_, _]) rfl rfl rfl cal152 rfl rfl hS (encrypt_ok _ _ k _ _ _ hS.on (hk.mono ((((hG1.trans hG2).trans hG3).trans hGJ).trans hG5).1) hx hkl (Aes.xorB_length ..)) ?_)
    rintro _ w M6 hS hG6 ⟨lv2, rfl, hlv2⟩
    have hlv2 : Bs M6 lv2 (Seal.cl k (Seal.padTo l) (j + 1)) := hlv2
    have hK0 : On MJ w := (hS.known (hG5.trans hG6).1).on
    refine ⟨hK0, ?_⟩
    refine AL.take 7 rfl (by kernel_rfl) (by kernel_rfl) (by kernel_rfl) rfl rfl rfl hK0 (fun w hK => Res.move rfl rfl) ?_
    refine AL.take 8 rfl (by kernel_rfl) (by kernel_rfl) (by kernel_rfl) rfl rfl rfl hK0 (fun w hK => Res.extract (l := [_, _]) rfl rfl rfl) ?_
    refine AL.take 9 rfl (by kernel_rfl) (by kernel_rfl) (by kernel_rfl) rfl rfl rfl hK0 (fun w hK => Res.extract (l := [_, _]) rfl rfl rfl) ?_
    refine AL.take 10 rfl (by kernel_rfl) (by kernel_rfl) (by kernel_rfl) rfl rfl rfl hK0 (fun w hK => Res.assign rfl rfl) ?_
    refine AL.done (by kernel_rfl) (Thn_n ?_)
    refine CW.region ?_
    refine WL.step rfl (Stp.res rfl rfl (Res.move rfl rfl) ?_)
    refine WL.step rfl (Stp.res rfl rfl (Res.move rfl rfl) ?_)
    refine WL.step rfl (Stp.appendB (l := Seal.co k (Seal.padTo l) j) (r := Seal.cl k (Seal.padTo l) (j + 1)) rfl rfl rfl rfl et30 (Src.ofBs underlying30 hS hlv2) hS hown (by simp; omega) rfl rfl ?_)
    intro ov2 w g2 hS hown
    refine WL.step rfl (Stp.res rfl rfl (Res.assign rfl rfl) ?_)
    refine WL.nil (Blk_n (Thn_n ?_))
    refine CW.region ?_
    refine WL.step rfl (Stp.res rfl rfl (Res.move rfl rfl) ?_)
    refine WL.step rfl (Stp.res rfl rfl (Res.cast (Res.sliceLo (l := 16) rfl rfl rfl underlying30 sz5 (by omega)) (v' := .slice (if cap = 16 then a else a.map (·.add 16)) (Seal.ceil l.length - 16 * (j + 1)) (cap - 16)) (by congr 1 <;> omega)) ?_)
    refine WL.step rfl (Stp.res rfl rfl (Res.assign rfl rfl) ?_)
    refine WL.nil (Thn_n ?_)
    refine ⟨(j + 1, M6, lv2, ov2, g2, _, _), ⟨rfl, rfl, rfl, rfl, trivial⟩, ⟨by dsimp only; omega, (hGJ.trans hG5).trans hG6, hS, ?_, hlv2, hown⟩, by dsimp only; omega⟩
    have hd := (hbj.drop (k := 16) (by rw [List.length_drop]; omega)).mono (hG5.trans hG6).1
    rw [List.drop_drop] at hd
    dsimp only
    rw [show Seal.ceil l.length - 16 * (j + 1) = Seal.ceil l.length - 16 * j - 16 by omega, show 16 * (j + 1) = 16 * j + 16 by omega]
    exact hd
  · have hjj : j = Seal.ceil l.length / 16 := by omega
    rw [show Seal.co k (Seal.padTo l) j = Seal.chain k l by rw [Seal.chain, hjj]] at hown
    obtain ⟨ob, rest, cp, hob, rfl, rfl, hc1, hc2⟩ := hown.gb (by rw [Seal.chain_length]; omega)
    refine CW.exit (Thn_x (Thn_x (Blk_x (Thn_n ?_))))
    refine CW.seq ?_
    refine CW.region ?_
    refine WL.step rfl (Stp.res rfl rfl (Res.move rfl rfl) ?_)
    refine WL.step rfl (Stp.res rfl rfl (Res.assign rfl rfl) ?_)
    refine WL.nil (Thn_n ?_)
    refine CW.ret ?_
    have hF := hS.freezeG (i := 0) rfl hob
    have hGA := ((((hG1.trans hG2).trans hG3).trans hGJ).trans hF.2)
    exact fq_tmp rfl rfl ⟨_, hF.1, hGA.1, hGA.2, ob, rest, cp, (Fresh.refl M 0).none w0 hM hob, hob, PH.add_self _ _ _, hc1, hc2, rfl⟩
end Go.Proofs.YtcmgimicdcchlaaGreatDoor
set_option linter.unusedVariables false
set_option maxRecDepth 20000
namespace Go.Proofs.YtcmgimicdcchlaaGreatDoor
open Go.Proofs.Tryz
open Go Go.E
theorem keys_no (kv : Value) (key : List UInt8) (use : Int) (w0 : World) (M : PH) (hM : On M w0) (hkey : Bs M kv key) (hg : ¬ Seal.Good key use) : Ok Tryz.prog 121 #[kv, .int .i64 use] w0 M (fun M' r => M = M' ∧ r = .tuple #[.agg #[.slice none 0 0, .slice none 0 0], .iface 201 (.agg #[Go.E.str [107, 101, 121, 115], .int .i64 2])]) := by
  by_cases h1 : key.length = 16
  · by_cases h2 : use < 0
    · exact keys_no2 kv key use w0 M hM hkey h1 h2
    · by_cases h3 : 256 ≤ use
      · exact keys_no3 kv key use w0 M hM hkey h1 (by omega) h3
      · exact absurd ⟨h1, by omega, by omega⟩ hg
  · exact keys_no1 kv key use w0 M hM hkey h1
theorem swap_ok (l : List UInt8) (rest : List Value) (T : TypeId) (cap : Nat) (w0 : World) (M : PH) (hM : On M w0) (b : Nat) (hb : w0.heap[b]? = some (.cells (Gb (l) rest) T (0, 0))) (hmb : M b = none) (hcap : l.length ≤ cap ∧ cap ≤ 9223372036854775807) : OkO Tryz.prog 123 #[.slice (some ⟨b, 0, none⟩) l.length cap] w0 M b (fun M' o' v => M = M' ∧ o' = .cells (Gb (Seal.swapL l) rest) T (0, 0) ∧ v = .tuple #[]) := by
  by_cases h : l.length < 32
  · exact swap_short l rest T cap w0 M hM b hb hmb hcap h
  · obtain ⟨x, y, z, rfl, hy, hz⟩ := Seal.three (Nat.le_of_not_lt h)
    rw [Seal.swapL_three x y z hy hz]
    exact swap_long x y z rest T cap w0 M hM b hb hmb hy hz hcap
theorem seal_bad (kv cv tv : Value) (key conf text : List UInt8) (use : Int) (w0 : World) (M : PH) (hM : On M w0) (hgl : GL M) (hkey : Bs M kv key) (hconf : Bs M cv conf) (htext : Bs M tv text) (hg : ¬ Seal.Good key use) : Ok Tryz.prog 88 #[kv, .int .i64 use, cv, tv] w0 M (fun M' r => ∃ s, r = .tuple #[s, .int .i64 (Seal.sealR key use conf text).2] ∧ Bs M' s (Seal.sealR key use conf text).1) := by
  have hS := hM.st
  have hconf0 := hconf
  have htext0 := htext
  obtain ⟨ca, cc, rfl, c1, c2, c3, c4⟩ := hconf
  obtain ⟨xa, xc, rfl, x1, x2, x3, x4⟩ := htext
  refine enterB (l := [kv, .int .i64 use, .slice ca conf.length cc, .slice xa text.length xc]) 51 func88 rfl ntmps88 rfl ?_
  refine CW.seq ?_
  refine CW.region ?_
  refine WL.step rfl (Stp.res rfl rfl (Res.assign rfl rfl) ?_)
  refine WL.step rfl (Stp.res rfl rfl (Res.assign rfl rfl) ?_)
  refine WL.nil (Thn_n ?_)
  refine CW.seq ?_
  refine CW.region ?_
  refine WL.step rfl (Stp.res rfl rfl (Res.move rfl rfl) ?_)
  refine WL.step rfl (Stp.res rfl rfl (Res.move rfl rfl) ?_)
  refine WL.step rfl (Stp.callG (args := [_, _]) rfl rfl rfl cal121 rfl rfl hS (keys_no _ key use _ _ hS.on hkey hg) ?_)
  rintro _ w _ hS _ ⟨rfl, rfl⟩
  refine WL.step rfl (Stp.res rfl rfl (Res.move rfl rfl) ?_)
  refine WL.step rfl (Stp.res rfl rfl (Res.extract (l := [_, _]) rfl rfl rfl) ?_)
  refine WL.step rfl (Stp.res rfl rfl (Res.extract (l := [_, _]) rfl rfl rfl) ?_)
  refine WL.step rfl (Stp.alloc (cs := #[.slice none 0 0, .slice none 0 0]) rfl zPair rfl rfl rfl hS ?_)
  intro b10 w hb10 hS hkp hnw
  refine WL.step rfl (Stp.storeAll 0 rfl rfl rfl (sz160) (two_one _ _ _ _ _ _) rfl hS rfl rfl ?_)
  intro w hS hpt
  refine WL.step rfl (Stp.res rfl rfl (Res.assign rfl rfl) ?_)
  refine WL.nil (Thn_n ?_)
  refine CW.seq ?_
  refine CW.block ?_
  refine CW.seq ?_
  refine CW.region ?_
  refine WL.step rfl (Stp.res rfl rfl (Res.move rfl rfl) ?_)
  refine WL.step rfl (Stp.res rfl rfl (Res.neqIN rfl rfl underlying86) ?_)
  refine WL.step rfl (Stp.res rfl rfl (Res.move rfl rfl) ?_)
  refine WL.skipG 2 false rfl rfl rfl rfl rfl rfl ?_
  refine WL.skipG 2 false rfl rfl rfl rfl rfl rfl ?_
  refine WL.skipG 2 false rfl rfl rfl rfl rfl rfl ?_
  refine WL.step rfl (Stp.res rfl rfl (Res.pickT rfl rfl rfl) ?_)
  refine WL.step rfl (Stp.res rfl rfl (Res.assign rfl rfl) ?_)
  refine WL.nil (Thn_n ?_)
  refine CW.condT rfl ?_
  refine CW.seq ?_
  refine CW.region ?_
  refine WL.step rfl (Stp.res rfl rfl (Res.assign rfl rfl) ?_)
  refine WL.step rfl (Stp.res rfl rfl (Res.assign rfl rfl) ?_)
  refine WL.nil (Thn_n ?_)
  refine CW.ret (Blk_r (Thn_r ?_))
  exact fq_tmp2 rfl rfl rfl ⟨M, hS.drop (i := 0) rfl hb10, PH.le.refl _, Fresh.refl _ _, _, by rw [Seal.sealR, if_neg (fun h => hg h.1)], by rw [Seal.sealR, if_neg (fun h => hg h.1)]; exact Bs.nil _⟩
theorem seal_conf (kv cv tv : Value) (key conf text : List UInt8) (use : Int) (w0 : World) (M : PH) (hM : On M w0) (hgl : GL M) (hkey : Bs M kv key) (hconf : Bs M cv conf) (htext : Bs M tv text) (hg : Seal.Good key use) (hc : ¬ conf.length = 16) : Ok Tryz.prog 88 #[kv, .int .i64 use, cv, tv] w0 M (fun M' r => ∃ s, r = .tuple #[s, .int .i64 (Seal.sealR key use conf text).2] ∧ Bs M' s (Seal.sealR key use conf text).1) := by
  have hS := hM.st
  have hconf0 := hconf
  have htext0 := htext
  obtain ⟨ca, cc, rfl, c1, c2, c3, c4⟩ := hconf
  obtain ⟨xa, xc, rfl, x1, x2, x3, x4⟩ := htext
  refine enterB (l := [kv, .int .i64 use, .slice ca conf.length cc, .slice xa text.length xc]) 51 func88 rfl ntmps88 rfl ?_
  refine CW.seq ?_
  refine CW.region ?_
  refine WL.step rfl (Stp.res rfl rfl (Res.assign rfl rfl) ?_)
  refine WL.step rfl (Stp.res rfl rfl (Res.assign rfl rfl) ?_)
  refine WL.nil (Thn_n ?_)
  refine CW.seq ?_
  refine CW.region ?_
  refine WL.step rfl (Stp.res rfl rfl (Res.move rfl rfl) ?_)
  refine WL.step rfl (Stp.res rfl rfl (Res.move rfl rfl) ?_)
  refine WL.step rfl (Stp.callG (args := [_, _]) rfl rfl rfl cal121 rfl rfl hS (keys_ok7 _ key use _ _ hS.on (hgl) (hkey) hg.1 hg.2.1 hg.2.2) ?_)
  rintro _ w M1 hS hG1 ⟨s, t, rfl, hs, ht⟩
  obtain ⟨sa, sc, rfl, s1, s2, s3, s4⟩ := id hs
  obtain ⟨ta, tc, rfl, t1, t2, t3, t4⟩ := id ht
  refine WL.step rfl (Stp.res rfl rfl (Res.move rfl rfl) ?_)
  refine WL.step rfl (Stp.res rfl rfl (Res.extract (l := [_, _]) rfl rfl rfl) ?_)
  refine WL.step rfl (Stp.res rfl rfl (Res.extract (l := [_, _]) rfl rfl rfl) ?_)
  refine WL.step rfl (Stp.alloc (cs := #[.slice none 0 0, .slice none 0 0]) rfl zPair rfl rfl rfl hS ?_)
  intro b10 w hb10 hS hkp hnw
  refine WL.step rfl (Stp.storeAll 0 rfl rfl rfl (sz160) (two_one _ _ _ _ _ _) rfl hS rfl rfl ?_)
  intro w hS hpt
  refine WL.step rfl (Stp.res rfl rfl (Res.assign rfl rfl) ?_)
  refine WL.nil (Thn_n ?_)
  refine CW.seq ?_
  refine CW.block ?_
  refine CW.seq ?_
  refine CW.region ?_
  refine WL.step rfl (Stp.res rfl rfl (Res.move rfl rfl) ?_)
  refine WL.step rfl (Stp.res rfl rfl (Res.neqNN rfl rfl underlying86) ?_)
  refine WL.step rfl (Stp.res rfl rfl (Res.move rfl rfl) ?_)
  refine WL.stepG 2 false rfl rfl rfl rfl (Stp.res rfl rfl (Res.move rfl rfl) ?_)
  refine WL.stepG 2 false rfl rfl rfl rfl (Stp.res rfl rfl (Res.len rfl rfl rfl rfl underlying30) ?_)
  refine WL.stepG 2 false rfl rfl rfl rfl (Stp.res rfl rfl (Res.to (Res.neq rfl rfl rfl) (by omega)) ?_)
  refine WL.step rfl (Stp.res rfl rfl (Res.pickF rfl rfl rfl) ?_)
  refine WL.step rfl (Stp.res rfl rfl (Res.assign rfl rfl) ?_)
  refine WL.nil (Thn_n ?_)
  refine CW.condT rfl ?_
  refine CW.seq ?_
  refine CW.region ?_
  refine WL.step rfl (Stp.res rfl rfl (Res.assign rfl rfl) ?_)
  refine WL.step rfl (Stp.res rfl rfl (Res.assign rfl rfl) ?_)
  refine WL.nil (Thn_n ?_)
  refine CW.ret (Blk_r (Thn_r ?_))
  exact fq_tmp2 rfl rfl rfl ⟨M1, hS.drop (i := 0) rfl hb10, hG1.1, hG1.2, _, by rw [Seal.sealR, if_neg (fun h => hc h.2)], by rw [Seal.sealR, if_neg (fun h => hc h.2)]; exact Bs.nil _⟩
theorem seal_long (kv cv tv : Value) (key conf text : List UInt8) (use : Int) (w0 : World) (M : PH) (hM : On M w0) (hgl : GL M) (hkey : Bs M kv key) (hconf : Bs M cv conf) (htext : Bs M tv text) (hg : Seal.Good key use) (hc : conf.length = 16) (hl : 4096 < text.length) : Ok Tryz.prog 88 #[kv, .int .i64 use, cv, tv] w0 M (fun M' r => ∃ s, r = .tuple #[s, .int .i64 (Seal.sealR key use conf text).2] ∧ Bs M' s (Seal.sealR key use conf text).1) := by
  have hS := hM.st
  have hconf0 := hconf
  have htext0 := htext
  obtain ⟨ca, cc, rfl, c1, c2, c3, c4⟩ := hconf
  obtain ⟨xa, xc, rfl, x1, x2, x3, x4⟩ := htext
  refine enterB (l := [kv, .int .i64 use, .slice ca conf.length cc, .slice xa text.length xc]) 51 func88 rfl ntmps88 rfl ?_
  refine CW.seq ?_
  refine CW.region ?_
  refine WL.step rfl (Stp.res rfl rfl (Res.assign rfl rfl) ?_)
  refine WL.step rfl (Stp.res rfl rfl (Res.assign rfl rfl) ?_)
  refine WL.nil (Thn_n ?_)
  refine CW.seq ?_
  refine CW.region ?_
  refine WL.step rfl (Stp.res rfl rfl (Res.move rfl rfl) ?_)
  refine WL.step rfl (Stp.res rfl rfl (Res.move rfl rfl) ?_)
  refine WL.step rfl (Stp.callG (args := [_, _]) rfl rfl rfl cal121 rfl rfl hS (keys_ok7 _ key use _ _ hS.on (hgl) (hkey) hg.1 hg.2.1 hg.2.2) ?_)
  rintro _ w M1 hS hG1 ⟨s, t, rfl, hs, ht⟩
  obtain ⟨sa, sc, rfl, s1, s2, s3, s4⟩ := id hs
  obtain ⟨ta, tc, rfl, t1, t2, t3, t4⟩ := id ht
  refine WL.step rfl (Stp.res rfl rfl (Res.move rfl rfl) ?_)
  refine WL.step rfl (Stp.res rfl rfl (Res.extract (l := [_, _]) rfl rfl rfl) ?_)
  refine WL.step rfl (Stp.res rfl rfl (Res.extract (l := [_, _]) rfl rfl rfl) ?_)
  refine WL.step rfl (Stp.alloc (cs := #[.slice none 0 0, .slice none 0 0]) rfl zPair rfl rfl rfl hS ?_)
  intro b10 w hb10 hS hkp hnw
  refine WL.step rfl (Stp.storeAll 0 rfl rfl rfl (sz160) (two_one _ _ _ _ _ _) rfl hS rfl rfl ?_)
  intro w hS hpt
  refine WL.step rfl (Stp.res rfl rfl (Res.assign rfl rfl) ?_)
  refine WL.nil (Thn_n ?_)
  refine CW.seq ?_
  refine CW.block ?_
  refine CW.seq ?_
  refine CW.region ?_
  refine WL.step rfl (Stp.res rfl rfl (Res.move rfl rfl) ?_)
  refine WL.step rfl (Stp.res rfl rfl (Res.neqNN rfl rfl underlying86) ?_)
  refine WL.step rfl (Stp.res rfl rfl (Res.move rfl rfl) ?_)
  refine WL.stepG 2 false rfl rfl rfl rfl (Stp.res rfl rfl (Res.move rfl rfl) ?_)
  refine WL.stepG 2 false rfl rfl rfl rfl (Stp.res rfl rfl (Res.len rfl rfl rfl rfl underlying30) ?_)
  refine WL.stepG 2 false rfl rfl rfl rfl (Stp.res rfl rfl (Res.toF (Res.neq rfl rfl rfl) (by omega)) ?_)
  refine WL.step rfl (Stp.res rfl rfl (Res.pickF rfl rfl rfl) ?_)
  refine WL.step rfl (Stp.res rfl rfl (Res.assign rfl rfl) ?_)
  refine WL.nil (Thn_n ?_)
  refine CW.condF rfl ?_
  refine CW.seq ?_
  refine CW.region ?_
  refine WL.step rfl (Stp.res rfl rfl (Res.move rfl rfl) ?_)
  refine WL.step rfl (Stp.res rfl rfl (Res.len rfl rfl rfl rfl underlying30) ?_)
  refine WL.step rfl (Stp.res rfl rfl (Res.gtr rfl rfl rfl) ?_)
  refine WL.step rfl (Stp.res rfl rfl (Res.assign rfl rfl) ?_)
  refine WL.nil (Thn_n ?_)
  refine CW.iteT rfl (by omega) ?_
  refine CW.seq ?_
  refine CW.region ?_
  refine WL.step rfl (Stp.res rfl rfl (Res.assign rfl rfl) ?_)
  refine WL.step rfl (Stp.res rfl rfl (Res.assign rfl rfl) ?_)
  refine WL.nil (Thn_n ?_)
  refine CW.ret (Blk_r (Thn_r ?_))
  exact fq_tmp2 rfl rfl rfl ⟨M1, hS.drop (i := 0) rfl hb10, hG1.1, hG1.2, _, by rw [Seal.sealR, if_pos ⟨hg, hc⟩, if_neg (by omega)], by rw [Seal.sealR, if_pos ⟨hg, hc⟩, if_neg (by omega)]; exact Bs.nil _⟩
end Go.Proofs.YtcmgimicdcchlaaGreatDoor
set_option linter.unusedVariables false
set_option maxRecDepth 20000
namespace Go.Proofs.YtcmgimicdcchlaaGreatDoor
open Go.Proofs.Tryz
open Go Go.E
theorem seal_ok (kv cv tv : Value) (key conf text : List UInt8) (use : Int) (w0 : World) (M : PH) (hM : On M w0) (hgl : GL M) (hkey : Bs M kv key) (hconf : Bs M cv conf) (htext : Bs M tv text) (hg : Seal.Good key use) (hc : conf.length = 16) (hl : text.length ≤ 4096) : Ok Tryz.prog 88 #[kv, .int .i64 use, cv, tv] w0 M (fun M' r => ∃ s, r = .tuple #[s, .int .i64 (Seal.sealR key use conf text).2] ∧ Bs M' s (Seal.sealR key use conf text).1) := by
  have hS := hM.st
  have hconf0 := hconf
  have htext0 := htext
  obtain ⟨ca, cc, rfl, c1, c2, c3, c4⟩ := hconf
  obtain ⟨xa, xc, rfl, x1, x2, x3, x4⟩ := htext
  refine enterB (l := [kv, .int .i64 use, .slice ca conf.length cc, .slice xa text.length xc]) 51 func88 rfl ntmps88 rfl ?_
  refine CW.seq ?_
  refine CW.region ?_
  refine WL.step rfl (Stp.res rfl rfl (Res.assign rfl rfl) ?_)
  refine WL.step rfl (Stp.res rfl rfl (Res.assign rfl rfl) ?_)
  refine WL.nil (Thn_n ?_)
  refine CW.seq ?_
  refine CW.region ?_
  refine WL.step rfl (Stp.res rfl rfl (Res.move rfl rfl) ?_)
  refine WL.step rfl (Stp.res rfl rfl (Res.move rfl rfl) ?_)
  refine WL.step rfl (Stp.callG (args := [_, _]) rfl rfl rfl cal121 rfl rfl hS (keys_ok7 _ key use _ _ hS.on (hgl) (hkey) hg.1 hg.2.1 hg.2.2) ?_)
  rintro _ w M1 hS hG1 ⟨s, t, rfl, hs, ht⟩
  obtain ⟨sa, sc, rfl, s1, s2, s3, s4⟩ := id hs
  obtain ⟨ta, tc, rfl, t1, t2, t3, t4⟩ := id ht
  refine WL.step rfl (Stp.res rfl rfl (Res.move rfl rfl) ?_)
  refine WL.step rfl (Stp.res rfl rfl (Res.extract (l := [_, _]) rfl rfl rfl) ?_)
  refine WL.step rfl (Stp.res rfl rfl (Res.extract (l := [_, _]) rfl rfl rfl) ?_)
  refine WL.step rfl (Stp.alloc (cs := #[.slice none 0 0, .slice none 0 0]) rfl zPair rfl rfl rfl hS ?_)
  intro b10 w hb10 hS hkp hnw
  refine WL.step rfl (Stp.storeAll 0 rfl rfl rfl (sz160) (two_one _ _ _ _ _ _) rfl hS rfl rfl ?_)
  intro w hS hpt
  refine WL.step rfl (Stp.res rfl rfl (Res.assign rfl rfl) ?_)
  refine WL.nil (Thn_n ?_)
  refine CW.seq ?_
  refine CW.block ?_
  refine CW.seq ?_
  refine CW.region ?_
  refine WL.step rfl (Stp.res rfl rfl (Res.move rfl rfl) ?_)
  refine WL.step rfl (Stp.res rfl rfl (Res.neqNN rfl rfl underlying86) ?_)
  refine WL.step rfl (Stp.res rfl rfl (Res.move rfl rfl) ?_)
  refine WL.stepG 2 false rfl rfl rfl rfl (Stp.res rfl rfl (Res.move rfl rfl) ?_)
  refine WL.stepG 2 false rfl rfl rfl rfl (Stp.res rfl rfl (Res.len rfl rfl rfl rfl underlying30) ?_)
  refine WL.stepG 2 false rfl rfl rfl rfl (Stp.res rfl rfl (Res.toF (Res.neq rfl rfl rfl) (by omega)) ?_)
  refine WL.step rfl (Stp.res rfl rfl (Res.pickF rfl rfl rfl) ?_)
  refine WL.step rfl (Stp.res rfl rfl (Res.assign rfl rfl) ?_)
  refine WL.nil (Thn_n ?_)
  refine CW.condF rfl ?_
  refine CW.seq ?_
  refine CW.region ?_
  refine WL.step rfl (Stp.res rfl rfl (Res.move rfl rfl) ?_)
  refine WL.step rfl (Stp.res rfl rfl (Res.len rfl rfl rfl rfl underlying30) ?_)
  refine WL.step rfl (Stp.res rfl rfl (Res.gtr rfl rfl rfl) ?_)
  refine WL.step rfl (Stp.res rfl rfl (Res.assign rfl rfl) ?_)
  refine WL.nil (Thn_n ?_)
  refine CW.iteF rfl (by omega) ?_
  refine CW.skip (Blk_n (Thn_n ?_))
  refine CW.seq ?_
  refine CW.region ?_
  refine WL.step rfl (Stp.lit (vals := []) (cs := bs []) (e := 5) rfl rfl (fun _ => by kernel_rfl) rfl rfl hS ?_)
  intro b32 w hb32 hS hkp hnw
  refine WL.step rfl (Stp.res rfl rfl (Res.move rfl rfl) ?_)
  refine WL.step rfl (Stp.appendB (l := []) (r := conf) rfl rfl rfl rfl et30 (Src.ofBs underlying30 hS (hconf0.mono hG1.1)) hS (OwnB.of hb32 (Nat.le_refl 0) (by omega) [] rfl rfl) (by simp; omega) rfl rfl ?_)
  intro av w g1 hS hown
  refine WL.step rfl (Stp.res rfl rfl (Res.move rfl rfl) ?_)
  refine WL.step rfl (Stp.appendB (l := [] ++ conf) (r := text) rfl rfl rfl rfl et30 (Src.ofBs underlying30 hS (htext0.mono hG1.1)) hS hown (by simp; omega) rfl rfl ?_)
  intro av2 w g2 hS hown
  obtain ⟨M2, hS, hle2, hfr2, hall⟩ := hown.give hS
  have hG2 : Grow w0.heap.size M1 M2 := ⟨hle2, hfr2⟩
  change Bs M2 av2 (conf ++ text) at hall
  have hall0 := hall
  obtain ⟨la, lc, rfl, l1, l2, l3, l4⟩ := hall
  refine WL.step rfl (Stp.res rfl rfl (Res.assign rfl rfl) ?_)
  refine WL.nil (Thn_n ?_)
  refine CW.seq ?_
  have hsz7 := hS.size
  refine CW.region ?_
  refine WL.step rfl (Stp.res rfl rfl (Res.loadAll (cs := #[.slice sa (Mac.expand key ([101] ++ Lib.itoa use) 16).length sc, .slice ta (Mac.expand key ([105] ++ Lib.itoa use) 16).length tc]) rfl rfl underlying160 rfl (sz160) (hS.get (i := 0) rfl)) ?_)
  refine WL.step rfl (Stp.res rfl rfl (Res.move rfl rfl) ?_)
  refine WL.step rfl (Stp.callG (args := [_, _]) rfl rfl rfl cal122 rfl rfl hS (chain_ok _ _ _ (Seal.ek key use) (conf ++ text) _ _ hS.on (hs.mono hG2.1) hall0 (Seal.ek_length ..) (by simp; omega) (by simp; omega)) ?_)
  rintro _ w M3 hS hG3 ⟨b, rest, cap, hmb, hb, hM3, hc1, hc2, rfl⟩
  have hS := hS.take hM3 hG3.1 hmb
  have hb := Nat.le_trans hsz7 hb
  refine WL.step rfl (Stp.res rfl rfl (Res.assign rfl rfl) ?_)
  refine WL.nil (Thn_n ?_)
  refine CW.seq ?_
  refine CW.region ?_
  refine WL.step rfl (Stp.res rfl rfl (Res.move rfl rfl) ?_)
  refine WL.step rfl (Stp.callO 0 (args := [_]) rfl rfl rfl cal123 rfl rfl hS rfl (swap_ok (Seal.chain (Seal.ek key use) (conf ++ text)) rest _ cap _ _ hS.on b (hS.get (i := 0) rfl) hmb ⟨by omega, hc2⟩) ?_)
  rintro _ w _ _ hS _ _ _ ⟨rfl, rfl, rfl⟩
  change St w0 w M2 [(b, .cells (Gb (Seal.swapL (Seal.chain (Seal.ek key use) (conf ++ text))) rest) 5 (0, 0)), (b10, .cells #[.slice sa (Mac.expand key ([101] ++ Lib.itoa use) 16).length sc, .slice ta (Mac.expand key ([105] ++ Lib.itoa use) 16).length tc] 160 (0, 0))] at hS
  have hswl : (Seal.swapL (Seal.chain (Seal.ek key use) (conf ++ text))).length = Seal.ceil (conf ++ text).length := by rw [Seal.swapL_length, Seal.chain_length]
  refine WL.nil (Thn_n ?_)
  refine CW.seq ?_
  refine CW.region ?_
  refine WL.step rfl (Stp.res rfl rfl (Res.move rfl rfl) ?_)
  refine WL.step rfl (Stp.res rfl rfl (Res.move rfl rfl) ?_)
  refine WL.step rfl (Stp.res rfl rfl (Res.len rfl rfl rfl rfl underlying30) ?_)
  refine WL.step rfl (Stp.res rfl rfl (Res.sliceHi (h := (conf ++ text).length) rfl rfl rfl underlying30 sz5 (by have := Seal.ceil_ge (conf ++ text).length; rw [Seal.chain_length] at hc1; omega)) ?_)
  refine WL.step rfl (Stp.res rfl rfl (Res.assign rfl rfl) ?_)
  refine WL.nil (Thn_n ?_)
  refine CW.seq ?_
  have hcg := Seal.ceil_ge (conf ++ text).length
  have hF := hS.freezeG (i := 0) rfl hb
  obtain ⟨M4, hG4, hM4, hS⟩ : ∃ M4, Grow w0.heap.size M2 M4 ∧ M4 b = some (.cells (Gb (Seal.swapL (Seal.chain (Seal.ek key use) (conf ++ text))) rest) 5 (0, 0)) ∧ St w0 w M4 [(b10, .cells #[.slice sa (Mac.expand key ([101] ++ Lib.itoa use) 16).length sc, .slice ta (Mac.expand key ([105] ++ Lib.itoa use) 16).length tc] 160 (0, 0))] := ⟨_, hF.2, PH.add_self _ _ _, hF.1⟩
  have hbody : Bs M4 (.slice (some ⟨b, 0, none⟩) (conf ++ text).length cap) (Seal.body (Seal.ek key use) (conf ++ text)) := Bs.ofGb hM4 (by omega) (by rw [Seal.chain_length] at hc1; omega) hc2
  have hownb : OwnB w0.heap.size [(b, .cells (Gb (Seal.swapL (Seal.chain (Seal.ek key use) (conf ++ text))) rest) 5 (0, 0))] (.slice (some ⟨b, 0, none⟩) (conf ++ text).length cap) (Seal.body (Seal.ek key use) (conf ++ text)) 5 := OwnB.ofGbTake hb (by rw [hswl]; rw [Seal.chain_length] at hc1; exact hc1) hc2 (by omega)
  refine CW.region ?_
  refine WL.step rfl (Stp.res rfl rfl (Res.move rfl rfl) ?_)
  refine WL.step rfl (Stp.res rfl rfl (Res.loadAll (cs := #[.slice sa (Mac.expand key ([101] ++ Lib.itoa use) 16).length sc, .slice ta (Mac.expand key ([105] ++ Lib.itoa use) 16).length tc]) rfl rfl underlying160 rfl (sz160) (hS.get (i := 0) rfl)) ?_)
  refine WL.step rfl (Stp.res rfl rfl (Res.move rfl rfl) ?_)
  refine WL.step rfl (Stp.callG (args := [_, _]) rfl rfl rfl cal124 rfl rfl hS (stag_ok _ _ _ (Seal.ik key use) (Seal.body (Seal.ek key use) (conf ++ text)) _ _ hS.on ((hgl.mono hG1.1).mono (hG2.trans hG4).1) (ht.mono (hG2.trans hG4).1) hbody (by rw [Seal.ik_length]; omega) (by rw [Seal.body_length]; simp; omega)) ?_)
  rintro tg w M5 hS hG5 htg
  have htl := htg.len_le
  have hsrc := Src.ofBs (P := Tryz.prog) (u := 30) underlying30 hS htg
  have hS := hS.take (hG5.1 _ _ hM4) (hG4.trans hG5).1 hmb
  refine WL.step rfl (Stp.appendB (l := Seal.body (Seal.ek key use) (conf ++ text)) (r := Seal.tag (Seal.ik key use) (Seal.body (Seal.ek key use) (conf ++ text))) rfl rfl rfl rfl et30 hsrc hS (hownb) (by rw [Seal.body_length, Seal.tag_length]; simp; omega) rfl rfl ?_)
  intro fv w g3 hS hown
  obtain ⟨M6, hS, hle6, hfr6, hfin⟩ := hown.give hS
  refine WL.step rfl (Stp.res rfl rfl (Res.assign rfl rfl) ?_)
  refine WL.step rfl (Stp.res rfl rfl (Res.assign rfl rfl) ?_)
  refine WL.nil (Thn_n ?_)
  refine CW.ret ?_
  exact fq_tmp2 rfl rfl rfl ⟨M6, hS.drop (i := 0) rfl hb10, (hG1.trans (hG2.trans ⟨hle6, hfr6⟩)).1, (hG1.trans (hG2.trans ⟨hle6, hfr6⟩)).2, fv, by rw [Seal.sealR_ok hg hc hl], by rw [Seal.sealR_ok hg hc hl]; exact hfin⟩
theorem seal_all (kv cv tv : Value) (key conf text : List UInt8) (use : Int) (w0 : World) (M : PH) (hM : On M w0) (hgl : GL M) (hkey : Bs M kv key) (hconf : Bs M cv conf) (htext : Bs M tv text) : Ok Tryz.prog 88 #[kv, .int .i64 use, cv, tv] w0 M (fun M' r => ∃ s, r = .tuple #[s, .int .i64 (Seal.sealR key use conf text).2] ∧ Bs M' s (Seal.sealR key use conf text).1) := by
  by_cases hg : Seal.Good key use
  · by_cases hc : conf.length = 16
    · by_cases hl : text.length ≤ 4096
      · exact seal_ok kv cv tv key conf text use w0 M hM hgl hkey hconf htext hg hc hl
      · exact seal_long kv cv tv key conf text use w0 M hM hgl hkey hconf htext hg hc (by omega)
    · exact seal_conf kv cv tv key conf text use w0 M hM hgl hkey hconf htext hg hc
  · exact seal_bad kv cv tv key conf text use w0 M hM hgl hkey hconf htext hg
end Go.Proofs.YtcmgimicdcchlaaGreatDoor
set_option linter.unusedVariables false
set_option maxRecDepth 20000
namespace Go.Proofs.YtcmgimicdcchlaaGreatDoor
open Go.Proofs.Tryz
open Go Go.E
end Go.Proofs.YtcmgimicdcchlaaGreatDoor
set_option linter.unusedVariables false
set_option maxRecDepth 20000
namespace Go.Proofs.YtcmgimicdcchlaaGreatDoor
open Go.Proofs.Tryz
open Go Go.E
end Go.Proofs.YtcmgimicdcchlaaGreatDoor
set_option linter.unusedVariables false
set_option maxRecDepth 20000
namespace Go.Proofs.YtcmgimicdcchlaaGreatDoor
open Go.Proofs.Tryz
open Go Go.E
end Go.Proofs.YtcmgimicdcchlaaGreatDoor
