/- Own text of this seat (R2): lemmas on the way to the statement; no condition of its own. -/
import Derived.Test.YtanogodfnfkkbaaR1
set_option linter.unusedVariables false
namespace Go.Proofs.Ytanogodfnfkkbaa
open Go Go.E
theorem rtable_ok  (w0 : World) (M : PH) (hM : On M w0)  : Ok Try.prog 13 #[] w0 M (fun M' r => Bs M' r Aes.boxL) := by
  have hS := hM.st
  refine enterB (l := []) 57 Try.func13 rfl Try.ntmps13 rfl ?_
  refine CW.seq ?_
  refine CW.region ?_
  refine WL.step rfl (Stp.res rfl rfl (Res.assign rfl rfl) ?_)
  refine WL.nil (Thn_n ?_)
  refine CW.seq ?_
  refine CW.region ?_
  refine WL.step rfl (Stp.lit (vals := []) (cs := bs []) (e := 5) rfl rfl (fun _ => by kernel_rfl) rfl rfl hS ?_)
  intro b10 w hb10 hS hkp hnw
  refine WL.step rfl (Stp.res rfl rfl (Res.assign rfl rfl) ?_)
  refine WL.nil (Thn_n ?_)
  refine CW.seq ?_
  refine CW.region ?_
  refine WL.step rfl (Stp.res rfl rfl (Res.assign (v := byte 1) rfl rfl) ?_)
  refine WL.nil (Thn_n ?_)
  refine CW.seq ?_
  refine CW.seq ?_
  refine CW.region ?_
  refine WL.step rfl (Stp.res rfl rfl (Res.assign rfl rfl) ?_)
  refine WL.nil (Thn_n ?_)
  refine CW.block ?_
  refine CW.loop (σ := Nat × Value × Owned) (fun s => [(1, s.2.1), (2, byte (Aes.pw s.1)), (3, .int .i64 (s.1 : Int))])
    (fun s w' => s.1 ≤ 255 ∧ St w0 w' M (s.2.2 ++ []) ∧ OwnB w0.heap.size s.2.2 s.2.1 (Aes.pwL s.1) 5) (fun s => 255 - s.1) (0, _, [(b10, .cells (bs []) 5 (0, 0))]) ⟨rfl, rfl, rfl, trivial⟩ ⟨by dsimp only; omega, hS, OwnB.of hb10 (Nat.le_refl 0) (by omega) [] rfl rfl⟩ ?_
  rintro ⟨m, v, g⟩ w1 ⟨hm, hS, hown⟩
  dsimp only at hm hS hown ⊢
  refine CW.seq ?_
  refine CW.seq ?_
  refine CW.region ?_
  refine WL.step rfl (Stp.res rfl rfl (Res.move rfl rfl) ?_)
  refine WL.step rfl (Stp.res rfl rfl (Res.lss rfl rfl rfl) ?_)
  refine WL.nil (Thn_n ?_)
  refine CW.ite rfl (fun h => ?_) (fun h => ?_)
  · have hlt : m < 255 := by omega
    refine CW.skip (Thn_n ?_)
    refine CW.seq ?_
    refine CW.block ?_
    refine CW.seq ?_
    refine CW.region ?_
    refine WL.step rfl (Stp.res rfl rfl (Res.move rfl rfl) ?_)
    refine WL.step rfl (Stp.res rfl rfl (Res.move rfl rfl) ?_)
    refine WL.step rfl (Stp.lit (vals := [(0, byte (Aes.pw m))]) (cs := bs [Aes.pw m]) (e := 5) rfl rfl (fun _ => by kernel_rfl) rfl rfl hS ?_)
    intro b17 w hb17 hS hkp hnw
    have hF := hS.freeze (i := 0) rfl hb17
    have hS := hF.1
    change St w0 w _ (g ++ []) at hS
    refine WL.step rfl (Stp.appendB (l := Aes.pwL m) (r := [Aes.pw m]) rfl rfl rfl rfl et26 (Src.ofBs Try.underlying26 hS (Bs.of' (PH.add_self _ _ _) rfl (by omega))) hS hown (by rw [Aes.pwL_len]; show m + 1 ≤ _; omega) rfl rfl ?_)
    intro v' w g' hS hown
    rw [Aes.pwL_succ] at hown
    have hS := hS.known hF.2
    refine WL.step rfl (Stp.res rfl rfl (Res.assign rfl rfl) ?_)
    refine WL.nil (Thn_n ?_)
    refine CW.region ?_
    refine WL.step rfl (Stp.res rfl rfl (Res.move rfl rfl) ?_)
    refine WL.step rfl (Stp.callA (args := [_, byte 3]) rfl rfl rfl cal12 rfl rfl (rtimes_ok _ _ _) ?_)
    refine WL.step rfl (Stp.res rfl rfl (Res.assign rfl rfl) ?_)
    refine WL.nil (Blk_n (Thn_n ?_))
    refine CW.region ?_
    refine WL.step rfl (Stp.res rfl rfl (Res.move rfl rfl) ?_)
    refine WL.step rfl (Stp.res rfl rfl (Res.add rfl rfl rfl (by omega)) ?_)
    refine WL.step rfl (Stp.res rfl rfl (Res.assign rfl rfl) ?_)
    refine WL.nil (Thn_n ?_)
    exact ⟨(m + 1, v', g'), ⟨rfl, bytec (Aes.pw_step hlt), rfl, trivial⟩, ⟨by dsimp only; omega, hS, hown⟩, by dsimp only; omega⟩
  · obtain rfl : m = 255 := by omega
    obtain ⟨bp, cp, capp, hbp, rfl, rfl, hcp⟩ := hown.open (by rw [Aes.pwL_len]; omega)
    change St w0 w1 M [(bp, .cells cp 5 (0, 0))] at hS
    refine CW.exit (Thn_x (Thn_x (Blk_x (Thn_n ?_))))
    refine CW.seq ?_
    refine CW.region ?_
    refine WL.step rfl (Stp.makeB (k := 256) (c := 256) rfl rfl rfl et26 ⟨Nat.le_refl 256, by decide⟩ rfl rfl hS ?_)
    intro b21 w hb21 hS hkp hnw
    refine WL.step rfl (Stp.res rfl rfl (Res.assign rfl rfl) ?_)
    refine WL.nil (Thn_n ?_)
    refine CW.seq ?_
    refine CW.region ?_
    refine WL.step rfl (Stp.res rfl rfl (Res.move rfl rfl) ?_)
    refine WL.step rfl (Stp.res rfl rfl (Res.idxS0 (k := 0) rfl rfl rfl Try.underlying26 sz5 rfl (by decide)) ?_)
    refine WL.step rfl (Stp.storeB (a := 99) 0 rfl rfl rfl sz5 rfl hS rfl (by rw [List.length_replicate]; omega) ?_)
    intro w hS hpt
    refine WL.nil (Thn_n ?_)
    refine CW.seq ?_
    refine CW.seq ?_
    refine CW.region ?_
    refine WL.step rfl (Stp.res rfl rfl (Res.assign rfl rfl) ?_)
    refine WL.nil (Thn_n ?_)
    refine CW.block ?_
    change St w0 w M [(b21, .cells (bs (Aes.tabAt 0)) 5 (0, 0)), (bp, .cells (cp) 5 (0, 0))] at hS
    refine CW.loop (σ := Nat) (fun e => [(1, .slice (some ⟨bp, 0, none⟩) (Aes.pwL 255).length capp), (4, .slice (some ⟨b21, 0, none⟩) 256 256), (5, .int .i64 (e : Int))])
      (fun e w' => e ≤ 255 ∧ St w0 w' M [(b21, .cells (bs (Aes.tabAt e)) 5 (0, 0)), (bp, .cells (cp) 5 (0, 0))]) (fun e => 255 - e) 0 ⟨rfl, rfl, rfl, trivial⟩ ⟨by decide, hS⟩ ?_
    rintro e w2 ⟨he, hS⟩
    refine CW.seq ?_
    refine CW.seq ?_
    refine CW.region ?_
    refine WL.step rfl (Stp.res rfl rfl (Res.move rfl rfl) ?_)
    refine WL.step rfl (Stp.res rfl rfl (Res.lss rfl rfl rfl) ?_)
    refine WL.nil (Thn_n ?_)
    refine CW.ite rfl (fun h => ?_) (fun h => ?_)
    · have hlt : e < 255 := by omega
      refine CW.skip (Thn_n ?_)
      refine CW.seq ?_
      refine CW.block ?_
      refine CW.seq ?_
      refine CW.region ?_
      refine WL.step rfl (Stp.res rfl rfl (Res.move rfl rfl) ?_)
      refine WL.step rfl (Stp.res rfl rfl (Res.move rfl rfl) ?_)
      refine WL.step rfl (Stp.res rfl rfl (Res.sub rfl rfl rfl (by omega)) ?_)
      refine WL.step rfl (Stp.res rfl rfl (Res.rem rfl rfl rfl (by omega)) ?_)
      refine WL.step rfl (Stp.res rfl rfl (Res.idxS0 (k := (255 - e) % 255) rfl rfl rfl Try.underlying26 sz5 (by omega) (by rw [Aes.pwL_len]; omega)) ?_)
      refine WL.step rfl (Stp.res rfl rfl (Res.load1 rfl rfl Try.underlying5 rfl (hS.ocell (i := 1) rfl (by rw [hcp _ (by rw [Aes.pwL_len]; omega), Aes.pwL_at (by omega)]))) ?_)
      refine WL.step rfl (Stp.res rfl rfl (Res.assign rfl rfl) ?_)
      refine WL.nil (Thn_n ?_)
      refine CW.seq ?_
      refine CW.region ?_
      refine WL.step rfl (Stp.res rfl rfl (Res.move rfl rfl) ?_)
      refine WL.step rfl (Stp.res rfl rfl (Res.move rfl rfl) ?_)
      refine WL.step rfl (Stp.res rfl rfl (Res.assign rfl rfl) ?_)
      refine WL.step rfl (Stp.res rfl rfl (Res.assign rfl rfl) ?_)
      refine WL.nil (Thn_n ?_)
      refine CW.seq ?_
      refine CW.seq ?_
      refine CW.region ?_
      refine WL.step rfl (Stp.res rfl rfl (Res.assign rfl rfl) ?_)
      refine WL.nil (Thn_n ?_)
      refine CW.block ?_
      refine CW.loop (σ := Nat) (fun k => [(1, .slice (some ⟨bp, 0, none⟩) (Aes.pwL 255).length capp), (4, .slice (some ⟨b21, 0, none⟩) 256 256), (5, .int .i64 (e : Int)), (6, byte (Aes.pw ((255 - e) % 255))), (7, byte (Aes.affT (Aes.pw ((255 - e) % 255)) k)), (8, byte (Aes.affS (Aes.pw ((255 - e) % 255)) k)), (9, .int .i64 (k : Int))])
        (fun k w' => k ≤ 4 ∧ St w0 w' M [(b21, .cells (bs (Aes.tabAt e)) 5 (0, 0)), (bp, .cells (cp) 5 (0, 0))]) (fun k => 4 - k) 0 ⟨rfl, rfl, rfl, rfl, rfl, rfl, rfl, trivial⟩ ⟨by decide, hS⟩ ?_
      rintro k w3 ⟨hk, hS⟩
      refine CW.seq ?_
      refine CW.seq ?_
      refine CW.region ?_
      refine WL.step rfl (Stp.res rfl rfl (Res.move rfl rfl) ?_)
      refine WL.step rfl (Stp.res rfl rfl (Res.lss rfl rfl rfl) ?_)
      refine WL.nil (Thn_n ?_)
      refine CW.ite rfl (fun h3 => ?_) (fun h3 => ?_)
      · have hlk : k < 4 := by omega
        refine CW.skip (Thn_n ?_)
        refine CW.seq ?_
        refine CW.block ?_
        refine CW.seq ?_
        refine CW.region ?_
        refine WL.step rfl (Stp.res rfl rfl (Res.move rfl rfl) ?_)
        refine WL.step rfl (Stp.res rfl rfl (Res.mulB 2 rfl rfl rfl) ?_)
        refine WL.step rfl (Stp.res rfl rfl (Res.move rfl rfl) ?_)
        refine WL.step rfl (Stp.res rfl rfl (Res.quoB 128 rfl rfl rfl (by decide)) ?_)
        refine WL.step rfl (Stp.res rfl rfl (Res.addB _ rfl rfl rfl) ?_)
        refine WL.step rfl (Stp.res rfl rfl (Res.assign rfl rfl) ?_)
        refine WL.nil (Thn_n ?_)
        refine CW.region ?_
        refine WL.step rfl (Stp.res rfl rfl (Res.move rfl rfl) ?_)
        refine WL.step rfl (Stp.res rfl rfl (Res.move rfl rfl) ?_)
        refine WL.step rfl (Stp.res rfl rfl (Res.xorB _ rfl rfl rfl) ?_)
        refine WL.step rfl (Stp.res rfl rfl (Res.assign rfl rfl) ?_)
        refine WL.nil (Blk_n (Thn_n ?_))
        refine CW.region ?_
        refine WL.step rfl (Stp.res rfl rfl (Res.move rfl rfl) ?_)
        refine WL.step rfl (Stp.res rfl rfl (Res.add rfl rfl rfl (by omega)) ?_)
        refine WL.step rfl (Stp.res rfl rfl (Res.assign rfl rfl) ?_)
        refine WL.nil (Thn_n ?_)
        exact ⟨k + 1, ⟨rfl, rfl, rfl, rfl, rfl, rfl, rfl, trivial⟩, ⟨by omega, hS⟩, by omega⟩
      · obtain rfl : k = 4 := by omega
        refine CW.exit (Thn_x (Thn_x (Blk_x (Thn_n ?_))))
        refine CW.region ?_
        refine WL.step rfl (Stp.res rfl rfl (Res.move rfl rfl) ?_)
        refine WL.step rfl (Stp.res rfl rfl (Res.move rfl rfl) ?_)
        refine WL.step rfl (Stp.res rfl rfl (Res.move rfl rfl) ?_)
        refine WL.step rfl (Stp.res rfl rfl (Res.idxS0 (k := e) rfl rfl rfl Try.underlying26 sz5 (Int.toNat_natCast _) (by rw [Aes.pwL_len]; omega)) ?_)
        refine WL.step rfl (Stp.res rfl rfl (Res.load1 rfl rfl Try.underlying5 rfl (hS.ocell (i := 1) rfl (by rw [hcp _ (by rw [Aes.pwL_len]; omega), Aes.pwL_at (by omega)]))) ?_)
        refine WL.step rfl (Stp.res rfl rfl (Res.move rfl rfl) ?_)
        refine WL.step rfl (Stp.res rfl rfl (Res.xorB 99 rfl rfl rfl) ?_)
        refine WL.step rfl (Stp.res rfl rfl (Res.idxS0 (k := (Aes.pw e).toNat) rfl rfl rfl Try.underlying26 sz5 (Int.toNat_natCast _) (by have := (Aes.pw e).toNat_lt; omega)) ?_)
        refine WL.step rfl (Stp.storeB 0 rfl rfl rfl sz5 rfl hS rfl (by rw [Aes.tabAt_len]; exact UInt8.toNat_lt _) ?_)
        intro w hS hpt
        refine WL.nil (Blk_n (Thn_n ?_))
        refine CW.region ?_
        refine WL.step rfl (Stp.res rfl rfl (Res.move rfl rfl) ?_)
        refine WL.step rfl (Stp.res rfl rfl (Res.add rfl rfl rfl (by omega)) ?_)
        refine WL.step rfl (Stp.res rfl rfl (Res.assign rfl rfl) ?_)
        refine WL.nil (Thn_n ?_)
        exact ⟨e + 1, ⟨rfl, rfl, rfl, trivial⟩, ⟨by omega, hS⟩, by omega⟩
    · obtain rfl : e = 255 := by omega
      refine CW.exit (Thn_x (Thn_x (Blk_x (Thn_n ?_))))
      refine CW.seq ?_
      refine CW.region ?_
      refine WL.step rfl (Stp.res rfl rfl (Res.move rfl rfl) ?_)
      refine WL.step rfl (Stp.res rfl rfl (Res.assign rfl rfl) ?_)
      refine WL.nil (Thn_n ?_)
      refine CW.ret ?_
      rw [Aes.tabAt_all] at hS
      have hF := hS.freeze (i := 0) rfl hb21
      exact fq_tmp rfl rfl ⟨_, hF.1.drop (i := 0) rfl hbp, hF.2, Fresh.add _ hb21, Bs.of' (PH.add_self _ _ _) Aes.boxL_len (by omega)⟩
end Go.Proofs.Ytanogodfnfkkbaa
