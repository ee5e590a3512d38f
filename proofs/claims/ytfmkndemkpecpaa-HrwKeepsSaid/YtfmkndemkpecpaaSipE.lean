/- Siphash: the chapter's example, reckoned round by round. -/
import Derived.Test.YtfmkndemkpecpaaSipS
namespace Go.Proofs.Ytfmkndemkpecpaa
set_option linter.unusedVariables false
def sC0 (v : W4) : W4 := ⟨uadd v.a v.b, v.b, v.c, v.d⟩
def sC1 (v : W4) : W4 := ⟨v.a, uxor (rolC 13 v.b) v.a, v.c, v.d⟩
def sC2 (v : W4) : W4 := ⟨rolC 32 v.a, v.b, v.c, v.d⟩
def sC3 (v : W4) : W4 := ⟨v.a, v.b, uadd v.c v.d, v.d⟩
def sC4 (v : W4) : W4 := ⟨v.a, v.b, v.c, uxor (rolC 16 v.d) v.c⟩
def sC5 (v : W4) : W4 := ⟨uadd v.a v.d, v.b, v.c, v.d⟩
def sC6 (v : W4) : W4 := ⟨v.a, v.b, v.c, uxor (rolC 21 v.d) v.a⟩
def sC7 (v : W4) : W4 := ⟨v.a, v.b, uadd v.c v.b, v.d⟩
def sC8 (v : W4) : W4 := ⟨v.a, uxor (rolC 17 v.b) v.c, v.c, v.d⟩
def sC9 (v : W4) : W4 := ⟨v.a, v.b, rolC 32 v.c, v.d⟩
def sCr (v : W4) : W4 := sC9 (sC8 (sC7 (sC6 (sC5 (sC4 (sC3 (sC2 (sC1 (sC0 v)))))))))
theorem st0_C : st0 = sC0 := by
  funext v
  rfl
theorem st1_C : st1 = sC1 := by
  funext v
  unfold st1 sC1
  rw [rol_def]
theorem st2_C : st2 = sC2 := by
  funext v
  unfold st2 sC2
  rw [rol_def]
theorem st3_C : st3 = sC3 := by
  funext v
  rfl
theorem st4_C : st4 = sC4 := by
  funext v
  unfold st4 sC4
  rw [rol_def]
theorem st5_C : st5 = sC5 := by
  funext v
  rfl
theorem st6_C : st6 = sC6 := by
  funext v
  unfold st6 sC6
  rw [rol_def]
theorem st7_C : st7 = sC7 := by
  funext v
  rfl
theorem st8_C : st8 = sC8 := by
  funext v
  unfold st8 sC8
  rw [rol_def]
theorem st9_C : st9 = sC9 := by
  funext v
  unfold st9 sC9
  rw [rol_def]
theorem sround_C (v : W4) : sround v = sCr v := by
  unfold sround sCr
  rw [st0_C, st1_C, st2_C, st3_C, st4_C, st5_C, st6_C, st7_C, st8_C, st9_C]
def beqW (u v : W4) : Bool := u.a.toNat == v.a.toNat && u.b.toNat == v.b.toNat && u.c.toNat == v.c.toNat && u.d.toNat == v.d.toNat
theorem eq_of_beqW {u v : W4} (h : beqW u v = true) : u = v := by
  simp only [beqW, Bool.and_eq_true, beq_iff_eq, UInt64.toNat_inj] at h
  cases u
  cases v
  simp only [W4.mk.injEq]
  exact ⟨h.1.1.1, h.1.1.2, h.1.2, h.2⟩
theorem rd0 : sround ⟨8388350548712186997, 7737605742629119589, 7746018054687388513, 8965941637590838651⟩ = ⟨7234622213559911551, 5679657091042289884, 17507541871953713710, 10561215458719233192⟩ := by rw [sround_C]; exact eq_of_beqW (by decide +kernel)
theorem rd1 : sround ⟨7234622213559911551, 5679657091042289884, 17507541871953713710, 10561215458719233192⟩ = ⟨5550533282829457632, 960101207715568036, 7155291096292130109, 11899158306042141128⟩ := by rw [sround_C]; exact eq_of_beqW (by decide +kernel)
theorem rd2 : sround ⟨5332668335157565920, 960101207715568036, 7155291096292130109, 12262246680959504576⟩ = ⟨6157934698269233248, 5516460237762138942, 13636055431817437569, 18128185969701712661⟩ := by rw [sround_C]; exact eq_of_beqW (by decide +kernel)
theorem rd3 : sround ⟨6157934698269233248, 5516460237762138942, 13636055431817437569, 18128185969701712661⟩ = ⟨3714271943849916249, 4706195620995523444, 14767653532181591229, 5950369851552862082⟩ := by rw [sround_C]; exact eq_of_beqW (by decide +kernel)
theorem rd4 : sround ⟨4361089363066863185, 4706195620995523444, 14767653532181591106, 5950369851552862082⟩ = ⟨17484471583065917694, 12419469187640764132, 11521806195894466874, 18249101767083229960⟩ := by rw [sround_C]; exact eq_of_beqW (by decide +kernel)
theorem rd5 : sround ⟨17484471583065917694, 12419469187640764132, 11521806195894466874, 18249101767083229960⟩ = ⟨13169646669688136884, 1601250028820315376, 2934296004437294406, 14503383583575763861⟩ := by rw [sround_C]; exact eq_of_beqW (by decide +kernel)
theorem rd6 : sround ⟨13169646669688136884, 1601250028820315376, 2934296004437294406, 14503383583575763861⟩ = ⟨6345601658181494246, 17904388966747400157, 2135071530876450039, 8513134298608192217⟩ := by rw [sround_C]; exact eq_of_beqW (by decide +kernel)
theorem rd7 : sround ⟨6345601658181494246, 17904388966747400157, 2135071530876450039, 8513134298608192217⟩ = ⟨17779319867929710577, 6105076025163569463, 1961373283477337434, 1735217956439975545⟩ := by rw [sround_C]; exact eq_of_beqW (by decide +kernel)
def exKey : List UInt8 := [0, 1, 2, 3, 4, 5, 6, 7, 8, 9, 10, 11, 12, 13, 14, 15]
def exB : List UInt8 := [0, 1, 2, 3, 4, 5, 6, 7, 8, 9, 10, 11, 12, 13, 14]
theorem ex_begin : inD (begin4 exKey) (lit ((exB.drop (8 * 0)).take 8)) = ⟨8388350548712186997, 7737605742629119589, 7746018054687388513, 8965941637590838651⟩ := eq_of_beqW (by decide +kernel)
theorem ex_mid : inD (inA ⟨5550533282829457632, 960101207715568036, 7155291096292130109, 11899158306042141128⟩ (lit ((exB.drop (8 * 0)).take 8))) (lastW exB) = ⟨5332668335157565920, 960101207715568036, 7155291096292130109, 12262246680959504576⟩ := eq_of_beqW (by decide +kernel)
theorem ex_fin : inC (inA ⟨3714271943849916249, 4706195620995523444, 14767653532181591229, 5950369851552862082⟩ (lastW exB)) = ⟨4361089363066863185, 4706195620995523444, 14767653532181591106, 5950369851552862082⟩ := eq_of_beqW (by decide +kernel)
theorem ex_sip : (sip exKey exB).toNat = 11613035633349379557 := by
  unfold sip finish
  rw [show exB.length / 8 = 0 + 1 from rfl, feed, feed]
  unfold absorb
  rw [ex_begin, rd0, rd1, ex_mid, rd2, rd3, ex_fin, rd4, rd5, rd6, rd7]
  decide +kernel
end Go.Proofs.Ytfmkndemkpecpaa
