/-
  Version words, plainly.
-/
import Derived.Test.YtgcdmgpcfdfomaaDoorFieldPlain
namespace Go.Proofs.YtgcdmgpcfdfomaaDoor
open Go.RowKit

def b2i (b : Bool) : Int := if b = true then 1 else 0
def vgen (w : Int) : Int := w / 1099511627776
def vcnt (w : Int) : Int := w / 4 % 274877906944
def vdead (w : Int) : Bool := w / 2 % 2 == 1
def vlocked (w : Int) : Bool := w % 2 == 1
def vpack (g c : Int) (d l : Bool) : Int := g % 16777216 * 1099511627776 + c % 274877906944 * 4 + b2i d * 2 + b2i l

theorem b2i_bound (b : Bool) : 0 ≤ b2i b ∧ b2i b ≤ 1 := by cases b <;> decide
theorem vpack_bound (g c : Int) (d l : Bool) : W64 (vpack g c d l) := by
  have := b2i_bound d
  have := b2i_bound l
  unfold vpack
  exact ⟨by omega, by omega⟩
theorem vgen_pack (g c : Int) (d l : Bool) : vgen (vpack g c d l) = g % 16777216 := by
  have := b2i_bound d
  have := b2i_bound l
  unfold vgen vpack
  omega
theorem vcnt_pack (g c : Int) (d l : Bool) : vcnt (vpack g c d l) = c % 274877906944 := by
  have := b2i_bound d
  have := b2i_bound l
  unfold vcnt vpack
  omega
theorem vdead_pack (g c : Int) (d l : Bool) : vdead (vpack g c d l) = d := by
  have h : vpack g c d l / 2 % 2 = b2i d := by
    have := b2i_bound d
    have := b2i_bound l
    unfold vpack
    omega
  unfold vdead
  rw [h]
  cases d <;> rfl
theorem vlocked_pack (g c : Int) (d l : Bool) : vlocked (vpack g c d l) = l := by
  have h : vpack g c d l % 2 = b2i l := by
    have := b2i_bound d
    have := b2i_bound l
    unfold vpack
    omega
  unfold vlocked
  rw [h]
  cases l <;> rfl
theorem vpack_gen (g c : Int) (d l : Bool) : vpack (g % 16777216) c d l = vpack g c d l := by unfold vpack; omega
theorem vpack_cnt (g c : Int) (d l : Bool) : vpack g (c % 274877906944) d l = vpack g c d l := by unfold vpack; omega
theorem vpack_gen1 (g c : Int) (d l : Bool) : vpack (g % 16777216 + 1) c d l = vpack (g + 1) c d l := by unfold vpack; omega
theorem vpack_cnt1 (g c : Int) (d l : Bool) : vpack g (c % 274877906944 + 1) d l = vpack g (c + 1) d l := by unfold vpack; omega
theorem b2i_dead (w : Int) : b2i (vdead w) = w / 2 % 2 := by
  unfold b2i vdead
  by_cases h : w / 2 % 2 = 1
  · simp [h]
  · simp [h]; omega
theorem b2i_locked (w : Int) : b2i (vlocked w) = w % 2 := by
  unfold b2i vlocked
  by_cases h : w % 2 = 1
  · simp [h]
  · simp [h]; omega
/-- A word is its parts. -/
theorem vpack_self {w : Int} (h : W64 w) : vpack (vgen w) (vcnt w) (vdead w) (vlocked w) = w := by
  obtain ⟨h1, h2⟩ := h
  unfold vpack
  rw [b2i_dead, b2i_locked]
  unfold vgen vcnt
  omega

def vlock (w : Int) : Int := vpack (vgen w) (vcnt w) (vdead w) true
def vundo (w : Int) : Int := vpack (vgen w) (vcnt w) (vdead w) false
def vcounted (w : Int) : Int := vpack (vgen w) (vcnt w + 1) (vdead w) (vlocked w)
def vbump (w : Int) : Int := vpack (vgen w) (vcnt w + 1) (vdead w) false
def vdie (w : Int) : Int := vpack (vgen w) (vcnt w) true (vlocked w)
def vkill (w : Int) : Int := vpack (vgen w) (vcnt w + 1) true false
def vlive (w : Int) : Int := vpack (vgen w) (vcnt w) false (vlocked w)
def vanew (w : Int) : Int := vpack (vgen w + 1) (vcnt w) false (vlocked w)
def vrenew (w : Int) : Int := vpack (vgen w + 1) (vcnt w + 1) false true

theorem vbump_eq (w : Int) : vundo (vcounted w) = vbump w := by
  unfold vundo vcounted vbump
  rw [vgen_pack, vcnt_pack, vdead_pack, vpack_gen, vpack_cnt]
theorem vkill_eq (w : Int) : vdie (vbump w) = vkill w := by
  unfold vdie vbump vkill
  rw [vgen_pack, vcnt_pack, vlocked_pack, vpack_gen, vpack_cnt]
theorem vrenew_eq (w : Int) : vanew (vlock (vcounted w)) = vrenew w := by
  unfold vanew vlock vcounted vrenew
  rw [vgen_pack, vcnt_pack, vlocked_pack, vgen_pack, vcnt_pack, vpack_cnt, vpack_cnt]
  unfold vpack
  omega

theorem put_lock {w : Int} (h : W64 w) : fput w 0 1 1 = vlock w := by
  have h1 := fput_at w 1 0 1 (by omega)
  obtain ⟨h2, h3⟩ := h
  unfold vlock vpack
  rw [b2i_dead, show b2i true = 1 from rfl]
  unfold vgen vcnt
  simp at h1
  rw [h1]
  omega
theorem put_undo {w : Int} (h : W64 w) : fput w 0 1 0 = vundo w := by
  have h1 := fput_at w 0 0 1 (by omega)
  obtain ⟨h2, h3⟩ := h
  unfold vundo vpack
  rw [b2i_dead, show b2i false = 0 from rfl]
  unfold vgen vcnt
  simp at h1
  rw [h1]
  omega
theorem get_cnt (w : Int) : fget w 2 38 = vcnt w := by
  have h1 := fget_at w 2 38 (by omega)
  unfold vcnt
  simpa using h1
theorem get_gen {w : Int} (h : W64 w) : fget w 40 24 = vgen w := by
  have h1 := fget_at w 40 24 (by omega)
  obtain ⟨h2, h3⟩ := h
  unfold vgen
  simp at h1
  rw [h1]
  omega
theorem get_dead (w : Int) : fget w 1 1 = w / 2 % 2 := by
  have h1 := fget_at w 1 1 (by omega)
  simpa using h1
theorem get_locked (w : Int) : fget w 0 1 = w % 2 := by
  have h1 := fget_at w 0 1 (by omega)
  simpa using h1
theorem put_cnt {w : Int} (h : W64 w) : fput w 2 38 (vcnt w + 1) = vcounted w := by
  have h1 := fput_at w (vcnt w + 1) 2 38 (by omega)
  obtain ⟨h2, h3⟩ := h
  unfold vcounted vpack
  rw [b2i_dead, b2i_locked]
  unfold vgen vcnt at *
  simp at h1
  rw [h1]
  omega
theorem put_dead {w : Int} (h : W64 w) : fput w 1 1 1 = vdie w := by
  have h1 := fput_at w 1 1 1 (by omega)
  obtain ⟨h2, h3⟩ := h
  unfold vdie vpack
  rw [b2i_locked, show b2i true = 1 from rfl]
  unfold vgen vcnt
  simp at h1
  rw [h1]
  omega
theorem put_live {w : Int} (h : W64 w) : fput w 1 1 0 = vlive w := by
  have h1 := fput_at w 0 1 1 (by omega)
  obtain ⟨h2, h3⟩ := h
  unfold vlive vpack
  rw [b2i_locked, show b2i false = 0 from rfl]
  unfold vgen vcnt
  simp at h1
  rw [h1]
  omega
theorem put_anew {w : Int} (h : W64 w) : fput (vlive w) 40 24 (vgen w + 1) = vanew w := by
  have h1 := fput_at (vlive w) (vgen w + 1) 40 24 (by omega)
  obtain ⟨h2, h3⟩ := h
  unfold vlive vanew vpack at *
  rw [b2i_locked, show b2i false = 0 from rfl] at *
  unfold vgen vcnt at *
  simp at h1
  simp
  omega
theorem put_mk1 (g : Int) : fput 0 40 24 g = g % 16777216 * 1099511627776 := by
  have h1 := fput_at 0 g 40 24 (by omega)
  simp at h1
  rw [h1]
theorem put_mk2 (G c : Int) (_h : 0 ≤ G ∧ G < 16777216) : fput (G * 1099511627776) 2 38 c = G * 1099511627776 + c % 274877906944 * 4 := by
  have h1 := fput_at (G * 1099511627776) c 2 38 (by omega)
  simp at h1
  rw [h1]
  omega
theorem put_mk3 (G C d : Int) (_h : 0 ≤ G ∧ G < 16777216) (_hc : 0 ≤ C ∧ C < 274877906944) (hd : 0 ≤ d ∧ d ≤ 1) : fput (G * 1099511627776 + C * 4) 1 1 d = G * 1099511627776 + C * 4 + d * 2 := by
  have h1 := fput_at (G * 1099511627776 + C * 4) d 1 1 (by omega)
  simp at h1
  rw [h1]
  omega
theorem put_mk4 (G C d l : Int) (_h : 0 ≤ G ∧ G < 16777216) (_hc : 0 ≤ C ∧ C < 274877906944) (_hd : 0 ≤ d ∧ d ≤ 1) (hl : 0 ≤ l ∧ l ≤ 1) :
    fput (G * 1099511627776 + C * 4 + d * 2) 0 1 l = G * 1099511627776 + C * 4 + d * 2 + l := by
  have h1 := fput_at (G * 1099511627776 + C * 4 + d * 2) l 0 1 (by omega)
  simp at h1
  rw [h1]
  omega
theorem put_make (g c : Int) (d l : Bool) : fput (fput (fput (fput 0 40 24 g) 2 38 c) 1 1 (b2i d)) 0 1 (b2i l) = vpack g c d l := by
  have hg : 0 ≤ g % 16777216 ∧ g % 16777216 < 16777216 := by omega
  have hc : 0 ≤ c % 274877906944 ∧ c % 274877906944 < 274877906944 := by omega
  rw [put_mk1, put_mk2 _ _ hg, put_mk3 _ _ _ hg hc (b2i_bound d), put_mk4 _ _ _ _ hg hc (b2i_bound d) (b2i_bound l)]
  rfl
end Go.Proofs.YtgcdmgpcfdfomaaDoor
