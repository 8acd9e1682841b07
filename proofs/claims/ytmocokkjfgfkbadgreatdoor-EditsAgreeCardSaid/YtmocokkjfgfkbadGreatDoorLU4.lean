/- LU4: tones that are tied together made one, forth and back; their range. No program in sight. -/
import Derived.Test.YtmocokkjfgfkbadGreatDoorLU3
namespace Go.G
open Go Go.J
set_option linter.unusedSimpArgs false
def uF (f:TFraction):Int:=f.Num*(192:Int).tdiv f.Den
structure UOk (f:TFraction) (m:Int):Prop where
 p:m_piece_units f=some (uF f)
 q:m_gleeref2_units f=some (uF f)
 pos:1≤uF f
 le:uF f≤m
theorem low_ref {n:Int} (h1:1≤n) (h2:n≤1000000000):m_gleeref2_Lowest n 192=some (lowF n.toNat 192)∧uF (lowF n.toNat 192)=n∧UOk (lowF n.toNat 192) n:=by
  obtain ⟨k,rfl⟩:=Int.eq_ofNat_of_zero_le (by omega:0≤n)
  simp only [Int.toNat_natCast]
  have hg1:Nat.gcd k 192 ∣ k:=Nat.gcd_dvd_left ..
  have hg2:Nat.gcd k 192 ∣ 192:=Nat.gcd_dvd_right ..
  have hg0:0<Nat.gcd k 192:=Nat.gcd_pos_of_pos_right _ (by omega)
  obtain ⟨a,ha⟩:=hg1
  obtain ⟨b,hb⟩:=hg2
  have hb0:0<b:=Nat.pos_of_ne_zero fun h=>by rw [h] at hb; simp at hb
  have hb192:b≤192:=Nat.le_of_dvd (by omega) ⟨Nat.gcd k 192,by rw [Nat.mul_comm]; exact hb⟩
  have e1:(lowF k 192)=⟨(a:Int),(b:Int)⟩:=by
    unfold lowF
    have f1:k / Nat.gcd k 192=a:=(congrArg (fun z => z / Nat.gcd k 192) ha).trans (Nat.mul_div_cancel_left a hg0)
    have f2:192 / Nat.gcd k 192=b:=(congrArg (fun z => z / Nat.gcd k 192) hb).trans (Nat.mul_div_cancel_left b hg0)
    congr 1
    · rw [← f1]; rfl
    · rw [← f2]; rfl
  have hu:(192:Int).tdiv (b:Int)=(Nat.gcd k 192:Int):=by
    have:192 / b=Nat.gcd k 192:=Nat.div_eq_of_eq_mul_left hb0 hb
    rw [← this]; rfl
  have hk:(a:Int)*(Nat.gcd k 192:Int)=k:=by
    have:=congrArg (fun n:Nat=>(n:Int)) ha
    simp only [Int.natCast_mul] at this
    rw [Int.mul_comm]; exact this.symm
  have e2:uF (lowF k 192)=k:=by
    rw [e1]
    show (a:Int)*(192:Int).tdiv (b:Int)=k
    rw [hu,hk]
  have hgl:Nat.gcd k 192≤192:=Nat.le_of_dvd (by omega) (Nat.gcd_dvd_right ..)
  have e3:∀ {r:Option Int},r=((quoM 192 (lowF k 192).Den).bind fun z2=>some (w64 ((lowF k 192).Num*z2)))→r=some (uF (lowF k 192)):=by
    intro r hr
    rw [hr,e1]
    show (quoM 192 (b:Int)).bind _=_
    rw [quoM_of (by omega),Option.bind_some,hu,w64_id (n:=(Nat.gcd k 192:Int)) (by omega)]
    show some (w64 ((a:Int)*(Nat.gcd k 192:Int)))=_
    rw [hk,w64_id (by omega)]
    show _=some ((a:Int)*(192:Int).tdiv (b:Int))
    rw [hu,hk]
  exact ⟨refLowest_spec k 192 (by omega) (by omega) (by omega),e2,⟨e3 rfl,e3 rfl,by omega,by omega⟩⟩
theorem low_spec {n:Int} (h1:1≤n) (h2:n≤1000000000):m_piece_fraction n=some (lowF n.toNat 192)∧m_gleeref2_Lowest n 192=some (lowF n.toNat 192)∧uF (lowF n.toNat 192)=n∧UOk (lowF n.toNat 192) n:=by
 refine ⟨?_,low_ref h1 h2⟩
 obtain ⟨k,rfl⟩:=Int.eq_ofNat_of_zero_le (by omega:0≤n)
 simp only [Int.toNat_natCast]
 unfold m_piece_fraction
 rw [show ((192:Int))=((192:Nat):Int) from rfl,kitLowest_spec k 192 (by omega) (by omega) (by omega)]; rfl
end Go.G
