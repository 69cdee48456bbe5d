/- The curve: points, sums, the group and its order; the ladder on the curve. -/
import Derived.Test.YtejphmgpndgliaaC05GA
namespace Go.Proofs.Ytejphmgpndgliaa.GA
set_option linter.unusedVariables false
theorem sub_z {a b : F} (h : a = b) : a - b = 0 := by rw [h]; grobner
theorem z_sub {a b : F} (h : a - b = 0) : a = b := by grobner
theorem ed_close {k x1 x2 y1 y2 : F} (e1 : x1*x1 + y1*y1 = 1 + k*(x1*x1)*(y1*y1)) (e2 : x2*x2 + y2*y2 = 1 + k*(x2*x2)*(y2*y2)) :
    (x1*y2 + y1*x2)*(x1*y2 + y1*x2)*((1 - k*x1*x2*y1*y2)*(1 - k*x1*x2*y1*y2)) + (y1*y2 - x1*x2)*(y1*y2 - x1*x2)*((1 + k*x1*x2*y1*y2)*(1 + k*x1*x2*y1*y2)) = (1 + k*x1*x2*y1*y2)*(1 + k*x1*x2*y1*y2)*((1 - k*x1*x2*y1*y2)*(1 - k*x1*x2*y1*y2)) + k*((x1*y2 + y1*x2)*(x1*y2 + y1*x2))*((y1*y2 - x1*x2)*(y1*y2 - x1*x2)) := by
  have h : (x1*y2 + y1*x2)*(x1*y2 + y1*x2)*((1 - k*x1*x2*y1*y2)*(1 - k*x1*x2*y1*y2)) + (y1*y2 - x1*x2)*(y1*y2 - x1*x2)*((1 + k*x1*x2*y1*y2)*(1 + k*x1*x2*y1*y2)) - ((1 + k*x1*x2*y1*y2)*(1 + k*x1*x2*y1*y2)*((1 - k*x1*x2*y1*y2)*(1 - k*x1*x2*y1*y2)) + k*((x1*y2 + y1*x2)*(x1*y2 + y1*x2))*((y1*y2 - x1*x2)*(y1*y2 - x1*x2))) = (k*k*k*x1*x1*x2*x2*x2*x2*y1*y1*y2*y2*y2*y2 + k*k*x1*x1*x2*x2*x2*x2*y2*y2*y2*y2 + k*k*x2*x2*x2*x2*y1*y1*y2*y2*y2*y2 - k*k*x2*x2*x2*x2*y2*y2*y2*y2 - k*x1*x1*x2*x2*x2*x2*y2*y2 - k*x1*x1*x2*x2*y2*y2*y2*y2 - k*x2*x2*x2*x2*y1*y1*y2*y2 + 2*k*x2*x2*x2*x2*y2*y2*y2*y2 - k*x2*x2*y1*y1*y2*y2*y2*y2 - 2*k*x2*x2*y2*y2 - 2*x2*x2*x2*x2*y2*y2 + x2*x2*x2*x2 - 2*x2*x2*y2*y2*y2*y2 + 4*x2*x2*y2*y2 + y2*y2*y2*y2)*(x1*x1 + y1*y1 - (1 + k*(x1*x1)*(y1*y1))) + (k*x1*x1*x1*x1*x2*x2*y2*y2 - 2*k*x1*x1*x2*x2*y2*y2 + k*x2*x2*y1*y1*y1*y1*y2*y2 - 2*k*x2*x2*y1*y1*y2*y2 + k*x2*x2*y2*y2 + 2*x1*x1*x2*x2*y2*y2 - x1*x1*x2*x2 - x1*x1*y2*y2 + 2*x2*x2*y1*y1*y2*y2 - x2*x2*y1*y1 - 2*x2*x2*y2*y2 + x2*x2 - y1*y1*y2*y2 + y2*y2 + 1)*(x2*x2 + y2*y2 - (1 + k*(x2*x2)*(y2*y2))) := by grobner
  have d1 := sub_z e1
  have d2 := sub_z e2
  rw [d1, d2] at h
  exact z_sub (by rw [h]; grobner)

theorem ed_assoc_x {k x1 x2 x3 y1 y2 y3 : F} (e1 : x1*x1 + y1*y1 = 1 + k*(x1*x1)*(y1*y1)) (e2 : x2*x2 + y2*y2 = 1 + k*(x2*x2)*(y2*y2)) (e3 : x3*x3 + y3*y3 = 1 + k*(x3*x3)*(y3*y3)) :
    ((x1*y2 + y1*x2)*(1 - k*x1*x2*y1*y2)*y3 + (y1*y2 - x1*x2)*(1 + k*x1*x2*y1*y2)*x3)*((1 + k*x2*x3*y2*y3)*(1 - k*x2*x3*y2*y3) + k*((x2*y3 + y2*x3)*(y2*y3 - x2*x3))*(x1*y1)) = (x1*((y2*y3 - x2*x3)*(1 + k*x2*x3*y2*y3)) + y1*((x2*y3 + y2*x3)*(1 - k*x2*x3*y2*y3)))*((1 + k*x1*x2*y1*y2)*(1 - k*x1*x2*y1*y2) + k*((x1*y2 + y1*x2)*(y1*y2 - x1*x2))*(x3*y3)) := by
  have h : ((x1*y2 + y1*x2)*(1 - k*x1*x2*y1*y2)*y3 + (y1*y2 - x1*x2)*(1 + k*x1*x2*y1*y2)*x3)*((1 + k*x2*x3*y2*y3)*(1 - k*x2*x3*y2*y3) + k*((x2*y3 + y2*x3)*(y2*y3 - x2*x3))*(x1*y1)) - ((x1*((y2*y3 - x2*x3)*(1 + k*x2*x3*y2*y3)) + y1*((x2*y3 + y2*x3)*(1 - k*x2*x3*y2*y3)))*((1 + k*x1*x2*y1*y2)*(1 - k*x1*x2*y1*y2) + k*((x1*y2 + y1*x2)*(y1*y2 - x1*x2))*(x3*y3))) = (k*k*x1*x2*x2*x2*x2*x3*x3*y2*y2*y2*y3 - k*k*x1*x2*x2*x2*x3*y2*y2*y2*y2*y3*y3 + k*k*x2*x2*x2*x2*x3*y1*y2*y2*y2*y3*y3 + k*k*x2*x2*x2*x3*x3*y1*y2*y2*y2*y2*y3 - k*x1*x2*x2*x2*x2*x3*x3*y2*y3 - k*x1*x2*x2*x2*x3*x3*x3*y2*y2 + k*x1*x2*x2*x2*x3*y2*y2 + k*x1*x2*x2*y2*y2*y2*y3*y3*y3 - k*x1*x2*x2*y2*y2*y2*y3 + k*x1*x2*x3*y2*y2*y2*y2*y3*y3 - k*x2*x2*x2*x2*x3*y1*y2*y3*y3 + k*x2*x2*x2*y1*y2*y2*y3*y3*y3 - k*x2*x2*x2*y1*y2*y2*y3 + k*x2*x2*x3*x3*x3*y1*y2*y2*y2 - k*x2*x2*x3*y1*y2*y2*y2 - k*x2*x3*x3*y1*y2*y2*y2*y2*y3)*(x1*x1 + y1*y1 - (1 + k*(x1*x1)*(y1*y1))) + (-k*k*x1*x1*x2*x2*x3*x3*x3*y1*y2*y3*y3 - k*k*x1*x1*x2*x3*x3*y1*y2*y2*y3*y3*y3 - k*k*x1*x2*x2*x3*x3*y1*y1*y2*y3*y3*y3 + k*k*x1*x2*x3*x3*x3*y1*y1*y2*y2*y3*y3 + k*x1*x1*x1*x2*x2*x3*x3*y2*y3 + k*x1*x1*x1*x2*x3*x3*x3*y3*y3 - k*x1*x1*x1*x2*x3*y2*y2*y3*y3 - k*x1*x1*x1*x3*x3*y2*y3*y3*y3 + k*x1*x1*x2*x2*x3*y1*y2*y3*y3 + k*x1*x1*x2*x3*x3*y1*y2*y2*y3 - k*x1*x1*x2*x3*x3*y1*y3*y3*y3 - k*x1*x1*x3*x3*x3*y1*y2*y3*y3 + k*x1*x2*x2*x3*x3*y1*y1*y2*y3 - k*x1*x2*x2*x3*x3*y2*y3 + k*x1*x2*x3*x3*x3*y1*y1*y3*y3 - k*x1*x2*x3*x3*x3*y3*y3 - k*x1*x2*x3*y1*y1*y2*y2*y3*y3 + k*x1*x2*x3*y2*y2*y3*y3 - k*x1*x3*x3*y1*y1*y2*y3*y3*y3 + k*x1*x3*x3*y2*y3*y3*y3 + k*x2*x2*x3*y1*y1*y1*y2*y3*y3 - k*x2*x2*x3*y1*y2*y3*y3 + k*x2*x3*x3*y1*y1*y1*y2*y2*y3 - k*x2*x3*x3*y1*y1*y1*y3*y3*y3 - k*x2*x3*x3*y1*y2*y2*y3 + k*x2*x3*x3*y1*y3*y3*y3 - k*x3*x3*x3*y1*y1*y1*y2*y3*y3 + k*x3*x3*x3*y1*y2*y3*y3 - x1*x1*x1*x2*x3*x3*x3 - x1*x1*x1*x2*x3*y3*y3 + x1*x1*x1*x2*x3 + x1*x1*x1*x3*x3*y2*y3 + x1*x1*x1*y2*y3*y3*y3 - x1*x1*x1*y2*y3 + x1*x1*x2*x3*x3*y1*y3 + x1*x1*x2*y1*y3*y3*y3 - x1*x1*x2*y1*y3 + x1*x1*x3*x3*x3*y1*y2 + x1*x1*x3*y1*y2*y3*y3 - x1*x1*x3*y1*y2 - x1*x2*x3*x3*x3*y1*y1 + x1*x2*x3*x3*x3 - x1*x2*x3*y1*y1*y3*y3 + x1*x2*x3*y1*y1 + x1*x2*x3*y3*y3 - x1*x2*x3 + x1*x3*x3*y1*y1*y2*y3 - x1*x3*x3*y2*y3 + x1*y1*y1*y2*y3*y3*y3 - x1*y1*y1*y2*y3 - x1*y2*y3*y3*y3 + x1*y2*y3 + x2*x3*x3*y1*y1*y1*y3 - x2*x3*x3*y1*y3 + x2*y1*y1*y1*y3*y3*y3 - x2*y1*y1*y1*y3 - x2*y1*y3*y3*y3 + x2*y1*y3 + x3*x3*x3*y1*y1*y1*y2 - x3*x3*x3*y1*y2 + x3*y1*y1*y1*y2*y3*y3 - x3*y1*y1*y1*y2 - x3*y1*y2*y3*y3 + x3*y1*y2)*(x2*x2 + y2*y2 - (1 + k*(x2*x2)*(y2*y2))) + (k*x1*x1*x2*x2*x3*y1*y2 + k*x1*x1*x2*y1*y2*y2*y3 + k*x1*x2*x2*y1*y1*y2*y3 - k*x1*x2*x3*y1*y1*y2*y2 + x1*x1*x1*x2*x2*x2*x3 - x1*x1*x1*x2*x2*y2*y3 + x1*x1*x1*x2*x3*y2*y2 - x1*x1*x1*x2*x3 - x1*x1*x1*y2*y2*y2*y3 + x1*x1*x1*y2*y3 - x1*x1*x2*x2*x2*y1*y3 - x1*x1*x2*x2*x3*y1*y2 - x1*x1*x2*y1*y2*y2*y3 + x1*x1*x2*y1*y3 - x1*x1*x3*y1*y2*y2*y2 + x1*x1*x3*y1*y2 + x1*x2*x2*x2*x3*y1*y1 - x1*x2*x2*x2*x3 - x1*x2*x2*y1*y1*y2*y3 + x1*x2*x2*y2*y3 + x1*x2*x3*y1*y1*y2*y2 - x1*x2*x3*y1*y1 - x1*x2*x3*y2*y2 + x1*x2*x3 - x1*y1*y1*y2*y2*y2*y3 + x1*y1*y1*y2*y3 + x1*y2*y2*y2*y3 - x1*y2*y3 - x2*x2*x2*y1*y1*y1*y3 + x2*x2*x2*y1*y3 - x2*x2*x3*y1*y1*y1*y2 + x2*x2*x3*y1*y2 - x2*y1*y1*y1*y2*y2*y3 + x2*y1*y1*y1*y3 + x2*y1*y2*y2*y3 - x2*y1*y3 - x3*y1*y1*y1*y2*y2*y2 + x3*y1*y1*y1*y2 + x3*y1*y2*y2*y2 - x3*y1*y2)*(x3*x3 + y3*y3 - (1 + k*(x3*x3)*(y3*y3))) := by grobner
  have d1 := sub_z e1
  have d2 := sub_z e2
  have d3 := sub_z e3
  rw [d1, d2, d3] at h
  exact z_sub (by rw [h]; grobner)

theorem ed_assoc_y {k x1 x2 x3 y1 y2 y3 : F} (e1 : x1*x1 + y1*y1 = 1 + k*(x1*x1)*(y1*y1)) (e2 : x2*x2 + y2*y2 = 1 + k*(x2*x2)*(y2*y2)) (e3 : x3*x3 + y3*y3 = 1 + k*(x3*x3)*(y3*y3)) :
    ((y1*y2 - x1*x2)*(1 + k*x1*x2*y1*y2)*y3 - (x1*y2 + y1*x2)*(1 - k*x1*x2*y1*y2)*x3)*((1 + k*x2*x3*y2*y3)*(1 - k*x2*x3*y2*y3) - k*((x2*y3 + y2*x3)*(y2*y3 - x2*x3))*(x1*y1)) = (y1*((y2*y3 - x2*x3)*(1 + k*x2*x3*y2*y3)) - x1*((x2*y3 + y2*x3)*(1 - k*x2*x3*y2*y3)))*((1 + k*x1*x2*y1*y2)*(1 - k*x1*x2*y1*y2) - k*((x1*y2 + y1*x2)*(y1*y2 - x1*x2))*(x3*y3)) := by
  have h : ((y1*y2 - x1*x2)*(1 + k*x1*x2*y1*y2)*y3 - (x1*y2 + y1*x2)*(1 - k*x1*x2*y1*y2)*x3)*((1 + k*x2*x3*y2*y3)*(1 - k*x2*x3*y2*y3) - k*((x2*y3 + y2*x3)*(y2*y3 - x2*x3))*(x1*y1)) - ((y1*((y2*y3 - x2*x3)*(1 + k*x2*x3*y2*y3)) - x1*((x2*y3 + y2*x3)*(1 - k*x2*x3*y2*y3)))*((1 + k*x1*x2*y1*y2)*(1 - k*x1*x2*y1*y2) - k*((x1*y2 + y1*x2)*(y1*y2 - x1*x2))*(x3*y3))) = (-k*k*x1*x2*x2*x2*x2*x3*y2*y2*y2*y3*y3 - k*k*x1*x2*x2*x2*x3*x3*y2*y2*y2*y2*y3 + k*k*x2*x2*x2*x2*x3*x3*y1*y2*y2*y2*y3 - k*k*x2*x2*x2*x3*y1*y2*y2*y2*y2*y3*y3 + k*x1*x2*x2*x2*x2*x3*y2*y3*y3 - k*x1*x2*x2*x2*y2*y2*y3*y3*y3 + k*x1*x2*x2*x2*y2*y2*y3 - k*x1*x2*x2*x3*x3*x3*y2*y2*y2 + k*x1*x2*x2*x3*y2*y2*y2 + k*x1*x2*x3*x3*y2*y2*y2*y2*y3 - k*x2*x2*x2*x2*x3*x3*y1*y2*y3 - k*x2*x2*x2*x3*x3*x3*y1*y2*y2 + k*x2*x2*x2*x3*y1*y2*y2 + k*x2*x2*y1*y2*y2*y2*y3*y3*y3 - k*x2*x2*y1*y2*y2*y2*y3 + k*x2*x3*y1*y2*y2*y2*y2*y3*y3)*(x1*x1 + y1*y1 - (1 + k*(x1*x1)*(y1*y1))) + (-k*k*x1*x1*x2*x2*x3*x3*y1*y2*y3*y3*y3 + k*k*x1*x1*x2*x3*x3*x3*y1*y2*y2*y3*y3 + k*k*x1*x2*x2*x3*x3*x3*y1*y1*y2*y3*y3 + k*k*x1*x2*x3*x3*y1*y1*y2*y2*y3*y3*y3 - k*x1*x1*x1*x2*x2*x3*y2*y3*y3 - k*x1*x1*x1*x2*x3*x3*y2*y2*y3 + k*x1*x1*x1*x2*x3*x3*y3*y3*y3 + k*x1*x1*x1*x3*x3*x3*y2*y3*y3 + k*x1*x1*x2*x2*x3*x3*y1*y2*y3 + k*x1*x1*x2*x3*x3*x3*y1*y3*y3 - k*x1*x1*x2*x3*y1*y2*y2*y3*y3 - k*x1*x1*x3*x3*y1*y2*y3*y3*y3 - k*x1*x2*x2*x3*y1*y1*y2*y3*y3 + k*x1*x2*x2*x3*y2*y3*y3 - k*x1*x2*x3*x3*y1*y1*y2*y2*y3 + k*x1*x2*x3*x3*y1*y1*y3*y3*y3 + k*x1*x2*x3*x3*y2*y2*y3 - k*x1*x2*x3*x3*y3*y3*y3 + k*x1*x3*x3*x3*y1*y1*y2*y3*y3 - k*x1*x3*x3*x3*y2*y3*y3 + k*x2*x2*x3*x3*y1*y1*y1*y2*y3 - k*x2*x2*x3*x3*y1*y2*y3 + k*x2*x3*x3*x3*y1*y1*y1*y3*y3 - k*x2*x3*x3*x3*y1*y3*y3 - k*x2*x3*y1*y1*y1*y2*y2*y3*y3 + k*x2*x3*y1*y2*y2*y3*y3 - k*x3*x3*y1*y1*y1*y2*y3*y3*y3 + k*x3*x3*y1*y2*y3*y3*y3 - x1*x1*x1*x2*x3*x3*y3 - x1*x1*x1*x2*y3*y3*y3 + x1*x1*x1*x2*y3 - x1*x1*x1*x3*x3*x3*y2 - x1*x1*x1*x3*y2*y3*y3 + x1*x1*x1*x3*y2 - x1*x1*x2*x3*x3*x3*y1 - x1*x1*x2*x3*y1*y3*y3 + x1*x1*x2*x3*y1 + x1*x1*x3*x3*y1*y2*y3 + x1*x1*y1*y2*y3*y3*y3 - x1*x1*y1*y2*y3 - x1*x2*x3*x3*y1*y1*y3 + x1*x2*x3*x3*y3 - x1*x2*y1*y1*y3*y3*y3 + x1*x2*y1*y1*y3 + x1*x2*y3*y3*y3 - x1*x2*y3 - x1*x3*x3*x3*y1*y1*y2 + x1*x3*x3*x3*y2 - x1*x3*y1*y1*y2*y3*y3 + x1*x3*y1*y1*y2 + x1*x3*y2*y3*y3 - x1*x3*y2 - x2*x3*x3*x3*y1*y1*y1 + x2*x3*x3*x3*y1 - x2*x3*y1*y1*y1*y3*y3 + x2*x3*y1*y1*y1 + x2*x3*y1*y3*y3 - x2*x3*y1 + x3*x3*y1*y1*y1*y2*y3 - x3*x3*y1*y2*y3 + y1*y1*y1*y2*y3*y3*y3 - y1*y1*y1*y2*y3 - y1*y2*y3*y3*y3 + y1*y2*y3)*(x2*x2 + y2*y2 - (1 + k*(x2*x2)*(y2*y2))) + (k*x1*x1*x2*x2*y1*y2*y3 - k*x1*x1*x2*x3*y1*y2*y2 - k*x1*x2*x2*x3*y1*y1*y2 - k*x1*x2*y1*y1*y2*y2*y3 + x1*x1*x1*x2*x2*x2*y3 + x1*x1*x1*x2*x2*x3*y2 + x1*x1*x1*x2*y2*y2*y3 - x1*x1*x1*x2*y3 + x1*x1*x1*x3*y2*y2*y2 - x1*x1*x1*x3*y2 + x1*x1*x2*x2*x2*x3*y1 - x1*x1*x2*x2*y1*y2*y3 + x1*x1*x2*x3*y1*y2*y2 - x1*x1*x2*x3*y1 - x1*x1*y1*y2*y2*y2*y3 + x1*x1*y1*y2*y3 + x1*x2*x2*x2*y1*y1*y3 - x1*x2*x2*x2*y3 + x1*x2*x2*x3*y1*y1*y2 - x1*x2*x2*x3*y2 + x1*x2*y1*y1*y2*y2*y3 - x1*x2*y1*y1*y3 - x1*x2*y2*y2*y3 + x1*x2*y3 + x1*x3*y1*y1*y2*y2*y2 - x1*x3*y1*y1*y2 - x1*x3*y2*y2*y2 + x1*x3*y2 + x2*x2*x2*x3*y1*y1*y1 - x2*x2*x2*x3*y1 - x2*x2*y1*y1*y1*y2*y3 + x2*x2*y1*y2*y3 + x2*x3*y1*y1*y1*y2*y2 - x2*x3*y1*y1*y1 - x2*x3*y1*y2*y2 + x2*x3*y1 - y1*y1*y1*y2*y2*y2*y3 + y1*y1*y1*y2*y3 + y1*y2*y2*y2*y3 - y1*y2*y3)*(x3*x3 + y3*y3 - (1 + k*(x3*x3)*(y3*y3))) := by grobner
  have d1 := sub_z e1
  have d2 := sub_z e2
  have d3 := sub_z e3
  rw [d1, d2, d3] at h
  exact z_sub (by rw [h]; grobner)

theorem ed_diff {k x1 x2 y1 y2 : F} (e1 : x1*x1 + y1*y1 = 1 + k*(x1*x1)*(y1*y1)) (e2 : x2*x2 + y2*y2 = 1 + k*(x2*x2)*(y2*y2)) :
    (y1 + y2)*(y1 + y2)*(((1 - k*x1*x2*y1*y2) - (y1*y2 - x1*x2))*((1 + k*x1*x2*y1*y2) - (y1*y2 + x1*x2))) = (y2 - y1)*(y2 - y1)*(((1 - k*x1*x2*y1*y2) + (y1*y2 - x1*x2))*((1 + k*x1*x2*y1*y2) + (y1*y2 + x1*x2))) := by
  have h : (y1 + y2)*(y1 + y2)*(((1 - k*x1*x2*y1*y2) - (y1*y2 - x1*x2))*((1 + k*x1*x2*y1*y2) - (y1*y2 + x1*x2))) - ((y2 - y1)*(y2 - y1)*(((1 - k*x1*x2*y1*y2) + (y1*y2 - x1*x2))*((1 + k*x1*x2*y1*y2) + (y1*y2 + x1*x2)))) = (4*k*x2*x2*y1*y2*y2*y2 - 4*x2*x2*y1*y2)*(x1*x1 + y1*y1 - (1 + k*(x1*x1)*(y1*y1))) + (4*y1*y1*y1*y2 - 4*y1*y2)*(x2*x2 + y2*y2 - (1 + k*(x2*x2)*(y2*y2))) := by grobner
  have d1 := sub_z e1
  have d2 := sub_z e2
  rw [d1, d2] at h
  exact z_sub (by rw [h]; grobner)

def On (k : F) (P : F × F) : Prop := P.1*P.1 + P.2*P.2 = 1 + k*(P.1*P.1)*(P.2*P.2)
theorem ed_compl {k x1 y1 x2 y2 : F} (hk : NS k) (e1 : x1*x1 + y1*y1 = 1 + k*(x1*x1)*(y1*y1)) (e2 : x2*x2 + y2*y2 = 1 + k*(x2*x2)*(y2*y2)) (h : (k*x1*x2*y1*y2)*(k*x1*x2*y1*y2) = 1) : False := by
  have n0 : x1 * y1 ≠ 0 := fun z => by
    have : k*x1*x2*y1*y2 = k*x2*y2*(x1*y1) := by grobner
    rw [this, z] at h
    have : (0 : F) = 1 := by rw [← h]; grobner
    exact absurd this (by decide +kernel)
  obtain ⟨t, ht⟩ : ∃ t, k*x1*x2*y1*y2 = t := ⟨_, rfl⟩
  rw [ht] at h
  have key : ∀ z : F, z ≠ 0 → ∀ r : F, k*(x1*y1)*(x1*y1)*(z*z) = r*r → False := fun z hz r hr => by
    have hb : (x1*y1)*z ≠ 0 := fun hh => (f_dvd hh).elim n0 hz
    exact hk.not_sq (sq_div hb ⟨r, by rw [← hr]; grind⟩)
  have a1 : k*(x1*y1)*(x1*y1)*((x2+y2)*(x2+y2)) = (x1 + t*y1)*(x1 + t*y1) := by
    have : k*(x1*y1)*(x1*y1)*((x2+y2)*(x2+y2)) = k*(x1*y1)*(x1*y1)*(x2*x2+y2*y2) + 2*(x1*y1)*(k*x1*x2*y1*y2) := by grobner
    rw [this, e2, ht]
    have : k*(x1*y1)*(x1*y1)*(1 + k*(x2*x2)*(y2*y2)) = k*(x1*x1)*(y1*y1) + (k*x1*x2*y1*y2)*(k*x1*x2*y1*y2) := by grobner
    rw [this, ht, h]
    grobner
  have a2 : k*(x1*y1)*(x1*y1)*((x2-y2)*(x2-y2)) = (x1 - t*y1)*(x1 - t*y1) := by
    have : k*(x1*y1)*(x1*y1)*((x2-y2)*(x2-y2)) = k*(x1*y1)*(x1*y1)*(x2*x2+y2*y2) - 2*(x1*y1)*(k*x1*x2*y1*y2) := by grobner
    rw [this, e2, ht]
    have : k*(x1*y1)*(x1*y1)*(1 + k*(x2*x2)*(y2*y2)) = k*(x1*x1)*(y1*y1) + (k*x1*x2*y1*y2)*(k*x1*x2*y1*y2) := by grobner
    rw [this, ht, h]
    grobner
  by_cases hz : x2 + y2 = 0
  · by_cases hw : x2 - y2 = 0
    · have : (2 : F) * x2 = 0 := by grobner
      rcases f_dvd this with h2 | h2
      · exact absurd h2 (by decide +kernel)
      · subst h2
        rw [← ht] at h
        have : (0 : F) = 1 := by rw [← h]; grobner
        exact absurd this (by decide +kernel)
    · exact key _ hw _ a2
  · exact key _ hz _ a1
theorem ed_b {k x1 y1 x2 y2 : F} (hk : NS k) (e1 : x1*x1 + y1*y1 = 1 + k*(x1*x1)*(y1*y1)) (e2 : x2*x2 + y2*y2 = 1 + k*(x2*x2)*(y2*y2)) : 1 + k*x1*x2*y1*y2 ≠ 0 := fun h => by
  refine ed_compl hk e1 e2 ?_
  have : k*x1*x2*y1*y2 = -1 := by grobner
  rw [this]; grobner
theorem ed_d {k x1 y1 x2 y2 : F} (hk : NS k) (e1 : x1*x1 + y1*y1 = 1 + k*(x1*x1)*(y1*y1)) (e2 : x2*x2 + y2*y2 = 1 + k*(x2*x2)*(y2*y2)) : 1 - k*x1*x2*y1*y2 ≠ 0 := fun h => by
  refine ed_compl hk e1 e2 ?_
  have : k*x1*x2*y1*y2 = 1 := by grobner
  rw [this]; grobner
/-- z is the quotient of a by b -/
theorem q_mul {a b : F} (h : b ≠ 0) : b * (a * finv b) = a := by
  have := f_inv h
  grobner
def addX (k : F) (P Q : F × F) : F := (P.1*Q.2 + P.2*Q.1) * finv (1 + k*P.1*Q.1*P.2*Q.2)
def addY (k : F) (P Q : F × F) : F := (P.2*Q.2 - P.1*Q.1) * finv (1 - k*P.1*Q.1*P.2*Q.2)
theorem addX_eq {k : F} (hk : NS k) {P Q : F × F} (hP : On k P) (hQ : On k Q) : (1 + k*P.1*Q.1*P.2*Q.2) * addX k P Q = P.1*Q.2 + P.2*Q.1 := q_mul (ed_b hk hP hQ)
theorem addY_eq {k : F} (hk : NS k) {P Q : F × F} (hP : On k P) (hQ : On k Q) : (1 - k*P.1*Q.1*P.2*Q.2) * addY k P Q = P.2*Q.2 - P.1*Q.1 := q_mul (ed_d hk hP hQ)
theorem on_add {k : F} (hk : NS k) {P Q : F × F} (hP : On k P) (hQ : On k Q) : On k (addX k P Q, addY k P Q) := by
  have hx := addX_eq hk hP hQ
  have hy := addY_eq hk hP hQ
  have hb := ed_b hk hP hQ
  have hd := ed_d hk hP hQ
  have hc := ed_close hP hQ
  unfold On
  dsimp only
  generalize addX k P Q = x3 at *
  generalize addY k P Q = y3 at *
  generalize P.1*Q.2 + P.2*Q.1 = a at *
  generalize P.2*Q.2 - P.1*Q.1 = c at *
  generalize 1 + k*P.1*Q.1*P.2*Q.2 = b at *
  generalize 1 - k*P.1*Q.1*P.2*Q.2 = d at *
  have hbd : b*b*(d*d) ≠ 0 := fun h => (f_dvd h).elim (fun h => (f_dvd h).elim hb hb) (fun h => (f_dvd h).elim hd hd)
  refine f_cancel hbd ?_
  rw [← hx, ← hy] at hc
  grobner
abbrev Pt (k : F) : Type := {P : F × F // On k P}
def padd {k : F} (hk : NS k) (P Q : Pt k) : Pt k := ⟨(addX k P.1 Q.1, addY k P.1 Q.1), on_add hk P.2 Q.2⟩
def pone (k : F) : Pt k := ⟨(0, 1), by unfold On; grind⟩
theorem pt_ext {k : F} {P Q : Pt k} (h1 : P.1.1 = Q.1.1) (h2 : P.1.2 = Q.1.2) : P = Q := Subtype.ext (Prod.ext h1 h2)
theorem padd_comm {k : F} (hk : NS k) (P Q : Pt k) : padd hk P Q = padd hk Q P := by
  apply pt_ext
  · show addX k P.1 Q.1 = addX k Q.1 P.1
    unfold addX
    rw [show P.1.1*Q.1.2 + P.1.2*Q.1.1 = Q.1.1*P.1.2 + Q.1.2*P.1.1 by grobner, show 1 + k*P.1.1*Q.1.1*P.1.2*Q.1.2 = 1 + k*Q.1.1*P.1.1*Q.1.2*P.1.2 by grobner]
  · show addY k P.1 Q.1 = addY k Q.1 P.1
    unfold addY
    rw [show P.1.2*Q.1.2 - P.1.1*Q.1.1 = Q.1.2*P.1.2 - Q.1.1*P.1.1 by grobner, show 1 - k*P.1.1*Q.1.1*P.1.2*Q.1.2 = 1 - k*Q.1.1*P.1.1*Q.1.2*P.1.2 by grobner]
theorem padd_one {k : F} (hk : NS k) (P : Pt k) : padd hk (pone k) P = P := by
  have h1 := addX_eq hk (pone k).2 P.2
  have h2 := addY_eq hk (pone k).2 P.2
  have e1 : (pone k).1.1 = 0 := rfl
  have e2 : (pone k).1.2 = 1 := rfl
  rw [e1, e2] at h1 h2
  apply pt_ext
  · show addX k (pone k).1 P.1 = _
    grobner
  · show addY k (pone k).1 P.1 = _
    grobner
theorem assoc_gen {NL DL NR DR g xl xr : F} (hg : g ≠ 0) (hl : DL ≠ 0) (hr : DR ≠ 0) (h1 : DL * xl = NL) (h2 : DR * xr = NR) (h : NL * DR = NR * DL) : xl = xr := by
  have hb : DL * DR ≠ 0 := fun h => (f_dvd h).elim hl hr
  refine f_cancel hb ?_
  grobner
theorem nz_mul {a b : F} (ha : a ≠ 0) (hb : b ≠ 0) : a * b ≠ 0 := fun h => (f_dvd h).elim ha hb
theorem padd_assoc {k : F} (hk : NS k) (P Q R : Pt k) : padd hk (padd hk P Q) R = padd hk P (padd hk Q R) := by
  obtain ⟨⟨x1, y1⟩, e1⟩ := P
  obtain ⟨⟨x2, y2⟩, e2⟩ := Q
  obtain ⟨⟨x3, y3⟩, e3⟩ := R
  have a1 := addX_eq hk e1 e2
  have a2 := addY_eq hk e1 e2
  have a3 := on_add hk e1 e2
  have b1 := addX_eq hk e2 e3
  have b2 := addY_eq hk e2 e3
  have b3 := on_add hk e2 e3
  have c1 := addX_eq hk a3 e3
  have c2 := addY_eq hk a3 e3
  have d1 := addX_eq hk e1 b3
  have d2 := addY_eq hk e1 b3
  have nb := ed_b hk e1 e2
  have nd := ed_d hk e1 e2
  have nB := ed_b hk e2 e3
  have nD := ed_d hk e2 e3
  have nL := ed_b hk a3 e3
  have nL2 := ed_d hk a3 e3
  have nR := ed_b hk e1 b3
  have nR2 := ed_d hk e1 b3
  have ix := ed_assoc_x e1 e2 e3
  have iy := ed_assoc_y e1 e2 e3
  dsimp only at *
  apply pt_ext
  · show addX k (addX k (x1, y1) (x2, y2), addY k (x1, y1) (x2, y2)) (x3, y3) = addX k (x1, y1) (addX k (x2, y2) (x3, y3), addY k (x2, y2) (x3, y3))
    generalize addX k (addX k (x1, y1) (x2, y2), addY k (x1, y1) (x2, y2)) (x3, y3) = xl at *
    generalize addX k (x1, y1) (addX k (x2, y2) (x3, y3), addY k (x2, y2) (x3, y3)) = xr at *
    clear c2 d2 nL2 nR2 iy
    generalize addX k (x1, y1) (x2, y2) = X at *
    generalize addY k (x1, y1) (x2, y2) = Y at *
    generalize addX k (x2, y2) (x3, y3) = X' at *
    generalize addY k (x2, y2) (x3, y3) = Y' at *
    rw [← a1, ← a2, ← b1, ← b2] at ix
    generalize 1 + k*x1*x2*y1*y2 = b at *
    generalize 1 - k*x1*x2*y1*y2 = d at *
    generalize 1 + k*x2*x3*y2*y3 = B at *
    generalize 1 - k*x2*x3*y2*y3 = D at *
    refine assoc_gen (g := 1) (by decide +kernel) (nz_mul (nz_mul nb nd) nL) (nz_mul (nz_mul nB nD) nR) rfl rfl ?_
    rw [show b*d*(1 + k*X*x3*Y*y3)*xl = b*d*((1 + k*X*x3*Y*y3)*xl) by grobner, c1, show B*D*(1 + k*x1*X'*y1*Y')*xr = B*D*((1 + k*x1*X'*y1*Y')*xr) by grobner, d1]
    have l1 : (b*X*d*y3 + d*Y*b*x3) = b*d*(X*y3 + Y*x3) := by grobner
    have l2 : (b*d + k*((b*X)*(d*Y))*(x3*y3)) = b*d*(1 + k*X*x3*Y*y3) := by grobner
    have l3 : (x1*((D*Y')*B) + y1*((B*X')*D)) = B*D*(x1*Y' + y1*X') := by grobner
    have l4 : (B*D + k*((B*X')*(D*Y'))*(x1*y1)) = B*D*(1 + k*x1*X'*y1*Y') := by grobner
    rw [l1, l2, l3, l4] at ix
    exact ix
  · show addY k (addX k (x1, y1) (x2, y2), addY k (x1, y1) (x2, y2)) (x3, y3) = addY k (x1, y1) (addX k (x2, y2) (x3, y3), addY k (x2, y2) (x3, y3))
    generalize addY k (addX k (x1, y1) (x2, y2), addY k (x1, y1) (x2, y2)) (x3, y3) = xl at *
    generalize addY k (x1, y1) (addX k (x2, y2) (x3, y3), addY k (x2, y2) (x3, y3)) = xr at *
    clear c1 d1 nL nR ix
    generalize addX k (x1, y1) (x2, y2) = X at *
    generalize addY k (x1, y1) (x2, y2) = Y at *
    generalize addX k (x2, y2) (x3, y3) = X' at *
    generalize addY k (x2, y2) (x3, y3) = Y' at *
    rw [← a1, ← a2, ← b1, ← b2] at iy
    generalize 1 + k*x1*x2*y1*y2 = b at *
    generalize 1 - k*x1*x2*y1*y2 = d at *
    generalize 1 + k*x2*x3*y2*y3 = B at *
    generalize 1 - k*x2*x3*y2*y3 = D at *
    refine assoc_gen (g := 1) (by decide +kernel) (nz_mul (nz_mul nb nd) nL2) (nz_mul (nz_mul nB nD) nR2) rfl rfl ?_
    rw [show b*d*(1 - k*X*x3*Y*y3)*xl = b*d*((1 - k*X*x3*Y*y3)*xl) by grobner, c2, show B*D*(1 - k*x1*X'*y1*Y')*xr = B*D*((1 - k*x1*X'*y1*Y')*xr) by grobner, d2]
    have l1 : (d*Y*b*y3 - b*X*d*x3) = b*d*(Y*y3 - X*x3) := by grobner
    have l2 : (b*d - k*((b*X)*(d*Y))*(x3*y3)) = b*d*(1 - k*X*x3*Y*y3) := by grobner
    have l3 : (y1*((D*Y')*B) - x1*((B*X')*D)) = B*D*(y1*Y' - x1*X') := by grobner
    have l4 : (B*D - k*((B*X')*(D*Y'))*(x1*y1)) = B*D*(1 - k*x1*X'*y1*Y') := by grobner
    rw [l1, l2, l3, l4] at iy
    exact iy
def EG {k : F} (hk : NS k) : CM (Pt k) := ⟨padd hk, pone k, padd_comm hk, padd_assoc hk, padd_one hk⟩
def pneg {k : F} (P : Pt k) : Pt k := ⟨(-P.1.1, P.1.2), by have := P.2; unfold On at *; dsimp only; grind⟩
theorem padd_neg {k : F} (hk : NS k) (P : Pt k) : padd hk P (pneg P) = pone k := by
  obtain ⟨⟨x, y⟩, e⟩ := P
  have h1 := addX_eq hk e (pneg ⟨(x, y), e⟩).2
  have h2 := addY_eq hk e (pneg ⟨(x, y), e⟩).2
  have n1 := ed_b hk e (pneg ⟨(x, y), e⟩).2
  have n2 := ed_d hk e (pneg ⟨(x, y), e⟩).2
  have q1 : (pneg ⟨(x, y), e⟩ : Pt k).1.1 = -x := rfl
  have q2 : (pneg ⟨(x, y), e⟩ : Pt k).1.2 = y := rfl
  rw [q1, q2] at h1 h2
  dsimp only at *
  have e : x*x + y*y = 1 + k*(x*x)*(y*y) := e
  apply pt_ext
  · show addX k (x, y) (pneg ⟨(x, y), e⟩).1 = 0
    refine f_cancel n1 ?_
    rw [q1, q2, h1]
    grobner
  · show addY k (x, y) (pneg ⟨(x, y), e⟩).1 = 1
    refine f_cancel n2 ?_
    rw [q1, q2, h2]
    grobner
theorem padd_cancel {k : F} (hk : NS k) (g x y : Pt k) (h : padd hk g x = padd hk g y) : x = y := by
  have h2 : padd hk (padd hk (pneg g) g) x = padd hk (padd hk (pneg g) g) y := by rw [padd_assoc, h, ← padd_assoc]
  rw [padd_comm hk (pneg g) g, padd_neg, padd_one, padd_one] at h2
  exact h2
theorem uniq {α : Type} [DecidableEq α] : ∀ l : List α, ∃ m : List α, m.Nodup ∧ (∀ x, x ∈ m ↔ x ∈ l) ∧ m.length ≤ l.length
  | [] => ⟨[], List.nodup_nil, fun _ => Iff.rfl, Nat.le_refl _⟩
  | x :: l => by
    obtain ⟨m, h1, h2, h3⟩ := uniq l
    by_cases h : x ∈ l
    · refine ⟨m, h1, fun y => ?_, by rw [List.length_cons]; omega⟩
      rw [h2]
      constructor
      · exact fun hy => List.mem_cons_of_mem _ hy
      · intro hy
        rcases List.mem_cons.1 hy with rfl | hy
        · exact h
        · exact hy
    · refine ⟨x :: m, List.nodup_cons.2 ⟨fun hx => h ((h2 x).1 hx), h1⟩, fun y => ?_, by rw [List.length_cons, List.length_cons]; omega⟩
      rw [List.mem_cons, List.mem_cons, h2]
theorem sq_eq {a b : F} (h : a * a = b * b) : a = b ∨ a = -b := by
  have : (a - b) * (a + b) = 0 := by grobner
  rcases f_dvd this with h | h
  · left; grobner
  · right; grobner
theorem ky_nz {k y : F} (hk : NS k) : 1 - k*(y*y) ≠ 0 := fun h => by
  have hy : y ≠ 0 := fun e => by
    subst e
    have : (1 : F) = 0 := by grobner
    exact absurd this (by decide +kernel)
  refine hk.not_sq (sq_div hy ⟨1, ?_⟩)
  grobner
theorem ng (a : F) : - -a = a := by grobner
theorem same_x {k x y z : F} (h0 : x*x + y*y = 1 + k*(x*x)*(y*y)) (h2 : z*z + y*y = 1 + k*(z*z)*(y*y)) : (1 - k*(y*y)) * (x*x) = (1 - k*(y*y)) * (z*z) := by grobner
theorem pts_two {k : F} (hk : NS k) (P : Pt k) (x : F) (h1 : On k (x, P.1.2)) : P ∈ [⟨(x, P.1.2), h1⟩, pneg ⟨(x, P.1.2), h1⟩] := by
  have h0 := h1
  have h2 := P.2
  unfold On at h0 h2
  dsimp only at h0 h2
  rcases sq_eq (f_cancel (ky_nz hk) (same_x h0 h2)) with h | h
  · refine List.mem_cons.2 (.inl (pt_ext h.symm rfl))
  · refine List.mem_cons_of_mem _ (List.mem_cons.2 (.inl (pt_ext ?_ rfl)))
    show P.1.1 = -x
    rw [h]; exact (ng _).symm
/-- at most two points to a second coordinate -/
theorem ex_ptsY {k : F} (hk : NS k) (y : F) : ∃ l : List (Pt k), l.length ≤ 2 ∧ ∀ P : Pt k, P.1.2 = y → P ∈ l := by
  by_cases hx : ∃ x, On k (x, y)
  · obtain ⟨x, h1⟩ := hx
    refine ⟨[⟨(x, y), h1⟩, pneg ⟨(x, y), h1⟩], Nat.le_refl _, fun P hP => ?_⟩
    subst hP
    exact pts_two hk P x h1
  · exact ⟨[], Nat.zero_le _, fun P hP => absurd ⟨P.1.1, by subst hP; exact P.2⟩ hx⟩
theorem ex_pts {k : F} (hk : NS k) : ∀ U : List F, ∃ l : List (Pt k), l.length ≤ 2 * U.length ∧ ∀ P : Pt k, P.1.2 ∈ U → P ∈ l
  | [] => ⟨[], Nat.zero_le _, fun P hP => by cases hP⟩
  | y :: U => by
    obtain ⟨l, h1, h2⟩ := ex_pts hk U
    obtain ⟨m, h3, h4⟩ := ex_ptsY hk y
    refine ⟨m ++ l, by rw [List.length_append, List.length_cons]; omega, fun P hP => ?_⟩
    rcases List.mem_cons.1 hP with h | h
    · exact List.mem_append.2 (.inl (h4 P h))
    · exact List.mem_append.2 (.inr (h2 P h))
theorem ex_univ (n : Nat) : ∃ U : List (Fin n), (∀ x, x ∈ U) ∧ U.length = n := ⟨List.finRange n, List.mem_finRange, List.length_finRange⟩
theorem dvd_two : ∀ (n c : Nat), c ∣ 2 ^ n → ∃ i, i ≤ n ∧ c = 2 ^ i
  | 0, c, h => ⟨0, Nat.le_refl _, by rw [Nat.pow_zero] at h; exact Nat.dvd_one.1 h⟩
  | n + 1, c, h => by
    by_cases h2 : 2 ∣ c
    · obtain ⟨d, rfl⟩ := h2
      rw [Nat.pow_succ, Nat.mul_comm] at h
      have h := Nat.dvd_of_mul_dvd_mul_right (by decide : 0 < 2) (show d * 2 ∣ 2 ^ n * 2 by first | exact h | (rw [Nat.mul_comm 2] at h; exact h))
      obtain ⟨i, hi, rfl⟩ := dvd_two n d h
      exact ⟨i + 1, by omega, by rw [Nat.pow_succ, Nat.mul_comm]⟩
    · have hc : Nat.Coprime c 2 := by
        have : Pr 2 := pr_small 2 1 (by decide)
        exact (this.cop h2).symm
      rw [Nat.pow_succ] at h
      obtain ⟨i, hi, e⟩ := dvd_two n c (hc.dvd_of_dvd_mul_right h)
      exact ⟨i, by omega, e⟩
/-- a number of points, at most twice the prime, annuls every point -/
theorem ex_order {k : F} (hk : NS k) : ∃ N, 0 < N ∧ N ≤ 2 * PP ∧ ∀ P : Pt k, (EG hk).pw P N = pone k := by
  haveI : DecidableEq (Pt k) := fun a b => Classical.propDecidable _
  obtain ⟨U, hU, hUl⟩ := ex_univ PP
  obtain ⟨l, hl, hl2⟩ := ex_pts hk U
  obtain ⟨m, h1, h2, h3⟩ := uniq l
  have hall : ∀ P : Pt k, P ∈ m := fun P => (h2 P).2 (hl2 P (hU _))
  rw [hUl] at hl
  refine ⟨m.length, List.length_pos_of_mem (hall (pone k)), Nat.le_trans h3 hl, fun P => ?_⟩
  exact (EG hk).lagrange m h1 (hall _) (fun x _ y _ => hall _) (fun g _ x y h => padd_cancel hk g x y h) P (hall P)
/-- a point whose order is exactly c l -/
theorem ord_dvd {α : Type} (G : CM α) (R : α) (l N j : Nat) (hl : Pr l) (hl2 : 2 < l) (h1 : G.pw R (2 ^ (j + 1) * l) = G.e) (h2 : G.pw R (2 ^ j * l) ≠ G.e) (h3 : G.pw R (2 ^ (j + 1)) ≠ G.e) (hN : G.pw R N = G.e) : 2 ^ (j + 1) * l ∣ N := by
  have hg := G.pw_gcd R _ _ h1 hN
  have hd := Nat.gcd_dvd_left (2 ^ (j + 1) * l) N
  have hdN := Nat.gcd_dvd_right (2 ^ (j + 1) * l) N
  generalize (2 ^ (j + 1) * l).gcd N = g at *
  have up : ∀ m, g ∣ m → G.pw R m = G.e := fun m ⟨c, hc⟩ => by rw [hc, G.pw_mul, hg, G.pw_one]
  have hlg : l ∣ g := Classical.byContradiction fun hn => by
    have hc : Nat.Coprime g l := (hl.cop hn).symm
    exact h3 (up _ (hc.dvd_of_dvd_mul_right hd))
  obtain ⟨c, rfl⟩ := hlg
  have hl0 : 0 < l := by omega
  have hc : c ∣ 2 ^ (j + 1) := by
    rw [Nat.mul_comm (2 ^ (j + 1))] at hd
    exact Nat.dvd_of_mul_dvd_mul_left hl0 hd
  obtain ⟨i, hi, rfl⟩ := dvd_two (j + 1) c hc
  by_cases e : i = j + 1
  · subst e; rw [Nat.mul_comm]; exact hdN
  · exfalso
    refine h2 (up _ ?_)
    rw [Nat.mul_comm]
    exact Nat.mul_dvd_mul (Nat.pow_dvd_pow 2 (by omega)) (Nat.dvd_refl l)
/-- (X : Z) is the number of a point whose second coordinate is y -/
def Rep (σ y X Z : F) : Prop := ∃ m : F, m ≠ 0 ∧ X = σ*m*(1+y) ∧ Z = m*(1-y)
theorem two_nz : (2 : F) ≠ 0 := by decide +kernel
theorem half (a : F) : ∃ b : F, 2 * b = a := ⟨a * finv 2, by have := f_inv two_nz; grobner⟩
theorem rep_aux {σ y X Z m : F} (hs : σ*σ = 1) (hm : 2 * m = σ*X + Z) (h : σ*X*(1-y) = Z*(1+y)) : 2 * X = 2 * (σ*m*(1+y)) ∧ 2 * Z = 2 * (m*(1-y)) := by
  constructor
  · have : 2 * (σ*m*(1+y)) = σ*(2*m)*(1+y) := by grobner
    rw [this, hm]
    grobner
  · have : 2 * (m*(1-y)) = (2*m)*(1-y) := by grobner
    rw [this, hm]
    grobner
theorem rep_of {σ y X Z : F} (hs : σ*σ = 1) (h : σ*X*(1-y) = Z*(1+y)) (hn : ¬ (X = 0 ∧ Z = 0)) : Rep σ y X Z := by
  obtain ⟨m, hm⟩ := half (σ*X + Z)
  obtain ⟨h1, h2⟩ := rep_aux hs hm h
  have h1 := f_cancel two_nz h1
  have h2 := f_cancel two_nz h2
  refine ⟨m, fun e => hn ?_, h1, h2⟩
  subst e
  exact ⟨by rw [h1]; grobner, by rw [h2]; grobner⟩
theorem s_nz {σ : F} (hs : σ*σ = 1) : σ ≠ 0 := fun e => by
  subst e
  have : (0 : F) = 1 := by rw [← hs]; grobner
  exact absurd this (by decide +kernel)
theorem sq_nz {a : F} (h : a * a = 0) : a = 0 := (f_dvd h).elim id id
/-- doubling: x, y a point, its double's second coordinate is w -/
theorem dbl_aux {k c x y : F} (hc : k*c = c - 4) (e : x*x + y*y = 1 + k*(x*x)*(y*y)) : (1 - x*x)*(c*(1-y*y) + 4*(y*y)) = 4*(y*y) := by grobner
theorem w1a {k x y : F} (e : x*x + y*y = 1 + k*(x*x)*(y*y)) : 1 - k*x*x*y*y - (y*y - x*x) = 2*(1-y*y) := by grobner
theorem w2a {k x y : F} (e : x*x + y*y = 1 + k*(x*x)*(y*y)) : 1 - k*x*x*y*y + (y*y - x*x) = 2*(1-x*x) := by grobner
theorem dbl_rel {σ k c x y w m a b : F} (hs : σ*σ = 1) (hA : c = σ*486662 + 2) (hc : k*c = c - 4) (e : x*x + y*y = 1 + k*(x*x)*(y*y)) (hd : 1 - k*x*x*y*y ≠ 0) (hw : (1 - k*x*x*y*y)*w = y*y - x*x) (ha : a = σ*m*(1+y)) (hb : b = m*(1-y)) :
    σ*((a+b)*(a+b)*((a-b)*(a-b)))*(1-w) = (((a+b)*(a+b)-(a-b)*(a-b))*((a+b)*(a+b)+((a+b)*(a+b)-(a-b)*(a-b))*121665))*(1+w) := by
  have h0 := dbl_aux hc e
  have hab : (a+b)*(a-b) = 4*(m*m)*y := by subst ha; subst hb; grobner
  have h4 : (a+b)*(a+b)-(a-b)*(a-b) = 4*σ*(m*m)*(1-y*y) := by subst ha; subst hb; grobner
  have h5 : (a+b)*(a+b) = m*m*((2+2*(y*y))+2*σ*(1-y*y)) := by subst ha; subst hb; grobner
  have h6 : (a+b)*(a+b)*((a-b)*(a-b)) = 16*(m*m)*(m*m)*(y*y) := by
    have : (a+b)*(a+b)*((a-b)*(a-b)) = ((a+b)*(a-b))*((a+b)*(a-b)) := by grobner
    rw [this, hab]; grobner
  have h7 : m*m*((2+2*(y*y))+2*σ*(1-y*y)) + 4*σ*(m*m)*(1-y*y)*121665 = m*m*(c*(1-y*y)+4*(y*y)) := by subst hA; grobner
  rw [h6, h4, h5, h7]
  refine f_cancel hd ?_
  have w1 : (1 - k*x*x*y*y)*(1 - w) = 2*(1-y*y) := by
    have : (1 - k*x*x*y*y)*(1 - w) = (1 - k*x*x*y*y) - (1 - k*x*x*y*y)*w := by grobner
    rw [this, hw]; exact w1a e
  have w2 : (1 - k*x*x*y*y)*(1 + w) = 2*(1-x*x) := by
    have : (1 - k*x*x*y*y)*(1 + w) = (1 - k*x*x*y*y) + (1 - k*x*x*y*y)*w := by grobner
    rw [this, hw]; exact w2a e
  have l1 : (1 - k*x*x*y*y)*(σ*(16*(m*m)*(m*m)*(y*y))*(1-w)) = σ*(16*(m*m)*(m*m)*(y*y))*((1 - k*x*x*y*y)*(1-w)) := by grobner
  have l2 : (1 - k*x*x*y*y)*(4*σ*(m*m)*(1-y*y)*(m*m*(c*(1-y*y)+4*(y*y)))*(1+w)) = 4*σ*(m*m)*(1-y*y)*(m*m*(c*(1-y*y)+4*(y*y)))*((1 - k*x*x*y*y)*(1+w)) := by grobner
  rw [l1, l2, w1, w2]
  have l3 : 4*σ*(m*m)*(1-y*y)*(m*m*(c*(1-y*y)+4*(y*y)))*(2*(1-x*x)) = 8*σ*(m*m)*(m*m)*(1-y*y)*((1-x*x)*(c*(1-y*y)+4*(y*y))) := by grobner
  rw [l3, h0]
  grobner
theorem dbl_nz {σ c y m a b : F} (hs : σ*σ = 1) (hA : c = σ*486662 + 2) (hc0 : c ≠ 0) (hm : m ≠ 0) (ha : a = σ*m*(1+y)) (hb : b = m*(1-y)) :
    ¬ ((a+b)*(a+b)*((a-b)*(a-b)) = 0 ∧ ((a+b)*(a+b)-(a-b)*(a-b))*((a+b)*(a+b)+((a+b)*(a+b)-(a-b)*(a-b))*121665) = 0) := by
  intro ⟨h1, h2⟩
  have hab : (a+b)*(a-b) = 4*(m*m)*y := by subst ha; subst hb; grobner
  have h6 : ((a+b)*(a-b))*((a+b)*(a-b)) = 0 := by rw [← h1]; grobner
  have h6 := sq_nz h6
  rw [hab] at h6
  have hy : y = 0 := by
    rcases f_dvd h6 with h | h
    · rcases f_dvd h with h | h
      · exact absurd h (by decide +kernel)
      · exact absurd (sq_nz h) hm
    · exact h
  subst hy
  have h4 : (a+b)*(a+b)-(a-b)*(a-b) = 4*σ*(m*m) := by subst ha; subst hb; grobner
  have h5 : (a+b)*(a+b) = m*m*(2+2*σ) := by subst ha; subst hb; grobner
  have h7 : m*m*(2+2*σ) + 4*σ*(m*m)*121665 = m*m*c := by subst hA; grobner
  rw [h4, h5, h7] at h2
  rcases f_dvd h2 with h | h
  · rcases f_dvd h with h | h
    · rcases f_dvd h with h | h
      · exact absurd h (by decide +kernel)
      · exact s_nz hs h
    · exact hm (sq_nz h)
  · rcases f_dvd h with h | h
    · exact hm (sq_nz h)
    · exact hc0 h
theorem ad_p1 {σ y1 y2 m1 m2 : F} (hs : σ*σ = 1) : (σ*m2*(1+y2) - m2*(1-y2))*(σ*m1*(1+y1) + m1*(1-y1)) + (σ*m2*(1+y2) + m2*(1-y2))*(σ*m1*(1+y1) - m1*(1-y1)) = 4*(m1*m2)*(y1+y2) := by
  have : (σ*m2*(1+y2) - m2*(1-y2))*(σ*m1*(1+y1) + m1*(1-y1)) + (σ*m2*(1+y2) + m2*(1-y2))*(σ*m1*(1+y1) - m1*(1-y1)) = 2*(m1*m2)*((σ*σ)*((1+y1)*(1+y2)) - (1-y1)*(1-y2)) := by grobner
  rw [this, hs]
  grobner
theorem ad_p2 {σ y1 y2 m1 m2 : F} : (σ*m2*(1+y2) - m2*(1-y2))*(σ*m1*(1+y1) + m1*(1-y1)) - (σ*m2*(1+y2) + m2*(1-y2))*(σ*m1*(1+y1) - m1*(1-y1)) = 4*σ*(m1*m2)*(y2-y1) := by grobner
theorem ad_i {B D w y0 y1 y2 : F} (i : (y1 + y2)*(y1 + y2)*((D - D*w)*(B - B*y0)) = (y2 - y1)*(y2 - y1)*((D + D*w)*(B + B*y0))) : B*D*((y1+y2)*(y1+y2)*((1-w)*(1-y0))) = B*D*((y2-y1)*(y2-y1)*((1+w)*(1+y0))) := by
  have e1 : B*D*((y1+y2)*(y1+y2)*((1-w)*(1-y0))) = (y1 + y2)*(y1 + y2)*((D - D*w)*(B - B*y0)) := by grobner
  rw [e1, i]
  grobner
/-- sums whose difference is known -/
theorem add_rel {σ k x1 y1 x2 y2 y0 w u m1 m2 a b c d : F} (hs : σ*σ = 1) (e1 : x1*x1 + y1*y1 = 1 + k*(x1*x1)*(y1*y1)) (e2 : x2*x2 + y2*y2 = 1 + k*(x2*x2)*(y2*y2)) (nb : 1 + k*x1*x2*y1*y2 ≠ 0) (nd : 1 - k*x1*x2*y1*y2 ≠ 0)
    (hw : (1 - k*x1*x2*y1*y2)*w = y1*y2 - x1*x2) (h0 : (1 + k*x1*x2*y1*y2)*y0 = y1*y2 + x1*x2) (hu : u*(1-y0) = σ*(1+y0)) (n0 : 1 - y0 ≠ 0)
    (ha : a = σ*m1*(1+y1)) (hb : b = m1*(1-y1)) (hc : c = σ*m2*(1+y2)) (hd : d = m2*(1-y2)) :
    σ*(((c-d)*(a+b)+(c+d)*(a-b))*((c-d)*(a+b)+(c+d)*(a-b)))*(1-w) = (u*(((c-d)*(a+b)-(c+d)*(a-b))*((c-d)*(a+b)-(c+d)*(a-b))))*(1+w) := by
  have i := ed_diff e1 e2
  have p1 : (c-d)*(a+b)+(c+d)*(a-b) = 4*(m1*m2)*(y1+y2) := by rw [ha, hb, hc, hd]; exact ad_p1 hs
  have p2 : (c-d)*(a+b)-(c+d)*(a-b) = 4*σ*(m1*m2)*(y2-y1) := by rw [ha, hb, hc, hd]; exact ad_p2
  rw [p1, p2]
  refine f_cancel (nz_mul (nz_mul nb nd) n0) ?_
  generalize 1 + k*x1*x2*y1*y2 = B at *
  generalize 1 - k*x1*x2*y1*y2 = D at *
  rw [← hw, ← h0] at i
  have i := ad_i i
  have i := f_cancel (nz_mul nb nd) i
  have l1 : B*D*(1-y0)*(σ*(4*(m1*m2)*(y1+y2)*(4*(m1*m2)*(y1+y2)))*(1-w)) = 16*σ*B*D*(m1*m2)*(m1*m2)*((y1+y2)*(y1+y2)*((1-w)*(1-y0))) := by grobner
  have l2 : B*D*(1-y0)*(u*(4*σ*(m1*m2)*(y2-y1)*(4*σ*(m1*m2)*(y2-y1)))*(1+w)) = 16*(σ*σ)*B*D*(m1*m2)*(m1*m2)*((y2-y1)*(y2-y1)*(1+w))*(u*(1-y0)) := by grobner
  rw [l1, l2, i, hu, hs]
  grobner
theorem add_nz {σ k x1 y1 x2 y2 y0 u m1 m2 a b c d : F} (hs : σ*σ = 1) (e1 : x1*x1 + y1*y1 = 1 + k*(x1*x1)*(y1*y1)) (e2 : x2*x2 + y2*y2 = 1 + k*(x2*x2)*(y2*y2))
    (h0 : (1 + k*x1*x2*y1*y2)*y0 = y1*y2 + x1*x2) (n0 : 1 - y0 ≠ 0) (n1 : 1 + y0 ≠ 0) (hu0 : u ≠ 0) (hm1 : m1 ≠ 0) (hm2 : m2 ≠ 0)
    (ha : a = σ*m1*(1+y1)) (hb : b = m1*(1-y1)) (hc : c = σ*m2*(1+y2)) (hd : d = m2*(1-y2)) :
    ¬ (((c-d)*(a+b)+(c+d)*(a-b))*((c-d)*(a+b)+(c+d)*(a-b)) = 0 ∧ u*(((c-d)*(a+b)-(c+d)*(a-b))*((c-d)*(a+b)-(c+d)*(a-b))) = 0) := by
  intro ⟨h1, h2⟩
  have p1 : (c-d)*(a+b)+(c+d)*(a-b) = 4*(m1*m2)*(y1+y2) := by rw [ha, hb, hc, hd]; exact ad_p1 hs
  have p2 : (c-d)*(a+b)-(c+d)*(a-b) = 4*σ*(m1*m2)*(y2-y1) := by rw [ha, hb, hc, hd]; exact ad_p2
  have h1 := sq_nz h1
  have h2 := sq_nz ((f_dvd h2).resolve_left hu0)
  rw [p1] at h1
  rw [p2] at h2
  have n4 : (4 : F) ≠ 0 := by decide +kernel
  have h1 := (f_dvd h1).resolve_left (nz_mul n4 (nz_mul hm1 hm2))
  have h2 := (f_dvd h2).resolve_left (nz_mul (nz_mul n4 (s_nz hs)) (nz_mul hm1 hm2))
  have q1 : 2 * y1 = 2 * 0 := by grobner
  have q2 : 2 * y2 = 2 * 0 := by grobner
  have q1 := f_cancel two_nz q1
  have q2 := f_cancel two_nz q2
  subst q1
  subst q2
  have x1s : x1*x1 = 1 := by grobner
  have x2s : x2*x2 = 1 := by grobner
  have y0s : y0 = x1*x2 := by grobner
  have : (1 - y0)*(1 + y0) = 0 := by
    have : (1 - y0)*(1 + y0) = 1 - (x1*x1)*(x2*x2) := by rw [y0s]; grobner
    rw [this, x1s, x2s]; grobner
  exact (f_dvd this).elim n0 n1
end Go.Proofs.Ytejphmgpndgliaa.GA
