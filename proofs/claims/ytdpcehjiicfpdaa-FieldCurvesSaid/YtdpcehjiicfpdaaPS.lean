/- Nothing of the statement is proved here: this text lays generic laws: PS; no conditions. -/
import Derived.Test.YtdpcehjiicfpdaaPR
set_option linter.all false
set_option autoImplicit false
set_option maxRecDepth 100000
set_option exponentiation.threshold 5000
namespace Go.PR
theorem pr_239 : Prime 239 := prime_of_trial (k := 16) (by decide +kernel)
theorem pr_101 : Prime 101 := prime_of_trial (k := 11) (by decide +kernel)
theorem pr_96557 : Prime 96557 := prime_of_cert (qs := [(239, 2), (101, 2)]) (by decide +kernel) (by
  intro x hx
  simp only [List.mem_cons, List.not_mem_nil, or_false] at hx
  rcases hx with rfl | rfl
  · exact pr_239
  · exact pr_101)
theorem pr_103 : Prime 103 := prime_of_trial (k := 11) (by decide +kernel)
theorem pr_5 : Prime 5 := prime_of_trial (k := 3) (by decide +kernel)
theorem pr_41201 : Prime 41201 := prime_of_cert (qs := [(103, 2), (5, 3)]) (by decide +kernel) (by
  intro x hx
  simp only [List.mem_cons, List.not_mem_nil, or_false] at hx
  rcases hx with rfl | rfl
  · exact pr_103
  · exact pr_5)
theorem pr_4423 : Prime 4423 := prime_of_trial (k := 67) (by decide +kernel)
theorem pr_2657 : Prime 2657 := prime_of_trial (k := 52) (by decide +kernel)
theorem pr_1627 : Prime 1627 := prime_of_trial (k := 41) (by decide +kernel)
theorem pr_255515944373312847190720520512484175977 : Prime 255515944373312847190720520512484175977 := prime_of_cert (qs := [(96557, 2), (41201, 2), (4423, 2), (2657, 2), (1627, 2)]) (by decide +kernel) (by
  intro x hx
  simp only [List.mem_cons, List.not_mem_nil, or_false] at hx
  rcases hx with rfl | rfl | rfl | rfl | rfl
  · exact pr_96557
  · exact pr_41201
  · exact pr_4423
  · exact pr_2657
  · exact pr_1627)
theorem pr_205115282021455665897114700593932402728804164701536103180137503955397371 : Prime 205115282021455665897114700593932402728804164701536103180137503955397371 := prime_of_cert (qs := [(255515944373312847190720520512484175977, 2)]) (by decide +kernel) (by
  intro x hx
  simp only [List.mem_cons, List.not_mem_nil, or_false] at hx
  rcases hx with rfl
  · exact pr_255515944373312847190720520512484175977)
theorem prime_curve : Prime 115792089237316195423570985008687907853269984665640564039457584007908834671663 := prime_of_cert (qs := [(205115282021455665897114700593932402728804164701536103180137503955397371, 2)]) (by decide +kernel) (by
  intro x hx
  simp only [List.mem_cons, List.not_mem_nil, or_false] at hx
  rcases hx with rfl
  · exact pr_205115282021455665897114700593932402728804164701536103180137503955397371)
theorem pr_1871 : Prime 1871 := prime_of_trial (k := 44) (by decide +kernel)
theorem pr_1627771 : Prime 1627771 := prime_of_cert (qs := [(1871, 2)]) (by decide +kernel) (by
  intro x hx
  simp only [List.mem_cons, List.not_mem_nil, or_false] at hx
  rcases hx with rfl
  · exact pr_1871)
theorem pr_297159362677 : Prime 297159362677 := prime_of_cert (qs := [(1627771, 2)]) (by decide +kernel) (by
  intro x hx
  simp only [List.mem_cons, List.not_mem_nil, or_false] at hx
  rcases hx with rfl
  · exact pr_1627771)
theorem pr_1409 : Prime 1409 := prime_of_trial (k := 38) (by decide +kernel)
theorem pr_28181 : Prime 28181 := prime_of_cert (qs := [(1409, 2)]) (by decide +kernel) (by
  intro x hx
  simp only [List.mem_cons, List.not_mem_nil, or_false] at hx
  rcases hx with rfl
  · exact pr_1409)
theorem pr_545358713 : Prime 545358713 := prime_of_cert (qs := [(28181, 2)]) (by decide +kernel) (by
  intro x hx
  simp only [List.mem_cons, List.not_mem_nil, or_false] at hx
  rcases hx with rfl
  · exact pr_28181)
theorem pr_29047611873442575647497758179 : Prime 29047611873442575647497758179 := prime_of_cert (qs := [(297159362677, 2), (545358713, 2)]) (by decide +kernel) (by
  intro x hx
  simp only [List.mem_cons, List.not_mem_nil, or_false] at hx
  rcases hx with rfl | rfl
  · exact pr_297159362677
  · exact pr_545358713)
theorem pr_341948486974166000522343609283189 : Prime 341948486974166000522343609283189 := prime_of_cert (qs := [(29047611873442575647497758179, 2)]) (by decide +kernel) (by
  intro x hx
  simp only [List.mem_cons, List.not_mem_nil, or_false] at hx
  rcases hx with rfl
  · exact pr_29047611873442575647497758179)
theorem pr_113 : Prime 113 := prime_of_trial (k := 11) (by decide +kernel)
theorem pr_19 : Prime 19 := prime_of_trial (k := 5) (by decide +kernel)
theorem pr_120233 : Prime 120233 := prime_of_cert (qs := [(113, 2), (19, 2)]) (by decide +kernel) (by
  intro x hx
  simp only [List.mem_cons, List.not_mem_nil, or_false] at hx
  rcases hx with rfl | rfl
  · exact pr_113
  · exact pr_19)
theorem pr_4051 : Prime 4051 := prime_of_trial (k := 64) (by decide +kernel)
theorem pr_59 : Prime 59 := prime_of_trial (k := 8) (by decide +kernel)
theorem pr_174723607534414371449 : Prime 174723607534414371449 := prime_of_cert (qs := [(120233, 2), (4051, 2), (59, 2)]) (by decide +kernel) (by
  intro x hx
  simp only [List.mem_cons, List.not_mem_nil, or_false] at hx
  rcases hx with rfl | rfl | rfl
  · exact pr_120233
  · exact pr_4051
  · exact pr_59)
theorem prime_order : Prime 115792089237316195423570985008687907852837564279074904382605163141518161494337 := prime_of_cert (qs := [(341948486974166000522343609283189, 2), (174723607534414371449, 2)]) (by decide +kernel) (by
  intro x hx
  simp only [List.mem_cons, List.not_mem_nil, or_false] at hx
  rcases hx with rfl | rfl
  · exact pr_341948486974166000522343609283189
  · exact pr_174723607534414371449)
theorem pr_3557 : Prime 3557 := prime_of_trial (k := 60) (by decide +kernel)
theorem pr_911 : Prime 911 := prime_of_trial (k := 31) (by decide +kernel)
theorem pr_1263766531 : Prime 1263766531 := prime_of_cert (qs := [(3557, 2), (911, 2)]) (by decide +kernel) (by
  intro x hx
  simp only [List.mem_cons, List.not_mem_nil, or_false] at hx
  rcases hx with rfl | rfl
  · exact pr_3557
  · exact pr_911)
theorem pr_35385462869 : Prime 35385462869 := prime_of_cert (qs := [(1263766531, 2)]) (by decide +kernel) (by
  intro x hx
  simp only [List.mem_cons, List.not_mem_nil, or_false] at hx
  rcases hx with rfl
  · exact pr_1263766531)
theorem pr_2480874801745591 : Prime 2480874801745591 := prime_of_cert (qs := [(35385462869, 2)]) (by decide +kernel) (by
  intro x hx
  simp only [List.mem_cons, List.not_mem_nil, or_false] at hx
  rcases hx with rfl
  · exact pr_35385462869)
theorem pr_271 : Prime 271 := prime_of_trial (k := 17) (by decide +kernel)
theorem pr_1853641 : Prime 1853641 := prime_of_cert (qs := [(271, 2), (19, 2)]) (by decide +kernel) (by
  intro x hx
  simp only [List.mem_cons, List.not_mem_nil, or_false] at hx
  rcases hx with rfl | rfl
  · exact pr_271
  · exact pr_19)
theorem pr_13427688667394608761327070753331941386769 : Prime 13427688667394608761327070753331941386769 := prime_of_cert (qs := [(2480874801745591, 2), (1853641, 2)]) (by decide +kernel) (by
  intro x hx
  simp only [List.mem_cons, List.not_mem_nil, or_false] at hx
  rcases hx with rfl | rfl
  · exact pr_2480874801745591
  · exact pr_1853641)
theorem prime_base : Prime 21888242871839275222246405745257275088696311157297823662689037894645226208583 := prime_of_cert (qs := [(13427688667394608761327070753331941386769, 2)]) (by decide +kernel) (by
  intro x hx
  simp only [List.mem_cons, List.not_mem_nil, or_false] at hx
  rcases hx with rfl
  · exact pr_13427688667394608761327070753331941386769)
end Go.PR
