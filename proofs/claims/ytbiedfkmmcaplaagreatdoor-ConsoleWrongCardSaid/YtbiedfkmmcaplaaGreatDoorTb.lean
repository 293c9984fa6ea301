/- Tables of the program. The table of types is right. The table of functions is right. The calls whose values are known ahead are right: words that are added and subtracted, and a float's bits. Sums by which damage is seen: plain law, no program in sight. The package crc at this program: half a byte,  -/
import Derived.Test.YtbiedfkmmcaplaaGreatDoorEd
import Derived.Test.YtbiedfkmmcaplaaGreatDoorProg
import Derived.Test.YtbiedfkmmcaplaaGreatDoorEe
import Derived.WalkKit
import Derived.Handy
import Derived.KernelRfl
import Derived.Laws.Bits64b
import Derived.Test.YtbiedfkmmcaplaaGreatDoorAb
import Derived.Laws.BitsAllLaws
import Derived.Test.YtbiedfkmmcaplaaGreatDoorRa
import Derived.Test.YtbiedfkmmcaplaaGreatDoorRe
set_option linter.all false
namespace Go.Proofs.Tryz
open Go.Proofs.Ex

noncomputable def tO (i d : TypeInfo) : TI := ⟨i.size, d.desc.isRow, i.zero.getD .nilIface, d.desc, i.bytes⟩
end Go.Proofs.Tryz
namespace Go.Proofs.Ex
def Tr.alt {α : Type} : List α → List α × List α
  | [] => ([], [])
  | x :: l => (x :: (alt l).2, (alt l).1)
noncomputable def Tr.ofL {α : Type} (n : Nat) : List α → Tr α :=
  Nat.rec (fun _ => .nil) (fun _ ih l => List.rec .nil (fun x l _ => .node (ih (Tr.alt l).1) (some x) (ih (Tr.alt l).2)) l) n
theorem Tr.alt_get {α : Type} : ∀ (l : List α) (i : Nat), (alt l).1[i]? = l[2 * i]? ∧ (alt l).2[i]? = l[2 * i + 1]?
  | [], i => by simp [alt]
  | x :: l, i => by
    have h := fun i => alt_get l i
    simp only [alt]
    refine ⟨?_, by rw [(h i).1]; simp⟩
    cases i with
    | zero => rfl
    | succ i => rw [List.getElem?_cons_succ, (h i).2, show 2 * (i + 1) = 2 * i + 1 + 1 by omega, List.getElem?_cons_succ]
theorem Tr.ofL_all {α : Type} {p : Nat → α → Prop} : ∀ (n : Nat) (l : List α) (a b : Nat), (∀ i x, l[i]? = some x → p (a * i + b) x) → Tr.AllAt p a b (Tr.ofL n l)
  | 0, _, _, _, _ => trivial
  | _ + 1, [], _, _, _ => trivial
  | n + 1, x :: l, a, b, h => by
    have hg := fun i => alt_get l i
    refine ⟨fun y e => by cases e; have := h 0 x rfl; rwa [Nat.mul_zero, Nat.zero_add] at this, ofL_all n _ _ _ fun i y e => ?_, ofL_all n _ _ _ fun i y e => ?_⟩
    · have := h (2 * i + 1) y (by rw [List.getElem?_cons_succ, ← (hg i).1]; exact e)
      rwa [show a * (2 * i + 1) + b = 2 * a * i + (a + b) by rw [Nat.mul_add, Nat.mul_one, ← Nat.mul_assoc, Nat.mul_comm a 2, Nat.add_assoc]] at this
    · have := h (2 * i + 1 + 1) y (by rw [List.getElem?_cons_succ, ← (hg i).2]; exact e)
      rwa [show a * (2 * i + 1 + 1) + b = 2 * a * i + (2 * a + b) by rw [Nat.mul_add, Nat.mul_add, ← Nat.mul_assoc, Nat.mul_comm a 2]; omega] at this
def LAll {α : Type} (p : Nat → α → Prop) : Nat → List α → Prop
  | _, [] => True
  | k, x :: l => p k x ∧ LAll p (k + 1) l
theorem LAll.app {α : Type} {p : Nat → α → Prop} {m : List α} : ∀ {l : List α} {k j : Nat}, LAll p k l → LAll p j m → k + l.length = j → LAll p k (l ++ m)
  | [], k, j, _, h, e => by simp at e; subst e; exact h
  | x :: l, k, j, h, h2, e => ⟨h.1, LAll.app h.2 h2 (by simp at e; omega)⟩
theorem LAll.get {α : Type} {p : Nat → α → Prop} : ∀ {l : List α} {k : Nat}, LAll p k l → ∀ i x, l[i]? = some x → p (1 * i + k) x
  | [], _, _, i, x, e => by simp at e
  | y :: l, k, h, 0, x, e => by cases e; rw [Nat.mul_zero, Nat.zero_add]; exact h.1
  | y :: l, k, h, i + 1, x, e => by
    have := LAll.get h.2 i x (by simpa using e)
    rwa [show 1 * i + (k + 1) = 1 * (i + 1) + k by omega] at this
end Go.Proofs.Ex
namespace Go.Proofs.Tryz
open Go.Proofs.Ex
noncomputable def xF0 : List Func := [f0, f1, f2, f3, f4, f5, f6, f7, f8, f9, f10, f11, f12, f13, f14, f15, f16, f17, f18, f19, f20, f21, f22, f23, f24, f25, f26, f27, f28, f29, f30, f31, f32, f33, f34, f35, f36, f37, f38, f39, f40, f41, f42, f43, f44, f45, f46, f47, f48, f49, f50, f51, f52, f53, f54, f55, f56, f57, f58, f59, f60, f61, f62, f63, f64, f65, f66, f67, f68, f69, f70, f71, f72, f73, f74, f75, f76, f77, f78, f79, f80, f81, f82, f83, f84, f85, f86, f87, f88, f89, f90, f91, f92, f93, f94, f95]
noncomputable def xF1 : List Func := [f96, f97, f98, f99, f100, f101, f102, f103, f104, f105, f106, f107, f108, f109, f110, f111, f112, f113, f114, f115, f116, f117, f118, f119, f120, f121, f122, f123, f124, f125, f126, f127, f128, f129, f130, f131, f132, f133, f134, f135, f136, f137, f138, f139, f140, f141, f142, f143, f144, f145, f146, f147, f148, f149, f150, f151, f152, f153, f154, f155, f156, f157, f158, f159, f160, f161, f162, f163, f164, f165, f166, f167, f168, f169, f170, f171, f172, f173, f174, f175, f176, f177, f178, f179, f180, f181, f182, f183, f184, f185, f186, f187, f188, f189, f190, f191]
noncomputable def xF2 : List Func := [f192, f193, f194, f195, f196, f197, f198, f199, f200, f201, f202, f203, f204, f205, f206, f207, f208, f209, f210, f211, f212, f213, f214, f215, f216, f217, f218, f219, f220, f221, f222, f223, f224, f225, f226, f227, f228, f229, f230, f231, f232, f233, f234, f235, f236, f237, f238, f239, f240, f241, f242, f243, f244, f245, f246, f247, f248, f249, f250, f251, f252, f253, f254, f255, f256, f257, f258, f259, f260, f261, f262, f263, f264, f265, f266, f267, f268, f269, f270, f271, f272, f273, f274, f275, f276, f277, f278, f279, f280, f281, f282, f283, f284, f285, f286, f287]
noncomputable def xF3 : List Func := [f288, f289, f290, f291, f292, f293, f294, f295, f296, f297, f298, f299, f300, f301, f302, f303, f304, f305, f306, f307, f308, f309, f310, f311, f312, f313, f314, f315, f316, f317, f318, f319, f320, f321, f322, f323, f324, f325, f326, f327, f328, f329, f330, f331, f332, f333, f334, f335, f336, f337, f338, f339, f340, f341, f342, f343, f344, f345, f346, f347, f348, f349, f350, f351, f352, f353, f354, f355, f356, f357, f358, f359, f360, f361, f362, f363, f364, f365, f366, f367, f368, f369, f370, f371, f372, f373, f374, f375, f376, f377, f378, f379, f380, f381, f382, f383]
noncomputable def xF4 : List Func := [f384, f385, f386, f387, f388, f389, f390, f391, f392, f393, f394, f395, f396, f397, f398, f399, f400, f401, f402, f403, f404, f405, f406, f407, f408, f409, f410, f411, f412, f413, f414, f415, f416, f417, f418, f419, f420, f421, f422, f423, f424, f425, f426, f427, f428, f429, f430, f431, f432, f433, f434, f435, f436, f437, f438, f439, f440, f441, f442, f443, f444, f445, f446, f447, f448, f449, f450, f451, f452, f453, f454, f455, f456, f457, f458, f459, f460, f461, f462, f463, f464, f465, f466, f467, f468, f469, f470, f471, f472, f473, f474, f475, f476, f477, f478, f479]
noncomputable def xF5 : List Func := [f480, f481, f482, f483, f484, f485, f486, f487, f488, f489, f490, f491, f492, f493, f494, f495, f496, f497, f498, f499, f500, f501, f502, f503, f504, f505, f506, f507, f508, f509, f510, f511, f512, f513, f514, f515, f516, f517, f518, f519, f520, f521, f522, f523, f524, f525, f526, f527, f528, f529, f530, f531, f532, f533, f534, f535, f536, f537, f538, f539, f540, f541, f542, f543, f544, f545, f546, f547, f548, f549, f550, f551, f552, f553, f554, f555, f556, f557, f558, f559, f560, f561, f562, f563, f564, f565, f566, f567, f568, f569, f570, f571, f572, f573, f574, f575]
noncomputable def xF6 : List Func := [f576, f577, f578, f579, f580, f581, f582, f583, f584, f585, f586, f587, f588, f589, f590, f591, f592, f593, f594, f595, f596, f597, f598, f599, f600, f601, f602, f603, f604, f605, f606, f607, f608, f609, f610, f611, f612, f613, f614, f615, f616, f617, f618, f619, f620, f621, f622, f623, f624, f625, f626, f627, f628, f629, f630, f631, f632, f633, f634, f635, f636, f637, f638, f639, f640, f641, f642, f643, f644, f645, f646, f647, f648, f649, f650, f651, f652, f653, f654, f655, f656, f657, f658, f659, f660, f661, f662, f663, f664, f665, f666, f667, f668, f669, f670, f671]
noncomputable def xF7 : List Func := [f672, f673, f674, f675, f676, f677, f678, f679, f680, f681, f682, f683, f684, f685, f686, f687, f688, f689, f690, f691, f692, f693, f694, f695, f696, f697, f698, f699, f700, f701, f702, f703, f704, f705, f706, f707, f708, f709, f710, f711, f712, f713, f714, f715, f716, f717, f718, f719, f720, f721, f722, f723, f724, f725, f726]
noncomputable def xfs : Tr Func := Tr.ofL 12 (xF0 ++ (xF1 ++ (xF2 ++ (xF3 ++ (xF4 ++ (xF5 ++ (xF6 ++ (xF7))))))))
noncomputable abbrev tP (i : TypeInfo) : TI := tO i i
noncomputable def xT0 : List TI := [tP t0, tP t1, tP t2, tP t3, tP t4, tP t5, tO t6 t5, tP t7, tO t8 t7, tP t9, tO t10 t9, tO t11 t9, tP t12, tP t13, tO t14 t13, tP t15, tP t16, tP t17, tP t18, tO t19 t18, tP t20, tP t21, tP t22, tP t23, tP t24, tP t25, tP t26, tP t27, tP t28, tP t29, tO t30 t29, tP t31, tO t32 t31, tP t33, tP t34, tO t35 t34, tP t36, tP t37, tO t38 t37, tO t39 t3, tP t40, tP t41, tP t42, tP t43, tP t44, tP t45, tP t46, tP t47, tP t48, tP t49, tP t50, tP t51, tP t52, tP t53, tP t54, tP t55, tP t56, tP t57, tP t58, tP t59, tO t60 t59, tP t61, tO t62 t61, tP t63, tP t64, tP t65, tP t66, tP t67, tP t68, tO t69 t68, tP t70, tP t71, tP t72, tP t73, tO t74 t73, tP t75, tP t76, tP t77, tO t78 t77, tP t79, tP t80, tO t81 t80, tP t82, tP t83, tO t84 t83, tP t85, tP t86, tO t87 t86, tP t88, tO t89 t88, tP t90, tP t91, tP t92, tP t93, tP t94, tP t95]
noncomputable def xT1 : List TI := [tP t96, tP t97, tP t98, tP t99, tP t100, tP t101, tP t102, tP t103, tP t104, tP t105, tP t106, tP t107, tP t108, tP t109, tP t110, tP t111, tP t112, tP t113, tP t114, tP t115, tP t116, tP t117, tP t118, tP t119, tO t120 t119, tP t121, tP t122, tP t123, tP t124, tP t125, tP t126, tP t127, tP t128, tP t129, tP t130, tP t131, tP t132, tP t133, tP t134, tP t135, tP t136, tP t137, tP t138, tP t139, tP t140, tP t141, tO t142 t141, tP t143, tO t144 t143, tP t145, tO t146 t145, tP t147, tO t148 t147, tP t149, tP t150, tP t151, tO t152 t151, tP t153, tP t154, tP t155, tP t156, tP t157, tP t158, tP t159, tP t160, tP t161, tP t162, tP t163, tP t164, tP t165, tO t166 t165, tP t167, tP t168, tP t169, tP t170, tP t171, tP t172, tP t173, tP t174, tP t175, tP t176, tP t177, tO t178 t177, tP t179, tP t180, tP t181, tP t182, tP t183, tP t184, tP t185, tP t186, tO t187 t186, tP t188, tP t189, tP t190, tO t191 t190]
noncomputable def xT2 : List TI := [tP t192, tP t193, tP t194, tP t195, tP t196, tP t197, tO t198 t197, tP t199, tP t200, tO t201 t200, tP t202, tO t203 t202, tP t204, tO t205 t204, tP t206, tP t207, tP t208, tP t209, tP t210, tP t211, tP t212, tP t213, tP t214, tP t215, tP t216, tP t217, tP t218, tP t219, tP t220, tP t221, tP t222, tP t223, tP t224, tO t225 t224, tP t226, tP t227, tO t228 t227, tP t229, tP t230, tP t231, tP t232, tP t233, tO t234 t233, tP t235, tP t236, tP t237, tP t238, tP t239, tP t240, tP t241, tP t242, tP t243, tO t244 t243, tP t245, tP t246, tP t247, tP t248, tP t249, tP t250, tP t251, tO t252 t251, tP t253, tP t254, tP t255, tP t256, tO t257 t256, tP t258, tP t259, tP t260, tO t261 t260, tP t262, tP t263, tP t264, tP t265, tP t266, tP t267, tP t268, tP t269, tP t270, tP t271, tP t272, tP t273, tP t274, tP t275, tP t276, tO t277 t276, tP t278, tP t279, tP t280, tP t281, tP t282, tP t283, tP t284, tO t285 t284, tP t286, tP t287]
noncomputable def xT3 : List TI := [tP t288, tP t289, tP t290, tP t291, tO t292 t291, tP t293, tP t294, tP t295, tP t296, tO t297 t296, tP t298, tO t299 t298, tP t300, tP t301, tP t302, tP t303, tP t304, tP t305, tP t306, tP t307, tP t308, tP t309, tP t310, tO t311 t310, tP t312, tO t313 t312, tP t314, tP t315, tP t316, tP t317, tP t318, tP t319, tP t320, tP t321, tP t322, tP t323, tO t324 t323, tP t325, tP t326, tO t327 t326, tP t328, tP t329, tP t330, tP t331, tO t332 t331, tP t333, tP t334, tP t335, tO t336 t335, tP t337, tP t338, tP t339, tP t340, tO t341 t33, tP t342, tP t343, tP t344, tP t345, tO t346 t345, tP t347, tP t348, tP t349, tP t350, tP t351, tP t352, tO t353 t3, tP t354, tP t355, tP t356, tP t357, tP t358, tP t359, tP t360, tP t361, tP t362, tP t363, tP t364, tP t365, tP t366, tP t367, tP t368, tP t369, tP t370, tP t371, tP t372, tP t373, tP t374, tP t375, tO t376 t375, tP t377, tP t378, tO t379 t287, tP t380, tP t381, tP t382, tP t383]
noncomputable def xT4 : List TI := [tP t384, tP t385, tP t386, tO t387 t386, tP t388, tP t389, tP t390, tP t391, tP t392, tP t393, tP t394, tP t395, tP t396, tP t397, tP t398, tP t399, tP t400, tP t401, tP t402, tP t403, tP t404, tP t405, tO t406 t405, tP t407, tP t408, tP t409, tP t410, tP t411, tP t412, tP t413, tP t414, tP t415, tP t416, tP t417, tP t418, tP t419, tP t420, tP t421, tP t422, tP t423, tP t424, tP t425, tP t426, tP t427, tP t428, tP t429, tP t430, tP t431, tP t432, tP t433, tP t434, tP t435, tP t436, tP t437, tP t438, tP t439, tP t440, tP t441, tP t442, tP t443, tO t444 t443, tP t445, tP t446, tP t447, tP t448, tO t449 t448, tP t450, tP t451, tP t452, tP t453, tP t454, tP t455, tP t456, tP t457, tO t458 t457, tP t459, tP t460, tP t461, tP t462, tP t463, tP t464, tP t465, tP t466, tP t467, tP t468, tP t469, tP t470, tP t471, tP t472, tP t473, tP t474, tP t475, tO t476 t475, tP t477, tO t478 t477, tP t479]
noncomputable def xT5 : List TI := [tP t480, tP t481, tP t482, tO t483 t482, tP t484, tP t485, tP t486, tP t487, tO t488 t3, tP t489, tP t490, tP t491, tP t492, tP t493, tP t494, tP t495, tP t496, tP t497, tP t498, tP t499, tP t500, tP t501, tP t502, tP t503, tP t504, tP t505, tP t506, tP t507, tP t508, tP t509, tP t510, tP t511, tP t512, tP t513, tP t514, tP t515, tP t516, tP t517, tO t518 t517, tP t519, tP t520, tP t521, tP t522, tO t523 t522, tP t524, tP t525, tO t526 t525, tP t527, tP t528, tP t529, tO t530 t529, tP t531, tO t532 t531, tP t533, tP t534, tP t535, tP t536, tP t537, tP t538, tP t539, tP t540, tP t541, tP t542, tO t543 t542, tP t544, tP t545, tP t546, tP t547, tP t548, tP t549, tP t550, tP t551, tP t552, tO t553 t552, tP t554, tO t555 t554, tP t556, tP t557, tP t558, tP t559, tO t560 t559, tP t561, tO t562 t561, tP t563, tP t564, tP t565, tO t566 t565, tP t567, tP t568, tP t569, tP t570, tP t571, tP t572, tO t573 t33, tP t574, tP t575]
noncomputable def xT6 : List TI := [tP t576, tP t577, tP t578, tP t579, tP t580, tP t581, tP t582, tP t583, tP t584, tP t585, tP t586, tP t587, tP t588, tO t589 t588, tP t590, tP t591, tP t592, tP t593, tP t594, tP t595, tO t596 t595, tP t597, tP t598, tP t599, tP t600, tP t601, tP t602, tP t603, tP t604, tP t605, tO t606 t605, tP t607, tP t608, tO t609 t608, tP t610, tP t611, tO t612 t611, tP t613, tO t614 t613, tP t615, tP t616, tP t617, tP t618, tO t619 t618, tP t620, tP t621, tP t622, tP t623, tP t624, tP t625, tP t626, tP t627, tP t628, tP t629, tP t630, tP t631, tP t632, tO t633 t268, tP t634, tO t635 t634, tP t636, tP t637, tP t638, tP t639, tP t640, tP t641, tO t642 t641, tP t643, tP t644, tP t645, tP t646, tP t647, tP t648, tP t649, tP t650, tP t651, tP t652, tP t653, tP t654, tP t655, tO t656 t655, tP t657, tP t658, tP t659, tP t660, tP t661, tP t662, tP t663, tP t664, tP t665, tP t666, tP t667, tP t668, tP t669, tP t670, tP t671]
noncomputable def xT7 : List TI := [tP t672, tP t673, tP t674, tP t675, tP t676, tP t677, tP t678, tP t679, tP t680, tP t681, tP t682, tP t683, tP t684, tP t685, tP t686, tP t687, tP t688, tP t689, tP t690, tP t691, tP t692, tP t693, tP t694, tP t695, tO t696 t695, tP t697, tO t698 t697, tP t699, tP t700, tP t701, tP t702, tP t703, tP t704, tP t705, tO t706 t705, tP t707, tP t708, tP t709, tP t710, tP t711, tP t712, tP t713, tP t714, tP t715, tP t716, tP t717, tP t718, tP t719, tP t720, tP t721, tP t722, tP t723, tP t724, tP t725, tP t726, tP t727, tP t728, tP t729, tP t730, tP t731, tP t732, tO t733 t732, tP t734, tO t735 t734, tP t736, tP t737, tP t738, tP t739, tP t740, tP t741, tP t742, tP t743, tP t744, tP t745, tP t746, tP t747, tP t748, tP t749, tO t750 t749, tP t751, tP t752, tP t753, tP t754, tP t755, tP t756, tP t757, tP t758, tO t759 t758, tP t760, tO t761 t760, tP t762, tP t763, tP t764, tP t765, tP t766, tP t767]
noncomputable def xT8 : List TI := [tP t768, tO t769 t768, tP t770, tP t771, tP t772, tO t773 t772, tP t774, tO t775 t774, tP t776, tP t777, tP t778, tP t779, tP t780, tO t781 t780, tP t782, tP t783, tO t784 t783, tP t785, tO t786 t785, tP t787, tP t788, tP t789, tP t790, tP t791, tP t792, tP t793, tP t794, tP t795, tP t796, tP t797, tP t798, tP t799, tP t800, tP t801, tO t802 t801, tP t803, tP t804, tP t805, tP t806, tP t807, tP t808, tP t809, tP t810, tP t811, tP t812, tO t813 t812, tP t814, tP t815, tP t816, tP t817, tP t818, tP t819, tP t820, tP t821, tP t822, tP t823, tO t824 t823, tP t825, tP t826, tO t827 t826, tP t828, tP t829, tP t830, tP t831, tP t832, tP t833, tP t834, tO t835 t825, tP t836, tO t837 t836, tP t838, tP t839, tP t840, tP t841, tP t842, tP t843, tP t844, tP t845, tP t846, tP t847, tP t848, tO t849 t848, tP t850, tP t851, tP t852, tP t853, tP t854, tP t855, tP t856, tP t857, tP t858, tP t859, tP t860, tP t861, tP t862, tP t863]
noncomputable def xT9 : List TI := [tO t864 t863, tP t865, tP t866, tP t867, tP t868, tP t869, tP t870, tP t871, tP t872, tO t873 t872, tP t874, tP t875, tP t876, tP t877, tP t878, tP t879, tP t880, tP t881, tP t882, tP t883, tO t884 t883, tP t885, tP t886, tP t887, tP t888, tP t889, tP t890, tP t891, tP t892, tO t893 t892, tP t894, tP t895, tO t896 t895, tO t897 t5, tO t898 t5, tP t899, tO t900 t21, tO t901 t21, tP t902, tO t903 t902]
noncomputable def xti : Tr TI := Tr.ofL 12 (xT0 ++ (xT1 ++ (xT2 ++ (xT3 ++ (xT4 ++ (xT5 ++ (xT6 ++ (xT7 ++ (xT8 ++ (xT9))))))))))
noncomputable def crT : Tr Nat := (.node (.node (.node (.node (.node Tr.nil (some 944750013) Tr.nil) (some 507990021) Tr.nil) (some 222504665) (.node Tr.nil (some 726387553) Tr.nil)) (some 79764919) (.node (.node Tr.nil (some 583659535) Tr.nil) (some 398814059) (.node Tr.nil (some 835552979) Tr.nil))) (some 0) (.node (.node (.node Tr.nil (some 638119352) Tr.nil) (some 319059676) (.node Tr.nil (some 890018660) Tr.nil)) (some 159529838) (.node (.node Tr.nil (some 797628118) Tr.nil) (some 445009330) (.node Tr.nil (some 1015980042) Tr.nil))))
noncomputable def crH (s n : Nat) : Nat := Nat.xor (s * 16 % 4294967296) (match crT.get (Nat.xor (s / 268435456) n) with | some x => x | none => 0)
noncomputable def crB (s c : Nat) : Nat := crH (crH s (c / 16)) (c % 16)
noncomputable def crS : List Value → Nat → Option Nat
  | [], s => some s
  | .int .u8 (.ofNat c) :: l, s => bif Nat.blt c 256 then crS l (crB s c) else none
  | _, _ => none
noncomputable def crM (args : List Value) (h : Tr AO) : Option Value :=
  match args with
  | [.int .u32 (.ofNat s), .slice a n c] => bif Nat.blt s 4294967296 && Nat.ble n 9223372036854775807 then (match firstA h 1 n (.slice a n c) with
    | some l => bif Nat.beq l.length n then (match crS l s with | some r => some (.int .u32 r) | none => none) else none
    | none => none) else none
  | _ => none
noncomputable def xE (f : Nat) (args : List Value) : Option Value :=
  match args with
  | [.int .u64 (.ofNat x), .int .u64 (.ofNat y), .int .u64 (.ofNat c)] => bif Nat.ble c 1 && Nat.blt x 18446744073709551616 && Nat.blt y 18446744073709551616 then
      (bif Nat.beq f 584 then some (.tuple #[.int .u64 ((x + y + c) % 18446744073709551616), .int .u64 ((x + y + c) / 18446744073709551616)])
       else bif Nat.beq f 583 then some (.tuple #[.int .u64 ((x + 18446744073709551616 - y - c) % 18446744073709551616), .int .u64 (bif Nat.blt x (y + c) then 1 else 0)]) else none) else none
  | _ => none
noncomputable def xO (f : Nat) (args : List Value) (h : Tr AO) : Option Value := cond (Nat.beq f 411) (crM args h) none

noncomputable def xL : Lk := ⟨xti, xfs, xO, xE, fun _ _ _ _ => none, fun _ _ _ _ => none, fun _ _ => none, fun _ _ _ => none, fun _ _ _ => none, fun _ => false⟩
end Go.Proofs.Tryz

namespace Go.Proofs.Tryz
open Go.Proofs.Ex
variable [Sg]
noncomputable def okU (i d : TypeInfo) : Bool := i.zero.isSome && okT i (tO i d)
theorem tOk {P : Program} {t : TypeId} {i d : TypeInfo} {c : TypeDesc} (h : P.types[t]? = some i) (hd : P.underlying t = some c) (hc : c = d.desc := by rfl) (hk : okU i d = true := by kernel_rfl) : TIok P t (tO i d) := by
  subst hc
  unfold okU at hk
  rw [Bool.and_eq_true] at hk
  refine .of h hd ?_ hk.2
  cases hz : i.zero with
  | none => rw [hz] at hk; cases hk.1
  | some z => show some z = some ((i.zero).getD .nilIface); rw [hz]; rfl
set_option maxRecDepth 100000 in
theorem xtA0 : LAll (TIok prog) 0 xT0 := ⟨tOk type0 underlying0, tOk type1 underlying1, tOk type2 underlying2, tOk type3 underlying3, tOk type4 underlying4, tOk type5 underlying5, tOk type6 underlying6, tOk type7 underlying7, tOk type8 underlying8, tOk type9 underlying9, tOk type10 underlying10, tOk type11 underlying11, tOk type12 underlying12, tOk type13 underlying13, tOk type14 underlying14, tOk type15 underlying15, tOk type16 underlying16, tOk type17 underlying17, tOk type18 underlying18, tOk type19 underlying19, tOk type20 underlying20, tOk type21 underlying21, tOk type22 underlying22, tOk type23 underlying23, tOk type24 underlying24, tOk type25 underlying25, tOk type26 underlying26, tOk type27 underlying27, tOk type28 underlying28, tOk type29 underlying29, tOk type30 underlying30, tOk type31 underlying31, tOk type32 underlying32, tOk type33 underlying33, tOk type34 underlying34, tOk type35 underlying35, tOk type36 underlying36, tOk type37 underlying37, tOk type38 underlying38, tOk type39 underlying39, tOk type40 underlying40, tOk type41 underlying41, tOk type42 underlying42, tOk type43 underlying43, tOk type44 underlying44, tOk type45 underlying45, tOk type46 underlying46, tOk type47 underlying47, tOk type48 underlying48, tOk type49 underlying49, tOk type50 underlying50, tOk type51 underlying51, tOk type52 underlying52, tOk type53 underlying53, tOk type54 underlying54, tOk type55 underlying55, tOk type56 underlying56, tOk type57 underlying57, tOk type58 underlying58, tOk type59 underlying59, tOk type60 underlying60, tOk type61 underlying61, tOk type62 underlying62, tOk type63 underlying63, tOk type64 underlying64, tOk type65 underlying65, tOk type66 underlying66, tOk type67 underlying67, tOk type68 underlying68, tOk type69 underlying69, tOk type70 underlying70, tOk type71 underlying71, tOk type72 underlying72, tOk type73 underlying73, tOk type74 underlying74, tOk type75 underlying75, tOk type76 underlying76, tOk type77 underlying77, tOk type78 underlying78, tOk type79 underlying79, tOk type80 underlying80, tOk type81 underlying81, tOk type82 underlying82, tOk type83 underlying83, tOk type84 underlying84, tOk type85 underlying85, tOk type86 underlying86, tOk type87 underlying87, tOk type88 underlying88, tOk type89 underlying89, tOk type90 underlying90, tOk type91 underlying91, tOk type92 underlying92, tOk type93 underlying93, tOk type94 underlying94, tOk type95 underlying95, trivial⟩
theorem xtA1 : LAll (TIok prog) 96 xT1 := ⟨tOk type96 underlying96, tOk type97 underlying97, tOk type98 underlying98, tOk type99 underlying99, tOk type100 underlying100, tOk type101 underlying101, tOk type102 underlying102, tOk type103 underlying103, tOk type104 underlying104, tOk type105 underlying105, tOk type106 underlying106, tOk type107 underlying107, tOk type108 underlying108, tOk type109 underlying109, tOk type110 underlying110, tOk type111 underlying111, tOk type112 underlying112, tOk type113 underlying113, tOk type114 underlying114, tOk type115 underlying115, tOk type116 underlying116, tOk type117 underlying117, tOk type118 underlying118, tOk type119 underlying119, tOk type120 underlying120, tOk type121 underlying121, tOk type122 underlying122, tOk type123 underlying123, tOk type124 underlying124, tOk type125 underlying125, tOk type126 underlying126, tOk type127 underlying127, tOk type128 underlying128, tOk type129 underlying129, tOk type130 underlying130, tOk type131 underlying131, tOk type132 underlying132, tOk type133 underlying133, tOk type134 underlying134, tOk type135 underlying135, tOk type136 underlying136, tOk type137 underlying137, tOk type138 underlying138, tOk type139 underlying139, tOk type140 underlying140, tOk type141 underlying141, tOk type142 underlying142, tOk type143 underlying143, tOk type144 underlying144, tOk type145 underlying145, tOk type146 underlying146, tOk type147 underlying147, tOk type148 underlying148, tOk type149 underlying149, tOk type150 underlying150, tOk type151 underlying151, tOk type152 underlying152, tOk type153 underlying153, tOk type154 underlying154, tOk type155 underlying155, tOk type156 underlying156, tOk type157 underlying157, tOk type158 underlying158, tOk type159 underlying159, tOk type160 underlying160, tOk type161 underlying161, tOk type162 underlying162, tOk type163 underlying163, tOk type164 underlying164, tOk type165 underlying165, tOk type166 underlying166, tOk type167 underlying167, tOk type168 underlying168, tOk type169 underlying169, tOk type170 underlying170, tOk type171 underlying171, tOk type172 underlying172, tOk type173 underlying173, tOk type174 underlying174, tOk type175 underlying175, tOk type176 underlying176, tOk type177 underlying177, tOk type178 underlying178, tOk type179 underlying179, tOk type180 underlying180, tOk type181 underlying181, tOk type182 underlying182, tOk type183 underlying183, tOk type184 underlying184, tOk type185 underlying185, tOk type186 underlying186, tOk type187 underlying187, tOk type188 underlying188, tOk type189 underlying189, tOk type190 underlying190, tOk type191 underlying191, trivial⟩
theorem xtA2 : LAll (TIok prog) 192 xT2 := ⟨tOk type192 underlying192, tOk type193 underlying193, tOk type194 underlying194, tOk type195 underlying195, tOk type196 underlying196, tOk type197 underlying197, tOk type198 underlying198, tOk type199 underlying199, tOk type200 underlying200, tOk type201 underlying201, tOk type202 underlying202, tOk type203 underlying203, tOk type204 underlying204, tOk type205 underlying205, tOk type206 underlying206, tOk type207 underlying207, tOk type208 underlying208, tOk type209 underlying209, tOk type210 underlying210, tOk type211 underlying211, tOk type212 underlying212, tOk type213 underlying213, tOk type214 underlying214, tOk type215 underlying215, tOk type216 underlying216, tOk type217 underlying217, tOk type218 underlying218, tOk type219 underlying219, tOk type220 underlying220, tOk type221 underlying221, tOk type222 underlying222, tOk type223 underlying223, tOk type224 underlying224, tOk type225 underlying225, tOk type226 underlying226, tOk type227 underlying227, tOk type228 underlying228, tOk type229 underlying229, tOk type230 underlying230, tOk type231 underlying231, tOk type232 underlying232, tOk type233 underlying233, tOk type234 underlying234, tOk type235 underlying235, tOk type236 underlying236, tOk type237 underlying237, tOk type238 underlying238, tOk type239 underlying239, tOk type240 underlying240, tOk type241 underlying241, tOk type242 underlying242, tOk type243 underlying243, tOk type244 underlying244, tOk type245 underlying245, tOk type246 underlying246, tOk type247 underlying247, tOk type248 underlying248, tOk type249 underlying249, tOk type250 underlying250, tOk type251 underlying251, tOk type252 underlying252, tOk type253 underlying253, tOk type254 underlying254, tOk type255 underlying255, tOk type256 underlying256, tOk type257 underlying257, tOk type258 underlying258, tOk type259 underlying259, tOk type260 underlying260, tOk type261 underlying261, tOk type262 underlying262, tOk type263 underlying263, tOk type264 underlying264, tOk type265 underlying265, tOk type266 underlying266, tOk type267 underlying267, tOk type268 underlying268, tOk type269 underlying269, tOk type270 underlying270, tOk type271 underlying271, tOk type272 underlying272, tOk type273 underlying273, tOk type274 underlying274, tOk type275 underlying275, tOk type276 underlying276, tOk type277 underlying277, tOk type278 underlying278, tOk type279 underlying279, tOk type280 underlying280, tOk type281 underlying281, tOk type282 underlying282, tOk type283 underlying283, tOk type284 underlying284, tOk type285 underlying285, tOk type286 underlying286, tOk type287 underlying287, trivial⟩
theorem xtA3 : LAll (TIok prog) 288 xT3 := ⟨tOk type288 underlying288, tOk type289 underlying289, tOk type290 underlying290, tOk type291 underlying291, tOk type292 underlying292, tOk type293 underlying293, tOk type294 underlying294, tOk type295 underlying295, tOk type296 underlying296, tOk type297 underlying297, tOk type298 underlying298, tOk type299 underlying299, tOk type300 underlying300, tOk type301 underlying301, tOk type302 underlying302, tOk type303 underlying303, tOk type304 underlying304, tOk type305 underlying305, tOk type306 underlying306, tOk type307 underlying307, tOk type308 underlying308, tOk type309 underlying309, tOk type310 underlying310, tOk type311 underlying311, tOk type312 underlying312, tOk type313 underlying313, tOk type314 underlying314, tOk type315 underlying315, tOk type316 underlying316, tOk type317 underlying317, tOk type318 underlying318, tOk type319 underlying319, tOk type320 underlying320, tOk type321 underlying321, tOk type322 underlying322, tOk type323 underlying323, tOk type324 underlying324, tOk type325 underlying325, tOk type326 underlying326, tOk type327 underlying327, tOk type328 underlying328, tOk type329 underlying329, tOk type330 underlying330, tOk type331 underlying331, tOk type332 underlying332, tOk type333 underlying333, tOk type334 underlying334, tOk type335 underlying335, tOk type336 underlying336, tOk type337 underlying337, tOk type338 underlying338, tOk type339 underlying339, tOk type340 underlying340, tOk type341 underlying341, tOk type342 underlying342, tOk type343 underlying343, tOk type344 underlying344, tOk type345 underlying345, tOk type346 underlying346, tOk type347 underlying347, tOk type348 underlying348, tOk type349 underlying349, tOk type350 underlying350, tOk type351 underlying351, tOk type352 underlying352, tOk type353 underlying353, tOk type354 underlying354, tOk type355 underlying355, tOk type356 underlying356, tOk type357 underlying357, tOk type358 underlying358, tOk type359 underlying359, tOk type360 underlying360, tOk type361 underlying361, tOk type362 underlying362, tOk type363 underlying363, tOk type364 underlying364, tOk type365 underlying365, tOk type366 underlying366, tOk type367 underlying367, tOk type368 underlying368, tOk type369 underlying369, tOk type370 underlying370, tOk type371 underlying371, tOk type372 underlying372, tOk type373 underlying373, tOk type374 underlying374, tOk type375 underlying375, tOk type376 underlying376, tOk type377 underlying377, tOk type378 underlying378, tOk type379 underlying379, tOk type380 underlying380, tOk type381 underlying381, tOk type382 underlying382, tOk type383 underlying383, trivial⟩
theorem xtA4 : LAll (TIok prog) 384 xT4 := ⟨tOk type384 underlying384, tOk type385 underlying385, tOk type386 underlying386, tOk type387 underlying387, tOk type388 underlying388, tOk type389 underlying389, tOk type390 underlying390, tOk type391 underlying391, tOk type392 underlying392, tOk type393 underlying393, tOk type394 underlying394, tOk type395 underlying395, tOk type396 underlying396, tOk type397 underlying397, tOk type398 underlying398, tOk type399 underlying399, tOk type400 underlying400, tOk type401 underlying401, tOk type402 underlying402, tOk type403 underlying403, tOk type404 underlying404, tOk type405 underlying405, tOk type406 underlying406, tOk type407 underlying407, tOk type408 underlying408, tOk type409 underlying409, tOk type410 underlying410, tOk type411 underlying411, tOk type412 underlying412, tOk type413 underlying413, tOk type414 underlying414, tOk type415 underlying415, tOk type416 underlying416, tOk type417 underlying417, tOk type418 underlying418, tOk type419 underlying419, tOk type420 underlying420, tOk type421 underlying421, tOk type422 underlying422, tOk type423 underlying423, tOk type424 underlying424, tOk type425 underlying425, tOk type426 underlying426, tOk type427 underlying427, tOk type428 underlying428, tOk type429 underlying429, tOk type430 underlying430, tOk type431 underlying431, tOk type432 underlying432, tOk type433 underlying433, tOk type434 underlying434, tOk type435 underlying435, tOk type436 underlying436, tOk type437 underlying437, tOk type438 underlying438, tOk type439 underlying439, tOk type440 underlying440, tOk type441 underlying441, tOk type442 underlying442, tOk type443 underlying443, tOk type444 underlying444, tOk type445 underlying445, tOk type446 underlying446, tOk type447 underlying447, tOk type448 underlying448, tOk type449 underlying449, tOk type450 underlying450, tOk type451 underlying451, tOk type452 underlying452, tOk type453 underlying453, tOk type454 underlying454, tOk type455 underlying455, tOk type456 underlying456, tOk type457 underlying457, tOk type458 underlying458, tOk type459 underlying459, tOk type460 underlying460, tOk type461 underlying461, tOk type462 underlying462, tOk type463 underlying463, tOk type464 underlying464, tOk type465 underlying465, tOk type466 underlying466, tOk type467 underlying467, tOk type468 underlying468, tOk type469 underlying469, tOk type470 underlying470, tOk type471 underlying471, tOk type472 underlying472, tOk type473 underlying473, tOk type474 underlying474, tOk type475 underlying475, tOk type476 underlying476, tOk type477 underlying477, tOk type478 underlying478, tOk type479 underlying479, trivial⟩
theorem xtA5 : LAll (TIok prog) 480 xT5 := ⟨tOk type480 underlying480, tOk type481 underlying481, tOk type482 underlying482, tOk type483 underlying483, tOk type484 underlying484, tOk type485 underlying485, tOk type486 underlying486, tOk type487 underlying487, tOk type488 underlying488, tOk type489 underlying489, tOk type490 underlying490, tOk type491 underlying491, tOk type492 underlying492, tOk type493 underlying493, tOk type494 underlying494, tOk type495 underlying495, tOk type496 underlying496, tOk type497 underlying497, tOk type498 underlying498, tOk type499 underlying499, tOk type500 underlying500, tOk type501 underlying501, tOk type502 underlying502, tOk type503 underlying503, tOk type504 underlying504, tOk type505 underlying505, tOk type506 underlying506, tOk type507 underlying507, tOk type508 underlying508, tOk type509 underlying509, tOk type510 underlying510, tOk type511 underlying511, tOk type512 underlying512, tOk type513 underlying513, tOk type514 underlying514, tOk type515 underlying515, tOk type516 underlying516, tOk type517 underlying517, tOk type518 underlying518, tOk type519 underlying519, tOk type520 underlying520, tOk type521 underlying521, tOk type522 underlying522, tOk type523 underlying523, tOk type524 underlying524, tOk type525 underlying525, tOk type526 underlying526, tOk type527 underlying527, tOk type528 underlying528, tOk type529 underlying529, tOk type530 underlying530, tOk type531 underlying531, tOk type532 underlying532, tOk type533 underlying533, tOk type534 underlying534, tOk type535 underlying535, tOk type536 underlying536, tOk type537 underlying537, tOk type538 underlying538, tOk type539 underlying539, tOk type540 underlying540, tOk type541 underlying541, tOk type542 underlying542, tOk type543 underlying543, tOk type544 underlying544, tOk type545 underlying545, tOk type546 underlying546, tOk type547 underlying547, tOk type548 underlying548, tOk type549 underlying549, tOk type550 underlying550, tOk type551 underlying551, tOk type552 underlying552, tOk type553 underlying553, tOk type554 underlying554, tOk type555 underlying555, tOk type556 underlying556, tOk type557 underlying557, tOk type558 underlying558, tOk type559 underlying559, tOk type560 underlying560, tOk type561 underlying561, tOk type562 underlying562, tOk type563 underlying563, tOk type564 underlying564, tOk type565 underlying565, tOk type566 underlying566, tOk type567 underlying567, tOk type568 underlying568, tOk type569 underlying569, tOk type570 underlying570, tOk type571 underlying571, tOk type572 underlying572, tOk type573 underlying573, tOk type574 underlying574, tOk type575 underlying575, trivial⟩
theorem xtA6 : LAll (TIok prog) 576 xT6 := ⟨tOk type576 underlying576, tOk type577 underlying577, tOk type578 underlying578, tOk type579 underlying579, tOk type580 underlying580, tOk type581 underlying581, tOk type582 underlying582, tOk type583 underlying583, tOk type584 underlying584, tOk type585 underlying585, tOk type586 underlying586, tOk type587 underlying587, tOk type588 underlying588, tOk type589 underlying589, tOk type590 underlying590, tOk type591 underlying591, tOk type592 underlying592, tOk type593 underlying593, tOk type594 underlying594, tOk type595 underlying595, tOk type596 underlying596, tOk type597 underlying597, tOk type598 underlying598, tOk type599 underlying599, tOk type600 underlying600, tOk type601 underlying601, tOk type602 underlying602, tOk type603 underlying603, tOk type604 underlying604, tOk type605 underlying605, tOk type606 underlying606, tOk type607 underlying607, tOk type608 underlying608, tOk type609 underlying609, tOk type610 underlying610, tOk type611 underlying611, tOk type612 underlying612, tOk type613 underlying613, tOk type614 underlying614, tOk type615 underlying615, tOk type616 underlying616, tOk type617 underlying617, tOk type618 underlying618, tOk type619 underlying619, tOk type620 underlying620, tOk type621 underlying621, tOk type622 underlying622, tOk type623 underlying623, tOk type624 underlying624, tOk type625 underlying625, tOk type626 underlying626, tOk type627 underlying627, tOk type628 underlying628, tOk type629 underlying629, tOk type630 underlying630, tOk type631 underlying631, tOk type632 underlying632, tOk type633 underlying633, tOk type634 underlying634, tOk type635 underlying635, tOk type636 underlying636, tOk type637 underlying637, tOk type638 underlying638, tOk type639 underlying639, tOk type640 underlying640, tOk type641 underlying641, tOk type642 underlying642, tOk type643 underlying643, tOk type644 underlying644, tOk type645 underlying645, tOk type646 underlying646, tOk type647 underlying647, tOk type648 underlying648, tOk type649 underlying649, tOk type650 underlying650, tOk type651 underlying651, tOk type652 underlying652, tOk type653 underlying653, tOk type654 underlying654, tOk type655 underlying655, tOk type656 underlying656, tOk type657 underlying657, tOk type658 underlying658, tOk type659 underlying659, tOk type660 underlying660, tOk type661 underlying661, tOk type662 underlying662, tOk type663 underlying663, tOk type664 underlying664, tOk type665 underlying665, tOk type666 underlying666, tOk type667 underlying667, tOk type668 underlying668, tOk type669 underlying669, tOk type670 underlying670, tOk type671 underlying671, trivial⟩
theorem xtA7 : LAll (TIok prog) 672 xT7 := ⟨tOk type672 underlying672, tOk type673 underlying673, tOk type674 underlying674, tOk type675 underlying675, tOk type676 underlying676, tOk type677 underlying677, tOk type678 underlying678, tOk type679 underlying679, tOk type680 underlying680, tOk type681 underlying681, tOk type682 underlying682, tOk type683 underlying683, tOk type684 underlying684, tOk type685 underlying685, tOk type686 underlying686, tOk type687 underlying687, tOk type688 underlying688, tOk type689 underlying689, tOk type690 underlying690, tOk type691 underlying691, tOk type692 underlying692, tOk type693 underlying693, tOk type694 underlying694, tOk type695 underlying695, tOk type696 underlying696, tOk type697 underlying697, tOk type698 underlying698, tOk type699 underlying699, tOk type700 underlying700, tOk type701 underlying701, tOk type702 underlying702, tOk type703 underlying703, tOk type704 underlying704, tOk type705 underlying705, tOk type706 underlying706, tOk type707 underlying707, tOk type708 underlying708, tOk type709 underlying709, tOk type710 underlying710, tOk type711 underlying711, tOk type712 underlying712, tOk type713 underlying713, tOk type714 underlying714, tOk type715 underlying715, tOk type716 underlying716, tOk type717 underlying717, tOk type718 underlying718, tOk type719 underlying719, tOk type720 underlying720, tOk type721 underlying721, tOk type722 underlying722, tOk type723 underlying723, tOk type724 underlying724, tOk type725 underlying725, tOk type726 underlying726, tOk type727 underlying727, tOk type728 underlying728, tOk type729 underlying729, tOk type730 underlying730, tOk type731 underlying731, tOk type732 underlying732, tOk type733 underlying733, tOk type734 underlying734, tOk type735 underlying735, tOk type736 underlying736, tOk type737 underlying737, tOk type738 underlying738, tOk type739 underlying739, tOk type740 underlying740, tOk type741 underlying741, tOk type742 underlying742, tOk type743 underlying743, tOk type744 underlying744, tOk type745 underlying745, tOk type746 underlying746, tOk type747 underlying747, tOk type748 underlying748, tOk type749 underlying749, tOk type750 underlying750, tOk type751 underlying751, tOk type752 underlying752, tOk type753 underlying753, tOk type754 underlying754, tOk type755 underlying755, tOk type756 underlying756, tOk type757 underlying757, tOk type758 underlying758, tOk type759 underlying759, tOk type760 underlying760, tOk type761 underlying761, tOk type762 underlying762, tOk type763 underlying763, tOk type764 underlying764, tOk type765 underlying765, tOk type766 underlying766, tOk type767 underlying767, trivial⟩
theorem xtA8 : LAll (TIok prog) 768 xT8 := ⟨tOk type768 underlying768, tOk type769 underlying769, tOk type770 underlying770, tOk type771 underlying771, tOk type772 underlying772, tOk type773 underlying773, tOk type774 underlying774, tOk type775 underlying775, tOk type776 underlying776, tOk type777 underlying777, tOk type778 underlying778, tOk type779 underlying779, tOk type780 underlying780, tOk type781 underlying781, tOk type782 underlying782, tOk type783 underlying783, tOk type784 underlying784, tOk type785 underlying785, tOk type786 underlying786, tOk type787 underlying787, tOk type788 underlying788, tOk type789 underlying789, tOk type790 underlying790, tOk type791 underlying791, tOk type792 underlying792, tOk type793 underlying793, tOk type794 underlying794, tOk type795 underlying795, tOk type796 underlying796, tOk type797 underlying797, tOk type798 underlying798, tOk type799 underlying799, tOk type800 underlying800, tOk type801 underlying801, tOk type802 underlying802, tOk type803 underlying803, tOk type804 underlying804, tOk type805 underlying805, tOk type806 underlying806, tOk type807 underlying807, tOk type808 underlying808, tOk type809 underlying809, tOk type810 underlying810, tOk type811 underlying811, tOk type812 underlying812, tOk type813 underlying813, tOk type814 underlying814, tOk type815 underlying815, tOk type816 underlying816, tOk type817 underlying817, tOk type818 underlying818, tOk type819 underlying819, tOk type820 underlying820, tOk type821 underlying821, tOk type822 underlying822, tOk type823 underlying823, tOk type824 underlying824, tOk type825 underlying825, tOk type826 underlying826, tOk type827 underlying827, tOk type828 underlying828, tOk type829 underlying829, tOk type830 underlying830, tOk type831 underlying831, tOk type832 underlying832, tOk type833 underlying833, tOk type834 underlying834, tOk type835 underlying835, tOk type836 underlying836, tOk type837 underlying837, tOk type838 underlying838, tOk type839 underlying839, tOk type840 underlying840, tOk type841 underlying841, tOk type842 underlying842, tOk type843 underlying843, tOk type844 underlying844, tOk type845 underlying845, tOk type846 underlying846, tOk type847 underlying847, tOk type848 underlying848, tOk type849 underlying849, tOk type850 underlying850, tOk type851 underlying851, tOk type852 underlying852, tOk type853 underlying853, tOk type854 underlying854, tOk type855 underlying855, tOk type856 underlying856, tOk type857 underlying857, tOk type858 underlying858, tOk type859 underlying859, tOk type860 underlying860, tOk type861 underlying861, tOk type862 underlying862, tOk type863 underlying863, trivial⟩
theorem xtA9 : LAll (TIok prog) 864 xT9 := ⟨tOk type864 underlying864, tOk type865 underlying865, tOk type866 underlying866, tOk type867 underlying867, tOk type868 underlying868, tOk type869 underlying869, tOk type870 underlying870, tOk type871 underlying871, tOk type872 underlying872, tOk type873 underlying873, tOk type874 underlying874, tOk type875 underlying875, tOk type876 underlying876, tOk type877 underlying877, tOk type878 underlying878, tOk type879 underlying879, tOk type880 underlying880, tOk type881 underlying881, tOk type882 underlying882, tOk type883 underlying883, tOk type884 underlying884, tOk type885 underlying885, tOk type886 underlying886, tOk type887 underlying887, tOk type888 underlying888, tOk type889 underlying889, tOk type890 underlying890, tOk type891 underlying891, tOk type892 underlying892, tOk type893 underlying893, tOk type894 underlying894, tOk type895 underlying895, tOk type896 underlying896, tOk type897 underlying897, tOk type898 underlying898, tOk type899 underlying899, tOk type900 underlying900, tOk type901 underlying901, tOk type902 underlying902, tOk type903 underlying903, trivial⟩
theorem xti_all : Tr.AllAt (TIok prog) 1 0 xti := Tr.ofL_all _ _ _ _ (LAll.get (LAll.app xtA0 (LAll.app xtA1 (LAll.app xtA2 (LAll.app xtA3 (LAll.app xtA4 (LAll.app xtA5 (LAll.app xtA6 (LAll.app xtA7 (LAll.app xtA8 (xtA9) rfl) rfl) rfl) rfl) rfl) rfl) rfl) rfl) rfl))
theorem xti_ok (t : Nat) (ti : TI) (h : xti.get t = some ti) : TIok prog t ti := by
  have := Tr.AllAt.get _ _ _ xti_all t ti h
  simpa using this
end Go.Proofs.Tryz

namespace Go.Proofs.Tryz
open Go.Proofs.Ex
variable [Sg]
set_option maxRecDepth 100000 in
theorem xfA0 : LAll (FnOK prog) 0 xF0 := ⟨.non func0 rfl, .non func1 rfl, .of func2 call2, .of func3 call3, .of func4 call4, .of func5 call5, .of func6 call6, .of func7 call7, .of func8 call8, .of func9 call9, .of func10 call10, .of func11 call11, .of func12 call12, .of func13 call13, .of func14 call14, .non func15 rfl, .of func16 call16, .of func17 call17, .of func18 call18, .of func19 call19, .of func20 call20, .of func21 call21, .of func22 call22, .of func23 call23, .of func24 call24, .of func25 call25, .of func26 call26, .of func27 call27, .of func28 call28, .of func29 call29, .of func30 call30, .of func31 call31, .of func32 call32, .of func33 call33, .of func34 call34, .of func35 call35, .of func36 call36, .of func37 call37, .of func38 call38, .of func39 call39, .of func40 call40, .of func41 call41, .of func42 call42, .of func43 call43, .of func44 call44, .of func45 call45, .of func46 call46, .of func47 call47, .of func48 call48, .of func49 call49, .of func50 call50, .of func51 call51, .of func52 call52, .of func53 call53, .of func54 call54, .of func55 call55, .of func56 call56, .of func57 call57, .of func58 call58, .of func59 call59, .of func60 call60, .of func61 call61, .of func62 call62, .of func63 call63, .of func64 call64, .of func65 call65, .of func66 call66, .of func67 call67, .of func68 call68, .of func69 call69, .of func70 call70, .of func71 call71, .of func72 call72, .of func73 call73, .of func74 call74, .of func75 call75, .of func76 call76, .of func77 call77, .of func78 call78, .of func79 call79, .of func80 call80, .of func81 call81, .of func82 call82, .of func83 call83, .of func84 call84, .of func85 call85, .of func86 call86, .of func87 call87, .of func88 call88, .non func89 rfl, .of func90 call90, .of func91 call91, .of func92 call92, .of func93 call93, .of func94 call94, .of func95 call95, trivial⟩
theorem xfA1 : LAll (FnOK prog) 96 xF1 := ⟨.of func96 call96, .of func97 call97, .of func98 call98, .of func99 call99, .of func100 call100, .of func101 call101, .of func102 call102, .of func103 call103, .of func104 call104, .of func105 call105, .of func106 call106, .of func107 call107, .of func108 call108, .of func109 call109, .of func110 call110, .of func111 call111, .of func112 call112, .of func113 call113, .of func114 call114, .of func115 call115, .of func116 call116, .of func117 call117, .of func118 call118, .of func119 call119, .of func120 call120, .of func121 call121, .of func122 call122, .of func123 call123, .of func124 call124, .of func125 call125, .of func126 call126, .of func127 call127, .of func128 call128, .of func129 call129, .of func130 call130, .of func131 call131, .of func132 call132, .of func133 call133, .of func134 call134, .of func135 call135, .of func136 call136, .of func137 call137, .of func138 call138, .of func139 call139, .of func140 call140, .of func141 call141, .of func142 call142, .of func143 call143, .of func144 call144, .of func145 call145, .of func146 call146, .of func147 call147, .of func148 call148, .of func149 call149, .of func150 call150, .of func151 call151, .of func152 call152, .of func153 call153, .of func154 call154, .of func155 call155, .of func156 call156, .of func157 call157, .of func158 call158, .non func159 rfl, .of func160 call160, .of func161 call161, .of func162 call162, .of func163 call163, .of func164 call164, .of func165 call165, .of func166 call166, .of func167 call167, .of func168 call168, .of func169 call169, .of func170 call170, .of func171 call171, .of func172 call172, .of func173 call173, .of func174 call174, .of func175 call175, .of func176 call176, .of func177 call177, .of func178 call178, .of func179 call179, .of func180 call180, .of func181 call181, .of func182 call182, .of func183 call183, .of func184 call184, .of func185 call185, .of func186 call186, .of func187 call187, .of func188 call188, .of func189 call189, .of func190 call190, .of func191 call191, trivial⟩
theorem xfA2 : LAll (FnOK prog) 192 xF2 := ⟨.of func192 call192, .of func193 call193, .of func194 call194, .of func195 call195, .of func196 call196, .of func197 call197, .of func198 call198, .of func199 call199, .of func200 call200, .of func201 call201, .of func202 call202, .of func203 call203, .of func204 call204, .of func205 call205, .of func206 call206, .of func207 call207, .of func208 call208, .of func209 call209, .of func210 call210, .of func211 call211, .of func212 call212, .of func213 call213, .of func214 call214, .of func215 call215, .of func216 call216, .of func217 call217, .of func218 call218, .of func219 call219, .of func220 call220, .of func221 call221, .of func222 call222, .of func223 call223, .of func224 call224, .of func225 call225, .of func226 call226, .of func227 call227, .of func228 call228, .of func229 call229, .of func230 call230, .of func231 call231, .of func232 call232, .of func233 call233, .of func234 call234, .of func235 call235, .of func236 call236, .of func237 call237, .of func238 call238, .of func239 call239, .of func240 call240, .of func241 call241, .of func242 call242, .of func243 call243, .of func244 call244, .of func245 call245, .of func246 call246, .of func247 call247, .of func248 call248, .of func249 call249, .of func250 call250, .of func251 call251, .of func252 call252, .of func253 call253, .of func254 call254, .of func255 call255, .of func256 call256, .of func257 call257, .of func258 call258, .of func259 call259, .of func260 call260, .of func261 call261, .of func262 call262, .of func263 call263, .of func264 call264, .of func265 call265, .of func266 call266, .of func267 call267, .of func268 call268, .of func269 call269, .of func270 call270, .of func271 call271, .of func272 call272, .of func273 call273, .of func274 call274, .of func275 call275, .of func276 call276, .of func277 call277, .of func278 call278, .of func279 call279, .of func280 call280, .of func281 call281, .of func282 call282, .of func283 call283, .of func284 call284, .of func285 call285, .of func286 call286, .of func287 call287, trivial⟩
theorem xfA3 : LAll (FnOK prog) 288 xF3 := ⟨.of func288 call288, .of func289 call289, .of func290 call290, .of func291 call291, .of func292 call292, .of func293 call293, .of func294 call294, .of func295 call295, .of func296 call296, .of func297 call297, .of func298 call298, .of func299 call299, .of func300 call300, .of func301 call301, .of func302 call302, .of func303 call303, .of func304 call304, .of func305 call305, .of func306 call306, .of func307 call307, .of func308 call308, .of func309 call309, .of func310 call310, .non func311 rfl, .non func312 rfl, .non func313 rfl, .of func314 call314, .of func315 call315, .of func316 call316, .of func317 call317, .of func318 call318, .of func319 call319, .of func320 call320, .of func321 call321, .of func322 call322, .of func323 call323, .of func324 call324, .of func325 call325, .of func326 call326, .of func327 call327, .of func328 call328, .of func329 call329, .of func330 call330, .of func331 call331, .of func332 call332, .of func333 call333, .of func334 call334, .of func335 call335, .of func336 call336, .of func337 call337, .of func338 call338, .of func339 call339, .of func340 call340, .of func341 call341, .of func342 call342, .of func343 call343, .of func344 call344, .of func345 call345, .of func346 call346, .of func347 call347, .of func348 call348, .of func349 call349, .of func350 call350, .of func351 call351, .of func352 call352, .of func353 call353, .of func354 call354, .of func355 call355, .of func356 call356, .of func357 call357, .of func358 call358, .of func359 call359, .of func360 call360, .of func361 call361, .of func362 call362, .of func363 call363, .of func364 call364, .of func365 call365, .of func366 call366, .of func367 call367, .of func368 call368, .of func369 call369, .of func370 call370, .of func371 call371, .of func372 call372, .of func373 call373, .of func374 call374, .of func375 call375, .of func376 call376, .of func377 call377, .of func378 call378, .of func379 call379, .of func380 call380, .of func381 call381, .of func382 call382, .of func383 call383, trivial⟩
theorem xfA4 : LAll (FnOK prog) 384 xF4 := ⟨.of func384 call384, .of func385 call385, .of func386 call386, .of func387 call387, .of func388 call388, .of func389 call389, .of func390 call390, .of func391 call391, .of func392 call392, .of func393 call393, .of func394 call394, .of func395 call395, .of func396 call396, .of func397 call397, .of func398 call398, .of func399 call399, .of func400 call400, .of func401 call401, .of func402 call402, .of func403 call403, .of func404 call404, .of func405 call405, .of func406 call406, .of func407 call407, .of func408 call408, .of func409 call409, .of func410 call410, .of func411 call411, .of func412 call412, .of func413 call413, .of func414 call414, .of func415 call415, .of func416 call416, .of func417 call417, .of func418 call418, .of func419 call419, .of func420 call420, .of func421 call421, .of func422 call422, .of func423 call423, .of func424 call424, .of func425 call425, .of func426 call426, .of func427 call427, .of func428 call428, .of func429 call429, .of func430 call430, .of func431 call431, .of func432 call432, .of func433 call433, .of func434 call434, .of func435 call435, .of func436 call436, .non func437 rfl, .of func438 call438, .of func439 call439, .of func440 call440, .of func441 call441, .of func442 call442, .of func443 call443, .of func444 call444, .of func445 call445, .of func446 call446, .of func447 call447, .of func448 call448, .of func449 call449, .of func450 call450, .of func451 call451, .of func452 call452, .of func453 call453, .of func454 call454, .of func455 call455, .of func456 call456, .of func457 call457, .of func458 call458, .of func459 call459, .of func460 call460, .of func461 call461, .of func462 call462, .of func463 call463, .of func464 call464, .of func465 call465, .of func466 call466, .of func467 call467, .of func468 call468, .of func469 call469, .of func470 call470, .of func471 call471, .of func472 call472, .of func473 call473, .of func474 call474, .of func475 call475, .of func476 call476, .of func477 call477, .of func478 call478, .of func479 call479, trivial⟩
theorem xfA5 : LAll (FnOK prog) 480 xF5 := ⟨.non func480 rfl, .of func481 call481, .of func482 call482, .of func483 call483, .of func484 call484, .of func485 call485, .of func486 call486, .of func487 call487, .of func488 call488, .of func489 call489, .of func490 call490, .of func491 call491, .of func492 call492, .of func493 call493, .of func494 call494, .of func495 call495, .of func496 call496, .of func497 call497, .of func498 call498, .of func499 call499, .of func500 call500, .of func501 call501, .of func502 call502, .of func503 call503, .of func504 call504, .of func505 call505, .of func506 call506, .of func507 call507, .of func508 call508, .of func509 call509, .of func510 call510, .of func511 call511, .of func512 call512, .of func513 call513, .of func514 call514, .of func515 call515, .of func516 call516, .of func517 call517, .of func518 call518, .of func519 call519, .of func520 call520, .of func521 call521, .of func522 call522, .of func523 call523, .of func524 call524, .of func525 call525, .of func526 call526, .of func527 call527, .of func528 call528, .of func529 call529, .of func530 call530, .of func531 call531, .of func532 call532, .of func533 call533, .of func534 call534, .of func535 call535, .of func536 call536, .of func537 call537, .of func538 call538, .of func539 call539, .of func540 call540, .of func541 call541, .of func542 call542, .of func543 call543, .of func544 call544, .of func545 call545, .of func546 call546, .of func547 call547, .of func548 call548, .of func549 call549, .of func550 call550, .of func551 call551, .of func552 call552, .of func553 call553, .of func554 call554, .of func555 call555, .of func556 call556, .of func557 call557, .of func558 call558, .of func559 call559, .of func560 call560, .of func561 call561, .of func562 call562, .of func563 call563, .of func564 call564, .of func565 call565, .of func566 call566, .of func567 call567, .of func568 call568, .of func569 call569, .of func570 call570, .of func571 call571, .of func572 call572, .of func573 call573, .of func574 call574, .of func575 call575, trivial⟩
theorem xfA6 : LAll (FnOK prog) 576 xF6 := ⟨.of func576 call576, .of func577 call577, .of func578 call578, .of func579 call579, .of func580 call580, .of func581 call581, .of func582 call582, .non func583 rfl, .non func584 rfl, .of func585 call585, .of func586 call586, .of func587 call587, .of func588 call588, .of func589 call589, .of func590 call590, .of func591 call591, .of func592 call592, .of func593 call593, .of func594 call594, .of func595 call595, .of func596 call596, .of func597 call597, .of func598 call598, .of func599 call599, .of func600 call600, .of func601 call601, .of func602 call602, .of func603 call603, .of func604 call604, .of func605 call605, .of func606 call606, .of func607 call607, .of func608 call608, .of func609 call609, .of func610 call610, .of func611 call611, .of func612 call612, .of func613 call613, .of func614 call614, .of func615 call615, .of func616 call616, .of func617 call617, .of func618 call618, .of func619 call619, .of func620 call620, .of func621 call621, .of func622 call622, .of func623 call623, .of func624 call624, .of func625 call625, .of func626 call626, .of func627 call627, .of func628 call628, .of func629 call629, .of func630 call630, .of func631 call631, .of func632 call632, .of func633 call633, .of func634 call634, .of func635 call635, .of func636 call636, .of func637 call637, .of func638 call638, .of func639 call639, .of func640 call640, .of func641 call641, .of func642 call642, .of func643 call643, .of func644 call644, .of func645 call645, .of func646 call646, .of func647 call647, .of func648 call648, .of func649 call649, .of func650 call650, .of func651 call651, .of func652 call652, .of func653 call653, .of func654 call654, .of func655 call655, .of func656 call656, .of func657 call657, .of func658 call658, .of func659 call659, .of func660 call660, .of func661 call661, .of func662 call662, .of func663 call663, .of func664 call664, .of func665 call665, .of func666 call666, .of func667 call667, .of func668 call668, .of func669 call669, .of func670 call670, .of func671 call671, trivial⟩
theorem xfA7 : LAll (FnOK prog) 672 xF7 := ⟨.of func672 call672, .of func673 call673, .of func674 call674, .of func675 call675, .of func676 call676, .of func677 call677, .of func678 call678, .of func679 call679, .of func680 call680, .of func681 call681, .of func682 call682, .of func683 call683, .of func684 call684, .of func685 call685, .of func686 call686, .of func687 call687, .of func688 call688, .of func689 call689, .of func690 call690, .of func691 call691, .of func692 call692, .of func693 call693, .of func694 call694, .of func695 call695, .non func696 rfl, .non func697 rfl, .non func698 rfl, .non func699 rfl, .non func700 rfl, .non func701 rfl, .non func702 rfl, .non func703 rfl, .non func704 rfl, .non func705 rfl, .non func706 rfl, .non func707 rfl, .non func708 rfl, .non func709 rfl, .non func710 rfl, .non func711 rfl, .non func712 rfl, .non func713 rfl, .non func714 rfl, .non func715 rfl, .non func716 rfl, .non func717 rfl, .non func718 rfl, .non func719 rfl, .non func720 rfl, .non func721 rfl, .non func722 rfl, .non func723 rfl, .non func724 rfl, .non func725 rfl, .of func726 call726, trivial⟩
theorem xfs_all : Tr.AllAt (FnOK prog) 1 0 xfs := Tr.ofL_all _ _ _ _ (LAll.get (LAll.app xfA0 (LAll.app xfA1 (LAll.app xfA2 (LAll.app xfA3 (LAll.app xfA4 (LAll.app xfA5 (LAll.app xfA6 (xfA7) rfl) rfl) rfl) rfl) rfl) rfl) rfl))
theorem xfs_ok (f : Nat) (fn : Func) (h : xfs.get f = some fn) : FnOK prog f fn := by
  have := Tr.AllAt.get _ _ _ xfs_all f fn h
  simpa using this
end Go.Proofs.Tryz

namespace Go.Proofs.Tryz
open Go.Proofs.Ex Go.RowKit
variable [Sg]

theorem xadd_run (x y c : Nat) (hc : c ≤ 1) (w : World) : (callFunc 584 #[.int .u64 x, .int .u64 y, .int .u64 c]).run prog w =
    .ok (.value (.tuple #[.int .u64 (((x + y + c) % 18446744073709551616 : Nat) : Int), .int .u64 (((x + y + c) / 18446744073709551616 : Nat) : Int)])) w := by
  rw [run_callFunc_extern func584 (by kernel_rfl) (by kernel_rfl) (by kernel_rfl) (e := add64Entry) (by kernel_rfl), run_add64 x y c (by omega) (by omega) (by omega) (by omega)]
  have e1 : (((x + y + c) % 18446744073709551616 : Nat) : Int) = ((x : Int) + y + c) % 18446744073709551616 := by omega
  have e2 : (((x + y + c) / 18446744073709551616 : Nat) : Int) = ((x : Int) + y + c) / 18446744073709551616 := by omega
  rw [e1, e2]
  rfl

def xsubEntry : Array Value → Sem Value := fun args => do
  let (x, y, b) ← Extern.MathBitsCarry.three "Sub64" args
  pure (Extern.MathBitsCarry.pair ((x + Extern.MathBitsCarry.m64 - y - b) % Extern.MathBitsCarry.m64) (if x < y + b then 1 else 0))
theorem xsub_run (x y b : Nat) (hb : b ≤ 1) (w : World) : (callFunc 583 #[.int .u64 x, .int .u64 y, .int .u64 b]).run prog w =
    .ok (.value (.tuple #[.int .u64 (((x + 18446744073709551616 - y - b) % 18446744073709551616 : Nat) : Int), .int .u64 ((if x < y + b then 1 else 0 : Nat) : Int)])) w := by
  rw [run_callFunc_extern func583 (by kernel_rfl) (by kernel_rfl) (by kernel_rfl) (e := xsubEntry) (by kernel_rfl)]
  have : b = 0 ∨ b = 1 := by omega
  rcases this with rfl | rfl <;> rfl

theorem xE_ok : ∀ f args v, xE f args = some v → ∀ (E : Env) (args' : List Value), LR E args args' → ∃ v', VR E v v' ∧ ∀ w, (callFunc f args'.toArray).run prog w = .ok (.value v') w := by
  intro f args v h E args' ha
  unfold xE at h
  split at h
  · rename_i x y c
    have e := ha.eq (by rfl)
    subst e
    cases hc : (Nat.ble c 1 && Nat.blt x 18446744073709551616 && Nat.blt y 18446744073709551616) with
    | false => rw [hc] at h; cases h
    | true =>
      rw [hc] at h
      simp only [cond_true] at h
      simp only [Bool.and_eq_true] at hc
      have hc1 : c ≤ 1 := Nat.le_of_ble_eq_true hc.1.1
      cases hf : Nat.beq f 584 with
      | true =>
        rw [hf] at h
        cases h
        have := Nat.eq_of_beq_eq_true hf
        subst this
        exact ⟨_, VR.closed rfl, fun w => xadd_run x y c hc1 w⟩
      | false =>
        rw [hf] at h
        simp only [cond_false] at h
        cases hf2 : Nat.beq f 583 with
        | false => rw [hf2] at h; cases h
        | true =>
          rw [hf2] at h
          cases h
          have := Nat.eq_of_beq_eq_true hf2
          subst this
          refine ⟨_, VR.closed rfl, fun w => ?_⟩
          have := xsub_run x y c hc1 w
          have e : ((if x < y + c then 1 else 0 : Nat) : Int) = (bif Nat.blt x (y + c) then 1 else 0 : Int) := by
            cases hb : Nat.blt x (y + c) with
            | true => have := Nat.le_of_ble_eq_true hb; rw [if_pos (by omega)]; rfl
            | false =>
              have : ¬ x < y + c := fun hl => by
                have := Nat.ble_eq_true_of_le (n := x + 1) (m := y + c) hl
                rw [show Nat.blt x (y + c) = Nat.ble (x + 1) (y + c) from rfl] at hb
                rw [this] at hb; cases hb
              rw [if_neg this]; rfl
          have hy : y < 18446744073709551616 := Nat.le_of_ble_eq_true hc.2
          have e3 : (((x + 18446744073709551616 - y - c) % 18446744073709551616 : Nat) : Int) = ((x : Int) + 18446744073709551616 - y - c) % 18446744073709551616 := by omega
          rw [e, e3] at this
          exact this
  · cases h
end Go.Proofs.Tryz

namespace Go.Proofs.YtbiedfkmmcaplaaGreatDoor
open Go.RowKit

def crcT : List Nat := [0x00000000, 0x04c11db7, 0x09823b6e, 0x0d4326d9, 0x130476dc, 0x17c56b6b, 0x1a864db2, 0x1e475005, 0x2608edb8, 0x22c9f00f, 0x2f8ad6d6, 0x2b4bcb61, 0x350c9b64, 0x31cd86d3, 0x3c8ea00a, 0x384fbdbd]
def crcH (s n : Nat) : Nat := (s * 16 % 4294967296) ^^^ crcT.getD ((s / 268435456) ^^^ n) 0
def crcB (s c : Nat) : Nat := crcH (crcH s (c / 16)) (c % 16)
def crcS (s : Nat) (b : List Int) : Nat := b.foldl (fun s c => crcB s c.toNat) s
theorem crcT_lt : ∀ i, crcT.getD i 0 < 4294967296 := by
  intro i
  by_cases h : i < 16
  · have : ∀ j, j < 16 → crcT.getD j 0 < 4294967296 := by decide
    exact this i h
  · have : crcT[i]? = none := List.getElem?_eq_none (by simp [crcT]; omega)
    simp [List.getD, this]
theorem crcH_lt (s n : Nat) : crcH s n < 4294967296 :=
  Nat.xor_lt_two_pow (n := 32) (Nat.mod_lt _ (by decide)) (crcT_lt _)
theorem crcB_lt (s c : Nat) : crcB s c < 4294967296 := crcH_lt _ _
theorem crcS_snoc (s : Nat) (b : List Int) (c : Int) : crcS s (b ++ [c]) = crcB (crcS s b) c.toNat := by simp [crcS]
theorem idx_lt {s n : Nat} (hs : s < 4294967296) (hn : n < 16) : (s / 268435456) ^^^ n < 16 :=
  Nat.xor_lt_two_pow (n := 4) (by omega) hn
end Go.Proofs.YtbiedfkmmcaplaaGreatDoor

namespace Go.Proofs.YtbiedfkmmcaplaaGreatDoor
open Go.RowKit
attribute [local go_sem] Oper.semAt_some

theorem rowz1 {w : World} {g : Nat} {a0 : Value} {t : TypeId} {f : Nat × Nat} (h : w.heap[g]? = some (.cells #[a0] t f)) (v : Value) : w.setCell ⟨g, 0, none⟩ v = setRow w g #[v] := setRow_of_setCell h v rfl
def crcV : List Value := [.int .u32 0, .int .u32 79764919, .int .u32 159529838, .int .u32 222504665, .int .u32 319059676, .int .u32 398814059, .int .u32 445009330, .int .u32 507990021, .int .u32 638119352, .int .u32 583659535, .int .u32 797628118, .int .u32 726387553, .int .u32 890018660, .int .u32 835552979, .int .u32 1015980042, .int .u32 944750013]
theorem crcV_at : ∀ i, i < 16 → crcV[i]? = some (.int .u32 ((crcT.getD i 0 : Nat) : Int)) := by
  intro i h
  have : i = 0 ∨ i = 1 ∨ i = 2 ∨ i = 3 ∨ i = 4 ∨ i = 5 ∨ i = 6 ∨ i = 7 ∨ i = 8 ∨ i = 9 ∨ i = 10 ∨ i = 11 ∨ i = 12 ∨ i = 13 ∨ i = 14 ∨ i = 15 := by omega
  rcases this with rfl | rfl | rfl | rfl | rfl | rfl | rfl | rfl | rfl | rfl | rfl | rfl | rfl | rfl | rfl | rfl <;> rfl

set_option maxRecDepth 100000 in
set_option maxHeartbeats 4000000 in
theorem crc_half (g : Nat) (s n : Nat) (hs : s < 4294967296) (hn : n < 16) (t : TypeId) (w : World) (hg : w.heap[g]? = some (.cells #[.int .u32 (s : Int)] t (0, 0))) :
    Calls Tryz.prog 525 #[.pointer (some ⟨g, 0, none⟩), .int .u8 (n : Int)] w fun e w' => e = .returned (.tuple #[]) ∧ Exc g w w' ∧ w'.heap[g]? = some (.cells #[.int .u32 ((crcH s n : Nat) : Int)] t (0, 0)) := by
  have hi := idx_lt hs hn
  have hx8 : bits .xor .u8 ((s : Int) / 268435456) (n : Int) = ((s / 268435456 ^^^ n : Nat) : Int) := u8_xor_nat (s / 268435456) n (by omega) (by omega)
  have hx32 : bits .xor .u32 ((s : Int) * 16 % 4294967296) ((crcT.getD (s / 268435456 ^^^ n) 0 : Nat) : Int) = ((crcH s n : Nat) : Int) := u32_xor_nat (s * 16 % 4294967296) _ (Nat.mod_lt _ (by decide)) (crcT_lt _)
  have hV := crcV_at _ hi
  generalize crcT.getD (s / 268435456 ^^^ n) 0 = c at *
  generalize s / 268435456 ^^^ n = i at *
  have hW : ∀ h : i < crcV.length, crcV[i]'h = .int .u32 (c : Int) := fun h => by
    rw [List.getElem?_eq_getElem h] at hV
    exact Option.some.inj hV
  unfold crcV at hW
  have l_g := (rcell hg).2.2
  obtain ⟨zg_a, zg_b, -⟩ := rcell hg
  go_enter Tryz.func525, Tryz.ntmps525
  go_wp2_with fail
  have f_g1 := (ka (hg) (.cells #[.int .u32 0, .int .u32 79764919, .int .u32 159529838, .int .u32 222504665, .int .u32 319059676, .int .u32 398814059, .int .u32 445009330, .int .u32 507990021, .int .u32 638119352, .int .u32 583659535, .int .u32 797628118, .int .u32 726387553, .int .u32 890018660, .int .u32 835552979, .int .u32 1015980042, .int .u32 944750013] 721))
  have f_v1 := (na w #[.int .u32 0, .int .u32 79764919, .int .u32 159529838, .int .u32 222504665, .int .u32 319059676, .int .u32 398814059, .int .u32 445009330, .int .u32 507990021, .int .u32 638119352, .int .u32 583659535, .int .u32 797628118, .int .u32 726387553, .int .u32 890018660, .int .u32 835552979, .int .u32 1015980042, .int .u32 944750013] 721)
  have hB1 := (xA (x0 g w (Nat.le_of_lt (rcell hg).2.2)) (.cells #[.int .u32 0, .int .u32 79764919, .int .u32 159529838, .int .u32 222504665, .int .u32 319059676, .int .u32 398814059, .int .u32 445009330, .int .u32 507990021, .int .u32 638119352, .int .u32 583659535, .int .u32 797628118, .int .u32 726387553, .int .u32 890018660, .int .u32 835552979, .int .u32 1015980042, .int .u32 944750013] 721))
  clear zg_a zg_b
  have lg1 := (rcell f_g1).2.2
  have lv1 := (rcell f_v1).2.2
  refine Abs.wp_region_abs (Abs.cls0 _) [0, 1, 2, 3, 4, 5, 6, 7, 8, 9, 10, 11, 12, 13, 14, 15, 16] (by kernel_rfl) (by kernel_rfl) (Below.refl _ _).drew ?_
  repeat (first | (refine Abs.step_pure rfl rfl (fun K hK => ?_); go_simp; (try go_bits); (first | refine hK _ _ ?_ | (simp only [↓IntWalk.iteOmega]; go_simp; (try go_bits); refine hK _ _ ?_)); clear hK K) | (refine Abs.step_load (v := ?_) rfl rfl (by kernel_rfl) rfl (fun w0 hI => ?_) (fun K hK => ?_); rotate_left; (· have z0 := (rcell (kp hI (f_g1))).1; have z1 := (rcell (kp hI (f_v1))).1; go_simp; rfl); (simp only [Act.put, List.setIfInBounds_toArray, List.set_cons_zero, List.set_cons_succ]; refine hK _ _ ?_; clear hK K)) | (refine Abs.step_skip rfl rfl (fun K hK => ?_); (simp only [Act.put, List.setIfInBounds_toArray, List.set_cons_zero, List.set_cons_succ]; refine hK _ _ ?_; clear hK K)))
  try simp only [hW]
  repeat (first | (refine Abs.step_pure rfl rfl (fun K hK => ?_); go_simp; (try go_bits); (first | refine hK _ _ ?_ | (simp only [↓IntWalk.iteOmega]; go_simp; (try go_bits); refine hK _ _ ?_)); clear hK K) | (refine Abs.step_load (v := ?_) rfl rfl (by kernel_rfl) rfl (fun w0 hI => ?_) (fun K hK => ?_); rotate_left; (· have z0 := (rcell (kp hI (f_g1))).1; have z1 := (rcell (kp hI (f_v1))).1; go_simp; rfl); (simp only [Act.put, List.setIfInBounds_toArray, List.set_cons_zero, List.set_cons_succ]; refine hK _ _ ?_; clear hK K)) | (refine Abs.step_skip rfl rfl (fun K hK => ?_); (simp only [Act.put, List.setIfInBounds_toArray, List.set_cons_zero, List.set_cons_succ]; refine hK _ _ ?_; clear hK K)))
  (refine Abs.step_store (T := ?_) rfl rfl rfl (fun w0 hI hF hU => ?_) (fun w0 hI hU hJ => ?_) (fun K hK => ?_); rotate_left; (· have hR := kp hI (f_g1); have hg0 := (rcell hR).1; have hg1 := (rcell hR).2.1; simp only [Abs.T_setF, Abs.T_addA, Abs.T_push, Abs.T_start]; go_simp; exact rowz1 hR _); (· first | exact trivial | exact js hJ rfl _ | exact js hJ (Or.inl rfl) _ | exact js hJ (Or.inr rfl) _); (simp only [Act.put, List.setIfInBounds_toArray, List.set_cons_zero, List.set_cons_succ]; refine hK _ _ ?_; clear hK K))
  repeat (first | (refine Abs.step_pure rfl rfl (fun K hK => ?_); go_simp; (try go_bits); (first | refine hK _ _ ?_ | (simp only [↓IntWalk.iteOmega]; go_simp; (try go_bits); refine hK _ _ ?_)); clear hK K) | (refine Abs.step_load (v := ?_) rfl rfl (by kernel_rfl) rfl (fun w0 hI => ?_) (fun K hK => ?_); rotate_left; (· have z0 := (rcell (kp hI (f_g1))).1; have z1 := (rcell (kp hI (f_v1))).1; go_simp; rfl); (simp only [Act.put, List.setIfInBounds_toArray, List.set_cons_zero, List.set_cons_succ]; refine hK _ _ ?_; clear hK K)) | (refine Abs.step_skip rfl rfl (fun K hK => ?_); (simp only [Act.put, List.setIfInBounds_toArray, List.set_cons_zero, List.set_cons_succ]; refine hK _ _ ?_; clear hK K)))
  intro w0 hI hF hx1 hx2
  clear hx1 hx2 hF
  simp only [Abs.T_push]
  generalize hT2 : setRow w0 _ _ = w2
  obtain ⟨hx2, f_g2⟩ := fin_x hI (f_g1) hT2
  clear hT2 hI w0
  have f_v2 := kx hx2 (f_v1) (by omega)
  have hB2 := xX hB1 hx2 (by omega)
  obtain ⟨zv_a, zv_b, lv2⟩ := rcell f_v2
  obtain ⟨zg_a, zg_b, lg2⟩ := rcell f_g2
  go_wp2
  refine bodyPost_end (by simp [results, Tryz.results525, go_sem]; try rfl) rfl ⟨rfl, hB2, (f_g2)⟩
end Go.Proofs.YtbiedfkmmcaplaaGreatDoor

namespace Go.Proofs.YtbiedfkmmcaplaaGreatDoor
open Go.RowKit
attribute [local go_sem] Oper.semAt_some

set_option maxRecDepth 100000 in
set_option maxHeartbeats 4000000 in
theorem crc_take (g : Nat) (s c : Nat) (hs : s < 4294967296) (hc : c < 256) (t : TypeId) (w : World) (hg : w.heap[g]? = some (.cells #[.int .u32 (s : Int)] t (0, 0))) :
    Calls Tryz.prog 484 #[.pointer (some ⟨g, 0, none⟩), .int .u8 (c : Int)] w fun e w' => e = .returned (.tuple #[]) ∧ Exc g w w' ∧ w'.heap[g]? = some (.cells #[.int .u32 ((crcB s c : Nat) : Int)] t (0, 0)) := by
  have cA := fun w h => crc_half g s (c / 16) hs (by omega) t w h
  have cB := fun w h => crc_half g (crcH s (c / 16)) (c % 16) (crcH_lt _ _) (by omega) t w h
  have hx8 : bits .and .u8 (c : Int) 15 = ((c % 16 : Nat) : Int) := (u8_and_nat c 15 hc (by decide)).trans (by rw [Nat.and_two_pow_sub_one_eq_mod c 4])
  have l_g := (rcell hg).2.2
  obtain ⟨zg_a, zg_b, -⟩ := rcell hg
  go_enter Tryz.func484, Tryz.ntmps484
  go_wp2_with fail
  refine (cA _ (hg)).mono ?_
  rintro e w1 ⟨rfl, hx1, f_g1⟩
  have hB1 := xX (x0 g w (Nat.le_of_lt (rcell hg).2.2)) hx1 (by omega)
  clear zg_a zg_b
  obtain ⟨zg_a, zg_b, lg1⟩ := rcell f_g1
  go_wp2_with fail
  refine (cB _ (f_g1)).mono ?_
  rintro e w2 ⟨rfl, hx2, f_g2⟩
  have hB2 := xX hB1 hx2 (by omega)
  clear zg_a zg_b
  obtain ⟨zg_a, zg_b, lg2⟩ := rcell f_g2
  go_wp2
  refine bodyPost_end (by simp [results, Tryz.results484, go_sem]; try rfl) rfl ⟨rfl, hB2, (f_g2)⟩
end Go.Proofs.YtbiedfkmmcaplaaGreatDoor

namespace Go.Proofs.YtbiedfkmmcaplaaGreatDoor
open Go.RowKit
attribute [local go_sem] Oper.semAt_some

theorem crcS_take {s : Nat} {l : List Int} {k : Nat} (h : k < l.length) : crcS s (l.take (k + 1)) = crcB (crcS s (l.take k)) (l[k]).toNat := by
  rw [← crcS_snoc, List.take_succ_eq_append_getElem h]

set_option maxRecDepth 100000 in
set_option maxHeartbeats 4000000 in
theorem crc_More (s : Nat) (A : Option Addr) (c : Nat) (l : List Int) (hs : s < 4294967296) (hn : l.length ≤ 9223372036854775807) (tt : TypeId)
    (w : World) (hm : 0 < l.length → ∃ g o cur, A = some ⟨g, o, none⟩ ∧ w.heap[g]? = some (.cells cur tt (0, 0)) ∧ ∀ i (hi : i < l.length), cur[o + i]? = some (.int .u8 l[i])) (hb : ∀ x ∈ l, 0 ≤ x ∧ x < 256) :
    Calls Tryz.prog 411 #[.int .u32 (s : Int), .slice A l.length c] w fun e w' => e = .returned (.int .u32 ((crcS s l : Nat) : Int)) ∧ Below w.heap.size w w' := by
  have cT := fun g s c hs hc w h => crc_take g s c hs hc 635 w h
  by_cases h0 : 0 < l.length
  · obtain ⟨g, o, cur, rfl, hg, hc⟩ := hm h0
    have HC := hide hc
    have HB := hide hb
    clear hc hm hb
    go_enter Tryz.func411, Tryz.ntmps411
    obtain ⟨zg_a, zg_b, lg0⟩ := rcell hg
    go_wp2_with fail
    go_loopw [14] (fun vi wr => ∃ (k s' : Nat), vi = .int .i64 k ∧ k ≤ l.length ∧ s' < 4294967296 ∧ Hid (crcS s (l.take k) = s') ∧ wr.heap[g]? = some (.cells cur tt (0, 0)) ∧ wr.heap[w.heap.size]? = some (.cells #[.int .u32 (s' : Int)] 635 (0, 0)) ∧ Below w.heap.size w wr) (fun vi _ => l.length - (intOf vi).toNat)
    case atStart => exact ⟨0, s, rfl, by omega, hs, hide rfl, (ka (hg) (.cells #[.int .u32 (s : Int)] 635)), (na w #[.int .u32 (s : Int)] 635), (bA (b0 w) (.cells #[.int .u32 (s : Int)] 635))⟩
    case round =>
      obtain ⟨k, s', rfl, hk, hs', hT, j1, j2, hb⟩ := hrel
      by_cases hlt : k < l.length
      · have q1 := HC.out k hlt
        have hv := HB.out _ (List.getElem_mem hlt)
        have HN : Hid (crcS s (l.take (k + 1)) = crcB s' (l[k]).toNat) := hide ((crcS_take hlt).trans (by rw [hT.out]))
        generalize l[k] = v at *
        obtain ⟨x, rfl⟩ := Int.eq_ofNat_of_zero_le hv.1
        simp only [Int.toNat_natCast] at HN
        have hx : x < 256 := by omega
        have cB := fun w h => cT w.heap.size s' x hs' hx w h
        clear hv
        obtain ⟨zg_a, zg_b, lg1⟩ := rcell j1
        obtain ⟨zr_a, zr_b, lr2⟩ := rcell j2
        go_wp2_with fail
        refine (cT _ s' x hs' hx _ (j2)).mono ?_
        rintro e w3 ⟨rfl, hx3, f_r3⟩
        have f_g3 := kx hx3 (j1) (by omega)
        have hB3 := bX hb hx3 (by omega)
        clear zg_a zg_b zr_a zr_b
        obtain ⟨zg_a, zg_b, lg3⟩ := rcell f_g3
        obtain ⟨zr_a, zr_b, lr3⟩ := rcell f_r3
        go_wp2
        go_roundw
        case rel => exact ⟨k + 1, crcB s' x, by go_num, by omega, crcB_lt _ _, HN, (f_g3), (f_r3), hB3⟩
        case measure => simp [intOf]; omega
      · obtain rfl : k = l.length := by omega
        have E := hT.out
        rw [List.take_length] at E
        subst E
        obtain ⟨zg_a, zg_b, lg4⟩ := rcell j1
        obtain ⟨zr_a, zr_b, lr5⟩ := rcell j2
        go_wp2
        go_ret
        exact ⟨rfl, hb⟩
  · obtain rfl : l = [] := List.eq_nil_of_length_eq_zero (by omega)
    clear hm hb
    go_enter Tryz.func411, Tryz.ntmps411
    go_wp2_with fail
    go_loopw [14] (fun vi wr => vi = .int .i64 0 ∧ wr.heap[w.heap.size]? = some (.cells #[.int .u32 (s : Int)] 635 (0, 0)) ∧ Below w.heap.size w wr) (fun _ _ => 0)
    case atStart => exact ⟨rfl, (na w #[.int .u32 (s : Int)] 635), (bA (b0 w) (.cells #[.int .u32 (s : Int)] 635))⟩
    case round =>
      obtain ⟨rfl, j2, hb⟩ := hrel
      obtain ⟨zr_a, zr_b, lr1⟩ := rcell j2
      go_wp2
      go_ret
      exact ⟨rfl, hb⟩
end Go.Proofs.YtbiedfkmmcaplaaGreatDoor

namespace Go.Proofs.Tryz
open Go.Proofs.Ex Go.RowKit Go.Proofs.YtbiedfkmmcaplaaGreatDoor
variable [Sg]

theorem crT_get : ∀ i, i < 16 → crT.get i = some (crcT.getD i 0) := by
  intro i h
  have : i = 0 ∨ i = 1 ∨ i = 2 ∨ i = 3 ∨ i = 4 ∨ i = 5 ∨ i = 6 ∨ i = 7 ∨ i = 8 ∨ i = 9 ∨ i = 10 ∨ i = 11 ∨ i = 12 ∨ i = 13 ∨ i = 14 ∨ i = 15 := by omega
  rcases this with rfl | rfl | rfl | rfl | rfl | rfl | rfl | rfl | rfl | rfl | rfl | rfl | rfl | rfl | rfl | rfl <;> rfl

theorem crH_eq {s n : Nat} (hs : s < 4294967296) (hn : n < 16) : crH s n = crcH s n := by
  unfold crH crcH
  have e : Nat.xor (s / 268435456) n = s / 268435456 ^^^ n := rfl
  rw [e, crT_get _ (idx_lt hs hn)]
  rfl
theorem crB_eq {s c : Nat} (hs : s < 4294967296) (hc : c < 256) : crB s c = crcB s c := by
  unfold crB crcB
  rw [crH_eq hs (by omega), crH_eq (crcH_lt _ _) (by omega)]

theorem crS_cons {v : Value} {l : List Value} {s r : Nat} (h : crS (v :: l) s = some r) : ∃ c : Nat, v = .int .u8 c ∧ c < 256 ∧ crS l (crB s c) = some r := by
  cases v with
  | int k m =>
    cases k <;> cases m <;> first
      | (simp [crS] at h; done)
      | (rename_i c
         change (bif Nat.blt c 256 then crS l (crB s c) else none) = some r at h
         cases hc : Nat.blt c 256 with
         | false => rw [hc] at h; cases h
         | true =>
           rw [hc] at h
           exact ⟨c, rfl, Nat.le_of_ble_eq_true hc, h⟩)
  | _ => simp [crS] at h

theorem crS_sound : ∀ (l : List Value) (s r : Nat), s < 4294967296 → crS l s = some r → ∃ ns : List Int, l = ns.map (Value.int .u8) ∧ (∀ x ∈ ns, 0 ≤ x ∧ x < 256) ∧ r = crcS s ns := by
  intro l
  induction l with
  | nil => intro s r hs h; simp only [crS] at h; cases h; exact ⟨[], rfl, fun x hx => (by cases hx), rfl⟩
  | cons v l ih =>
    intro s r hs h
    obtain ⟨c, rfl, hc', h⟩ := crS_cons h
    obtain ⟨ns, h1, h2, h3⟩ := ih _ _ (by rw [crB_eq hs hc']; exact crcB_lt _ _) h
    refine ⟨(c : Int) :: ns, by rw [h1]; rfl, ?_, ?_⟩
    · intro x hx
      rcases List.mem_cons.1 hx with rfl | hx
      · omega
      · exact h2 x hx
    · rw [h3, crB_eq hs hc']
      rfl

theorem closed_bytes : ∀ ns : List Int, allClosed (ns.map (Value.int .u8)) = true := by
  intro ns
  induction ns with
  | nil => rfl
  | cons x ns ih => simp only [List.map_cons, allClosed, ih]; rfl

theorem xO_ok : ∀ f args h v, xO f args h = some v → ∀ (E : Env) (w : World) (args' : List Value), HR E h w → LR E args args' →
    Calls prog f args'.toArray w fun e w' => ∃ v', e = .returned v' ∧ VR E v v' ∧ Below w.heap.size w w' := by
  intro f args h v ho E w args' hr ha
  unfold xO at ho
  cases hf : Nat.beq f 411 with
  | false => rw [hf] at ho; cases ho
  | true =>
    rw [hf] at ho
    simp only [cond_true] at ho
    have := Nat.eq_of_beq_eq_true hf
    subst this
    unfold crM at ho
    split at ho
    · rename_i s a n c
      cases hc : (Nat.blt s 4294967296 && Nat.ble n 9223372036854775807) with
      | false => rw [hc] at ho; cases ho
      | true =>
        rw [hc] at ho
        simp only [cond_true] at ho
        simp only [Bool.and_eq_true] at hc
        have hs : s < 4294967296 := Nat.le_of_ble_eq_true hc.1
        have hn : n ≤ 9223372036854775807 := Nat.le_of_ble_eq_true hc.2
        split at ho
        · rename_i l hl
          cases hlen : Nat.beq l.length n with
          | false => rw [hlen] at ho; cases ho
          | true =>
          rw [hlen] at ho
          simp only [cond_true] at ho
          have hlen := Nat.eq_of_beq_eq_true hlen
          split at ho
          · rename_i r hcr
            cases ho
            obtain ⟨ns, rfl, hb, rfl⟩ := crS_sound _ _ _ hs hcr
            obtain ⟨u1, t1, rfl, q1, ht⟩ := ha.cases
            obtain ⟨u2, t2, rfl, q2, ht2⟩ := ht.cases
            have := ht2.nil_right
            subst this
            rw [q1.int_inv]
            have hall := closed_bytes ns
            cases q2 with
            | nilSlice =>
              simp only [firstA, Option.some.injEq] at hl
              have hns : ns = [] := by
                cases ns with
                | nil => rfl
                | cons x ns => simp at hl
              subst hns
              simp only [List.map_nil, List.length_nil] at hlen
              subst hlen
              refine (crc_More s none c [] hs (by simp) 5 w (fun h => by simp at h) hb).mono ?_
              rintro e w' ⟨rfl, hbl⟩
              exact ⟨_, rfl, .int _ _, hbl⟩
            | slice ad cp =>
              rename_i a1 a2 c2
              obtain ⟨b, off, spot⟩ := a1
              obtain ⟨b2, off2, spot2⟩ := a2
              obtain ⟨d1, d2, d3⟩ := ad
              simp only at d1 d2 d3
              subst d2 d3
              cases spot2 with
              | some q => simp [firstA] at hl
              | none =>
                simp only [firstA] at hl
                split at hl
                · rename_i cc z zs k cap e hg
                  obtain ⟨c', hw, hcr, _⟩ := hr.at hg d1
                  rw [Nat.mul_one] at hl
                  obtain ⟨l', g1, g2, g3⟩ := readN_spec hcr _ _ _ hl
                  have e1 := g2.eq hall
                  subst e1
                  simp only [List.length_map] at hlen
                  subst hlen
                  refine (crc_More s (some ⟨b2, off2, none⟩) c2 ns hs hn e w (fun _ => ⟨b2, off2, c', rfl, hw, fun i hi => ?_⟩) hb).mono ?_
                  · exact g3 i _ (by simp [hi])
                  · rintro e w' ⟨rfl, hbl⟩
                    exact ⟨_, rfl, .int _ _, hbl⟩
                · cases hl
          · cases ho
        · cases ho
    · cases ho
theorem xL_ok : LkOK prog xL where
  ti := xti_ok
  fs := fun f fn h => (xfs_ok f fn h).1
  call := fun f fn c h hb => (xfs_ok f fn h).2 c hb
  ext := xE_ok
  orc := fun f a h v ho E w args' _ _ hr ha => xO_ok f a h v ho E w args' hr ha
  orx := fun _ _ _ _ _ _ _ h => (by cases h)
  sbin := fun _ _ _ _ _ h => (by cases h)
  sun := fun _ _ _ h => (by cases h)
  scv := fun _ _ _ _ h => (by cases h)
  wide := fun _ h => (by cases h)
  smx := fun _ _ _ _ h => (by cases h)
theorem xfollows : prog.follows .mixedOrders = true := by kernel_rfl
end Go.Proofs.Tryz

namespace Go.Proofs.Tryz
open Go.Proofs.Ex Go.RowKit Go.Proofs.YtbiedfkmmcaplaaGreatDoor

def gNames : List String := ["internal/strconv.uint64pow10", "strconv.ErrSyntax", "strconv.ErrRange"]
def IsG (k : Nat) : Prop := k = 0 ∨ ∃ n ∈ gNames, prog.globalNamed n = some k
theorem var_same {w w' : World} {n : String} (hn : n ∈ gNames) {cs : Array Value} (h : w.var? prog n = some cs) (hh : ∀ k, IsG k → w'.heap[k]? = w.heap[k]?) : w'.var? prog n = some cs := by
  unfold World.var? at *
  cases hg : prog.globalNamed n with
  | none => rw [hg] at h; cases h
  | some k =>
    rw [hg] at h
    simp only [Option.bind_some] at h ⊢
    rw [hh k (.inr ⟨n, hn, hg⟩)]
    exact h
theorem laid_same {w w' : World} (h : Laid w) (hh : ∀ k, IsG k → w'.heap[k]? = w.heap[k]?) : Laid w' := by
  obtain ⟨⟨m, h1⟩, h2, ⟨tp, p, h3⟩, ⟨tq, q, h4⟩⟩ := h
  refine ⟨⟨m, ?_⟩, var_same (by simp [gNames]) h2 hh, ⟨tp, p, var_same (by simp [gNames]) h3 hh⟩, ⟨tq, q, var_same (by simp [gNames]) h4 hh⟩⟩
  rw [← h1]
  unfold World.cell?
  rw [hh 0 (.inl rfl)]
theorem var_lt {w : World} {n : String} {cs : Array Value} (h : w.var? prog n = some cs) {k : Nat} (hk : prog.globalNamed n = some k) : k < w.heap.size := by
  unfold World.var? at h
  rw [hk] at h
  simp only [Option.bind_some] at h
  rcases Nat.lt_or_ge k w.heap.size with h1 | h1
  · exact h1
  · rw [Array.getElem?_eq_none h1] at h; cases h
theorem laid_lt {w : World} (h : Laid w) : ∀ k, IsG k → k < w.heap.size := by
  obtain ⟨⟨m, h1⟩, h2, ⟨tp, p, h3⟩, ⟨tq, q, h4⟩⟩ := h
  rintro k (rfl | ⟨n, hn, hk⟩)
  · rcases Nat.lt_or_ge 0 w.heap.size with h5 | h5
    · exact h5
    · rw [World.cell?, Array.getElem?_eq_none h5] at h1; cases h1
  · simp only [gNames, List.mem_cons, List.not_mem_nil, or_false] at hn
    rcases hn with rfl | rfl | rfl
    · exact var_lt h2 hk
    · exact var_lt h3 hk
    · exact var_lt h4 hk
instance sg6 : Sg := ⟨fun _ => none, fun F w => Laid w ∧ ∀ k, IsG k → F k, fun h h1 h2 => ⟨laid_same h.1 fun k hk => h2 k (h.2 k hk), fun k hk => h1 k (h.2 k hk)⟩⟩

noncomputable def lookT : List (Nat × List Value × Value) → Nat → List Value → Option Value
  | [], _, _ => none
  | (g, xs, v) :: l, f, args => cond (Nat.beq f g && veqN.veqL 5 xs args) (some v) (lookT l f args)
def TabE (x : Nat × List Value × Value) : Prop := closed x.2.2 = true ∧ allClosed x.2.1 = true ∧ ∀ w, Laid w → Calls prog x.1 x.2.1.toArray w fun e w' => e = .returned x.2.2 ∧ Below w.heap.size w w'
theorem lookT_ok {f : Nat} {args : List Value} {v : Value} : ∀ {T : List (Nat × List Value × Value)}, All TabE T → lookT T f args = some v → ∀ (E : Env) (w : World) (args' : List Value), Laid w → LR E args args' →
    Calls prog f args'.toArray w fun e w' => ∃ v', e = .returned v' ∧ VR E v v' ∧ Below w.heap.size w w'
  | [], _, h => by cases h
  | (g, xs, u) :: l, ⟨⟨h1, h2, h3⟩, ht⟩, h => by
    unfold lookT at h
    cases hc : Nat.beq f g && veqN.veqL 5 xs args with
    | false => rw [hc] at h; exact lookT_ok ht h
    | true =>
      rw [hc] at h
      simp only [cond_true, Option.some.injEq] at h
      simp only [Bool.and_eq_true] at hc
      have e1 := Nat.eq_of_beq_eq_true hc.1
      have e2 := (veq_sound 5).2 _ _ hc.2
      subst e1 e2 h
      intro E w args' hL ha
      have e := ha.eq h2
      subst e
      exact (h3 w hL).mono fun e w' ⟨a, b⟩ => ⟨_, a, VR.closed h1, b⟩
theorem drewN_below (w : World) (n : Nat) : Below w.heap.size w (w.drewN n) := ⟨rfl, rfl, rfl, Nat.le_refl _, fun _ _ => rfl⟩
theorem tabC (s : ByteArray) (a r : List UInt8) (hs : s.size < 1000) (h : Lib.cut s.data.toList [10] = (a, r, true)) : TabE (51, [.string s, .string ⟨#[10]⟩], .tuple #[.string ⟨a.toArray⟩, .string ⟨r.toArray⟩, .bool true]) :=
  ⟨rfl, rfl, fun w hL => by
    obtain ⟨m, hm⟩ := hL.mx
    refine (Tryz.strings_Cut s ⟨#[10]⟩ m w (by omega) hm).mono ?_
    rintro e w' ⟨rfl, n, rfl⟩
    refine ⟨?_, drewN_below w n⟩
    have h' : Lib.cut s.data.toList (⟨#[10]⟩ : ByteArray).data.toList = (a, r, true) := h
    rw [h']⟩
theorem tabF (n : Nat) (a : List UInt8) (hn : n < 1000) (h : Lib.itoa (n : Int) = a) : TabE (105, [.int .i64 (n : Int), .int .i64 10], .string ⟨a.toArray⟩) :=
  ⟨rfl, rfl, fun w hL => by
    refine (con_fmt (n : Int) (by unfold i64In; omega) w hL).mono ?_
    rintro e w' ⟨rfl, hb⟩
    refine ⟨?_, hb⟩
    unfold itoaB
    rw [h]⟩
theorem tabP (s : ByteArray) (n : Int) (hs : s.size < 1000) (h : Lib.parseIntB 64 s.data.toList = .ok n) : TabE (104, [.string s, .int .i64 10, .int .i64 64], .tuple #[.int .i64 n, .nilIface]) :=
  ⟨rfl, rfl, fun w _ => by
    refine (Tryz.strconv_ParseInt_10_at64_ok s (by omega) n h w).mono ?_
    rintro e w' ⟨rfl, h2⟩
    refine ⟨rfl, ?_⟩
    rcases h2 with rfl | ⟨t, rfl⟩
    · exact b0 _
    · exact Lib.bytesWorld_below _ _ _⟩
noncomputable def tab7 : List (Nat × List Value × Value) := [(51, [.string ⟨#[112, 97, 103, 101, 115, 32, 50, 52, 10, 99, 114, 101, 97, 116, 101, 32, 97, 32, 48, 32, 48, 10, 97, 112, 112, 101, 110, 100, 32, 97, 32, 49, 32, 53, 32, 50, 32, 54, 10, 99, 111, 117, 110, 116, 32, 97, 32, 48, 32, 57, 10, 98, 117, 99, 107, 101, 116, 115, 32, 97, 32, 115, 117, 109, 32, 48, 32, 50, 32, 51, 10, 99, 114, 97, 115, 104, 10, 99, 111, 117, 110, 116, 32, 97, 32, 48, 32, 57, 10]⟩, .string ⟨#[10]⟩], .tuple #[.string ⟨#[112, 97, 103, 101, 115, 32, 50, 52]⟩, .string ⟨#[99, 114, 101, 97, 116, 101, 32, 97, 32, 48, 32, 48, 10, 97, 112, 112, 101, 110, 100, 32, 97, 32, 49, 32, 53, 32, 50, 32, 54, 10, 99, 111, 117, 110, 116, 32, 97, 32, 48, 32, 57, 10, 98, 117, 99, 107, 101, 116, 115, 32, 97, 32, 115, 117, 109, 32, 48, 32, 50, 32, 51, 10, 99, 114, 97, 115, 104, 10, 99, 111, 117, 110, 116, 32, 97, 32, 48, 32, 57, 10]⟩, .bool true]),
  (51, [.string ⟨#[99, 114, 101, 97, 116, 101, 32, 97, 32, 48, 32, 48, 10, 97, 112, 112, 101, 110, 100, 32, 97, 32, 49, 32, 53, 32, 50, 32, 54, 10, 99, 111, 117, 110, 116, 32, 97, 32, 48, 32, 57, 10, 98, 117, 99, 107, 101, 116, 115, 32, 97, 32, 115, 117, 109, 32, 48, 32, 50, 32, 51, 10, 99, 114, 97, 115, 104, 10, 99, 111, 117, 110, 116, 32, 97, 32, 48, 32, 57, 10]⟩, .string ⟨#[10]⟩], .tuple #[.string ⟨#[99, 114, 101, 97, 116, 101, 32, 97, 32, 48, 32, 48]⟩, .string ⟨#[97, 112, 112, 101, 110, 100, 32, 97, 32, 49, 32, 53, 32, 50, 32, 54, 10, 99, 111, 117, 110, 116, 32, 97, 32, 48, 32, 57, 10, 98, 117, 99, 107, 101, 116, 115, 32, 97, 32, 115, 117, 109, 32, 48, 32, 50, 32, 51, 10, 99, 114, 97, 115, 104, 10, 99, 111, 117, 110, 116, 32, 97, 32, 48, 32, 57, 10]⟩, .bool true]),
  (51, [.string ⟨#[97, 112, 112, 101, 110, 100, 32, 97, 32, 49, 32, 53, 32, 50, 32, 54, 10, 99, 111, 117, 110, 116, 32, 97, 32, 48, 32, 57, 10, 98, 117, 99, 107, 101, 116, 115, 32, 97, 32, 115, 117, 109, 32, 48, 32, 50, 32, 51, 10, 99, 114, 97, 115, 104, 10, 99, 111, 117, 110, 116, 32, 97, 32, 48, 32, 57, 10]⟩, .string ⟨#[10]⟩], .tuple #[.string ⟨#[97, 112, 112, 101, 110, 100, 32, 97, 32, 49, 32, 53, 32, 50, 32, 54]⟩, .string ⟨#[99, 111, 117, 110, 116, 32, 97, 32, 48, 32, 57, 10, 98, 117, 99, 107, 101, 116, 115, 32, 97, 32, 115, 117, 109, 32, 48, 32, 50, 32, 51, 10, 99, 114, 97, 115, 104, 10, 99, 111, 117, 110, 116, 32, 97, 32, 48, 32, 57, 10]⟩, .bool true]),
  (51, [.string ⟨#[99, 111, 117, 110, 116, 32, 97, 32, 48, 32, 57, 10, 98, 117, 99, 107, 101, 116, 115, 32, 97, 32, 115, 117, 109, 32, 48, 32, 50, 32, 51, 10, 99, 114, 97, 115, 104, 10, 99, 111, 117, 110, 116, 32, 97, 32, 48, 32, 57, 10]⟩, .string ⟨#[10]⟩], .tuple #[.string ⟨#[99, 111, 117, 110, 116, 32, 97, 32, 48, 32, 57]⟩, .string ⟨#[98, 117, 99, 107, 101, 116, 115, 32, 97, 32, 115, 117, 109, 32, 48, 32, 50, 32, 51, 10, 99, 114, 97, 115, 104, 10, 99, 111, 117, 110, 116, 32, 97, 32, 48, 32, 57, 10]⟩, .bool true]),
  (51, [.string ⟨#[98, 117, 99, 107, 101, 116, 115, 32, 97, 32, 115, 117, 109, 32, 48, 32, 50, 32, 51, 10, 99, 114, 97, 115, 104, 10, 99, 111, 117, 110, 116, 32, 97, 32, 48, 32, 57, 10]⟩, .string ⟨#[10]⟩], .tuple #[.string ⟨#[98, 117, 99, 107, 101, 116, 115, 32, 97, 32, 115, 117, 109, 32, 48, 32, 50, 32, 51]⟩, .string ⟨#[99, 114, 97, 115, 104, 10, 99, 111, 117, 110, 116, 32, 97, 32, 48, 32, 57, 10]⟩, .bool true]),
  (51, [.string ⟨#[99, 114, 97, 115, 104, 10, 99, 111, 117, 110, 116, 32, 97, 32, 48, 32, 57, 10]⟩, .string ⟨#[10]⟩], .tuple #[.string ⟨#[99, 114, 97, 115, 104]⟩, .string ⟨#[99, 111, 117, 110, 116, 32, 97, 32, 48, 32, 57, 10]⟩, .bool true]),
  (51, [.string ⟨#[99, 111, 117, 110, 116, 32, 97, 32, 48, 32, 57, 10]⟩, .string ⟨#[10]⟩], .tuple #[.string ⟨#[99, 111, 117, 110, 116, 32, 97, 32, 48, 32, 57]⟩, .string ⟨#[]⟩, .bool true]),
  (51, [.string ⟨#[112, 97, 103, 101, 115, 32, 50, 52, 10, 115, 105, 110, 99, 10]⟩, .string ⟨#[10]⟩], .tuple #[.string ⟨#[112, 97, 103, 101, 115, 32, 50, 52]⟩, .string ⟨#[115, 105, 110, 99, 10]⟩, .bool true]),
  (51, [.string ⟨#[115, 105, 110, 99, 10]⟩, .string ⟨#[10]⟩], .tuple #[.string ⟨#[115, 105, 110, 99]⟩, .string ⟨#[]⟩, .bool true]),
  (105, [.int .i64 24, .int .i64 10], .string ⟨#[50, 52]⟩),
  (105, [.int .i64 2, .int .i64 10], .string ⟨#[50]⟩),
  (105, [.int .i64 5, .int .i64 10], .string ⟨#[53]⟩),
  (105, [.int .i64 6, .int .i64 10], .string ⟨#[54]⟩),
  (105, [.int .i64 9, .int .i64 10], .string ⟨#[57]⟩),
  (105, [.int .i64 372, .int .i64 10], .string ⟨#[51, 55, 50]⟩),
  (104, [.string ⟨#[50, 52]⟩, .int .i64 10, .int .i64 64], .tuple #[.int .i64 24, .nilIface]),
  (105, [.int .i64 40, .int .i64 10], .string ⟨#[52, 48]⟩),
  (105, [.int .i64 256, .int .i64 10], .string ⟨#[50, 53, 54]⟩),
  (104, [.string ⟨#[52, 48]⟩, .int .i64 10, .int .i64 64], .tuple #[.int .i64 40, .nilIface]),
  (104, [.string ⟨#[50, 53, 54]⟩, .int .i64 10, .int .i64 64], .tuple #[.int .i64 256, .nilIface])]
set_option maxRecDepth 100000 in
theorem tab7_ok : All TabE tab7 :=
  .cons (tabC ⟨#[112, 97, 103, 101, 115, 32, 50, 52, 10, 99, 114, 101, 97, 116, 101, 32, 97, 32, 48, 32, 48, 10, 97, 112, 112, 101, 110, 100, 32, 97, 32, 49, 32, 53, 32, 50, 32, 54, 10, 99, 111, 117, 110, 116, 32, 97, 32, 48, 32, 57, 10, 98, 117, 99, 107, 101, 116, 115, 32, 97, 32, 115, 117, 109, 32, 48, 32, 50, 32, 51, 10, 99, 114, 97, 115, 104, 10, 99, 111, 117, 110, 116, 32, 97, 32, 48, 32, 57, 10]⟩ [112, 97, 103, 101, 115, 32, 50, 52] [99, 114, 101, 97, 116, 101, 32, 97, 32, 48, 32, 48, 10, 97, 112, 112, 101, 110, 100, 32, 97, 32, 49, 32, 53, 32, 50, 32, 54, 10, 99, 111, 117, 110, 116, 32, 97, 32, 48, 32, 57, 10, 98, 117, 99, 107, 101, 116, 115, 32, 97, 32, 115, 117, 109, 32, 48, 32, 50, 32, 51, 10, 99, 114, 97, 115, 104, 10, 99, 111, 117, 110, 116, 32, 97, 32, 48, 32, 57, 10] (by decide) (by kernel_rfl)) (
  .cons (tabC ⟨#[99, 114, 101, 97, 116, 101, 32, 97, 32, 48, 32, 48, 10, 97, 112, 112, 101, 110, 100, 32, 97, 32, 49, 32, 53, 32, 50, 32, 54, 10, 99, 111, 117, 110, 116, 32, 97, 32, 48, 32, 57, 10, 98, 117, 99, 107, 101, 116, 115, 32, 97, 32, 115, 117, 109, 32, 48, 32, 50, 32, 51, 10, 99, 114, 97, 115, 104, 10, 99, 111, 117, 110, 116, 32, 97, 32, 48, 32, 57, 10]⟩ [99, 114, 101, 97, 116, 101, 32, 97, 32, 48, 32, 48] [97, 112, 112, 101, 110, 100, 32, 97, 32, 49, 32, 53, 32, 50, 32, 54, 10, 99, 111, 117, 110, 116, 32, 97, 32, 48, 32, 57, 10, 98, 117, 99, 107, 101, 116, 115, 32, 97, 32, 115, 117, 109, 32, 48, 32, 50, 32, 51, 10, 99, 114, 97, 115, 104, 10, 99, 111, 117, 110, 116, 32, 97, 32, 48, 32, 57, 10] (by decide) (by kernel_rfl)) (
  .cons (tabC ⟨#[97, 112, 112, 101, 110, 100, 32, 97, 32, 49, 32, 53, 32, 50, 32, 54, 10, 99, 111, 117, 110, 116, 32, 97, 32, 48, 32, 57, 10, 98, 117, 99, 107, 101, 116, 115, 32, 97, 32, 115, 117, 109, 32, 48, 32, 50, 32, 51, 10, 99, 114, 97, 115, 104, 10, 99, 111, 117, 110, 116, 32, 97, 32, 48, 32, 57, 10]⟩ [97, 112, 112, 101, 110, 100, 32, 97, 32, 49, 32, 53, 32, 50, 32, 54] [99, 111, 117, 110, 116, 32, 97, 32, 48, 32, 57, 10, 98, 117, 99, 107, 101, 116, 115, 32, 97, 32, 115, 117, 109, 32, 48, 32, 50, 32, 51, 10, 99, 114, 97, 115, 104, 10, 99, 111, 117, 110, 116, 32, 97, 32, 48, 32, 57, 10] (by decide) (by kernel_rfl)) (
  .cons (tabC ⟨#[99, 111, 117, 110, 116, 32, 97, 32, 48, 32, 57, 10, 98, 117, 99, 107, 101, 116, 115, 32, 97, 32, 115, 117, 109, 32, 48, 32, 50, 32, 51, 10, 99, 114, 97, 115, 104, 10, 99, 111, 117, 110, 116, 32, 97, 32, 48, 32, 57, 10]⟩ [99, 111, 117, 110, 116, 32, 97, 32, 48, 32, 57] [98, 117, 99, 107, 101, 116, 115, 32, 97, 32, 115, 117, 109, 32, 48, 32, 50, 32, 51, 10, 99, 114, 97, 115, 104, 10, 99, 111, 117, 110, 116, 32, 97, 32, 48, 32, 57, 10] (by decide) (by kernel_rfl)) (
  .cons (tabC ⟨#[98, 117, 99, 107, 101, 116, 115, 32, 97, 32, 115, 117, 109, 32, 48, 32, 50, 32, 51, 10, 99, 114, 97, 115, 104, 10, 99, 111, 117, 110, 116, 32, 97, 32, 48, 32, 57, 10]⟩ [98, 117, 99, 107, 101, 116, 115, 32, 97, 32, 115, 117, 109, 32, 48, 32, 50, 32, 51] [99, 114, 97, 115, 104, 10, 99, 111, 117, 110, 116, 32, 97, 32, 48, 32, 57, 10] (by decide) (by kernel_rfl)) (
  .cons (tabC ⟨#[99, 114, 97, 115, 104, 10, 99, 111, 117, 110, 116, 32, 97, 32, 48, 32, 57, 10]⟩ [99, 114, 97, 115, 104] [99, 111, 117, 110, 116, 32, 97, 32, 48, 32, 57, 10] (by decide) (by kernel_rfl)) (
  .cons (tabC ⟨#[99, 111, 117, 110, 116, 32, 97, 32, 48, 32, 57, 10]⟩ [99, 111, 117, 110, 116, 32, 97, 32, 48, 32, 57] [] (by decide) (by kernel_rfl)) (
  .cons (tabC ⟨#[112, 97, 103, 101, 115, 32, 50, 52, 10, 115, 105, 110, 99, 10]⟩ [112, 97, 103, 101, 115, 32, 50, 52] [115, 105, 110, 99, 10] (by decide) (by kernel_rfl)) (
  .cons (tabC ⟨#[115, 105, 110, 99, 10]⟩ [115, 105, 110, 99] [] (by decide) (by kernel_rfl)) (
  .cons (tabF 24 [50, 52] (by decide) (by simp [Lib.itoa, Lib.decDigits])) (
  .cons (tabF 2 [50] (by decide) (by simp [Lib.itoa, Lib.decDigits])) (
  .cons (tabF 5 [53] (by decide) (by simp [Lib.itoa, Lib.decDigits])) (
  .cons (tabF 6 [54] (by decide) (by simp [Lib.itoa, Lib.decDigits])) (
  .cons (tabF 9 [57] (by decide) (by simp [Lib.itoa, Lib.decDigits])) (
  .cons (tabF 372 [51, 55, 50] (by decide) (by simp [Lib.itoa, Lib.decDigits])) (
  .cons (tabP ⟨#[50, 52]⟩ 24 (by decide) (by kernel_rfl)) (
  .cons (tabF 40 [52, 48] (by decide) (by simp [Lib.itoa, Lib.decDigits])) (
  .cons (tabF 256 [50, 53, 54] (by decide) (by simp [Lib.itoa, Lib.decDigits])) (
  .cons (tabP ⟨#[52, 48]⟩ 40 (by decide) (by kernel_rfl)) (
  .cons (tabP ⟨#[50, 53, 54]⟩ 256 (by decide) (by kernel_rfl)) .nil)))))))))))))))))))

/-! joined words -/
def strL : List Value → Option (List ByteArray)
  | [] => some []
  | .string s :: l => (match strL l with | some r => some (s :: r) | none => none)
  | _ => none
theorem strL_eq : ∀ {l : List Value} {ss : List ByteArray}, strL l = some ss → l = ss.map Value.string
  | [], ss, h => by simp only [strL, Option.some.injEq] at h; subst h; rfl
  | v :: l, ss, h => by
    cases v with
    | string s =>
      simp only [strL] at h
      cases hr : strL l with
      | none => rw [hr] at h; cases h
      | some r =>
        rw [hr] at h
        simp only [Option.some.injEq] at h
        subst h
        rw [strL_eq hr]
        rfl
    | _ => simp [strL] at h
def joinF (sep : List UInt8) : List (List UInt8) → List UInt8
  | [] => []
  | [x] => x
  | x :: l => x ++ sep ++ joinF sep l
theorem joinF_eq (sep : List UInt8) : ∀ l : List (List UInt8), joinF sep l = Lib.join l sep
  | [] => rfl
  | [x] => by simp [joinF, Lib.join, List.intercalate]
  | x :: y :: l => by
    have ih := joinF_eq sep (y :: l)
    simp only [joinF, ih]
    simp [Lib.join, List.intercalate]
noncomputable def joinO (f : Nat) (args : List Value) (h : Tr AO) : Option Value :=
  match args with
  | [.slice a n c, .string t] => cond (Nat.beq f 81 && Nat.ble 1 n && Nat.ble n c && Nat.ble n 1000000) (match firstA h 1 n (.slice a n c) with
    | some l => (match strL l with
      | some ss => cond (Nat.beq ss.length n && Nat.ble (joinF t.data.toList (ss.map (·.data.toList))).length 1000000) (some (.string ⟨(joinF t.data.toList (ss.map (·.data.toList))).toArray⟩)) none
      | none => none)
    | none => none) none
  | _ => none
theorem closed_strs : ∀ ss : List ByteArray, allClosed (ss.map Value.string) = true
  | [] => rfl
  | s :: ss => by simp only [List.map_cons, allClosed, closed_strs ss]; rfl
theorem joinO_ok : ∀ f args h v, joinO f args h = some v → ∀ (E : Env) (w : World) (args' : List Value), HR E h w → LR E args args' →
    Calls prog f args'.toArray w fun e w' => ∃ v', e = .returned v' ∧ VR E v v' ∧ Below w.heap.size w w' := by
  intro f args h v ho E w args' hr ha
  unfold joinO at ho
  split at ho
  · rename_i a n c t
    cases hc : Nat.beq f 81 && Nat.ble 1 n && Nat.ble n c && Nat.ble n 1000000 with
    | false => rw [hc] at ho; cases ho
    | true =>
      rw [hc] at ho
      simp only [cond_true] at ho
      simp only [Bool.and_eq_true] at hc
      have e1 := Nat.eq_of_beq_eq_true hc.1.1.1
      have n1 := Nat.le_of_ble_eq_true hc.1.1.2
      have n2 := Nat.le_of_ble_eq_true hc.1.2
      have n3 := Nat.le_of_ble_eq_true hc.2
      subst e1
      split at ho
      · rename_i l hl
        split at ho
        · rename_i ss hss
          have hl2 := strL_eq hss
          subst hl2
          cases hq : Nat.beq ss.length n && Nat.ble (joinF t.data.toList (ss.map (·.data.toList))).length 1000000 with
          | false => rw [hq] at ho; cases ho
          | true =>
            rw [hq] at ho
            simp only [cond_true, Option.some.injEq] at ho
            simp only [Bool.and_eq_true] at hq
            have hsn := Nat.eq_of_beq_eq_true hq.1
            have hlen := Nat.le_of_ble_eq_true hq.2
            subst ho
            rw [joinF_eq] at hlen ⊢
            obtain ⟨u1, t1, rfl, q1, ht⟩ := ha.cases
            obtain ⟨u2, t2, rfl, q2, ht2⟩ := ht.cases
            have := ht2.nil_right
            subst this
            rw [show u2 = .string t by cases q2; rfl]
            have hall := closed_strs ss
            cases q1 with
            | nilSlice =>
              simp only [firstA, Option.some.injEq] at hl
              have : ss = [] := by
                cases ss with
                | nil => rfl
                | cons x l => simp at hl
              subst this
              simp only [List.length_nil] at hsn
              omega
            | slice ad cp =>
              rename_i a1 a2 c2
              obtain ⟨b, off, spot⟩ := a1
              obtain ⟨b2, off2, spot2⟩ := a2
              obtain ⟨d1, d2, d3⟩ := ad
              simp only at d1 d2 d3
              subst d2 d3
              cases spot2 with
              | some q => simp [firstA] at hl
              | none =>
                simp only [firstA] at hl
                split at hl
                · rename_i cc z zs k cap e hg
                  obtain ⟨c', hw, hcr, _⟩ := hr.at hg d1
                  rw [Nat.mul_one] at hl
                  obtain ⟨l', g1, g2, g3⟩ := readN_spec hcr _ _ _ hl
                  have e1 := g2.eq hall
                  subst e1
                  simp only [List.length_map] at g1
                  subst g1
                  have hcap : ss.length ≤ c2 := by
                    rcases cp with ⟨_, rfl⟩ | ⟨_, h2, _⟩
                    · exact n2
                    · exact h2
                  refine (Tryz.strings_Join b2 off2 c2 ss t w (fun j x hx => ?_) (Array.getElem?_eq_some_iff.1 hw).1 (by omega) hcap (by omega)).mono ?_
                  · rw [cell_of_row w b2 (off2 + j) c' _ (0, 0) hw]
                    exact g3 j _ (by simp [hx])
                  · rintro e w' ⟨rfl, hbl⟩
                    exact ⟨_, rfl, .string _, hbl⟩
                · cases hl
        · cases ho
      · cases ho
  · cases ho

theorem closed_at : ∀ {l : List Value} {i : Nat} {v : Value}, allClosed l = true → l[i]? = some v → closed v = true
  | [], _, _, _, h => by simp at h
  | x :: l, 0, v, h, e => by
    simp only [allClosed, Bool.and_eq_true] at h
    simp only [List.getElem?_cons_zero, Option.some.injEq] at e
    subst e
    exact h.1
  | x :: l, i + 1, v, h, e => by
    simp only [allClosed, Bool.and_eq_true] at h
    simp only [List.getElem?_cons_succ] at e
    exact closed_at h.2 e
theorem CellR.lit {E : Env} {l : List Value} (hl : allClosed l = true) {c' : Array Value} (hc : ∀ i, i < l.length → c'[i]? = l[i]?) (hs : l.length ≤ c'.size) : CellR E (Tr.nil.setL 0 l) [] 1 l.length c' :=
  ⟨hs, fun i v hv => by
    unfold cellAt at hv
    cases hb : Nat.blt i l.length with
    | false => rw [hb] at hv; cases hv
    | true =>
      have hi : i < l.length := Nat.le_of_ble_eq_true hb
      rw [hb, Tr.get_setL, if_pos (by omega)] at hv
      simp only [cond_true, Nat.sub_zero] at hv
      have e : l[i]? = some l[i] := List.getElem?_eq_getElem hi
      rw [e] at hv
      simp only [Option.some.injEq] at hv
      subst hv
      exact ⟨_, (hc i hi).trans e, VR.closed (closed_at hl e)⟩⟩
/-! the words of the first line -/
def sP : ByteArray := ⟨#[112, 97, 103, 101, 115]⟩
def s24 : ByteArray := ⟨#[50, 52]⟩
def s40 : ByteArray := ⟨#[52, 48]⟩
def s256 : ByteArray := ⟨#[50, 53, 54]⟩
noncomputable def spl1 (L N : ByteArray) (f : Nat) (args : List Value) (h : Tr AO) (nx : Nat) : Option (Value × Tr AO × Nat) :=
  cond (Nat.beq f 20 && veqN.veqL 5 [.string L, .string ⟨#[32]⟩] args) (some (.slice (some ⟨nx, 0, none⟩) 2 2, h.set nx (.cells (Tr.nil.setL 0 [.string sP, .string N]) [] 1 2 none 9), nx + 1)) none
theorem spl1_ok {L N : ByteArray} (hsz : L.size < 4294967280) (ec : Lib.countB L ⟨#[32]⟩ = 1) (es : Lib.splitB ⟨#[32]⟩ 0 1 L = [sP, N]) : ∀ f args h nx v h' nx', spl1 L N f args h nx = some (v, h', nx') → XrOK prog f args h nx v h' nx' := by
  intro f args h nx v h' nx' he
  unfold spl1 at he
  cases hc : Nat.beq f 20 && veqN.veqL 5 [.string L, .string ⟨#[32]⟩] args with
  | false => rw [hc] at he; cases he
  | true =>
    rw [hc] at he
    simp only [cond_true, Option.some.injEq, Prod.mk.injEq] at he
    simp only [Bool.and_eq_true] at hc
    have e1 := Nat.eq_of_beq_eq_true hc.1
    have e2 := (veq_sound 5).2 _ _ hc.2
    obtain ⟨a, b, c⟩ := he
    subst e1 e2 a b c
    refine .ofCalls (Nat.le_succ _) fun F w0 lim E w args' hl hS ha hg => ?_
    have e := ha.eq (by rfl)
    obtain ⟨m, hm⟩ := hg.1.mx
    have ea : args' = #[.string L, .string ⟨#[32]⟩] := by cases args'; simp at e; simp [e]
    subst ea
    refine (Tryz.strings_Split L ⟨#[32]⟩ m w (by omega) hm (by decide)).mono ?_
    rw [ec, es]
    rintro e w' ⟨rfl, rfl⟩
    obtain ⟨k1, k2⟩ := hS.fresh nx (Nat.le_refl _) (by omega)
    refine ⟨_, E.put nx w.heap.size, rfl, .slice ⟨E.put_ρ nx _, rfl, rfl⟩ (.inl ⟨by decide, rfl⟩), ⟨Env.put_le k1, fun id hid => ⟨?_, rfl⟩⟩, ?_⟩
    · show (if id = nx then _ else _) = _
      rw [if_neg (by omega)]
    · refine hS.learn (g := w.heap.size) (bA (b0 w) _) (Env.put_le k1) (Nat.lt_succ_self _) (Nat.le_refl _) (fun i => rfl) (fun i _ => rfl) (by omega) (.cells (CellR.lit (l := [.string sP, .string N]) rfl (fun i hi => by simp [strV]) (by simp [strV])) (by simp [SizeR, strV])) (na w _ 9)
noncomputable def splX (f : Nat) (args : List Value) (h : Tr AO) (nx : Nat) : Option (Value × Tr AO × Nat) :=
  match spl1 ⟨#[112, 97, 103, 101, 115, 32, 50, 52]⟩ s24 f args h nx with
  | some r => some r
  | none => (match spl1 ⟨#[112, 97, 103, 101, 115, 32, 52, 48]⟩ s40 f args h nx with
    | some r => some r
    | none => spl1 ⟨#[112, 97, 103, 101, 115, 32, 50, 53, 54]⟩ s256 f args h nx)
theorem splX_ok : ∀ f args h nx v h' nx', splX f args h nx = some (v, h', nx') → XrOK prog f args h nx v h' nx' := by
  intro f args h nx v h' nx' he
  unfold splX at he
  split at he
  · rename_i r hr
    cases he
    exact spl1_ok (by decide) (by kernel_rfl) (by kernel_rfl) _ _ _ _ _ _ _ hr
  · split at he
    · rename_i r hr
      cases he
      exact spl1_ok (by decide) (by kernel_rfl) (by kernel_rfl) _ _ _ _ _ _ _ hr
    · exact spl1_ok (by decide) (by kernel_rfl) (by kernel_rfl) _ _ _ _ _ _ _ he
end Go.Proofs.Tryz

namespace Go.Proofs.Tryz
open Go.Proofs.Ex Go.RowKit Go.Proofs.YtbiedfkmmcaplaaGreatDoor

theorem num_lit {s : ByteArray} {n : Int} {a : List UInt8} (h1 : Lib.parseIntB 64 s.data.toList = .ok n) (h2 : Lib.itoa n = a) (h3 : (⟨a.toArray⟩ : ByteArray) = s) : numW s = some n := by
  unfold numW
  have : itoaB n = s := by unfold itoaB; rw [h2]; exact h3
  simp only [h1, this, if_true]
theorem nm0 : numW ⟨#[48]⟩ = some 0 := num_lit (a := [48]) (by kernel_rfl) (by simp [Lib.itoa, Lib.decDigits]) rfl
theorem nm1 : numW ⟨#[49]⟩ = some 1 := num_lit (a := [49]) (by kernel_rfl) (by simp [Lib.itoa, Lib.decDigits]) rfl
theorem nm2 : numW ⟨#[50]⟩ = some 2 := num_lit (a := [50]) (by kernel_rfl) (by simp [Lib.itoa, Lib.decDigits]) rfl
theorem nm3 : numW ⟨#[51]⟩ = some 3 := num_lit (a := [51]) (by kernel_rfl) (by simp [Lib.itoa, Lib.decDigits]) rfl
theorem nm5 : numW ⟨#[53]⟩ = some 5 := num_lit (a := [53]) (by kernel_rfl) (by simp [Lib.itoa, Lib.decDigits]) rfl
theorem nm6 : numW ⟨#[54]⟩ = some 6 := num_lit (a := [54]) (by kernel_rfl) (by simp [Lib.itoa, Lib.decDigits]) rfl
theorem nm9 : numW ⟨#[57]⟩ = some 9 := num_lit (a := [57]) (by kernel_rfl) (by simp [Lib.itoa, Lib.decDigits]) rfl
def lCreate : ByteArray := ⟨#[99, 114, 101, 97, 116, 101, 32, 97, 32, 48, 32, 48]⟩
theorem wsCreate : wordsOf lCreate = [⟨#[99, 114, 101, 97, 116, 101]⟩, ⟨#[97]⟩, ⟨#[48]⟩, ⟨#[48]⟩] := by kernel_rfl
theorem plCreate : pLine lCreate = some { ok := 1, mkd := 1, mn := ⟨#[97]⟩ } := by
  unfold pLine
  rw [wsCreate, if_pos (by kernel_rfl), if_neg (by decide)]
  have hh : headOf ⟨#[99, 114, 101, 97, 116, 101]⟩ = some (.fn 36) := rfl
  have hz : (⟨#[97]⟩ : ByteArray).size ≤ 40 := by decide
  simp [pWords, hh, pHead, pCreate, pAppend, pSpan, pBuckets, pCrash, pName, pNum, pInts, pPts, hz, nm0, nm1, nm2, nm3, nm5, nm6, nm9]
def lAppend : ByteArray := ⟨#[97, 112, 112, 101, 110, 100, 32, 97, 32, 49, 32, 53, 32, 50, 32, 54]⟩
theorem wsAppend : wordsOf lAppend = [⟨#[97, 112, 112, 101, 110, 100]⟩, ⟨#[97]⟩, ⟨#[49]⟩, ⟨#[53]⟩, ⟨#[50]⟩, ⟨#[54]⟩] := by kernel_rfl
theorem plAppend : pLine lAppend = some { ok := 1, mkd := 3, mn := ⟨#[97]⟩, pts := [(1, 5), (2, 6)] } := by
  unfold pLine
  rw [wsAppend, if_pos (by kernel_rfl), if_neg (by decide)]
  have hh : headOf ⟨#[97, 112, 112, 101, 110, 100]⟩ = some (.fn 38) := rfl
  have hz : (⟨#[97]⟩ : ByteArray).size ≤ 40 := by decide
  simp [pWords, hh, pHead, pCreate, pAppend, pSpan, pBuckets, pCrash, pName, pNum, pInts, pPts, hz, nm0, nm1, nm2, nm3, nm5, nm6, nm9]
def lCount : ByteArray := ⟨#[99, 111, 117, 110, 116, 32, 97, 32, 48, 32, 57]⟩
theorem wsCount : wordsOf lCount = [⟨#[99, 111, 117, 110, 116]⟩, ⟨#[97]⟩, ⟨#[48]⟩, ⟨#[57]⟩] := by kernel_rfl
theorem plCount : pLine lCount = some { ok := 5, qk := 1, qn := ⟨#[97]⟩, qa := 0, qb := 9 } := by
  unfold pLine
  rw [wsCount, if_pos (by kernel_rfl), if_neg (by decide)]
  have hh : headOf ⟨#[99, 111, 117, 110, 116]⟩ = some (.span 1) := rfl
  have hz : (⟨#[97]⟩ : ByteArray).size ≤ 40 := by decide
  simp [pWords, hh, pHead, pCreate, pAppend, pSpan, pBuckets, pCrash, pName, pNum, pInts, pPts, hz, nm0, nm1, nm2, nm3, nm5, nm6, nm9]
def lBuckets : ByteArray := ⟨#[98, 117, 99, 107, 101, 116, 115, 32, 97, 32, 115, 117, 109, 32, 48, 32, 50, 32, 51]⟩
theorem wsBuckets : wordsOf lBuckets = [⟨#[98, 117, 99, 107, 101, 116, 115]⟩, ⟨#[97]⟩, ⟨#[115, 117, 109]⟩, ⟨#[48]⟩, ⟨#[50]⟩, ⟨#[51]⟩] := by kernel_rfl
theorem plBuckets : pLine lBuckets = some { ok := 5, qk := 8, qn := ⟨#[97]⟩, qa := 0, qb := 2, qw := 4, qN := 3 } := by
  unfold pLine
  rw [wsBuckets, if_pos (by kernel_rfl), if_neg (by decide)]
  have hh : headOf ⟨#[98, 117, 99, 107, 101, 116, 115]⟩ = some (.fn 42) := rfl
  have hz : (⟨#[97]⟩ : ByteArray).size ≤ 40 := by decide
  have hq : idxFrom whatR ⟨#[115, 117, 109]⟩ 0 = 3 := by decide
  simp [pWords, hh, pHead, pCreate, pAppend, pSpan, pBuckets, pCrash, pName, pNum, pInts, pPts, hz, nm0, nm1, nm2, nm3, nm5, nm6, nm9, pNext, hq]
def lCrash : ByteArray := ⟨#[99, 114, 97, 115, 104]⟩
theorem wsCrash : wordsOf lCrash = [⟨#[99, 114, 97, 115, 104]⟩] := by kernel_rfl
theorem plCrash : pLine lCrash = some { kind := 3 } := by
  unfold pLine
  rw [wsCrash, if_pos (by kernel_rfl), if_neg (by decide)]
  have hh : headOf ⟨#[99, 114, 97, 115, 104]⟩ = some (.fn 44) := rfl
  have hz : (⟨#[97]⟩ : ByteArray).size ≤ 40 := by decide
  simp [pWords, hh, pHead, pCreate, pAppend, pSpan, pBuckets, pCrash, pName, pNum, pInts, pPts, hz, nm0, nm1, nm2, nm3, nm5, nm6, nm9]
def lSinc : ByteArray := ⟨#[115, 105, 110, 99]⟩
theorem wsSinc : wordsOf lSinc = [⟨#[115, 105, 110, 99]⟩] := by kernel_rfl
theorem plSinc : pLine lSinc = none := by
  unfold pLine
  rw [wsSinc, if_pos (by kernel_rfl), if_neg (by decide)]
  have hh : headOf ⟨#[115, 105, 110, 99]⟩ = none := rfl
  have hz : (⟨#[97]⟩ : ByteArray).size ≤ 40 := by decide
  simp [pWords, hh, pHead, pCreate, pAppend, pSpan, pBuckets, pCrash, pName, pNum, pInts, pPts, hz, nm0, nm1, nm2, nm3, nm5, nm6, nm9]
noncomputable def vCreate : Value := .tuple #[.agg #[.int .i64 1, .int .i64 1, .int .i64 1, .string ⟨#[97]⟩, .int .i64 0, .int .i64 0, .int .i64 0, .slice none 0 0, .int .i64 0, .string ⟨#[]⟩, .int .i64 0, .int .i64 0, .int .i64 0, .int .i64 0, .string ⟨#[]⟩, .int .i64 0, .int .u64 0, .int .i64 0, .slice none 0 0], .int .i64 0]
noncomputable def vCount : Value := .tuple #[.agg #[.int .i64 1, .int .i64 5, .int .i64 0, .string ⟨#[]⟩, .int .i64 0, .int .i64 0, .int .i64 0, .slice none 0 0, .int .i64 1, .string ⟨#[97]⟩, .int .i64 0, .int .i64 9, .int .i64 0, .int .i64 0, .string ⟨#[]⟩, .int .i64 0, .int .u64 0, .int .i64 0, .slice none 0 0], .int .i64 0]
noncomputable def vBuckets : Value := .tuple #[.agg #[.int .i64 1, .int .i64 5, .int .i64 0, .string ⟨#[]⟩, .int .i64 0, .int .i64 0, .int .i64 0, .slice none 0 0, .int .i64 8, .string ⟨#[97]⟩, .int .i64 0, .int .i64 2, .int .i64 4, .int .i64 3, .string ⟨#[]⟩, .int .i64 0, .int .u64 0, .int .i64 0, .slice none 0 0], .int .i64 0]
noncomputable def vCrash : Value := .tuple #[.agg #[.int .i64 3, .int .i64 0, .int .i64 0, .string ⟨#[]⟩, .int .i64 0, .int .i64 0, .int .i64 0, .slice none 0 0, .int .i64 0, .string ⟨#[]⟩, .int .i64 0, .int .i64 0, .int .i64 0, .int .i64 0, .string ⟨#[]⟩, .int .i64 0, .int .u64 0, .int .i64 0, .slice none 0 0], .int .i64 0]
noncomputable def vSinc : Value := .tuple #[.agg #[.int .i64 0, .int .i64 0, .int .i64 0, .string ⟨#[]⟩, .int .i64 0, .int .i64 0, .int .i64 0, .slice none 0 0, .int .i64 0, .string ⟨#[]⟩, .int .i64 0, .int .i64 0, .int .i64 0, .int .i64 0, .string ⟨#[]⟩, .int .i64 0, .int .u64 0, .int .i64 0, .slice none 0 0], .int .i64 410]
noncomputable def vAppend (nx : Nat) : Value := .tuple #[.agg #[.int .i64 1, .int .i64 1, .int .i64 3, .string ⟨#[97]⟩, .int .i64 0, .int .i64 0, .int .i64 0, .slice (some ⟨nx, 0, none⟩) 2 (CB * (nx + 1)), .int .i64 0, .string ⟨#[]⟩, .int .i64 0, .int .i64 0, .int .i64 0, .int .i64 0, .string ⟨#[]⟩, .int .i64 0, .int .u64 0, .int .i64 0, .slice none 0 0], .int .i64 0]
theorem par_none {l : ByteArray} (hs : l.size ≤ 10000) (hp : pLine l = none) : closed (.tuple #[.agg zCmd, .int .i64 410]) = true ∧ allClosed [.string l] = true ∧ ∀ w, Laid w → Calls prog 8 #[.string l] w fun e w' => e = .returned (.tuple #[.agg zCmd, .int .i64 410]) ∧ Below w.heap.size w w' :=
  ⟨rfl, rfl, fun w hL => by
    have := con_Parse l hs w hL
    rw [hp] at this
    exact this⟩
theorem par_some {l : ByteArray} {c : Cm} {v : Value} (hs : l.size ≤ 10000) (hp : pLine l = some c) (h1 : c.pts = []) (h2 : c.masks = []) (hv : v = .tuple #[.agg (c.cs none 0 none 0), .int .i64 0]) (hc : closed v = true) :
    closed v = true ∧ allClosed [.string l] = true ∧ ∀ w, Laid w → Calls prog 8 #[.string l] w fun e w' => e = .returned v ∧ Below w.heap.size w w' :=
  ⟨hc, rfl, fun w hL => by
    have := con_Parse l hs w hL
    rw [hp] at this
    refine this.mono ?_
    rintro e w' ⟨u, rfl, ⟨A, ac, M, mc, rfl, h3, h4⟩, hb⟩
    obtain ⟨rfl, rfl⟩ := h3.non (by rw [h1]; rfl)
    obtain ⟨rfl, rfl⟩ := h4.non (by rw [h2]; rfl)
    rw [hv]
    exact ⟨rfl, hb⟩⟩
noncomputable def parT : List (Nat × List Value × Value) := [(8, [.string lCreate], vCreate), (8, [.string lCount], vCount), (8, [.string lBuckets], vBuckets), (8, [.string lCrash], vCrash), (8, [.string lSinc], vSinc)]
theorem parT_ok : All TabE parT := .cons (par_some (by decide) plCreate rfl rfl rfl rfl) (.cons (par_some (by decide) plCount rfl rfl rfl rfl) (.cons (par_some (by decide) plBuckets rfl rfl rfl rfl) (.cons (par_some (by decide) plCrash rfl rfl rfl rfl) (.cons (par_none (by decide) plSinc) .nil))))
noncomputable def parX (f : Nat) (args : List Value) (h : Tr AO) (nx : Nat) : Option (Value × Tr AO × Nat) :=
  match lookT parT f args with
  | some v => some (v, h, nx)
  | none => cond (Nat.beq f 8 && veqN.veqL 5 [.string lAppend] args) (some (vAppend nx, h.set nx (.cells (Tr.nil.setL 0 [.int .i64 1, .int .i64 5, .int .i64 2, .int .i64 6]) [] 1 4 (some (nx + 1, 2)) 166), nx + 2)) none
theorem parX_ok : ∀ f args h nx v h' nx', parX f args h nx = some (v, h', nx') → XrOK prog f args h nx v h' nx' := by
  intro f args h nx v h' nx' he
  unfold parX at he
  split at he
  · rename_i u hu
    simp only [Option.some.injEq, Prod.mk.injEq] at he
    obtain ⟨a, b, c⟩ := he
    subst a b c
    refine .ofCalls (Nat.le_refl _) fun F w0 lim E w args' hl hS ha hg => ?_
    refine (lookT_ok parT_ok hu E w args'.toList hg.1 ha).mono ?_
    rintro e w' ⟨v', h1, h2, h3⟩
    exact ⟨v', E, h1, h2, .refl _ _ _, hS.of_below h3⟩
  · cases hc : Nat.beq f 8 && veqN.veqL 5 [.string lAppend] args with
    | false => rw [hc] at he; cases he
    | true =>
      rw [hc] at he
      simp only [cond_true, Option.some.injEq, Prod.mk.injEq] at he
      simp only [Bool.and_eq_true] at hc
      have e1 := Nat.eq_of_beq_eq_true hc.1
      have e2 := (veq_sound 5).2 _ _ hc.2
      obtain ⟨a, b, c⟩ := he
      subst e1 e2 a b c
      refine .ofCalls (by omega) fun F w0 lim E w args' hl hS ha hg => ?_
      have e := ha.eq (by rfl)
      have ea : args' = #[.string lAppend] := by cases args'; simp at e; simp [e]
      subst ea
      have := con_Parse lAppend (by decide) w hg.1
      rw [plAppend] at this
      refine this.mono ?_
      rintro e w' ⟨u, rfl, ⟨A, ac, M, mc, rfl, h3, h4⟩, hb⟩
      obtain ⟨rfl, rfl⟩ := h4.non rfl
      obtain ⟨g, cur, rfl, hg1, hsz, hge⟩ := h3.at0 (by decide)
      obtain ⟨g', o, cur', e1, hg2, hc⟩ := h3.rk.mem (by decide)
      have hcap := h3.rk.cap
      have htop := h3.rk.top
      injection e1 with e1
      injection e1 with e1 e2 _
      subst e1 e2
      rw [hg1] at hg2
      injection hg2 with hg2
      injection hg2 with e3 _ _
      subst e3
      obtain ⟨k1, k2⟩ := hS.fresh nx (Nat.le_refl _) (by omega)
      obtain ⟨k3, k4⟩ := hS.fresh (nx + 1) (by omega) (by omega)
      have hE1 : E.le ((E.put nx g).putK (nx + 1) ac) := Env.le_trans (Env.put_le k1) (Env.putK_le (show E.κ (nx + 1) = none from k4))
      have hCB : CB = 18446744073709551616 := rfl
      have hcr : CapR ((E.put nx g).putK (nx + 1) ac) 2 (CB * (nx + 1)) ac := .inr ⟨by rw [hCB]; omega, hcap, ac, by
        have e4 : CB * (nx + 1) / CB = nx + 1 := Nat.mul_div_cancel_left _ (by rw [hCB]; decide)
        rw [e4]
        exact Env.putK_κ _ _ _, by rw [Nat.mul_mod_right]; rfl, by rw [hCB]; omega⟩
      have hsl : VR ((E.put nx g).putK (nx + 1) ac) (.slice (some ⟨nx, 0, none⟩) 2 (CB * (nx + 1))) (.slice (some ⟨g, 0, none⟩) 2 ac) := .slice ⟨Env.put_ρ E nx g, rfl, rfl⟩ hcr
      refine ⟨_, (E.put nx g).putK (nx + 1) ac, rfl, ?_, ⟨hE1, fun id hid => ⟨?_, ?_⟩⟩, ?_⟩
      · have hl : LR ((E.put nx g).putK (nx + 1) ac) [.int .i64 1, .int .i64 1, .int .i64 3, .string ⟨#[97]⟩, .int .i64 0, .int .i64 0, .int .i64 0, .slice (some ⟨nx, 0, none⟩) 2 (CB * (nx + 1)), .int .i64 0, .string ⟨#[]⟩, .int .i64 0, .int .i64 0, .int .i64 0, .int .i64 0, .string ⟨#[]⟩, .int .i64 0, .int .u64 0, .int .i64 0, .slice none 0 0]
            [.int .i64 1, .int .i64 1, .int .i64 3, .string ⟨#[97]⟩, .int .i64 0, .int .i64 0, .int .i64 0, .slice (some ⟨g, 0, none⟩) 2 ac, .int .i64 0, .string ⟨#[]⟩, .int .i64 0, .int .i64 0, .int .i64 0, .int .i64 0, .string ⟨#[]⟩, .int .i64 0, .int .u64 0, .int .i64 0, .slice none 0 0] := by
          repeat' (first | exact LR.nil _ | exact hsl | exact VR.closed rfl | refine LR.cons ?_ ?_)
        have ha1 := hl.array
        have hl2 := (LR.cons (VR.agg ha1.1 ha1.2) (LR.cons (VR.closed (v := .int .i64 0) rfl) (LR.nil ((E.put nx g).putK (nx + 1) ac)))).array
        exact .tuple hl2.1 hl2.2
      · show (if id = nx then _ else _) = _
        rw [if_neg (by omega)]
      · show (if id = nx + 1 then _ else _) = _
        rw [if_neg (by omega)]
        rfl
      · refine hS.learn (g := g) hb hE1 (by omega) hge (fun i => rfl) (fun i hi => ?_) (by omega) (.cells (CellR.lit (l := [.int .i64 1, .int .i64 5, .int .i64 2, .int .i64 6]) rfl (fun i hi => ?_) ?_) ⟨ac, Env.putK_κ _ _ _, hsz⟩) hg1
        · show (if i = nx + 1 then _ else _) = _
          rw [if_neg (by omega)]
          rfl
        · have := hc i (by simpa using hi)
          rw [Nat.zero_add] at this
          rw [this]
          rfl
        · rw [hsz]
          simp only [List.length_cons, List.length_nil] at hcap ⊢
          omega
noncomputable def orc6 (f : Nat) (args : List Value) (h : Tr AO) : Option Value :=
  match lookT tab7 f args with
  | some v => some v
  | none => (match joinO f args h with
    | some v => some v
    | none => xL.orc f args h)
noncomputable def orx6 (f : Nat) (args : List Value) (h : Tr AO) (nx : Nat) : Option (Value × Tr AO × Nat) :=
  match splX f args h nx with
  | some r => some r
  | none => parX f args h nx
noncomputable def xL6 : Lk := { xL with orc := orc6, orx := orx6 }
theorem xL6_ok : LkOK prog xL6 where
  ti := xL_ok.ti
  fs := xL_ok.fs
  call := xL_ok.call
  ext := xL_ok.ext
  orc := fun f args h v ho E w args' F hg hr ha => by
    change orc6 f args h = some v at ho
    unfold orc6 at ho
    split at ho
    · rename_i u hu
      cases ho
      exact lookT_ok tab7_ok hu E w args' hg.1 ha
    · split at ho
      · rename_i u hu
        cases ho
        exact joinO_ok f args h _ hu E w args' hr ha
      · exact xL_ok.orc f args h v ho E w args' F hg hr ha
  orx := fun f args h nx v h' nx' ho => by
    change orx6 f args h nx = some (v, h', nx') at ho
    unfold orx6 at ho
    split at ho
    · rename_i r hr
      cases ho
      exact splX_ok _ _ _ _ _ _ _ hr
    · exact parX_ok _ _ _ _ _ _ _ ho
  sbin := xL_ok.sbin
  sun := xL_ok.sun
  scv := xL_ok.scv
  wide := xL_ok.wide
  smx := xL_ok.smx
end Go.Proofs.Tryz

namespace Go.Proofs.Ex
noncomputable def runH (P : Program) (L : Lk) (h : Tr AO) (nx : Nat) (f : FuncId) (args : List Value) (n : Nat) : Option (Value × Tr AO × Nat) :=
  match enterA L h nx f args false with
  | some s => backA L (arun P L n s)
  | none => none
theorem XrOK.ofRun [Sg] {P : Program} {L : Lk} (hm : P.follows .mixedOrders = true) (hL : LkOK P L) {h h' : Tr AO} {nx nx' : Nat} {f : FuncId} {args : List Value} {v : Value} {n : Nat}
    (hrun : outB v h' nx' (runH P L h nx f args n) = true) : XrOK P f args h nx v h' nx' := by
  unfold runH at hrun
  split at hrun
  · rename_i s hs
    exact .of hL (arun_good hm hL n) hs (Sound.refl P s) hrun
  · cases hrun
end Go.Proofs.Ex
namespace Go.Proofs.Tryz
open Go.Proofs.Ex
def text1 : ByteArray := ⟨#[112, 97, 103, 101, 115, 32, 50, 52, 10, 99, 114, 101, 97, 116, 101, 32, 97, 32, 48, 32, 48, 10, 97, 112, 112, 101, 110, 100, 32, 97, 32, 49, 32, 53, 32, 50, 32, 54, 10, 99, 111, 117, 110, 116, 32, 97, 32, 48, 32, 57, 10, 98, 117, 99, 107, 101, 116, 115, 32, 97, 32, 115, 117, 109, 32, 48, 32, 50, 32, 51, 10, 99, 114, 97, 115, 104, 10, 99, 111, 117, 110, 116, 32, 97, 32, 48, 32, 57, 10]⟩
end Go.Proofs.Tryz
