/- A part of the proof about cellularlaw49.OrphanBalanced: lemmas only; what they say is theirs alone and no condition of the claim. -/
import Derived.Test.YtjdldndhbbkflaaGreatDoorAmG
import Derived.KernelRfl
import Derived.Test.YtjdldndhbbkflaaGreatDoorProg
set_option autoImplicit false
set_option linter.unusedVariables false
set_option linter.unusedSimpArgs false
noncomputable section
namespace Go.Am.Seat
open Go Go.Am Go.Proofs
theorem fact2 : (!(Tryz.f2.name == "runtime.NumGoroutine") && bodyOk [] Tryz.f2.body) = true := by kernel_rfl
theorem fact3 : (!(Tryz.f3.name == "runtime.NumGoroutine") && bodyOk [] Tryz.f3.body) = true := by kernel_rfl
theorem fact4 : (!(Tryz.f4.name == "runtime.NumGoroutine") && bodyOk [(13, [0, 1, 2, 3, 4, 9, 5, 6, 7, 8, 10, 11]), (20, [0, 1, 2, 8, 3, 4, 5, 6, 7, 9, 10])] Tryz.f4.body) = true := by kernel_rfl
theorem fact5 : (!(Tryz.f5.name == "runtime.NumGoroutine") && bodyOk [] Tryz.f5.body) = true := by kernel_rfl
theorem fact6 : (!(Tryz.f6.name == "runtime.NumGoroutine") && bodyOk [(11, [0, 1, 2, 3, 4, 5, 6, 7, 8, 9, 10, 11, 12, 13, 14, 15, 16, 17, 18, 19, 20, 21, 22, 23, 25, 24, 26, 27, 28, 29, 30, 31, 32, 33, 34, 35, 36, 37, 38, 39, 40, 41, 42, 43, 44, 45, 46, 47, 48, 49, 50, 51, 52, 53, 54, 55, 56, 57, 58, 59, 60, 61, 62, 63, 64, 65, 66, 67, 68, 69, 70, 71, 72, 73, 74, 75, 76, 77, 78, 79, 80, 81, 82, 83, 84, 85, 86, 87, 88, 89, 90, 91, 92, 93])] Tryz.f6.body) = true := by kernel_rfl
theorem fact7 : (!(Tryz.f7.name == "runtime.NumGoroutine") && bodyOk [] Tryz.f7.body) = true := by kernel_rfl
theorem fact8 : (!(Tryz.f8.name == "runtime.NumGoroutine") && bodyOk [] Tryz.f8.body) = true := by kernel_rfl
theorem fact9 : (!(Tryz.f9.name == "runtime.NumGoroutine") && bodyOk [] Tryz.f9.body) = true := by kernel_rfl
theorem fact10 : (!(Tryz.f10.name == "runtime.NumGoroutine") && bodyOk [] Tryz.f10.body) = true := by kernel_rfl
theorem fact11 : (!(Tryz.f11.name == "runtime.NumGoroutine") && bodyOk [] Tryz.f11.body) = true := by kernel_rfl
theorem fact12 : (!(Tryz.f12.name == "runtime.NumGoroutine") && bodyOk [] Tryz.f12.body) = true := by kernel_rfl
theorem fact13 : (!(Tryz.f13.name == "runtime.NumGoroutine") && bodyOk [(20, [0, 1, 2, 3, 4, 9, 5, 6, 7, 8, 10, 11])] Tryz.f13.body) = true := by kernel_rfl
theorem fact14 : (!(Tryz.f14.name == "runtime.NumGoroutine") && bodyOk [] Tryz.f14.body) = true := by kernel_rfl
theorem fact15 : (!(Tryz.f15.name == "runtime.NumGoroutine") && bodyOk [(3, [0, 2, 1, 3, 4, 5])] Tryz.f15.body) = true := by kernel_rfl
theorem fact16 : (!(Tryz.f16.name == "runtime.NumGoroutine") && bodyOk [] Tryz.f16.body) = true := by kernel_rfl
theorem fact17 : (!(Tryz.f17.name == "runtime.NumGoroutine") && bodyOk [(3, [0, 2, 1, 3, 4, 5])] Tryz.f17.body) = true := by kernel_rfl
theorem fact18 : (!(Tryz.f18.name == "runtime.NumGoroutine") && bodyOk [(3, [0, 2, 1, 3, 4, 5]), (12, [0, 1, 2, 3, 4, 5, 6, 7, 8, 9, 10, 11, 15, 12, 13, 14, 16, 17])] Tryz.f18.body) = true := by kernel_rfl
theorem fact19 : (!(Tryz.f19.name == "runtime.NumGoroutine") && bodyOk [] Tryz.f19.body) = true := by kernel_rfl
theorem fact20 : (!(Tryz.f20.name == "runtime.NumGoroutine") && bodyOk [] Tryz.f20.body) = true := by kernel_rfl
theorem fact21 : (!(Tryz.f21.name == "runtime.NumGoroutine") && bodyOk [] Tryz.f21.body) = true := by kernel_rfl
theorem fact22 : (!(Tryz.f22.name == "runtime.NumGoroutine") && bodyOk [(4, [0, 1, 2, 3, 4, 8, 9, 10, 11, 16, 17, 5, 6, 7, 12, 13, 14, 15, 18, 19, 20, 21, 22])] Tryz.f22.body) = true := by kernel_rfl
theorem fact23 : (!(Tryz.f23.name == "runtime.NumGoroutine") && bodyOk [] Tryz.f23.body) = true := by kernel_rfl
theorem fact24 : (!(Tryz.f24.name == "runtime.NumGoroutine") && bodyOk [] Tryz.f24.body) = true := by kernel_rfl
theorem fact25 : (!(Tryz.f25.name == "runtime.NumGoroutine") && bodyOk [] Tryz.f25.body) = true := by kernel_rfl
theorem fact26 : (!(Tryz.f26.name == "runtime.NumGoroutine") && bodyOk [] Tryz.f26.body) = true := by kernel_rfl
theorem fact27 : (!(Tryz.f27.name == "runtime.NumGoroutine") && bodyOk [(7, [0, 1, 2, 3, 4, 5, 7, 8, 9, 10, 11, 6, 12, 13, 14])] Tryz.f27.body) = true := by kernel_rfl
theorem fact28 : (!(Tryz.f28.name == "runtime.NumGoroutine") && bodyOk [] Tryz.f28.body) = true := by kernel_rfl
theorem fact29 : (!(Tryz.f29.name == "runtime.NumGoroutine") && bodyOk [] Tryz.f29.body) = true := by kernel_rfl
theorem fact30 : (!(Tryz.f30.name == "runtime.NumGoroutine") && bodyOk [] Tryz.f30.body) = true := by kernel_rfl
theorem fact31 : (!(Tryz.f31.name == "runtime.NumGoroutine") && bodyOk [] Tryz.f31.body) = true := by kernel_rfl
theorem fact32 : (!(Tryz.f32.name == "runtime.NumGoroutine") && bodyOk [] Tryz.f32.body) = true := by kernel_rfl
theorem fact33 : (!(Tryz.f33.name == "runtime.NumGoroutine") && bodyOk [] Tryz.f33.body) = true := by kernel_rfl
theorem fact34 : (!(Tryz.f34.name == "runtime.NumGoroutine") && bodyOk [] Tryz.f34.body) = true := by kernel_rfl
theorem fact35 : (!(Tryz.f35.name == "runtime.NumGoroutine") && bodyOk [] Tryz.f35.body) = true := by kernel_rfl
theorem fact36 : (!(Tryz.f36.name == "runtime.NumGoroutine") && bodyOk [] Tryz.f36.body) = true := by kernel_rfl
theorem fact37 : (!(Tryz.f37.name == "runtime.NumGoroutine") && bodyOk [] Tryz.f37.body) = true := by kernel_rfl
theorem fact38 : (!(Tryz.f38.name == "runtime.NumGoroutine") && bodyOk [] Tryz.f38.body) = true := by kernel_rfl
theorem fact39 : (!(Tryz.f39.name == "runtime.NumGoroutine") && bodyOk [] Tryz.f39.body) = true := by kernel_rfl
theorem fact40 : (!(Tryz.f40.name == "runtime.NumGoroutine") && bodyOk [] Tryz.f40.body) = true := by kernel_rfl
theorem fact41 : (!(Tryz.f41.name == "runtime.NumGoroutine") && bodyOk [(6, [0, 1, 2, 3, 4, 5, 8, 6, 7, 9, 10])] Tryz.f41.body) = true := by kernel_rfl
theorem fact42 : (!(Tryz.f42.name == "runtime.NumGoroutine") && bodyOk [] Tryz.f42.body) = true := by kernel_rfl
theorem fact43 : (!(Tryz.f43.name == "runtime.NumGoroutine") && bodyOk [] Tryz.f43.body) = true := by kernel_rfl
theorem fact44 : (!(Tryz.f44.name == "runtime.NumGoroutine") && bodyOk [] Tryz.f44.body) = true := by kernel_rfl
theorem fact45 : (!(Tryz.f45.name == "runtime.NumGoroutine") && bodyOk [] Tryz.f45.body) = true := by kernel_rfl
theorem fact46 : (!(Tryz.f46.name == "runtime.NumGoroutine") && bodyOk [] Tryz.f46.body) = true := by kernel_rfl
theorem fact47 : (!(Tryz.f47.name == "runtime.NumGoroutine") && bodyOk [] Tryz.f47.body) = true := by kernel_rfl
theorem fact48 : (!(Tryz.f48.name == "runtime.NumGoroutine") && bodyOk [] Tryz.f48.body) = true := by kernel_rfl
theorem fact49 : (!(Tryz.f49.name == "runtime.NumGoroutine") && bodyOk [] Tryz.f49.body) = true := by kernel_rfl
theorem fact50 : (!(Tryz.f50.name == "runtime.NumGoroutine") && bodyOk [] Tryz.f50.body) = true := by kernel_rfl
theorem fact51 : (!(Tryz.f51.name == "runtime.NumGoroutine") && bodyOk [] Tryz.f51.body) = true := by kernel_rfl
theorem fact52 : (!(Tryz.f52.name == "runtime.NumGoroutine") && bodyOk [] Tryz.f52.body) = true := by kernel_rfl
theorem fact53 : (!(Tryz.f53.name == "runtime.NumGoroutine") && bodyOk [] Tryz.f53.body) = true := by kernel_rfl
theorem fact54 : (!(Tryz.f54.name == "runtime.NumGoroutine") && bodyOk [] Tryz.f54.body) = true := by kernel_rfl
theorem fact55 : (!(Tryz.f55.name == "runtime.NumGoroutine") && bodyOk [] Tryz.f55.body) = true := by kernel_rfl
theorem fact56 : (!(Tryz.f56.name == "runtime.NumGoroutine") && bodyOk [] Tryz.f56.body) = true := by kernel_rfl
theorem fact57 : (!(Tryz.f57.name == "runtime.NumGoroutine") && bodyOk [] Tryz.f57.body) = true := by kernel_rfl
theorem fact58 : (!(Tryz.f58.name == "runtime.NumGoroutine") && bodyOk [] Tryz.f58.body) = true := by kernel_rfl
theorem fact59 : (!(Tryz.f59.name == "runtime.NumGoroutine") && bodyOk [] Tryz.f59.body) = true := by kernel_rfl
theorem fact60 : (!(Tryz.f60.name == "runtime.NumGoroutine") && bodyOk [] Tryz.f60.body) = true := by kernel_rfl
theorem fact61 : (!(Tryz.f61.name == "runtime.NumGoroutine") && bodyOk [] Tryz.f61.body) = true := by kernel_rfl
theorem fact62 : (!(Tryz.f62.name == "runtime.NumGoroutine") && bodyOk [] Tryz.f62.body) = true := by kernel_rfl
theorem fact63 : (!(Tryz.f63.name == "runtime.NumGoroutine") && bodyOk [] Tryz.f63.body) = true := by kernel_rfl
theorem fact64 : (!(Tryz.f64.name == "runtime.NumGoroutine") && bodyOk [] Tryz.f64.body) = true := by kernel_rfl
theorem fact65 : (!(Tryz.f65.name == "runtime.NumGoroutine") && bodyOk [(17, [0, 1, 2, 3, 4, 5, 6, 7, 8, 9, 10, 15, 11, 12, 13, 14, 16, 17])] Tryz.f65.body) = true := by kernel_rfl
theorem fact66 : (!(Tryz.f66.name == "runtime.NumGoroutine") && bodyOk [] Tryz.f66.body) = true := by kernel_rfl
theorem fact67 : (!(Tryz.f67.name == "runtime.NumGoroutine") && bodyOk [] Tryz.f67.body) = true := by kernel_rfl
theorem fact68 : (!(Tryz.f68.name == "runtime.NumGoroutine") && bodyOk [(1, [0, 1, 3, 4, 6, 2, 5, 7, 8])] Tryz.f68.body) = true := by kernel_rfl
theorem fact69 : (!(Tryz.f69.name == "runtime.NumGoroutine") && bodyOk [] Tryz.f69.body) = true := by kernel_rfl
theorem fact70 : (!(Tryz.f70.name == "runtime.NumGoroutine") && bodyOk [] Tryz.f70.body) = true := by kernel_rfl
theorem fact71 : (!(Tryz.f71.name == "runtime.NumGoroutine") && bodyOk [] Tryz.f71.body) = true := by kernel_rfl
theorem fact72 : (!(Tryz.f72.name == "runtime.NumGoroutine") && bodyOk [] Tryz.f72.body) = true := by kernel_rfl
theorem fact73 : (!(Tryz.f73.name == "runtime.NumGoroutine") && bodyOk [] Tryz.f73.body) = true := by kernel_rfl
theorem fact74 : (!(Tryz.f74.name == "runtime.NumGoroutine") && bodyOk [] Tryz.f74.body) = true := by kernel_rfl
theorem fact75 : (!(Tryz.f75.name == "runtime.NumGoroutine") && bodyOk [] Tryz.f75.body) = true := by kernel_rfl
theorem fact76 : (!(Tryz.f76.name == "runtime.NumGoroutine") && bodyOk [(1, [0, 1, 2, 3, 5, 6, 7, 8, 4, 9, 10, 11, 12])] Tryz.f76.body) = true := by kernel_rfl
theorem fact77 : (!(Tryz.f77.name == "runtime.NumGoroutine") && bodyOk [] Tryz.f77.body) = true := by kernel_rfl
theorem fact78 : (!(Tryz.f78.name == "runtime.NumGoroutine") && bodyOk [] Tryz.f78.body) = true := by kernel_rfl
theorem fact79 : (!(Tryz.f79.name == "runtime.NumGoroutine") && bodyOk [] Tryz.f79.body) = true := by kernel_rfl
theorem fact80 : (!(Tryz.f80.name == "runtime.NumGoroutine") && bodyOk [] Tryz.f80.body) = true := by kernel_rfl
theorem fact81 : (!(Tryz.f81.name == "runtime.NumGoroutine") && bodyOk [] Tryz.f81.body) = true := by kernel_rfl
theorem fact82 : (!(Tryz.f82.name == "runtime.NumGoroutine") && bodyOk [(6, [0, 1, 2, 3, 4, 5, 6, 7, 9, 8, 10, 11, 12, 13, 14, 15, 16])] Tryz.f82.body) = true := by kernel_rfl
theorem fact83 : (!(Tryz.f83.name == "runtime.NumGoroutine") && bodyOk [] Tryz.f83.body) = true := by kernel_rfl
theorem fact84 : (!(Tryz.f84.name == "runtime.NumGoroutine") && bodyOk [] Tryz.f84.body) = true := by kernel_rfl
theorem fact85 : (!(Tryz.f85.name == "runtime.NumGoroutine") && bodyOk [] Tryz.f85.body) = true := by kernel_rfl
theorem fact86 : (!(Tryz.f86.name == "runtime.NumGoroutine") && bodyOk [] Tryz.f86.body) = true := by kernel_rfl
theorem fact87 : (!(Tryz.f87.name == "runtime.NumGoroutine") && bodyOk [(1, [0, 2, 3, 5, 1, 4, 6, 7, 8])] Tryz.f87.body) = true := by kernel_rfl
theorem fact88 : (!(Tryz.f88.name == "runtime.NumGoroutine") && bodyOk [] Tryz.f88.body) = true := by kernel_rfl
theorem fact89 : (!(Tryz.f89.name == "runtime.NumGoroutine") && bodyOk [] Tryz.f89.body) = true := by kernel_rfl
theorem fact90 : (!(Tryz.f90.name == "runtime.NumGoroutine") && bodyOk [] Tryz.f90.body) = true := by kernel_rfl
theorem fact91 : (!(Tryz.f91.name == "runtime.NumGoroutine") && bodyOk [] Tryz.f91.body) = true := by kernel_rfl
theorem fact92 : (!(Tryz.f92.name == "runtime.NumGoroutine") && bodyOk [] Tryz.f92.body) = true := by kernel_rfl
theorem fact93 : (!(Tryz.f93.name == "runtime.NumGoroutine") && bodyOk [] Tryz.f93.body) = true := by kernel_rfl
theorem fact94 : (!(Tryz.f94.name == "runtime.NumGoroutine") && bodyOk [] Tryz.f94.body) = true := by kernel_rfl
theorem fact95 : (!(Tryz.f95.name == "runtime.NumGoroutine") && bodyOk [] Tryz.f95.body) = true := by kernel_rfl
theorem fact96 : (!(Tryz.f96.name == "runtime.NumGoroutine") && bodyOk [] Tryz.f96.body) = true := by kernel_rfl
theorem fact97 : (!(Tryz.f97.name == "runtime.NumGoroutine") && bodyOk [] Tryz.f97.body) = true := by kernel_rfl
theorem fact98 : (!(Tryz.f98.name == "runtime.NumGoroutine") && bodyOk [] Tryz.f98.body) = true := by kernel_rfl
theorem fact99 : (!(Tryz.f99.name == "runtime.NumGoroutine") && bodyOk [] Tryz.f99.body) = true := by kernel_rfl
theorem fact100 : (!(Tryz.f100.name == "runtime.NumGoroutine") && bodyOk [] Tryz.f100.body) = true := by kernel_rfl
theorem fact101 : (!(Tryz.f101.name == "runtime.NumGoroutine") && bodyOk [] Tryz.f101.body) = true := by kernel_rfl
theorem fact102 : (!(Tryz.f102.name == "runtime.NumGoroutine") && bodyOk [] Tryz.f102.body) = true := by kernel_rfl
theorem fact103 : (!(Tryz.f103.name == "runtime.NumGoroutine") && bodyOk [] Tryz.f103.body) = true := by kernel_rfl
theorem fact104 : (!(Tryz.f104.name == "runtime.NumGoroutine") && bodyOk [] Tryz.f104.body) = true := by kernel_rfl
theorem fact105 : (!(Tryz.f105.name == "runtime.NumGoroutine") && bodyOk [] Tryz.f105.body) = true := by kernel_rfl
theorem fact106 : (!(Tryz.f106.name == "runtime.NumGoroutine") && bodyOk [] Tryz.f106.body) = true := by kernel_rfl
theorem fact107 : (!(Tryz.f107.name == "runtime.NumGoroutine") && bodyOk [] Tryz.f107.body) = true := by kernel_rfl
theorem fact108 : (!(Tryz.f108.name == "runtime.NumGoroutine") && bodyOk [] Tryz.f108.body) = true := by kernel_rfl
theorem fact109 : (!(Tryz.f109.name == "runtime.NumGoroutine") && bodyOk [] Tryz.f109.body) = true := by kernel_rfl
theorem fact110 : (!(Tryz.f110.name == "runtime.NumGoroutine") && bodyOk [] Tryz.f110.body) = true := by kernel_rfl
theorem fact111 : (!(Tryz.f111.name == "runtime.NumGoroutine") && bodyOk [] Tryz.f111.body) = true := by kernel_rfl
theorem fact112 : (!(Tryz.f112.name == "runtime.NumGoroutine") && bodyOk [] Tryz.f112.body) = true := by kernel_rfl
theorem fact113 : (!(Tryz.f113.name == "runtime.NumGoroutine") && bodyOk [] Tryz.f113.body) = true := by kernel_rfl
theorem fact114 : (!(Tryz.f114.name == "runtime.NumGoroutine") && bodyOk [] Tryz.f114.body) = true := by kernel_rfl
theorem fact115 : (!(Tryz.f115.name == "runtime.NumGoroutine") && bodyOk [] Tryz.f115.body) = true := by kernel_rfl
theorem fact116 : (!(Tryz.f116.name == "runtime.NumGoroutine") && bodyOk [] Tryz.f116.body) = true := by kernel_rfl
theorem fact117 : (!(Tryz.f117.name == "runtime.NumGoroutine") && bodyOk [] Tryz.f117.body) = true := by kernel_rfl
theorem fact118 : (!(Tryz.f118.name == "runtime.NumGoroutine") && bodyOk [(8, [0, 1, 2, 3, 4, 5, 6, 7, 8, 9, 10, 11, 12, 13, 14, 15, 16, 17, 18, 19, 20, 21, 22, 23, 24, 25, 27, 28, 29, 30, 31, 26, 32, 33])] Tryz.f118.body) = true := by kernel_rfl
theorem fact119 : (!(Tryz.f119.name == "runtime.NumGoroutine") && bodyOk [] Tryz.f119.body) = true := by kernel_rfl
theorem fact120 : (!(Tryz.f120.name == "runtime.NumGoroutine") && bodyOk [] Tryz.f120.body) = true := by kernel_rfl
theorem fact121 : (!(Tryz.f121.name == "runtime.NumGoroutine") && bodyOk [] Tryz.f121.body) = true := by kernel_rfl
theorem fact122 : (!(Tryz.f122.name == "runtime.NumGoroutine") && bodyOk [] Tryz.f122.body) = true := by kernel_rfl
theorem fact123 : (!(Tryz.f123.name == "runtime.NumGoroutine") && bodyOk [] Tryz.f123.body) = true := by kernel_rfl
theorem fact124 : (!(Tryz.f124.name == "runtime.NumGoroutine") && bodyOk [] Tryz.f124.body) = true := by kernel_rfl
theorem fact125 : (!(Tryz.f125.name == "runtime.NumGoroutine") && bodyOk [] Tryz.f125.body) = true := by kernel_rfl
theorem fact126 : (!(Tryz.f126.name == "runtime.NumGoroutine") && bodyOk [] Tryz.f126.body) = true := by kernel_rfl
theorem fact127 : (!(Tryz.f127.name == "runtime.NumGoroutine") && bodyOk [] Tryz.f127.body) = true := by kernel_rfl
theorem fact128 : (!(Tryz.f128.name == "runtime.NumGoroutine") && bodyOk [] Tryz.f128.body) = true := by kernel_rfl
theorem fact129 : (!(Tryz.f129.name == "runtime.NumGoroutine") && bodyOk [] Tryz.f129.body) = true := by kernel_rfl
theorem fact130 : (!(Tryz.f130.name == "runtime.NumGoroutine") && bodyOk [] Tryz.f130.body) = true := by kernel_rfl
theorem fact131 : (!(Tryz.f131.name == "runtime.NumGoroutine") && bodyOk [] Tryz.f131.body) = true := by kernel_rfl
theorem fact132 : (!(Tryz.f132.name == "runtime.NumGoroutine") && bodyOk [] Tryz.f132.body) = true := by kernel_rfl
theorem fact133 : (!(Tryz.f133.name == "runtime.NumGoroutine") && bodyOk [] Tryz.f133.body) = true := by kernel_rfl
theorem fact134 : (!(Tryz.f134.name == "runtime.NumGoroutine") && bodyOk [] Tryz.f134.body) = true := by kernel_rfl
theorem fact135 : (!(Tryz.f135.name == "runtime.NumGoroutine") && bodyOk [] Tryz.f135.body) = true := by kernel_rfl
theorem fact136 : (!(Tryz.f136.name == "runtime.NumGoroutine") && bodyOk [] Tryz.f136.body) = true := by kernel_rfl
theorem fact137 : (!(Tryz.f137.name == "runtime.NumGoroutine") && bodyOk [] Tryz.f137.body) = true := by kernel_rfl
theorem fact138 : (!(Tryz.f138.name == "runtime.NumGoroutine") && bodyOk [] Tryz.f138.body) = true := by kernel_rfl
theorem fact139 : (!(Tryz.f139.name == "runtime.NumGoroutine") && bodyOk [] Tryz.f139.body) = true := by kernel_rfl
theorem fact140 : (!(Tryz.f140.name == "runtime.NumGoroutine") && bodyOk [] Tryz.f140.body) = true := by kernel_rfl
theorem fact141 : (!(Tryz.f141.name == "runtime.NumGoroutine") && bodyOk [] Tryz.f141.body) = true := by kernel_rfl
theorem fact142 : (!(Tryz.f142.name == "runtime.NumGoroutine") && bodyOk [] Tryz.f142.body) = true := by kernel_rfl
theorem fact143 : (!(Tryz.f143.name == "runtime.NumGoroutine") && bodyOk [] Tryz.f143.body) = true := by kernel_rfl
theorem fact144 : (!(Tryz.f144.name == "runtime.NumGoroutine") && bodyOk [] Tryz.f144.body) = true := by kernel_rfl
theorem fact145 : (!(Tryz.f145.name == "runtime.NumGoroutine") && bodyOk [] Tryz.f145.body) = true := by kernel_rfl
theorem fact146 : (!(Tryz.f146.name == "runtime.NumGoroutine") && bodyOk [] Tryz.f146.body) = true := by kernel_rfl
theorem fact147 : (!(Tryz.f147.name == "runtime.NumGoroutine") && bodyOk [] Tryz.f147.body) = true := by kernel_rfl
theorem fact148 : (!(Tryz.f148.name == "runtime.NumGoroutine") && bodyOk [] Tryz.f148.body) = true := by kernel_rfl
theorem fact149 : (!(Tryz.f149.name == "runtime.NumGoroutine") && bodyOk [(15, [0, 1, 2, 3, 5, 6, 7, 8, 9, 10, 11, 12, 4, 13, 14, 15])] Tryz.f149.body) = true := by kernel_rfl
theorem fact150 : (!(Tryz.f150.name == "runtime.NumGoroutine") && bodyOk [] Tryz.f150.body) = true := by kernel_rfl
theorem fact151 : (!(Tryz.f151.name == "runtime.NumGoroutine") && bodyOk [] Tryz.f151.body) = true := by kernel_rfl
theorem fact152 : (!(Tryz.f152.name == "runtime.NumGoroutine") && bodyOk [] Tryz.f152.body) = true := by kernel_rfl
theorem fact153 : (!(Tryz.f153.name == "runtime.NumGoroutine") && bodyOk [] Tryz.f153.body) = true := by kernel_rfl
theorem fact154 : (!(Tryz.f154.name == "runtime.NumGoroutine") && bodyOk [] Tryz.f154.body) = true := by kernel_rfl
theorem fact155 : (!(Tryz.f155.name == "runtime.NumGoroutine") && bodyOk [] Tryz.f155.body) = true := by kernel_rfl
theorem fact156 : (!(Tryz.f156.name == "runtime.NumGoroutine") && bodyOk [] Tryz.f156.body) = true := by kernel_rfl
theorem fact157 : (!(Tryz.f157.name == "runtime.NumGoroutine") && bodyOk [] Tryz.f157.body) = true := by kernel_rfl
theorem fact158 : (!(Tryz.f158.name == "runtime.NumGoroutine") && bodyOk [] Tryz.f158.body) = true := by kernel_rfl
theorem fact159 : (!(Tryz.f159.name == "runtime.NumGoroutine") && bodyOk [] Tryz.f159.body) = true := by kernel_rfl
theorem fact160 : (!(Tryz.f160.name == "runtime.NumGoroutine") && bodyOk [] Tryz.f160.body) = true := by kernel_rfl
theorem fact161 : (!(Tryz.f161.name == "runtime.NumGoroutine") && bodyOk [] Tryz.f161.body) = true := by kernel_rfl
theorem fact162 : (!(Tryz.f162.name == "runtime.NumGoroutine") && bodyOk [] Tryz.f162.body) = true := by kernel_rfl
theorem fact163 : (!(Tryz.f163.name == "runtime.NumGoroutine") && bodyOk [] Tryz.f163.body) = true := by kernel_rfl
theorem fact164 : (!(Tryz.f164.name == "runtime.NumGoroutine") && bodyOk [] Tryz.f164.body) = true := by kernel_rfl
theorem fact165 : (!(Tryz.f165.name == "runtime.NumGoroutine") && bodyOk [] Tryz.f165.body) = true := by kernel_rfl
theorem fact166 : (!(Tryz.f166.name == "runtime.NumGoroutine") && bodyOk [] Tryz.f166.body) = true := by kernel_rfl
theorem fact167 : (!(Tryz.f167.name == "runtime.NumGoroutine") && bodyOk [] Tryz.f167.body) = true := by kernel_rfl
theorem fact168 : (!(Tryz.f168.name == "runtime.NumGoroutine") && bodyOk [] Tryz.f168.body) = true := by kernel_rfl
theorem fact169 : (!(Tryz.f169.name == "runtime.NumGoroutine") && bodyOk [] Tryz.f169.body) = true := by kernel_rfl
theorem fact170 : (!(Tryz.f170.name == "runtime.NumGoroutine") && bodyOk [] Tryz.f170.body) = true := by kernel_rfl
theorem fact171 : (!(Tryz.f171.name == "runtime.NumGoroutine") && bodyOk [] Tryz.f171.body) = true := by kernel_rfl
theorem fact172 : (!(Tryz.f172.name == "runtime.NumGoroutine") && bodyOk [] Tryz.f172.body) = true := by kernel_rfl
theorem fact173 : (!(Tryz.f173.name == "runtime.NumGoroutine") && bodyOk [] Tryz.f173.body) = true := by kernel_rfl
theorem fact174 : (!(Tryz.f174.name == "runtime.NumGoroutine") && bodyOk [] Tryz.f174.body) = true := by kernel_rfl
theorem fact175 : (!(Tryz.f175.name == "runtime.NumGoroutine") && bodyOk [] Tryz.f175.body) = true := by kernel_rfl
theorem fact176 : (!(Tryz.f176.name == "runtime.NumGoroutine") && bodyOk [] Tryz.f176.body) = true := by kernel_rfl
theorem fact177 : (!(Tryz.f177.name == "runtime.NumGoroutine") && bodyOk [] Tryz.f177.body) = true := by kernel_rfl
theorem fact178 : (!(Tryz.f178.name == "runtime.NumGoroutine") && bodyOk [] Tryz.f178.body) = true := by kernel_rfl
theorem fact179 : (!(Tryz.f179.name == "runtime.NumGoroutine") && bodyOk [] Tryz.f179.body) = true := by kernel_rfl
theorem fact180 : (!(Tryz.f180.name == "runtime.NumGoroutine") && bodyOk [] Tryz.f180.body) = true := by kernel_rfl
theorem fact181 : (!(Tryz.f181.name == "runtime.NumGoroutine") && bodyOk [] Tryz.f181.body) = true := by kernel_rfl
theorem fact182 : (!(Tryz.f182.name == "runtime.NumGoroutine") && bodyOk [] Tryz.f182.body) = true := by kernel_rfl
theorem fact183 : (!(Tryz.f183.name == "runtime.NumGoroutine") && bodyOk [] Tryz.f183.body) = true := by kernel_rfl
theorem fact184 : (!(Tryz.f184.name == "runtime.NumGoroutine") && bodyOk [] Tryz.f184.body) = true := by kernel_rfl
theorem fact185 : (!(Tryz.f185.name == "runtime.NumGoroutine") && bodyOk [] Tryz.f185.body) = true := by kernel_rfl
theorem fact186 : (!(Tryz.f186.name == "runtime.NumGoroutine") && bodyOk [(0, [0, 1, 3, 2, 4, 5])] Tryz.f186.body) = true := by kernel_rfl
theorem fact187 : (!(Tryz.f187.name == "runtime.NumGoroutine") && bodyOk [] Tryz.f187.body) = true := by kernel_rfl
theorem fact188 : (!(Tryz.f188.name == "runtime.NumGoroutine") && bodyOk [] Tryz.f188.body) = true := by kernel_rfl
theorem fact189 : (!(Tryz.f189.name == "runtime.NumGoroutine") && bodyOk [] Tryz.f189.body) = true := by kernel_rfl
theorem fact190 : (!(Tryz.f190.name == "runtime.NumGoroutine") && bodyOk [] Tryz.f190.body) = true := by kernel_rfl
theorem fact191 : (!(Tryz.f191.name == "runtime.NumGoroutine") && bodyOk [] Tryz.f191.body) = true := by kernel_rfl
theorem fact192 : (!(Tryz.f192.name == "runtime.NumGoroutine") && bodyOk [] Tryz.f192.body) = true := by kernel_rfl
theorem fact193 : (!(Tryz.f193.name == "runtime.NumGoroutine") && bodyOk [] Tryz.f193.body) = true := by kernel_rfl
theorem fact194 : (!(Tryz.f194.name == "runtime.NumGoroutine") && bodyOk [] Tryz.f194.body) = true := by kernel_rfl
theorem fact195 : (!(Tryz.f195.name == "runtime.NumGoroutine") && bodyOk [] Tryz.f195.body) = true := by kernel_rfl
theorem fact196 : (!(Tryz.f196.name == "runtime.NumGoroutine") && bodyOk [] Tryz.f196.body) = true := by kernel_rfl
theorem fact197 : (!(Tryz.f197.name == "runtime.NumGoroutine") && bodyOk [] Tryz.f197.body) = true := by kernel_rfl
theorem fact198 : (!(Tryz.f198.name == "runtime.NumGoroutine") && bodyOk [(3, [0, 1, 2, 3, 4, 5, 6, 7, 8, 9, 12, 10, 11, 13])] Tryz.f198.body) = true := by kernel_rfl
theorem fact199 : (!(Tryz.f199.name == "runtime.NumGoroutine") && bodyOk [] Tryz.f199.body) = true := by kernel_rfl
theorem fact200 : (!(Tryz.f200.name == "runtime.NumGoroutine") && bodyOk [] Tryz.f200.body) = true := by kernel_rfl
theorem fact201 : (!(Tryz.f201.name == "runtime.NumGoroutine") && bodyOk [] Tryz.f201.body) = true := by kernel_rfl
theorem fact202 : (!(Tryz.f202.name == "runtime.NumGoroutine") && bodyOk [] Tryz.f202.body) = true := by kernel_rfl
theorem fact203 : (!(Tryz.f203.name == "runtime.NumGoroutine") && bodyOk [] Tryz.f203.body) = true := by kernel_rfl
theorem fact204 : (!(Tryz.f204.name == "runtime.NumGoroutine") && bodyOk [] Tryz.f204.body) = true := by kernel_rfl
theorem fact205 : (!(Tryz.f205.name == "runtime.NumGoroutine") && bodyOk [] Tryz.f205.body) = true := by kernel_rfl
theorem fact206 : (!(Tryz.f206.name == "runtime.NumGoroutine") && bodyOk [] Tryz.f206.body) = true := by kernel_rfl
theorem fact207 : (!(Tryz.f207.name == "runtime.NumGoroutine") && bodyOk [] Tryz.f207.body) = true := by kernel_rfl
theorem fact208 : (!(Tryz.f208.name == "runtime.NumGoroutine") && bodyOk [] Tryz.f208.body) = true := by kernel_rfl
theorem fact209 : (!(Tryz.f209.name == "runtime.NumGoroutine") && bodyOk [] Tryz.f209.body) = true := by kernel_rfl
theorem fact210 : (!(Tryz.f210.name == "runtime.NumGoroutine") && bodyOk [] Tryz.f210.body) = true := by kernel_rfl
theorem fact211 : (!(Tryz.f211.name == "runtime.NumGoroutine") && bodyOk [] Tryz.f211.body) = true := by kernel_rfl
theorem fact212 : (!(Tryz.f212.name == "runtime.NumGoroutine") && bodyOk [] Tryz.f212.body) = true := by kernel_rfl
theorem fact236 : (!(Tryz.f236.name == "runtime.NumGoroutine") && bodyOk [] Tryz.f236.body) = true := by kernel_rfl
noncomputable def fns : List (Nat × (Func × List (Nat × List Nat))) := [(2, (Tryz.f2, [])),
  (3, (Tryz.f3, [])),
  (4, (Tryz.f4, [(13, [0, 1, 2, 3, 4, 9, 5, 6, 7, 8, 10, 11]), (20, [0, 1, 2, 8, 3, 4, 5, 6, 7, 9, 10])])),
  (5, (Tryz.f5, [])),
  (6, (Tryz.f6, [(11, [0, 1, 2, 3, 4, 5, 6, 7, 8, 9, 10, 11, 12, 13, 14, 15, 16, 17, 18, 19, 20, 21, 22, 23, 25, 24, 26, 27, 28, 29, 30, 31, 32, 33, 34, 35, 36, 37, 38, 39, 40, 41, 42, 43, 44, 45, 46, 47, 48, 49, 50, 51, 52, 53, 54, 55, 56, 57, 58, 59, 60, 61, 62, 63, 64, 65, 66, 67, 68, 69, 70, 71, 72, 73, 74, 75, 76, 77, 78, 79, 80, 81, 82, 83, 84, 85, 86, 87, 88, 89, 90, 91, 92, 93])])),
  (7, (Tryz.f7, [])),
  (8, (Tryz.f8, [])),
  (9, (Tryz.f9, [])),
  (10, (Tryz.f10, [])),
  (11, (Tryz.f11, [])),
  (12, (Tryz.f12, [])),
  (13, (Tryz.f13, [(20, [0, 1, 2, 3, 4, 9, 5, 6, 7, 8, 10, 11])])),
  (14, (Tryz.f14, [])),
  (15, (Tryz.f15, [(3, [0, 2, 1, 3, 4, 5])])),
  (16, (Tryz.f16, [])),
  (17, (Tryz.f17, [(3, [0, 2, 1, 3, 4, 5])])),
  (18, (Tryz.f18, [(3, [0, 2, 1, 3, 4, 5]), (12, [0, 1, 2, 3, 4, 5, 6, 7, 8, 9, 10, 11, 15, 12, 13, 14, 16, 17])])),
  (19, (Tryz.f19, [])),
  (20, (Tryz.f20, [])),
  (21, (Tryz.f21, [])),
  (22, (Tryz.f22, [(4, [0, 1, 2, 3, 4, 8, 9, 10, 11, 16, 17, 5, 6, 7, 12, 13, 14, 15, 18, 19, 20, 21, 22])])),
  (23, (Tryz.f23, [])),
  (24, (Tryz.f24, [])),
  (25, (Tryz.f25, [])),
  (26, (Tryz.f26, [])),
  (27, (Tryz.f27, [(7, [0, 1, 2, 3, 4, 5, 7, 8, 9, 10, 11, 6, 12, 13, 14])])),
  (28, (Tryz.f28, [])),
  (29, (Tryz.f29, [])),
  (30, (Tryz.f30, [])),
  (31, (Tryz.f31, [])),
  (32, (Tryz.f32, [])),
  (33, (Tryz.f33, [])),
  (34, (Tryz.f34, [])),
  (35, (Tryz.f35, [])),
  (36, (Tryz.f36, [])),
  (37, (Tryz.f37, [])),
  (38, (Tryz.f38, [])),
  (39, (Tryz.f39, [])),
  (40, (Tryz.f40, [])),
  (41, (Tryz.f41, [(6, [0, 1, 2, 3, 4, 5, 8, 6, 7, 9, 10])])),
  (42, (Tryz.f42, [])),
  (43, (Tryz.f43, [])),
  (44, (Tryz.f44, [])),
  (45, (Tryz.f45, [])),
  (46, (Tryz.f46, [])),
  (47, (Tryz.f47, [])),
  (48, (Tryz.f48, [])),
  (49, (Tryz.f49, [])),
  (50, (Tryz.f50, [])),
  (51, (Tryz.f51, [])),
  (52, (Tryz.f52, [])),
  (53, (Tryz.f53, [])),
  (54, (Tryz.f54, [])),
  (55, (Tryz.f55, [])),
  (56, (Tryz.f56, [])),
  (57, (Tryz.f57, [])),
  (58, (Tryz.f58, [])),
  (59, (Tryz.f59, [])),
  (60, (Tryz.f60, [])),
  (61, (Tryz.f61, [])),
  (62, (Tryz.f62, [])),
  (63, (Tryz.f63, [])),
  (64, (Tryz.f64, [])),
  (65, (Tryz.f65, [(17, [0, 1, 2, 3, 4, 5, 6, 7, 8, 9, 10, 15, 11, 12, 13, 14, 16, 17])])),
  (66, (Tryz.f66, [])),
  (67, (Tryz.f67, [])),
  (68, (Tryz.f68, [(1, [0, 1, 3, 4, 6, 2, 5, 7, 8])])),
  (69, (Tryz.f69, [])),
  (70, (Tryz.f70, [])),
  (71, (Tryz.f71, [])),
  (72, (Tryz.f72, [])),
  (73, (Tryz.f73, [])),
  (74, (Tryz.f74, [])),
  (75, (Tryz.f75, [])),
  (76, (Tryz.f76, [(1, [0, 1, 2, 3, 5, 6, 7, 8, 4, 9, 10, 11, 12])])),
  (77, (Tryz.f77, [])),
  (78, (Tryz.f78, [])),
  (79, (Tryz.f79, [])),
  (80, (Tryz.f80, [])),
  (81, (Tryz.f81, [])),
  (82, (Tryz.f82, [(6, [0, 1, 2, 3, 4, 5, 6, 7, 9, 8, 10, 11, 12, 13, 14, 15, 16])])),
  (83, (Tryz.f83, [])),
  (84, (Tryz.f84, [])),
  (85, (Tryz.f85, [])),
  (86, (Tryz.f86, [])),
  (87, (Tryz.f87, [(1, [0, 2, 3, 5, 1, 4, 6, 7, 8])])),
  (88, (Tryz.f88, [])),
  (89, (Tryz.f89, [])),
  (90, (Tryz.f90, [])),
  (91, (Tryz.f91, [])),
  (92, (Tryz.f92, [])),
  (93, (Tryz.f93, [])),
  (94, (Tryz.f94, [])),
  (95, (Tryz.f95, [])),
  (96, (Tryz.f96, [])),
  (97, (Tryz.f97, [])),
  (98, (Tryz.f98, [])),
  (99, (Tryz.f99, [])),
  (100, (Tryz.f100, [])),
  (101, (Tryz.f101, [])),
  (102, (Tryz.f102, [])),
  (103, (Tryz.f103, [])),
  (104, (Tryz.f104, [])),
  (105, (Tryz.f105, [])),
  (106, (Tryz.f106, [])),
  (107, (Tryz.f107, [])),
  (108, (Tryz.f108, [])),
  (109, (Tryz.f109, [])),
  (110, (Tryz.f110, [])),
  (111, (Tryz.f111, [])),
  (112, (Tryz.f112, [])),
  (113, (Tryz.f113, [])),
  (114, (Tryz.f114, [])),
  (115, (Tryz.f115, [])),
  (116, (Tryz.f116, [])),
  (117, (Tryz.f117, [])),
  (118, (Tryz.f118, [(8, [0, 1, 2, 3, 4, 5, 6, 7, 8, 9, 10, 11, 12, 13, 14, 15, 16, 17, 18, 19, 20, 21, 22, 23, 24, 25, 27, 28, 29, 30, 31, 26, 32, 33])])),
  (119, (Tryz.f119, [])),
  (120, (Tryz.f120, [])),
  (121, (Tryz.f121, [])),
  (122, (Tryz.f122, [])),
  (123, (Tryz.f123, [])),
  (124, (Tryz.f124, [])),
  (125, (Tryz.f125, [])),
  (126, (Tryz.f126, [])),
  (127, (Tryz.f127, [])),
  (128, (Tryz.f128, [])),
  (129, (Tryz.f129, [])),
  (130, (Tryz.f130, [])),
  (131, (Tryz.f131, [])),
  (132, (Tryz.f132, [])),
  (133, (Tryz.f133, [])),
  (134, (Tryz.f134, [])),
  (135, (Tryz.f135, [])),
  (136, (Tryz.f136, [])),
  (137, (Tryz.f137, [])),
  (138, (Tryz.f138, [])),
  (139, (Tryz.f139, [])),
  (140, (Tryz.f140, [])),
  (141, (Tryz.f141, [])),
  (142, (Tryz.f142, [])),
  (143, (Tryz.f143, [])),
  (144, (Tryz.f144, [])),
  (145, (Tryz.f145, [])),
  (146, (Tryz.f146, [])),
  (147, (Tryz.f147, [])),
  (148, (Tryz.f148, [])),
  (149, (Tryz.f149, [(15, [0, 1, 2, 3, 5, 6, 7, 8, 9, 10, 11, 12, 4, 13, 14, 15])])),
  (150, (Tryz.f150, [])),
  (151, (Tryz.f151, [])),
  (152, (Tryz.f152, [])),
  (153, (Tryz.f153, [])),
  (154, (Tryz.f154, [])),
  (155, (Tryz.f155, [])),
  (156, (Tryz.f156, [])),
  (157, (Tryz.f157, [])),
  (158, (Tryz.f158, [])),
  (159, (Tryz.f159, [])),
  (160, (Tryz.f160, [])),
  (161, (Tryz.f161, [])),
  (162, (Tryz.f162, [])),
  (163, (Tryz.f163, [])),
  (164, (Tryz.f164, [])),
  (165, (Tryz.f165, [])),
  (166, (Tryz.f166, [])),
  (167, (Tryz.f167, [])),
  (168, (Tryz.f168, [])),
  (169, (Tryz.f169, [])),
  (170, (Tryz.f170, [])),
  (171, (Tryz.f171, [])),
  (172, (Tryz.f172, [])),
  (173, (Tryz.f173, [])),
  (174, (Tryz.f174, [])),
  (175, (Tryz.f175, [])),
  (176, (Tryz.f176, [])),
  (177, (Tryz.f177, [])),
  (178, (Tryz.f178, [])),
  (179, (Tryz.f179, [])),
  (180, (Tryz.f180, [])),
  (181, (Tryz.f181, [])),
  (182, (Tryz.f182, [])),
  (183, (Tryz.f183, [])),
  (184, (Tryz.f184, [])),
  (185, (Tryz.f185, [])),
  (186, (Tryz.f186, [(0, [0, 1, 3, 2, 4, 5])])),
  (187, (Tryz.f187, [])),
  (188, (Tryz.f188, [])),
  (189, (Tryz.f189, [])),
  (190, (Tryz.f190, [])),
  (191, (Tryz.f191, [])),
  (192, (Tryz.f192, [])),
  (193, (Tryz.f193, [])),
  (194, (Tryz.f194, [])),
  (195, (Tryz.f195, [])),
  (196, (Tryz.f196, [])),
  (197, (Tryz.f197, [])),
  (198, (Tryz.f198, [(3, [0, 1, 2, 3, 4, 5, 6, 7, 8, 9, 12, 10, 11, 13])])),
  (199, (Tryz.f199, [])),
  (200, (Tryz.f200, [])),
  (201, (Tryz.f201, [])),
  (202, (Tryz.f202, [])),
  (203, (Tryz.f203, [])),
  (204, (Tryz.f204, [])),
  (205, (Tryz.f205, [])),
  (206, (Tryz.f206, [])),
  (207, (Tryz.f207, [])),
  (208, (Tryz.f208, [])),
  (209, (Tryz.f209, [])),
  (210, (Tryz.f210, [])),
  (211, (Tryz.f211, [])),
  (212, (Tryz.f212, [])),
  (236, (Tryz.f236, []))]
theorem fns_ok : ∀ e ∈ fns, FnFact Tryz.prog e :=
  fnFact_cons Tryz.func2 fact2 <| fnFact_cons Tryz.func3 fact3 <| fnFact_cons Tryz.func4 fact4 <| fnFact_cons Tryz.func5 fact5 <| fnFact_cons Tryz.func6 fact6 <| fnFact_cons Tryz.func7 fact7 <| fnFact_cons Tryz.func8 fact8 <| fnFact_cons Tryz.func9 fact9 <| fnFact_cons Tryz.func10 fact10 <| fnFact_cons Tryz.func11 fact11 <| fnFact_cons Tryz.func12 fact12 <| fnFact_cons Tryz.func13 fact13 <| fnFact_cons Tryz.func14 fact14 <| fnFact_cons Tryz.func15 fact15 <| fnFact_cons Tryz.func16 fact16 <| fnFact_cons Tryz.func17 fact17 <| fnFact_cons Tryz.func18 fact18 <| fnFact_cons Tryz.func19 fact19 <| fnFact_cons Tryz.func20 fact20 <| fnFact_cons Tryz.func21 fact21 <| fnFact_cons Tryz.func22 fact22 <| fnFact_cons Tryz.func23 fact23 <| fnFact_cons Tryz.func24 fact24 <| fnFact_cons Tryz.func25 fact25 <| fnFact_cons Tryz.func26 fact26 <| fnFact_cons Tryz.func27 fact27 <| fnFact_cons Tryz.func28 fact28 <| fnFact_cons Tryz.func29 fact29 <| fnFact_cons Tryz.func30 fact30 <| fnFact_cons Tryz.func31 fact31 <| fnFact_cons Tryz.func32 fact32 <| fnFact_cons Tryz.func33 fact33 <| fnFact_cons Tryz.func34 fact34 <| fnFact_cons Tryz.func35 fact35 <| fnFact_cons Tryz.func36 fact36 <| fnFact_cons Tryz.func37 fact37 <| fnFact_cons Tryz.func38 fact38 <| fnFact_cons Tryz.func39 fact39 <| fnFact_cons Tryz.func40 fact40 <| fnFact_cons Tryz.func41 fact41 <| fnFact_cons Tryz.func42 fact42 <| fnFact_cons Tryz.func43 fact43 <| fnFact_cons Tryz.func44 fact44 <| fnFact_cons Tryz.func45 fact45 <| fnFact_cons Tryz.func46 fact46 <| fnFact_cons Tryz.func47 fact47 <| fnFact_cons Tryz.func48 fact48 <| fnFact_cons Tryz.func49 fact49 <| fnFact_cons Tryz.func50 fact50 <| fnFact_cons Tryz.func51 fact51 <| fnFact_cons Tryz.func52 fact52 <| fnFact_cons Tryz.func53 fact53 <| fnFact_cons Tryz.func54 fact54 <| fnFact_cons Tryz.func55 fact55 <| fnFact_cons Tryz.func56 fact56 <| fnFact_cons Tryz.func57 fact57 <| fnFact_cons Tryz.func58 fact58 <| fnFact_cons Tryz.func59 fact59 <| fnFact_cons Tryz.func60 fact60 <| fnFact_cons Tryz.func61 fact61 <| fnFact_cons Tryz.func62 fact62 <| fnFact_cons Tryz.func63 fact63 <| fnFact_cons Tryz.func64 fact64 <| fnFact_cons Tryz.func65 fact65 <| fnFact_cons Tryz.func66 fact66 <| fnFact_cons Tryz.func67 fact67 <| fnFact_cons Tryz.func68 fact68 <| fnFact_cons Tryz.func69 fact69 <| fnFact_cons Tryz.func70 fact70 <| fnFact_cons Tryz.func71 fact71 <| fnFact_cons Tryz.func72 fact72 <| fnFact_cons Tryz.func73 fact73 <| fnFact_cons Tryz.func74 fact74 <| fnFact_cons Tryz.func75 fact75 <| fnFact_cons Tryz.func76 fact76 <| fnFact_cons Tryz.func77 fact77 <| fnFact_cons Tryz.func78 fact78 <| fnFact_cons Tryz.func79 fact79 <| fnFact_cons Tryz.func80 fact80 <| fnFact_cons Tryz.func81 fact81 <| fnFact_cons Tryz.func82 fact82 <| fnFact_cons Tryz.func83 fact83 <| fnFact_cons Tryz.func84 fact84 <| fnFact_cons Tryz.func85 fact85 <| fnFact_cons Tryz.func86 fact86 <| fnFact_cons Tryz.func87 fact87 <| fnFact_cons Tryz.func88 fact88 <| fnFact_cons Tryz.func89 fact89 <| fnFact_cons Tryz.func90 fact90 <| fnFact_cons Tryz.func91 fact91 <| fnFact_cons Tryz.func92 fact92 <| fnFact_cons Tryz.func93 fact93 <| fnFact_cons Tryz.func94 fact94 <| fnFact_cons Tryz.func95 fact95 <| fnFact_cons Tryz.func96 fact96 <| fnFact_cons Tryz.func97 fact97 <| fnFact_cons Tryz.func98 fact98 <| fnFact_cons Tryz.func99 fact99 <| fnFact_cons Tryz.func100 fact100 <| fnFact_cons Tryz.func101 fact101 <| fnFact_cons Tryz.func102 fact102 <| fnFact_cons Tryz.func103 fact103 <| fnFact_cons Tryz.func104 fact104 <| fnFact_cons Tryz.func105 fact105 <| fnFact_cons Tryz.func106 fact106 <| fnFact_cons Tryz.func107 fact107 <| fnFact_cons Tryz.func108 fact108 <| fnFact_cons Tryz.func109 fact109 <| fnFact_cons Tryz.func110 fact110 <| fnFact_cons Tryz.func111 fact111 <| fnFact_cons Tryz.func112 fact112 <| fnFact_cons Tryz.func113 fact113 <| fnFact_cons Tryz.func114 fact114 <| fnFact_cons Tryz.func115 fact115 <| fnFact_cons Tryz.func116 fact116 <| fnFact_cons Tryz.func117 fact117 <| fnFact_cons Tryz.func118 fact118 <| fnFact_cons Tryz.func119 fact119 <| fnFact_cons Tryz.func120 fact120 <| fnFact_cons Tryz.func121 fact121 <| fnFact_cons Tryz.func122 fact122 <| fnFact_cons Tryz.func123 fact123 <| fnFact_cons Tryz.func124 fact124 <| fnFact_cons Tryz.func125 fact125 <| fnFact_cons Tryz.func126 fact126 <| fnFact_cons Tryz.func127 fact127 <| fnFact_cons Tryz.func128 fact128 <| fnFact_cons Tryz.func129 fact129 <| fnFact_cons Tryz.func130 fact130 <| fnFact_cons Tryz.func131 fact131 <| fnFact_cons Tryz.func132 fact132 <| fnFact_cons Tryz.func133 fact133 <| fnFact_cons Tryz.func134 fact134 <| fnFact_cons Tryz.func135 fact135 <| fnFact_cons Tryz.func136 fact136 <| fnFact_cons Tryz.func137 fact137 <| fnFact_cons Tryz.func138 fact138 <| fnFact_cons Tryz.func139 fact139 <| fnFact_cons Tryz.func140 fact140 <| fnFact_cons Tryz.func141 fact141 <| fnFact_cons Tryz.func142 fact142 <| fnFact_cons Tryz.func143 fact143 <| fnFact_cons Tryz.func144 fact144 <| fnFact_cons Tryz.func145 fact145 <| fnFact_cons Tryz.func146 fact146 <| fnFact_cons Tryz.func147 fact147 <| fnFact_cons Tryz.func148 fact148 <| fnFact_cons Tryz.func149 fact149 <| fnFact_cons Tryz.func150 fact150 <| fnFact_cons Tryz.func151 fact151 <| fnFact_cons Tryz.func152 fact152 <| fnFact_cons Tryz.func153 fact153 <| fnFact_cons Tryz.func154 fact154 <| fnFact_cons Tryz.func155 fact155 <| fnFact_cons Tryz.func156 fact156 <| fnFact_cons Tryz.func157 fact157 <| fnFact_cons Tryz.func158 fact158 <| fnFact_cons Tryz.func159 fact159 <| fnFact_cons Tryz.func160 fact160 <| fnFact_cons Tryz.func161 fact161 <| fnFact_cons Tryz.func162 fact162 <| fnFact_cons Tryz.func163 fact163 <| fnFact_cons Tryz.func164 fact164 <| fnFact_cons Tryz.func165 fact165 <| fnFact_cons Tryz.func166 fact166 <| fnFact_cons Tryz.func167 fact167 <| fnFact_cons Tryz.func168 fact168 <| fnFact_cons Tryz.func169 fact169 <| fnFact_cons Tryz.func170 fact170 <| fnFact_cons Tryz.func171 fact171 <| fnFact_cons Tryz.func172 fact172 <| fnFact_cons Tryz.func173 fact173 <| fnFact_cons Tryz.func174 fact174 <| fnFact_cons Tryz.func175 fact175 <| fnFact_cons Tryz.func176 fact176 <| fnFact_cons Tryz.func177 fact177 <| fnFact_cons Tryz.func178 fact178 <| fnFact_cons Tryz.func179 fact179 <| fnFact_cons Tryz.func180 fact180 <| fnFact_cons Tryz.func181 fact181 <| fnFact_cons Tryz.func182 fact182 <| fnFact_cons Tryz.func183 fact183 <| fnFact_cons Tryz.func184 fact184 <| fnFact_cons Tryz.func185 fact185 <| fnFact_cons Tryz.func186 fact186 <| fnFact_cons Tryz.func187 fact187 <| fnFact_cons Tryz.func188 fact188 <| fnFact_cons Tryz.func189 fact189 <| fnFact_cons Tryz.func190 fact190 <| fnFact_cons Tryz.func191 fact191 <| fnFact_cons Tryz.func192 fact192 <| fnFact_cons Tryz.func193 fact193 <| fnFact_cons Tryz.func194 fact194 <| fnFact_cons Tryz.func195 fact195 <| fnFact_cons Tryz.func196 fact196 <| fnFact_cons Tryz.func197 fact197 <| fnFact_cons Tryz.func198 fact198 <| fnFact_cons Tryz.func199 fact199 <| fnFact_cons Tryz.func200 fact200 <| fnFact_cons Tryz.func201 fact201 <| fnFact_cons Tryz.func202 fact202 <| fnFact_cons Tryz.func203 fact203 <| fnFact_cons Tryz.func204 fact204 <| fnFact_cons Tryz.func205 fact205 <| fnFact_cons Tryz.func206 fact206 <| fnFact_cons Tryz.func207 fact207 <| fnFact_cons Tryz.func208 fact208 <| fnFact_cons Tryz.func209 fact209 <| fnFact_cons Tryz.func210 fact210 <| fnFact_cons Tryz.func211 fact211 <| fnFact_cons Tryz.func212 fact212 <| fnFact_cons Tryz.func236 fact236 <| fnFact_nil
def G : Nat → Option (List AV) := fun _ => none
noncomputable def W : Nat → Bool := fun f => Nat.beq f 20 || Nat.beq f 24 || Nat.beq f 9
noncomputable def E : Ev := seatE Tryz.prog G 278 fns W
theorem plainC : (seatC Tryz.prog G 278).Plain := fun g cs h => by cases h
theorem E_ok : E.Ok := seatE_ok G 278 W (by kernel_rfl) plainC fns_ok
theorem plain : E.C.Plain := plainC
end Go.Am.Seat
