/- Lemmas, conditions told -/
import Derived.Test.YtcmjijpofkoogaaGreatG21
import Derived.Test.YtcmjijpofkoogaaGreatG20
set_option linter.unusedSimpArgs false
set_option linter.unusedVariables false
namespace Go.Proofs.YtcmjijpofkoogaaGreat
open Go.RowKit Go.Lib
noncomputable def Fg_tab : List (Nat × FnI) := [
  (10, ⟨Tryz.f10, Tryz.f10.body.getD .skip, fun _ => .nil⟩),
  (40, ⟨Tryz.f40, Tryz.f40.body.getD .skip, fun _ => .nil⟩),
  (66, ⟨Tryz.f66, Tryz.f66.body.getD .skip, fun id => match id with | 6 => .th [0, 1, 2, 3, 4, 5] (.fork (.of [6, 7, 8, 9, 10, 11, 12]) (.of [10, 6, 7, 8, 9, 11, 12])) | _ => .nil⟩),
  (97, ⟨Tryz.f97, Tryz.f97.body.getD .skip, fun _ => .nil⟩),
  (205, ⟨Tryz.f205, Tryz.f205.body.getD .skip, fun id => match id with | 1 => .th [0, 2, 4, 5, 6, 7] (.fork (.th [1] (.fork (.of [3, 8, 9, 10, 11]) (.of [8, 3, 9, 10, 11]))) (.fork (.th [3] (.fork (.of [1, 8, 9, 10, 11]) (.of [8, 1, 9, 10, 11]))) (.of [8, 1, 3, 9, 10, 11]))) | _ => .nil⟩),
  (114, ⟨Tryz.f114, Tryz.f114.body.getD .skip, fun _ => .nil⟩),
  (166, ⟨Tryz.f166, Tryz.f166.body.getD .skip, fun _ => .nil⟩),
  (186, ⟨Tryz.f186, Tryz.f186.body.getD .skip, fun _ => .nil⟩),
  (204, ⟨Tryz.f204, Tryz.f204.body.getD .skip, fun _ => .nil⟩),
  (271, ⟨Tryz.f271, Tryz.f271.body.getD .skip, fun _ => .nil⟩),
  (326, ⟨Tryz.f326, Tryz.f326.body.getD .skip, fun _ => .nil⟩),
  (209, ⟨Tryz.f209, Tryz.f209.body.getD .skip, fun _ => .nil⟩),
  (273, ⟨Tryz.f273, Tryz.f273.body.getD .skip, fun _ => .nil⟩),
  (178, ⟨Tryz.f178, Tryz.f178.body.getD .skip, fun _ => .nil⟩),
  (252, ⟨Tryz.f252, Tryz.f252.body.getD .skip, fun _ => .nil⟩),
  (140, ⟨Tryz.f140, Tryz.f140.body.getD .skip, fun _ => .nil⟩),
  (164, ⟨Tryz.f164, Tryz.f164.body.getD .skip, fun _ => .nil⟩),
  (228, ⟨Tryz.f228, Tryz.f228.body.getD .skip, fun _ => .nil⟩),
  (95, ⟨Tryz.f95, Tryz.f95.body.getD .skip, fun _ => .nil⟩),
  (112, ⟨Tryz.f112, Tryz.f112.body.getD .skip, fun _ => .nil⟩),
  (167, ⟨Tryz.f167, Tryz.f167.body.getD .skip, fun _ => .nil⟩),
  (285, ⟨Tryz.f285, Tryz.f285.body.getD .skip, fun _ => .nil⟩),
  (286, ⟨Tryz.f286, Tryz.f286.body.getD .skip, fun _ => .nil⟩),
  (289, ⟨Tryz.f289, Tryz.f289.body.getD .skip, fun _ => .nil⟩),
  (235, ⟨Tryz.f235, Tryz.f235.body.getD .skip, fun _ => .nil⟩),
  (21, ⟨Tryz.f21, Tryz.f21.body.getD .skip, fun _ => .nil⟩),
  (45, ⟨Tryz.f45, Tryz.f45.body.getD .skip, fun _ => .nil⟩),
  (68, ⟨Tryz.f68, Tryz.f68.body.getD .skip, fun _ => .nil⟩),
  (103, ⟨Tryz.f103, Tryz.f103.body.getD .skip, fun _ => .nil⟩),
  (46, ⟨Tryz.f46, Tryz.f46.body.getD .skip, fun _ => .nil⟩),
  (47, ⟨Tryz.f47, Tryz.f47.body.getD .skip, fun _ => .nil⟩),
  (208, ⟨Tryz.f208, Tryz.f208.body.getD .skip, fun _ => .nil⟩),
  (65, ⟨Tryz.f65, Tryz.f65.body.getD .skip, fun _ => .nil⟩),
  (87, ⟨Tryz.f87, Tryz.f87.body.getD .skip, fun _ => .nil⟩),
  (125, ⟨Tryz.f125, Tryz.f125.body.getD .skip, fun _ => .nil⟩),
  (86, ⟨Tryz.f86, Tryz.f86.body.getD .skip, fun _ => .nil⟩),
  (111, ⟨Tryz.f111, Tryz.f111.body.getD .skip, fun _ => .nil⟩),
  (212, ⟨Tryz.f212, Tryz.f212.body.getD .skip, fun _ => .nil⟩),
  (85, ⟨Tryz.f85, Tryz.f85.body.getD .skip, fun _ => .nil⟩),
  (126, ⟨Tryz.f126, Tryz.f126.body.getD .skip, fun _ => .nil⟩),
  (187, ⟨Tryz.f187, Tryz.f187.body.getD .skip, fun _ => .nil⟩),
  (89, ⟨Tryz.f89, Tryz.f89.body.getD .skip, fun id => match id with | 1 => .th [0, 1, 3, 4, 5] (.fork (.of [2, 6, 7, 8]) (.of [6, 2, 7, 8])) | _ => .nil⟩),
  (137, ⟨Tryz.f137, Tryz.f137.body.getD .skip, fun _ => .nil⟩),
  (136, ⟨Tryz.f136, Tryz.f136.body.getD .skip, fun _ => .nil⟩),
  (118, ⟨Tryz.f118, Tryz.f118.body.getD .skip, fun _ => .nil⟩),
  (221, ⟨Tryz.f221, Tryz.f221.body.getD .skip, fun _ => .nil⟩),
  (278, ⟨Tryz.f278, Tryz.f278.body.getD .skip, fun _ => .nil⟩),
  (277, ⟨Tryz.f277, Tryz.f277.body.getD .skip, fun _ => .nil⟩),
  (64, ⟨Tryz.f64, Tryz.f64.body.getD .skip, fun _ => .nil⟩),
  (90, ⟨Tryz.f90, Tryz.f90.body.getD .skip, fun _ => .nil⟩),
  (146, ⟨Tryz.f146, Tryz.f146.body.getD .skip, fun id => match id with | 7 => .th [0, 2, 3] (.fork (.of [1, 4, 5]) (.of [4, 1, 5])) | 9 => .th [0, 1, 2, 3, 5, 6] (.fork (.of [4, 7, 8]) (.of [7, 4, 8])) | _ => .nil⟩),
  (210, ⟨Tryz.f210, Tryz.f210.body.getD .skip, fun _ => .nil⟩),
  (219, ⟨Tryz.f219, Tryz.f219.body.getD .skip, fun _ => .nil⟩),
  (280, ⟨Tryz.f280, Tryz.f280.body.getD .skip, fun _ => .nil⟩),
  (211, ⟨Tryz.f211, Tryz.f211.body.getD .skip, fun id => match id with | 11 => .of [0, 3, 7, 1, 2, 4, 5, 6, 8, 9] | _ => .nil⟩),
  (98, ⟨Tryz.f98, Tryz.f98.body.getD .skip, fun _ => .nil⟩),
  (83, ⟨Tryz.f83, Tryz.f83.body.getD .skip, fun _ => .nil⟩),
  (124, ⟨Tryz.f124, Tryz.f124.body.getD .skip, fun _ => .nil⟩),
  (152, ⟨Tryz.f152, Tryz.f152.body.getD .skip, fun _ => .nil⟩),
  (224, ⟨Tryz.f224, Tryz.f224.body.getD .skip, fun _ => .nil⟩),
  (99, ⟨Tryz.f99, Tryz.f99.body.getD .skip, fun _ => .nil⟩),
  (153, ⟨Tryz.f153, Tryz.f153.body.getD .skip, fun _ => .nil⟩),
  (225, ⟨Tryz.f225, Tryz.f225.body.getD .skip, fun _ => .nil⟩),
  (154, ⟨Tryz.f154, Tryz.f154.body.getD .skip, fun _ => .nil⟩),
  (155, ⟨Tryz.f155, Tryz.f155.body.getD .skip, fun _ => .nil⟩),
  (226, ⟨Tryz.f226, Tryz.f226.body.getD .skip, fun _ => .nil⟩),
  (283, ⟨Tryz.f283, Tryz.f283.body.getD .skip, fun _ => .nil⟩),
  (67, ⟨Tryz.f67, Tryz.f67.body.getD .skip, fun _ => .nil⟩),
  (74, ⟨Tryz.f74, Tryz.f74.body.getD .skip, fun _ => .nil⟩),
  (75, ⟨Tryz.f75, Tryz.f75.body.getD .skip, fun id => match id with | 2 => .of [0, 1, 2, 3, 4, 5, 6, 7, 8, 9, 12, 10, 11] | _ => .nil⟩),
  (110, ⟨Tryz.f110, Tryz.f110.body.getD .skip, fun id => match id with | 4 => .of [0, 2, 3, 4, 5, 6, 1, 7] | _ => .nil⟩),
  (116, ⟨Tryz.f116, Tryz.f116.body.getD .skip, fun _ => .nil⟩),
  (113, ⟨Tryz.f113, Tryz.f113.body.getD .skip, fun id => match id with | 6 => .of [0, 1, 2, 3, 4, 5, 6, 7, 8, 9, 10, 12, 11, 13] | 8 => .th [0, 1, 2, 3, 4, 5, 6, 7, 8, 9, 11, 13] (.fork (.th [10] (.fork (.th [12, 14, 15, 16, 18, 19, 20] (.fork (.of [17, 21]) (.of [21, 17]))) (.th [14, 12, 15, 16, 18, 19, 20] (.fork (.of [17, 21]) (.of [21, 17]))))) (.th [14, 10, 12, 15, 16, 18, 19, 20] (.fork (.of [17, 21]) (.of [21, 17])))) | 11 => .th [0, 1, 2, 3, 4, 5, 6, 7, 8, 9, 11, 13] (.fork (.th [10] (.fork (.th [12, 14, 15, 16, 18, 19, 20] (.fork (.of [17, 21]) (.of [21, 17]))) (.th [14, 12, 15, 16, 18, 19, 20] (.fork (.of [17, 21]) (.of [21, 17]))))) (.th [14, 10, 12, 15, 16, 18, 19, 20] (.fork (.of [17, 21]) (.of [21, 17])))) | 18 => .th [0, 1, 2, 3, 5, 6, 7, 8, 9, 10, 11, 12] (.fork (.th [4, 15] (.fork (.th [13] (.fork (.th [14, 16, 17, 18, 20, 21, 22] (.fork (.of [19, 23]) (.of [23, 19]))) (.th [16, 14, 17, 18, 20, 21, 22] (.fork (.of [19, 23]) (.of [23, 19]))))) (.th [16, 13, 14, 17, 18, 20, 21, 22] (.fork (.of [19, 23]) (.of [23, 19]))))) (.fork (.th [13] (.fork (.th [4, 15] (.fork (.th [14, 16, 17, 18, 20, 21, 22] (.fork (.of [19, 23]) (.of [23, 19]))) (.th [16, 14, 17, 18, 20, 21, 22] (.fork (.of [19, 23]) (.of [23, 19]))))) (.fork (.th [14, 4, 15, 16, 17, 18, 20, 21, 22] (.fork (.of [19, 23]) (.of [23, 19]))) (.th [16] (.fork (.th [4, 15, 14, 17, 18, 20, 21, 22] (.fork (.of [19, 23]) (.of [23, 19]))) (.th [14, 4, 15, 17, 18, 20, 21, 22] (.fork (.of [19, 23]) (.of [23, 19])))))))) (.th [16] (.fork (.th [4, 15, 13, 14, 17, 18, 20, 21, 22] (.fork (.of [19, 23]) (.of [23, 19]))) (.th [13] (.fork (.th [4, 15, 14, 17, 18, 20, 21, 22] (.fork (.of [19, 23]) (.of [23, 19]))) (.th [14, 4, 15, 17, 18, 20, 21, 22] (.fork (.of [19, 23]) (.of [23, 19]))))))))) | _ => .nil⟩),
  (241, ⟨Tryz.f241, Tryz.f241.body.getD .skip, fun _ => .nil⟩),
  (293, ⟨Tryz.f293, Tryz.f293.body.getD .skip, fun _ => .nil⟩),
  (299, ⟨Tryz.f299, Tryz.f299.body.getD .skip, fun _ => .nil⟩),
  (359, ⟨Tryz.f359, Tryz.f359.body.getD .skip, fun _ => .nil⟩),
  (245, ⟨Tryz.f245, Tryz.f245.body.getD .skip, fun _ => .nil⟩),
  (301, ⟨Tryz.f301, Tryz.f301.body.getD .skip, fun _ => .nil⟩),
  (335, ⟨Tryz.f335, Tryz.f335.body.getD .skip, fun _ => .nil⟩),
  (76, ⟨Tryz.f76, Tryz.f76.body.getD .skip, fun _ => .nil⟩),
  (176, ⟨Tryz.f176, Tryz.f176.body.getD .skip, fun _ => .nil⟩),
  (175, ⟨Tryz.f175, Tryz.f175.body.getD .skip, fun id => match id with | 3 => .th [0, 1, 2, 3, 4, 6, 7, 8, 10] (.fork (.th [5] (.fork (.th [9] (.fork (.of [11, 12, 13, 14, 15, 16, 17]) (.of [15, 11, 12, 13, 14, 16, 17]))) (.of [15, 9, 11, 12, 13, 14, 16, 17]))) (.of [15, 5, 9, 11, 12, 13, 14, 16, 17])) | 6 => .th [0, 1, 2, 3, 4, 5, 6, 8, 9, 10, 12] (.fork (.th [7] (.fork (.th [11] (.fork (.of [13, 14, 15, 16, 17, 18, 19]) (.of [17, 13, 14, 15, 16, 18, 19]))) (.of [17, 11, 13, 14, 15, 16, 18, 19]))) (.of [17, 7, 11, 13, 14, 15, 16, 18, 19])) | 7 => .of [0, 1, 2, 3, 4, 6, 7, 8, 9, 10, 11, 5, 12, 13, 14, 15] | _ => .nil⟩),
  (247, ⟨Tryz.f247, Tryz.f247.body.getD .skip, fun id => match id with | 1 => .th [0, 1] (.fork (.of [2, 3, 4, 5]) (.th [3] (.fork (.of [2, 4, 5]) (.of [4, 2, 5])))) | 18 => .th [0, 2, 3, 4, 5, 7, 11] (.fork (.th [1] (.fork (.of [6, 8, 12, 9, 10, 13, 14, 15, 16, 17]) (.fork (.th [8] (.fork (.of [6, 12, 9, 10, 13, 14, 15, 16, 17]) (.of [12, 6, 9, 10, 13, 14, 15, 16, 17]))) (.th [12] (.fork (.of [6, 8, 9, 10, 13, 14, 15, 16, 17]) (.of [8, 6, 9, 10, 13, 14, 15, 16, 17])))))) (.fork (.of [6, 1, 8, 12, 9, 10, 13, 14, 15, 16, 17]) (.fork (.th [8] (.fork (.th [1] (.fork (.of [6, 12, 9, 10, 13, 14, 15, 16, 17]) (.of [12, 6, 9, 10, 13, 14, 15, 16, 17]))) (.fork (.of [6, 1, 12, 9, 10, 13, 14, 15, 16, 17]) (.th [12] (.fork (.of [1, 6, 9, 10, 13, 14, 15, 16, 17]) (.of [6, 1, 9, 10, 13, 14, 15, 16, 17])))))) (.th [12] (.fork (.th [1] (.fork (.of [6, 8, 9, 10, 13, 14, 15, 16, 17]) (.of [8, 6, 9, 10, 13, 14, 15, 16, 17]))) (.fork (.of [6, 1, 8, 9, 10, 13, 14, 15, 16, 17]) (.th [8] (.fork (.of [1, 6, 9, 10, 13, 14, 15, 16, 17]) (.of [6, 1, 9, 10, 13, 14, 15, 16, 17]))))))))) | _ => .nil⟩),
  (302, ⟨Tryz.f302, Tryz.f302.body.getD .skip, fun id => match id with | 23 => .th [0, 1, 3, 4, 5, 6, 7, 8] (.fork (.of [2, 9, 10, 11, 12, 13]) (.of [9, 2, 10, 11, 12, 13])) | _ => .nil⟩),
  (134, ⟨Tryz.f134, Tryz.f134.body.getD .skip, fun id => match id with | 7 => .of [0, 1, 3, 4, 2, 6, 5, 7, 8, 9] | _ => .nil⟩),
  (304, ⟨Tryz.f304, Tryz.f304.body.getD .skip, fun _ => .nil⟩),
  (341, ⟨Tryz.f341, Tryz.f341.body.getD .skip, fun _ => .nil⟩),
  (305, ⟨Tryz.f305, Tryz.f305.body.getD .skip, fun _ => .nil⟩),
  (342, ⟨Tryz.f342, Tryz.f342.body.getD .skip, fun _ => .nil⟩),
  (365, ⟨Tryz.f365, Tryz.f365.body.getD .skip, fun _ => .nil⟩),
  (250, ⟨Tryz.f250, Tryz.f250.body.getD .skip, fun id => match id with | 2 => .th [0, 2, 3, 4, 5] (.fork (.of [1, 6, 7, 8, 9]) (.of [6, 1, 7, 8, 9])) | _ => .nil⟩),
  (249, ⟨Tryz.f249, Tryz.f249.body.getD .skip, fun _ => .nil⟩),
  (307, ⟨Tryz.f307, Tryz.f307.body.getD .skip, fun id => match id with | 14 => .of [0, 1, 2, 3, 4, 5, 6, 9, 7, 8, 10, 11] | _ => .nil⟩),
  (344, ⟨Tryz.f344, Tryz.f344.body.getD .skip, fun _ => .nil⟩),
  (343, ⟨Tryz.f343, Tryz.f343.body.getD .skip, fun _ => .nil⟩),
  (248, ⟨Tryz.f248, Tryz.f248.body.getD .skip, fun _ => .nil⟩),
  (115, ⟨Tryz.f115, Tryz.f115.body.getD .skip, fun _ => .nil⟩),
  (77, ⟨Tryz.f77, Tryz.f77.body.getD .skip, fun _ => .nil⟩),
  (12, ⟨Tryz.f12, Tryz.f12.body.getD .skip, fun _ => .nil⟩),
  (16, ⟨Tryz.f16, Tryz.f16.body.getD .skip, fun _ => .nil⟩),
  (41, ⟨Tryz.f41, Tryz.f41.body.getD .skip, fun _ => .nil⟩),
  (13, ⟨Tryz.f13, Tryz.f13.body.getD .skip, fun _ => .nil⟩),
  (17, ⟨Tryz.f17, Tryz.f17.body.getD .skip, fun _ => .nil⟩),
  (15, ⟨Tryz.f15, Tryz.f15.body.getD .skip, fun _ => .nil⟩),
  (19, ⟨Tryz.f19, Tryz.f19.body.getD .skip, fun _ => .nil⟩),
  (43, ⟨Tryz.f43, Tryz.f43.body.getD .skip, fun _ => .nil⟩)]
theorem Fg_tab_ok : GoodL Fg_tab := by
  unfold Fg_tab
  refine ⟨⟨Nat.le_of_ble_eq_true rfl, Tryz.func10, rfl, by kernel_rfl⟩, ?_⟩
  refine ⟨⟨Nat.le_of_ble_eq_true rfl, Tryz.func40, rfl, by kernel_rfl⟩, ?_⟩
  refine ⟨⟨Nat.le_of_ble_eq_true rfl, Tryz.func66, rfl, by kernel_rfl⟩, ?_⟩
  refine ⟨⟨Nat.le_of_ble_eq_true rfl, Tryz.func97, rfl, by kernel_rfl⟩, ?_⟩
  refine ⟨⟨Nat.le_of_ble_eq_true rfl, Tryz.func205, rfl, by kernel_rfl⟩, ?_⟩
  refine ⟨⟨Nat.le_of_ble_eq_true rfl, Tryz.func114, rfl, by kernel_rfl⟩, ?_⟩
  refine ⟨⟨Nat.le_of_ble_eq_true rfl, Tryz.func166, rfl, by kernel_rfl⟩, ?_⟩
  refine ⟨⟨Nat.le_of_ble_eq_true rfl, Tryz.func186, rfl, by kernel_rfl⟩, ?_⟩
  refine ⟨⟨Nat.le_of_ble_eq_true rfl, Tryz.func204, rfl, by kernel_rfl⟩, ?_⟩
  refine ⟨⟨Nat.le_of_ble_eq_true rfl, Tryz.func271, rfl, by kernel_rfl⟩, ?_⟩
  refine ⟨⟨Nat.le_of_ble_eq_true rfl, Tryz.func326, rfl, by kernel_rfl⟩, ?_⟩
  refine ⟨⟨Nat.le_of_ble_eq_true rfl, Tryz.func209, rfl, by kernel_rfl⟩, ?_⟩
  refine ⟨⟨Nat.le_of_ble_eq_true rfl, Tryz.func273, rfl, by kernel_rfl⟩, ?_⟩
  refine ⟨⟨Nat.le_of_ble_eq_true rfl, Tryz.func178, rfl, by kernel_rfl⟩, ?_⟩
  refine ⟨⟨Nat.le_of_ble_eq_true rfl, Tryz.func252, rfl, by kernel_rfl⟩, ?_⟩
  refine ⟨⟨Nat.le_of_ble_eq_true rfl, Tryz.func140, rfl, by kernel_rfl⟩, ?_⟩
  refine ⟨⟨Nat.le_of_ble_eq_true rfl, Tryz.func164, rfl, by kernel_rfl⟩, ?_⟩
  refine ⟨⟨Nat.le_of_ble_eq_true rfl, Tryz.func228, rfl, by kernel_rfl⟩, ?_⟩
  refine ⟨⟨Nat.le_of_ble_eq_true rfl, Tryz.func95, rfl, by kernel_rfl⟩, ?_⟩
  refine ⟨⟨Nat.le_of_ble_eq_true rfl, Tryz.func112, rfl, by kernel_rfl⟩, ?_⟩
  refine ⟨⟨Nat.le_of_ble_eq_true rfl, Tryz.func167, rfl, by kernel_rfl⟩, ?_⟩
  refine ⟨⟨Nat.le_of_ble_eq_true rfl, Tryz.func285, rfl, by kernel_rfl⟩, ?_⟩
  refine ⟨⟨Nat.le_of_ble_eq_true rfl, Tryz.func286, rfl, by kernel_rfl⟩, ?_⟩
  refine ⟨⟨Nat.le_of_ble_eq_true rfl, Tryz.func289, rfl, by kernel_rfl⟩, ?_⟩
  refine ⟨⟨Nat.le_of_ble_eq_true rfl, Tryz.func235, rfl, by kernel_rfl⟩, ?_⟩
  refine ⟨⟨Nat.le_of_ble_eq_true rfl, Tryz.func21, rfl, by kernel_rfl⟩, ?_⟩
  refine ⟨⟨Nat.le_of_ble_eq_true rfl, Tryz.func45, rfl, by kernel_rfl⟩, ?_⟩
  refine ⟨⟨Nat.le_of_ble_eq_true rfl, Tryz.func68, rfl, by kernel_rfl⟩, ?_⟩
  refine ⟨⟨Nat.le_of_ble_eq_true rfl, Tryz.func103, rfl, by kernel_rfl⟩, ?_⟩
  refine ⟨⟨Nat.le_of_ble_eq_true rfl, Tryz.func46, rfl, by kernel_rfl⟩, ?_⟩
  refine ⟨⟨Nat.le_of_ble_eq_true rfl, Tryz.func47, rfl, by kernel_rfl⟩, ?_⟩
  refine ⟨⟨Nat.le_of_ble_eq_true rfl, Tryz.func208, rfl, by kernel_rfl⟩, ?_⟩
  refine ⟨⟨Nat.le_of_ble_eq_true rfl, Tryz.func65, rfl, by kernel_rfl⟩, ?_⟩
  refine ⟨⟨Nat.le_of_ble_eq_true rfl, Tryz.func87, rfl, by kernel_rfl⟩, ?_⟩
  refine ⟨⟨Nat.le_of_ble_eq_true rfl, Tryz.func125, rfl, by kernel_rfl⟩, ?_⟩
  refine ⟨⟨Nat.le_of_ble_eq_true rfl, Tryz.func86, rfl, by kernel_rfl⟩, ?_⟩
  refine ⟨⟨Nat.le_of_ble_eq_true rfl, Tryz.func111, rfl, by kernel_rfl⟩, ?_⟩
  refine ⟨⟨Nat.le_of_ble_eq_true rfl, Tryz.func212, rfl, by kernel_rfl⟩, ?_⟩
  refine ⟨⟨Nat.le_of_ble_eq_true rfl, Tryz.func85, rfl, by kernel_rfl⟩, ?_⟩
  refine ⟨⟨Nat.le_of_ble_eq_true rfl, Tryz.func126, rfl, by kernel_rfl⟩, ?_⟩
  refine ⟨⟨Nat.le_of_ble_eq_true rfl, Tryz.func187, rfl, by kernel_rfl⟩, ?_⟩
  refine ⟨⟨Nat.le_of_ble_eq_true rfl, Tryz.func89, rfl, by kernel_rfl⟩, ?_⟩
  refine ⟨⟨Nat.le_of_ble_eq_true rfl, Tryz.func137, rfl, by kernel_rfl⟩, ?_⟩
  refine ⟨⟨Nat.le_of_ble_eq_true rfl, Tryz.func136, rfl, by kernel_rfl⟩, ?_⟩
  refine ⟨⟨Nat.le_of_ble_eq_true rfl, Tryz.func118, rfl, by kernel_rfl⟩, ?_⟩
  refine ⟨⟨Nat.le_of_ble_eq_true rfl, Tryz.func221, rfl, by kernel_rfl⟩, ?_⟩
  refine ⟨⟨Nat.le_of_ble_eq_true rfl, Tryz.func278, rfl, by kernel_rfl⟩, ?_⟩
  refine ⟨⟨Nat.le_of_ble_eq_true rfl, Tryz.func277, rfl, by kernel_rfl⟩, ?_⟩
  refine ⟨⟨Nat.le_of_ble_eq_true rfl, Tryz.func64, rfl, by kernel_rfl⟩, ?_⟩
  refine ⟨⟨Nat.le_of_ble_eq_true rfl, Tryz.func90, rfl, by kernel_rfl⟩, ?_⟩
  refine ⟨⟨Nat.le_of_ble_eq_true rfl, Tryz.func146, rfl, by kernel_rfl⟩, ?_⟩
  refine ⟨⟨Nat.le_of_ble_eq_true rfl, Tryz.func210, rfl, by kernel_rfl⟩, ?_⟩
  refine ⟨⟨Nat.le_of_ble_eq_true rfl, Tryz.func219, rfl, by kernel_rfl⟩, ?_⟩
  refine ⟨⟨Nat.le_of_ble_eq_true rfl, Tryz.func280, rfl, by kernel_rfl⟩, ?_⟩
  refine ⟨⟨Nat.le_of_ble_eq_true rfl, Tryz.func211, rfl, by kernel_rfl⟩, ?_⟩
  refine ⟨⟨Nat.le_of_ble_eq_true rfl, Tryz.func98, rfl, by kernel_rfl⟩, ?_⟩
  refine ⟨⟨Nat.le_of_ble_eq_true rfl, Tryz.func83, rfl, by kernel_rfl⟩, ?_⟩
  refine ⟨⟨Nat.le_of_ble_eq_true rfl, Tryz.func124, rfl, by kernel_rfl⟩, ?_⟩
  refine ⟨⟨Nat.le_of_ble_eq_true rfl, Tryz.func152, rfl, by kernel_rfl⟩, ?_⟩
  refine ⟨⟨Nat.le_of_ble_eq_true rfl, Tryz.func224, rfl, by kernel_rfl⟩, ?_⟩
  refine ⟨⟨Nat.le_of_ble_eq_true rfl, Tryz.func99, rfl, by kernel_rfl⟩, ?_⟩
  refine ⟨⟨Nat.le_of_ble_eq_true rfl, Tryz.func153, rfl, by kernel_rfl⟩, ?_⟩
  refine ⟨⟨Nat.le_of_ble_eq_true rfl, Tryz.func225, rfl, by kernel_rfl⟩, ?_⟩
  refine ⟨⟨Nat.le_of_ble_eq_true rfl, Tryz.func154, rfl, by kernel_rfl⟩, ?_⟩
  refine ⟨⟨Nat.le_of_ble_eq_true rfl, Tryz.func155, rfl, by kernel_rfl⟩, ?_⟩
  refine ⟨⟨Nat.le_of_ble_eq_true rfl, Tryz.func226, rfl, by kernel_rfl⟩, ?_⟩
  refine ⟨⟨Nat.le_of_ble_eq_true rfl, Tryz.func283, rfl, by kernel_rfl⟩, ?_⟩
  refine ⟨⟨Nat.le_of_ble_eq_true rfl, Tryz.func67, rfl, by kernel_rfl⟩, ?_⟩
  refine ⟨⟨Nat.le_of_ble_eq_true rfl, Tryz.func74, rfl, by kernel_rfl⟩, ?_⟩
  refine ⟨⟨Nat.le_of_ble_eq_true rfl, Tryz.func75, rfl, by kernel_rfl⟩, ?_⟩
  refine ⟨⟨Nat.le_of_ble_eq_true rfl, Tryz.func110, rfl, by kernel_rfl⟩, ?_⟩
  refine ⟨⟨Nat.le_of_ble_eq_true rfl, Tryz.func116, rfl, by kernel_rfl⟩, ?_⟩
  refine ⟨⟨Nat.le_of_ble_eq_true rfl, Tryz.func113, rfl, by kernel_rfl⟩, ?_⟩
  refine ⟨⟨Nat.le_of_ble_eq_true rfl, Tryz.func241, rfl, by kernel_rfl⟩, ?_⟩
  refine ⟨⟨Nat.le_of_ble_eq_true rfl, Tryz.func293, rfl, by kernel_rfl⟩, ?_⟩
  refine ⟨⟨Nat.le_of_ble_eq_true rfl, Tryz.func299, rfl, by kernel_rfl⟩, ?_⟩
  refine ⟨⟨Nat.le_of_ble_eq_true rfl, Tryz.func359, rfl, by kernel_rfl⟩, ?_⟩
  refine ⟨⟨Nat.le_of_ble_eq_true rfl, Tryz.func245, rfl, by kernel_rfl⟩, ?_⟩
  refine ⟨⟨Nat.le_of_ble_eq_true rfl, Tryz.func301, rfl, by kernel_rfl⟩, ?_⟩
  refine ⟨⟨Nat.le_of_ble_eq_true rfl, Tryz.func335, rfl, by kernel_rfl⟩, ?_⟩
  refine ⟨⟨Nat.le_of_ble_eq_true rfl, Tryz.func76, rfl, by kernel_rfl⟩, ?_⟩
  refine ⟨⟨Nat.le_of_ble_eq_true rfl, Tryz.func176, rfl, by kernel_rfl⟩, ?_⟩
  refine ⟨⟨Nat.le_of_ble_eq_true rfl, Tryz.func175, rfl, by kernel_rfl⟩, ?_⟩
  refine ⟨⟨Nat.le_of_ble_eq_true rfl, Tryz.func247, rfl, by kernel_rfl⟩, ?_⟩
  refine ⟨⟨Nat.le_of_ble_eq_true rfl, Tryz.func302, rfl, by kernel_rfl⟩, ?_⟩
  refine ⟨⟨Nat.le_of_ble_eq_true rfl, Tryz.func134, rfl, by kernel_rfl⟩, ?_⟩
  refine ⟨⟨Nat.le_of_ble_eq_true rfl, Tryz.func304, rfl, by kernel_rfl⟩, ?_⟩
  refine ⟨⟨Nat.le_of_ble_eq_true rfl, Tryz.func341, rfl, by kernel_rfl⟩, ?_⟩
  refine ⟨⟨Nat.le_of_ble_eq_true rfl, Tryz.func305, rfl, by kernel_rfl⟩, ?_⟩
  refine ⟨⟨Nat.le_of_ble_eq_true rfl, Tryz.func342, rfl, by kernel_rfl⟩, ?_⟩
  refine ⟨⟨Nat.le_of_ble_eq_true rfl, Tryz.func365, rfl, by kernel_rfl⟩, ?_⟩
  refine ⟨⟨Nat.le_of_ble_eq_true rfl, Tryz.func250, rfl, by kernel_rfl⟩, ?_⟩
  refine ⟨⟨Nat.le_of_ble_eq_true rfl, Tryz.func249, rfl, by kernel_rfl⟩, ?_⟩
  refine ⟨⟨Nat.le_of_ble_eq_true rfl, Tryz.func307, rfl, by kernel_rfl⟩, ?_⟩
  refine ⟨⟨Nat.le_of_ble_eq_true rfl, Tryz.func344, rfl, by kernel_rfl⟩, ?_⟩
  refine ⟨⟨Nat.le_of_ble_eq_true rfl, Tryz.func343, rfl, by kernel_rfl⟩, ?_⟩
  refine ⟨⟨Nat.le_of_ble_eq_true rfl, Tryz.func248, rfl, by kernel_rfl⟩, ?_⟩
  refine ⟨⟨Nat.le_of_ble_eq_true rfl, Tryz.func115, rfl, by kernel_rfl⟩, ?_⟩
  refine ⟨⟨Nat.le_of_ble_eq_true rfl, Tryz.func77, rfl, by kernel_rfl⟩, ?_⟩
  refine ⟨⟨Nat.le_of_ble_eq_true rfl, Tryz.func12, rfl, by kernel_rfl⟩, ?_⟩
  refine ⟨⟨Nat.le_of_ble_eq_true rfl, Tryz.func16, rfl, by kernel_rfl⟩, ?_⟩
  refine ⟨⟨Nat.le_of_ble_eq_true rfl, Tryz.func41, rfl, by kernel_rfl⟩, ?_⟩
  refine ⟨⟨Nat.le_of_ble_eq_true rfl, Tryz.func13, rfl, by kernel_rfl⟩, ?_⟩
  refine ⟨⟨Nat.le_of_ble_eq_true rfl, Tryz.func17, rfl, by kernel_rfl⟩, ?_⟩
  refine ⟨⟨Nat.le_of_ble_eq_true rfl, Tryz.func15, rfl, by kernel_rfl⟩, ?_⟩
  refine ⟨⟨Nat.le_of_ble_eq_true rfl, Tryz.func19, rfl, by kernel_rfl⟩, ?_⟩
  refine ⟨⟨Nat.le_of_ble_eq_true rfl, Tryz.func43, rfl, by kernel_rfl⟩, ?_⟩
  exact trivial
def fg0 : AV := .agg [.val (.string ⟨#[]⟩), .val (.string ⟨#[]⟩)]
def fg1 : AV := .slc 1 [.val (.int .u8 60), .val (.int .u8 97), .val (.int .u8 62)]
def fg2 : AV := .slc 1 [.val (.int .i64 0), .val (.int .i64 1), .val (.int .i64 2)]
def fg3 : AV := .slc 1 [.val (.int .u8 60), .val (.int .u8 97), .val (.int .u8 47), .val (.int .u8 62)]
def fg4 : AV := .slc 1 [.val (.int .u8 60), .val (.int .u8 47), .val (.int .u8 97), .val (.int .u8 62)]
def fg5 : AV := .slc 1 [.val (.int .i32 60), .val (.int .i32 97), .val (.int .i32 47), .val (.int .i32 62)]
def fg6 : AV := .slc 1 [.val (.int .i64 0), .val (.int .i64 1), .val (.int .i64 2), .val (.int .i64 3), .val (.int .i64 4)]
def fg7 : AV := .agg [.val (.int .i64 1), .val (.int .i64 1), .val (.int .i64 1), .val (.bool true), .slc 1 [.val (.int .u8 98)], .slc 1 []]
def fg8 : AV := .agg [.val (.int .i64 20), .val (.int .i64 4), .val (.int .i64 2), .val (.bool false), .slc 1 [], .slc 1 [.val (.int .i64 0)]]
def fg9 : AV := .agg [.val (.int .i64 20), .val (.int .i64 8), .val (.int .i64 5), .val (.bool false), .slc 1 [], .slc 1 [.val (.int .i64 3)]]
def fg10 : AV := .agg [.val (.int .i64 8), .val (.int .i64 3), .val (.int .i64 1), .val (.bool true), fg1, .slc 1 []]
def fg11 : AV := .agg [.val (.int .i64 21), .val (.int .i64 8), .val (.int .i64 4), .val (.bool false), .slc 1 [], fg2]
def fg12 : AV := .slc 1 [.val (.int .u8 60), .val (.int .u8 97), .val (.int .u8 62), .val (.int .u8 98), .val (.int .u8 60), .val (.int .u8 47), .val (.int .u8 97), .val (.int .u8 62)]
def fg13 : AV := .agg [.val (.int .i64 3), .val (.string ⟨#[]⟩), .val (.string ⟨#[]⟩), .val (.string ⟨#[]⟩), .slc 2 [], .slc 5 [], .val (.string ⟨#[98]⟩), .val (.string ⟨#[]⟩), .slc 9 []]
def fg14 : AV := .slc 1 [.val (.int .i32 60), .val (.int .i32 97), .val (.int .i32 62), .val (.int .i32 98), .val (.int .i32 60), .val (.int .i32 47), .val (.int .i32 97), .val (.int .i32 62)]
def fg15 : AV := .agg [.val (.int .i64 9), .val (.int .i64 4), .val (.int .i64 1), .val (.bool true), fg3, .slc 1 []]
def fg16 : AV := .agg [.val (.int .i64 10), .val (.int .i64 4), .val (.int .i64 1), .val (.bool true), fg4, .slc 1 []]
def fg17 : AV := .slc 1 [.val (.int .i64 0), .val (.int .i64 1), .val (.int .i64 2), .val (.int .i64 3), .val (.int .i64 4), .val (.int .i64 5), .val (.int .i64 6), .val (.int .i64 7), .val (.int .i64 8)]
def fg18 : AV := .agg [.val (.int .i64 2), .val (.string ⟨#[]⟩), .val (.string ⟨#[97]⟩), .val (.string ⟨#[]⟩), .val (.slice none 0 0), .val (.slice none 0 0), .val (.string ⟨#[]⟩), .val (.string ⟨#[]⟩), .val (.slice none 0 0)]
def fg19 : AV := .agg [.val (.string ⟨#[120, 109, 108]⟩), .val (.string ⟨#[104, 116, 116, 112, 58, 47, 47, 119, 119, 119, 46, 119, 51, 46, 111, 114, 103, 47, 88, 77, 76, 47, 49, 57, 57, 56, 47, 110, 97, 109, 101, 115, 112, 97, 99, 101]⟩)]
def fg20 : AV := .agg [.val (.int .i64 2), .val (.string ⟨#[]⟩), .val (.string ⟨#[97]⟩), .val (.string ⟨#[]⟩), .val (.slice none 0 0), .val (.slice none 0 0), .val (.string ⟨#[]⟩), .val (.string ⟨#[]⟩), .slc 9 [fg13]]
def fg21 : AV := .agg [.val (.int .i64 0), .val (.int .i64 0), fg5, fg6, .ref [.slc 6 [fg15, fg8]], .val (.int .i64 1), .slc 3 [], .val (.int .i64 0), .val (.bool false)]
def fg22 : AV := .slc 6 [fg10, fg7, fg16, fg11, fg9]
def fg23 : AV := .agg [.val (.int .i64 0), .val (.int .i64 0), fg14, fg17, .ref [fg22], .val (.int .i64 4), .slc 3 [], .val (.int .i64 0), .val (.bool false)]
def Fg_b1 : List UInt8 := [60, 97, 47, 62]
def Fg_start1_a : List AV := [.box 0 0, fg21, fg5, .val (.string ⟨#[97]⟩), .box 2 0]
def Fg_start1_o : List Ob := [.box [fg3, .val (.int .i64 0), .val (.int .i64 0), fg5, fg6, .ref [.slc 6 [fg15, fg8]], .val (.int .i64 1), .slc 3 [], .val (.int .i64 0), .val (.pointer none), .box 1 0, .val (.bool false), .val (.bool false), .val (.bool true), .val (.int .i64 1), .val (.string ⟨#[]⟩), .val (.string ⟨#[]⟩), .val (.string ⟨#[]⟩), .val (.slice none 0 0), .val (.slice none 0 0), .val (.string ⟨#[]⟩), .val (.string ⟨#[]⟩), .val (.slice none 0 0)], .box [.val (.pointer none), .val (.slice none 0 0), .val (.int .i64 0), .val (.int .i64 0)], .box [.val (.pointer none), .row 3 0], .row 370 2 false 0 [fg0, fg19]]
def Fg_start1_r : AV := .tup [fg18, .box 4 0]
def Fg_start1_p : List Ob := [.box [fg3, .val (.int .i64 0), .val (.int .i64 0), fg5, fg6, .ref [.slc 6 [fg15, fg8]], .val (.int .i64 1), .slc 3 [], .val (.int .i64 0), .val (.pointer none), .box 1 0, .val (.bool false), .val (.bool false), .val (.bool true), .val (.int .i64 1), .val (.string ⟨#[]⟩), .val (.string ⟨#[]⟩), .val (.string ⟨#[]⟩), .val (.slice none 0 0), .val (.slice none 0 0), .val (.string ⟨#[]⟩), .val (.string ⟨#[]⟩), .val (.slice none 0 0)], .box [.val (.pointer none), .val (.slice none 0 0), .val (.int .i64 0), .val (.int .i64 0)], .box [.val (.pointer none), .row 3 0], .row 370 2 false 0 [fg0, fg19], .box [.box 2 0, .val (.slice none 0 0)]]
theorem Fg_start1 : BCall Tryz.prog 247 Fg_start1_a Fg_start1_o Fg_start1_r Fg_start1_p := (run_ok (lf := 100) (tab_ok Fg_tab_ok) (base5_ok (L := []) trivial) (ask := ask0) ask0_ok 60 _ _ _ _ _ (by kernel_rfl)).2
def Fg_elem1_a : List AV := [.box 0 0, fg21, .val (.int .i64 0), .box 2 0]
def Fg_elem1_o : List Ob := [.box [fg3, .val (.int .i64 0), .val (.int .i64 0), fg5, fg6, .ref [.slc 6 [fg15, fg8]], .val (.int .i64 1), .slc 3 [], .val (.int .i64 0), .val (.pointer none), .box 1 0, .val (.bool false), .val (.bool false), .val (.bool true), .val (.int .i64 1), .val (.string ⟨#[]⟩), .val (.string ⟨#[]⟩), .val (.string ⟨#[]⟩), .val (.slice none 0 0), .val (.slice none 0 0), .val (.string ⟨#[]⟩), .val (.string ⟨#[]⟩), .val (.slice none 0 0)], .box [.val (.pointer none), .val (.slice none 0 0), .val (.int .i64 0), .val (.int .i64 0)], .box [.val (.pointer none), .row 3 0], .row 370 2 false 0 [fg0, fg19]]
def Fg_elem1_r : AV := fg18
def Fg_elem1_p : List Ob := [.box [fg3, .val (.int .i64 0), .val (.int .i64 0), fg5, fg6, .ref [.slc 6 [fg15, fg8]], .val (.int .i64 1), .slc 3 [], .val (.int .i64 0), .val (.pointer none), .box 1 0, .val (.bool false), .val (.bool false), .val (.bool true), .val (.int .i64 1), .val (.string ⟨#[]⟩), .val (.string ⟨#[]⟩), .val (.string ⟨#[]⟩), .val (.slice none 0 0), .val (.slice none 0 0), .val (.string ⟨#[]⟩), .val (.string ⟨#[]⟩), .val (.slice none 0 0)], .box [.val (.pointer none), .val (.slice none 0 0), .val (.int .i64 0), .val (.int .i64 0)], .box [.val (.pointer none), .row 3 0], .row 370 2 false 0 [fg0, fg19]]
def Fg_elem1_bl : List BE := [⟨247, Fg_start1_a, Fg_start1_o, Fg_start1_r, Fg_start1_p⟩]
theorem Fg_elem1_bok : GoodB Fg_elem1_bl := by
  unfold Fg_elem1_bl
  exact ⟨⟨rfl, Fg_start1⟩, trivial⟩
theorem Fg_elem1 : BCall Tryz.prog 175 Fg_elem1_a Fg_elem1_o Fg_elem1_r Fg_elem1_p := (run_ok (lf := 100) (tab_ok Fg_tab_ok) (base5_ok Fg_elem1_bok) (ask := ask0) ask0_ok 60 _ _ _ _ _ (by kernel_rfl)).2
def Fg_all1_a : List AV := [.box 0 0]
def Fg_all1_o : List Ob := [.box [fg3, .val (.int .i64 0), .val (.int .i64 0), fg5, fg6, .ref [.slc 6 [fg15, fg8]], .val (.int .i64 1), .slc 3 [], .val (.int .i64 0), .val (.pointer none), .box 1 0, .val (.bool false), .val (.bool false), .val (.bool false), .val (.int .i64 1), .val (.string ⟨#[]⟩), .val (.string ⟨#[]⟩), .val (.string ⟨#[]⟩), .val (.slice none 0 0), .val (.slice none 0 0), .val (.string ⟨#[]⟩), .val (.string ⟨#[]⟩), .val (.slice none 0 0)], .box [.val (.pointer none), .val (.slice none 0 0), .val (.int .i64 0), .val (.int .i64 0)]]
def Fg_all1_r : AV := .tup []
def Fg_all1_p : List Ob := [.box [fg3, .val (.int .i64 0), .val (.int .i64 0), fg5, fg6, .ref [.slc 6 [fg15, fg8]], .val (.int .i64 1), .slc 3 [], .val (.int .i64 0), .val (.pointer none), .box 1 0, .val (.bool false), .val (.bool false), .val (.bool true), .val (.int .i64 1), .val (.string ⟨#[]⟩), .val (.string ⟨#[]⟩), .val (.string ⟨#[]⟩), .val (.slice none 0 0), .val (.slice none 0 0), .val (.string ⟨#[]⟩), .val (.string ⟨#[]⟩), .row 2 1], .box [.val (.pointer none), .val (.slice none 0 0), .val (.int .i64 0), .val (.int .i64 0)], .row 113 9 false 1 [fg18]]
def Fg_all1_bl : List BE := [⟨247, Fg_start1_a, Fg_start1_o, Fg_start1_r, Fg_start1_p⟩, ⟨175, Fg_elem1_a, Fg_elem1_o, Fg_elem1_r, Fg_elem1_p⟩]
theorem Fg_all1_bok : GoodB Fg_all1_bl := by
  unfold Fg_all1_bl
  exact ⟨⟨rfl, Fg_start1⟩, ⟨rfl, Fg_elem1⟩, trivial⟩
theorem Fg_all1 : BCall Tryz.prog 75 Fg_all1_a Fg_all1_o Fg_all1_r Fg_all1_p := (run_ok (lf := 100) (tab_ok Fg_tab_ok) (base5_ok Fg_all1_bok) (ask := ask0) ask0_ok 60 _ _ _ _ _ (by kernel_rfl)).2
def Fg_b2 : List UInt8 := [60, 97, 62, 98, 60, 47, 97, 62]
def Fg_start2_a : List AV := [.box 0 0, fg23, .slc 1 [.val (.int .i32 60), .val (.int .i32 97), .val (.int .i32 62)], .val (.string ⟨#[97]⟩), .box 2 0]
def Fg_start2_o : List Ob := [.box [fg12, .val (.int .i64 0), .val (.int .i64 0), fg14, fg17, .ref [fg22], .val (.int .i64 4), .slc 3 [], .val (.int .i64 0), .val (.pointer none), .box 1 0, .val (.bool false), .val (.bool false), .val (.bool true), .val (.int .i64 1), .val (.string ⟨#[]⟩), .val (.string ⟨#[]⟩), .val (.string ⟨#[]⟩), .val (.slice none 0 0), .val (.slice none 0 0), .val (.string ⟨#[]⟩), .val (.string ⟨#[]⟩), .val (.slice none 0 0)], .box [.val (.pointer none), .val (.slice none 0 0), .val (.int .i64 0), .val (.int .i64 0)], .box [.val (.pointer none), .row 3 0], .row 370 2 false 0 [fg0, fg19]]
def Fg_start2_r : AV := .tup [fg18, .box 4 0]
def Fg_start2_p : List Ob := [.box [fg12, .val (.int .i64 0), .val (.int .i64 0), fg14, fg17, .ref [fg22], .val (.int .i64 4), .slc 3 [], .val (.int .i64 0), .val (.pointer none), .box 1 0, .val (.bool false), .val (.bool false), .val (.bool true), .val (.int .i64 1), .val (.string ⟨#[]⟩), .val (.string ⟨#[]⟩), .val (.string ⟨#[]⟩), .val (.slice none 0 0), .val (.slice none 0 0), .val (.string ⟨#[]⟩), .val (.string ⟨#[]⟩), .val (.slice none 0 0)], .box [.val (.pointer none), .val (.slice none 0 0), .val (.int .i64 0), .val (.int .i64 0)], .box [.val (.pointer none), .row 3 0], .row 370 2 false 0 [fg0, fg19], .box [.box 2 0, .val (.slice none 0 0)]]
theorem Fg_start2 : BCall Tryz.prog 247 Fg_start2_a Fg_start2_o Fg_start2_r Fg_start2_p := (run_ok (lf := 100) (tab_ok Fg_tab_ok) (base5_ok (L := []) trivial) (ask := ask0) ask0_ok 60 _ _ _ _ _ (by kernel_rfl)).2
def Fg_content2_a : List AV := [.box 0 0, .agg [.val (.int .i64 0), .val (.int .i64 0), fg14, fg17, .ref [fg22], .val (.int .i64 4), .slc 3 [], .val (.int .i64 3), .val (.bool false)], .slc 1 [.val (.int .i64 1)], .box 2 0]
def Fg_content2_o : List Ob := [.box [fg12, .val (.int .i64 0), .val (.int .i64 0), fg14, fg17, .ref [fg22], .val (.int .i64 4), .slc 3 [], .val (.int .i64 0), .val (.pointer none), .box 1 0, .val (.bool false), .val (.bool false), .val (.bool true), .val (.int .i64 1), .val (.string ⟨#[]⟩), .val (.string ⟨#[]⟩), .val (.string ⟨#[]⟩), .val (.slice none 0 0), .val (.slice none 0 0), .val (.string ⟨#[]⟩), .val (.string ⟨#[]⟩), .val (.slice none 0 0)], .box [.val (.pointer none), .val (.slice none 0 0), .val (.int .i64 0), .val (.int .i64 0)], .box [.box 3 0, .val (.slice none 0 0)], .box [.val (.pointer none), .row 4 0], .row 370 2 false 0 [fg0, fg19]]
def Fg_content2_r : AV := .slc 9 [.agg [.val (.int .i64 3), .val (.string ⟨#[]⟩), .val (.string ⟨#[]⟩), .val (.string ⟨#[]⟩), .val (.slice none 0 0), .val (.slice none 0 0), .val (.string ⟨#[98]⟩), .val (.string ⟨#[]⟩), .val (.slice none 0 0)]]
def Fg_content2_p : List Ob := [.box [fg12, .val (.int .i64 0), .val (.int .i64 0), fg14, fg17, .ref [fg22], .val (.int .i64 4), .slc 3 [], .val (.int .i64 0), .val (.pointer none), .box 1 0, .val (.bool false), .val (.bool false), .val (.bool true), .val (.int .i64 1), .val (.string ⟨#[]⟩), .val (.string ⟨#[]⟩), .val (.string ⟨#[]⟩), .val (.slice none 0 0), .val (.slice none 0 0), .val (.string ⟨#[]⟩), .val (.string ⟨#[]⟩), .val (.slice none 0 0)], .box [.val (.pointer none), .val (.slice none 0 0), .val (.int .i64 0), .val (.int .i64 0)], .box [.box 3 0, .val (.slice none 0 0)], .box [.val (.pointer none), .row 4 0], .row 370 2 false 0 [fg0, fg19]]
def Fg_content2_bl : List BE := [⟨247, Fg_start2_a, Fg_start2_o, Fg_start2_r, Fg_start2_p⟩]
theorem Fg_content2_bok : GoodB Fg_content2_bl := by
  unfold Fg_content2_bl
  exact ⟨⟨rfl, Fg_start2⟩, trivial⟩
theorem Fg_content2 : BCall Tryz.prog 249 Fg_content2_a Fg_content2_o Fg_content2_r Fg_content2_p := (run_ok (lf := 100) (tab_ok Fg_tab_ok) (base5_ok Fg_content2_bok) (ask := ask0) ask0_ok 60 _ _ _ _ _ (by kernel_rfl)).2
def Fg_elem2_a : List AV := [.box 0 0, fg23, .val (.int .i64 3), .box 2 0]
def Fg_elem2_o : List Ob := [.box [fg12, .val (.int .i64 0), .val (.int .i64 0), fg14, fg17, .ref [fg22], .val (.int .i64 4), .slc 3 [], .val (.int .i64 0), .val (.pointer none), .box 1 0, .val (.bool false), .val (.bool false), .val (.bool true), .val (.int .i64 1), .val (.string ⟨#[]⟩), .val (.string ⟨#[]⟩), .val (.string ⟨#[]⟩), .val (.slice none 0 0), .val (.slice none 0 0), .val (.string ⟨#[]⟩), .val (.string ⟨#[]⟩), .val (.slice none 0 0)], .box [.val (.pointer none), .val (.slice none 0 0), .val (.int .i64 0), .val (.int .i64 0)], .box [.val (.pointer none), .row 3 0], .row 370 2 false 0 [fg0, fg19]]
def Fg_elem2_r : AV := fg20
def Fg_elem2_p : List Ob := [.box [fg12, .val (.int .i64 0), .val (.int .i64 0), fg14, fg17, .ref [fg22], .val (.int .i64 4), .slc 3 [], .val (.int .i64 0), .val (.pointer none), .box 1 0, .val (.bool false), .val (.bool false), .val (.bool true), .val (.int .i64 1), .val (.string ⟨#[]⟩), .val (.string ⟨#[]⟩), .val (.string ⟨#[]⟩), .val (.slice none 0 0), .val (.slice none 0 0), .val (.string ⟨#[]⟩), .val (.string ⟨#[]⟩), .val (.slice none 0 0)], .box [.val (.pointer none), .val (.slice none 0 0), .val (.int .i64 0), .val (.int .i64 0)], .box [.val (.pointer none), .row 3 0], .row 370 2 false 0 [fg0, fg19]]
def Fg_elem2_bl : List BE := [⟨247, Fg_start2_a, Fg_start2_o, Fg_start2_r, Fg_start2_p⟩, ⟨249, Fg_content2_a, Fg_content2_o, Fg_content2_r, Fg_content2_p⟩]
theorem Fg_elem2_bok : GoodB Fg_elem2_bl := by
  unfold Fg_elem2_bl
  exact ⟨⟨rfl, Fg_start2⟩, ⟨rfl, Fg_content2⟩, trivial⟩
theorem Fg_elem2 : BCall Tryz.prog 175 Fg_elem2_a Fg_elem2_o Fg_elem2_r Fg_elem2_p := (run_ok (lf := 100) (tab_ok Fg_tab_ok) (base5_ok Fg_elem2_bok) (ask := ask0) ask0_ok 60 _ _ _ _ _ (by kernel_rfl)).2
def Fg_all2_a : List AV := [.box 0 0]
def Fg_all2_o : List Ob := [.box [fg12, .val (.int .i64 0), .val (.int .i64 0), fg14, fg17, .ref [fg22], .val (.int .i64 4), .slc 3 [], .val (.int .i64 0), .val (.pointer none), .box 1 0, .val (.bool false), .val (.bool false), .val (.bool false), .val (.int .i64 1), .val (.string ⟨#[]⟩), .val (.string ⟨#[]⟩), .val (.string ⟨#[]⟩), .val (.slice none 0 0), .val (.slice none 0 0), .val (.string ⟨#[]⟩), .val (.string ⟨#[]⟩), .val (.slice none 0 0)], .box [.val (.pointer none), .val (.slice none 0 0), .val (.int .i64 0), .val (.int .i64 0)]]
def Fg_all2_r : AV := .tup []
def Fg_all2_p : List Ob := [.box [fg12, .val (.int .i64 0), .val (.int .i64 0), fg14, fg17, .ref [fg22], .val (.int .i64 4), .slc 3 [], .val (.int .i64 0), .val (.pointer none), .box 1 0, .val (.bool false), .val (.bool false), .val (.bool true), .val (.int .i64 1), .val (.string ⟨#[]⟩), .val (.string ⟨#[]⟩), .val (.string ⟨#[]⟩), .val (.slice none 0 0), .val (.slice none 0 0), .val (.string ⟨#[]⟩), .val (.string ⟨#[]⟩), .row 2 1], .box [.val (.pointer none), .val (.slice none 0 0), .val (.int .i64 0), .val (.int .i64 0)], .row 113 9 false 1 [fg20]]
def Fg_all2_bl : List BE := [⟨247, Fg_start2_a, Fg_start2_o, Fg_start2_r, Fg_start2_p⟩, ⟨249, Fg_content2_a, Fg_content2_o, Fg_content2_r, Fg_content2_p⟩, ⟨175, Fg_elem2_a, Fg_elem2_o, Fg_elem2_r, Fg_elem2_p⟩]
theorem Fg_all2_bok : GoodB Fg_all2_bl := by
  unfold Fg_all2_bl
  exact ⟨⟨rfl, Fg_start2⟩, ⟨rfl, Fg_content2⟩, ⟨rfl, Fg_elem2⟩, trivial⟩
theorem Fg_all2 : BCall Tryz.prog 75 Fg_all2_a Fg_all2_o Fg_all2_r Fg_all2_p := (run_ok (lf := 100) (tab_ok Fg_tab_ok) (base5_ok Fg_all2_bok) (ask := ask0) ask0_ok 60 _ _ _ _ _ (by kernel_rfl)).2
end Go.Proofs.YtcmjijpofkoogaaGreat
