/-
  What TopBrowse asks of its argument; functions told at their places, found by where memory ends.
-/
import Derived.Test.YtpbnlbbieaokoaaGreatDoorBrV
import Derived.Test.YtpbnlbbieaokoaaGreatDoorVa
import Derived.Test.YtpbnlbbieaokoaaGreatDoorGj
namespace Go.Proofs.YtpbnlbbieaokoaaGreatDoor.Ev
open Go
noncomputable def browE (s : Int) (i : Nat) : Value := .bool (ltI (.ofNat i) (IntKind.i64.wrap (s.tmod 3)))
def ixL : List (Nat × Nat) → Nat → Nat
  | [], _ => 1000000
  | p :: l, n => cond (Nat.beq p.1 n) p.2 (ixL l n)
def brIx0_17 : List (Nat × Nat) := [(20, 0), (37, 1), (56, 2), (87, 3), (104, 4), (123, 5), (160, 6), (178, 7), (198, 8), (235, 9), (253, 10), (273, 11), (310, 12), (328, 13), (348, 14), (385, 15), (403, 16), (423, 17), (460, 18), (478, 19), (498, 20), (535, 21), (553, 22), (573, 23), (610, 24), (628, 25), (648, 26), (685, 27), (703, 28), (723, 29), (760, 30), (778, 31), (798, 32)]
noncomputable def toldW0_17 : Told := toldV.mp 17 qTab (ixL brIx0_17)
theorem toldW0_17_ok : ToldS Tryz.prog toldW0_17 := Told.mp_ok toldV_ok (ixL brIx0_17) qTab_ok
def brIx0_13 : List (Nat × Nat) := [(150, 0)]
noncomputable def toldW0_13 : Told := toldW0_17.mp 13 qTab13 (ixL brIx0_13)
theorem toldW0_13_ok : ToldS Tryz.prog toldW0_13 := Told.mp_ok toldW0_17_ok (ixL brIx0_13) qTab13_ok
def brIx0_18 : List (Nat × Nat) := [(74, 0), (141, 1), (216, 2), (291, 3), (366, 4), (441, 5), (516, 6), (591, 7), (666, 8), (741, 9), (816, 10)]
noncomputable def toldW0_18 : Told := toldW0_13.mp 18 qTab18 (ixL brIx0_18)
theorem toldW0_18_ok : ToldS Tryz.prog toldW0_18 := Told.mp_ok toldW0_13_ok (ixL brIx0_18) qTab18_ok
def brIx0_19 : List (Nat × Nat) := [(75, 0), (142, 1), (217, 2), (292, 3), (367, 4), (442, 5), (517, 6), (592, 7), (667, 8), (742, 9), (817, 10)]
noncomputable def toldW0_19 : Told := toldW0_18.mp 19 qTab19 (ixL brIx0_19)
theorem toldW0_19_ok : ToldS Tryz.prog toldW0_19 := Told.mp_ok toldW0_18_ok (ixL brIx0_19) qTab19_ok
def brIx0_20 : List (Nat × Nat) := [(153, 0), (228, 1), (303, 2), (378, 3), (453, 4), (528, 5), (603, 6), (678, 7), (753, 8)]
noncomputable def toldW0_20 : Told := toldW0_19.mp 20 qTab20 (ixL brIx0_20)
theorem toldW0_20_ok : ToldS Tryz.prog toldW0_20 := Told.mp_ok toldW0_19_ok (ixL brIx0_20) qTab20_ok
def brIx0_21 : List (Nat × Nat) := [(18, 0), (85, 1), (158, 2), (233, 3), (308, 4), (383, 5), (458, 6), (533, 7), (608, 8), (683, 9), (758, 10)]
noncomputable def toldW0_21 : Told := toldW0_20.mp 21 qTab21 (ixL brIx0_21)
theorem toldW0_21_ok : ToldS Tryz.prog toldW0_21 := Told.mp_ok toldW0_20_ok (ixL brIx0_21) qTab21_ok
noncomputable def toldW0 : Told := toldW0_21
theorem toldW0_ok : ToldS Tryz.prog toldW0 := toldW0_21_ok
def brIx1_17 : List (Nat × Nat) := [(20, 0), (37, 1), (58, 33), (75, 34), (107, 35), (125, 36), (147, 37), (165, 38), (183, 39), (201, 40), (219, 41), (237, 42), (255, 43), (273, 44), (291, 45), (309, 46), (327, 47), (345, 48), (363, 49), (381, 50), (399, 51), (417, 52), (434, 53), (472, 54), (491, 55), (512, 56), (550, 57), (569, 58), (590, 59), (628, 60), (647, 61), (668, 62), (706, 63), (725, 64), (746, 65), (784, 66), (803, 67), (824, 68), (862, 69), (881, 70), (902, 71), (940, 72), (959, 73), (980, 74), (1018, 75), (1037, 76), (1058, 77), (1096, 78), (1115, 79), (1136, 80)]
noncomputable def toldW1_17 : Told := toldV.mp 17 qTab (ixL brIx1_17)
theorem toldW1_17_ok : ToldS Tryz.prog toldW1_17 := Told.mp_ok toldV_ok (ixL brIx1_17) qTab_ok
def brIx1_13 : List (Nat × Nat) := [(462, 0)]
noncomputable def toldW1_13 : Told := toldW1_17.mp 13 qTab13 (ixL brIx1_13)
theorem toldW1_13_ok : ToldS Tryz.prog toldW1_13 := Told.mp_ok toldW1_17_ok (ixL brIx1_13) qTab13_ok
def brIx1_18 : List (Nat × Nat) := [(94, 0), (453, 1), (531, 2), (609, 3), (687, 11), (765, 12), (843, 6), (921, 13), (999, 8), (1077, 9), (1155, 10)]
noncomputable def toldW1_18 : Told := toldW1_13.mp 18 qTab18 (ixL brIx1_18)
theorem toldW1_18_ok : ToldS Tryz.prog toldW1_18 := Told.mp_ok toldW1_13_ok (ixL brIx1_18) qTab18_ok
def brIx1_19 : List (Nat × Nat) := [(95, 0), (454, 1), (532, 2), (610, 3), (688, 11), (766, 12), (844, 6), (922, 13), (1000, 8), (1078, 9), (1156, 10)]
noncomputable def toldW1_19 : Told := toldW1_18.mp 19 qTab19 (ixL brIx1_19)
theorem toldW1_19_ok : ToldS Tryz.prog toldW1_19 := Told.mp_ok toldW1_18_ok (ixL brIx1_19) qTab19_ok
def brIx1_20 : List (Nat × Nat) := [(465, 0), (543, 1), (621, 2), (699, 3), (777, 4), (855, 5), (933, 6), (1011, 7), (1089, 8)]
noncomputable def toldW1_20 : Told := toldW1_19.mp 20 qTab20 (ixL brIx1_20)
theorem toldW1_20_ok : ToldS Tryz.prog toldW1_20 := Told.mp_ok toldW1_19_ok (ixL brIx1_20) qTab20_ok
def brIx1_21 : List (Nat × Nat) := [(18, 0), (105, 1), (470, 2), (548, 3), (626, 4), (704, 5), (782, 6), (860, 7), (938, 8), (1016, 9), (1094, 10)]
noncomputable def toldW1_21 : Told := toldW1_20.mp 21 qTab21 (ixL brIx1_21)
theorem toldW1_21_ok : ToldS Tryz.prog toldW1_21 := Told.mp_ok toldW1_20_ok (ixL brIx1_21) qTab21_ok
noncomputable def toldW1 : Told := toldW1_21
theorem toldW1_ok : ToldS Tryz.prog toldW1 := toldW1_21_ok
def brIx2_17 : List (Nat × Nat) := [(20, 0), (37, 1), (58, 33), (77, 81), (95, 82), (113, 83), (131, 84), (149, 85), (167, 86), (185, 87), (203, 88), (221, 89), (239, 90), (257, 91), (275, 92), (293, 93), (311, 94), (329, 95), (347, 96), (364, 97), (396, 98), (414, 99), (436, 100), (454, 101), (472, 102), (490, 103), (508, 104), (526, 105), (544, 106), (562, 107), (580, 108), (598, 109), (616, 110), (634, 111), (652, 112), (670, 113), (688, 114), (706, 115), (725, 116), (743, 117), (761, 118), (779, 119), (797, 120), (815, 121), (833, 122), (851, 123), (869, 124), (887, 125), (905, 126), (923, 127), (941, 128), (959, 129), (977, 130), (995, 131), (1012, 132), (1050, 133), (1069, 134), (1090, 135), (1128, 136), (1147, 137), (1168, 138), (1206, 139), (1225, 140), (1246, 141), (1284, 142), (1303, 143), (1324, 144), (1362, 145), (1381, 146), (1402, 147), (1440, 148), (1459, 149), (1480, 150), (1518, 151), (1537, 152), (1558, 153), (1596, 154), (1615, 155), (1636, 156), (1674, 157), (1693, 158), (1714, 159)]
noncomputable def toldW2_17 : Told := toldV.mp 17 qTab (ixL brIx2_17)
theorem toldW2_17_ok : ToldS Tryz.prog toldW2_17 := Told.mp_ok toldV_ok (ixL brIx2_17) qTab_ok
def brIx2_13 : List (Nat × Nat) := [(1040, 0)]
noncomputable def toldW2_13 : Told := toldW2_17.mp 13 qTab13 (ixL brIx2_13)
theorem toldW2_13_ok : ToldS Tryz.prog toldW2_13 := Told.mp_ok toldW2_17_ok (ixL brIx2_13) qTab13_ok
def brIx2_18 : List (Nat × Nat) := [(383, 0), (1031, 1), (1109, 2), (1187, 3), (1265, 11), (1343, 14), (1421, 6), (1499, 15), (1577, 8), (1655, 9), (1733, 10)]
noncomputable def toldW2_18 : Told := toldW2_13.mp 18 qTab18 (ixL brIx2_18)
theorem toldW2_18_ok : ToldS Tryz.prog toldW2_18 := Told.mp_ok toldW2_13_ok (ixL brIx2_18) qTab18_ok
def brIx2_19 : List (Nat × Nat) := [(384, 0), (1032, 1), (1110, 2), (1188, 3), (1266, 11), (1344, 14), (1422, 6), (1500, 15), (1578, 8), (1656, 9), (1734, 10)]
noncomputable def toldW2_19 : Told := toldW2_18.mp 19 qTab19 (ixL brIx2_19)
theorem toldW2_19_ok : ToldS Tryz.prog toldW2_19 := Told.mp_ok toldW2_18_ok (ixL brIx2_19) qTab19_ok
def brIx2_20 : List (Nat × Nat) := [(1043, 0), (1121, 1), (1199, 2), (1277, 3), (1355, 4), (1433, 5), (1511, 6), (1589, 7), (1667, 8)]
noncomputable def toldW2_20 : Told := toldW2_19.mp 20 qTab20 (ixL brIx2_20)
theorem toldW2_20_ok : ToldS Tryz.prog toldW2_20 := Told.mp_ok toldW2_19_ok (ixL brIx2_20) qTab20_ok
def brIx2_21 : List (Nat × Nat) := [(18, 0), (394, 1), (1048, 2), (1126, 3), (1204, 4), (1282, 5), (1360, 6), (1438, 7), (1516, 8), (1594, 9), (1672, 10)]
noncomputable def toldW2_21 : Told := toldW2_20.mp 21 qTab21 (ixL brIx2_21)
theorem toldW2_21_ok : ToldS Tryz.prog toldW2_21 := Told.mp_ok toldW2_20_ok (ixL brIx2_21) qTab21_ok
noncomputable def toldW2 : Told := toldW2_21
theorem toldW2_ok : ToldS Tryz.prog toldW2 := toldW2_21_ok
end Go.Proofs.YtpbnlbbieaokoaaGreatDoor.Ev
