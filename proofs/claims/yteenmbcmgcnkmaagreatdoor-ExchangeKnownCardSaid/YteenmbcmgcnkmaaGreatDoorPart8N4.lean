/- Calls that the law makes, and what they answer: each one a run of the evaluator; then their table. -/
import Derived.Test.YteenmbcmgcnkmaaGreatDoorPart8N3
set_option linter.unusedVariables false
set_option linter.unusedSimpArgs false
set_option maxRecDepth 100000
namespace Go.Proofs.YteenmbcmgcnkmaaGreatDoor
open Go Go.Ab
def T1_95 : Memo := [e1_95_0, e1_95_1, e1_95_2, e1_95_3, e1_95_4, e1_95_5, e1_95_6, e1_95_7, e1_95_8, e1_95_9, e1_95_10, e1_95_11, e1_95_12, e1_95_13, e1_95_14, e1_95_15, e1_95_16, e1_95_17, e1_95_18, e1_95_19, e1_95_20, e1_95_21, e1_95_22, e1_95_23, e1_95_24, e1_95_25, e1_95_26, e1_95_27, e1_95_28, e1_95_29, e1_95_30, e1_95_31, e1_95_32, e1_95_33, e1_95_34, e1_95_35, e1_95_36, e1_95_37, e1_95_38, e1_95_39, e1_95_40, e1_95_41, e1_95_42, e1_95_43, e1_95_44, e1_95_45, e1_95_46, e1_95_47, e1_95_48, e1_95_49, e1_95_50, e1_95_51, e1_95_52, e1_95_53, e1_95_54, e1_95_55, e1_95_56, e1_95_57, e1_95_58, e1_95_59, e1_95_60, e1_95_61, e1_95_62, e1_95_63, e1_95_64, e1_95_65, e1_95_66, e1_95_67, e1_95_68, e1_95_69, e1_95_70, e1_95_71, e1_95_72, e1_95_73, e1_95_74, e1_95_75, e1_95_76, e1_95_77, e1_95_78, e1_95_79, e1_95_80, e1_95_81, e1_95_82, e1_95_83, e1_95_84, e1_95_85, e1_95_86, e1_95_87, e1_95_88, e1_95_89, e1_95_90, e1_95_91, e1_95_92, e1_95_93, e1_95_94, e1_95_95, e1_95_96, e1_95_97, e1_95_98, e1_95_99, e1_95_100, e1_95_101, e1_95_102, e1_95_103, e1_95_104, e1_95_105, e1_95_106, e1_95_107, e1_95_108, e1_95_109, e1_95_110, e1_95_111, e1_95_112, e1_95_113, e1_95_114, e1_95_115, e1_95_116, e1_95_117, e1_95_118, e1_95_119, e1_95_120, e1_95_121, e1_95_122, e1_95_123, e1_95_124, e1_95_125, e1_95_126, e1_95_127, e1_95_128, e1_95_129, e1_95_130, e1_95_131, e1_95_132, e1_95_133, e1_95_134, e1_95_135, e1_95_136, e1_95_137]
theorem T1_95_ok (m : Int) : MemoOk (E0 m) 95 T1_95 := ⟨e1_95_0_ok m, e1_95_1_ok m, e1_95_2_ok m, e1_95_3_ok m, e1_95_4_ok m, e1_95_5_ok m, e1_95_6_ok m, e1_95_7_ok m, e1_95_8_ok m, e1_95_9_ok m, e1_95_10_ok m, e1_95_11_ok m, e1_95_12_ok m, e1_95_13_ok m, e1_95_14_ok m, e1_95_15_ok m, e1_95_16_ok m, e1_95_17_ok m, e1_95_18_ok m, e1_95_19_ok m, e1_95_20_ok m, e1_95_21_ok m, e1_95_22_ok m, e1_95_23_ok m, e1_95_24_ok m, e1_95_25_ok m, e1_95_26_ok m, e1_95_27_ok m, e1_95_28_ok m, e1_95_29_ok m, e1_95_30_ok m, e1_95_31_ok m, e1_95_32_ok m, e1_95_33_ok m, e1_95_34_ok m, e1_95_35_ok m, e1_95_36_ok m, e1_95_37_ok m, e1_95_38_ok m, e1_95_39_ok m, e1_95_40_ok m, e1_95_41_ok m, e1_95_42_ok m, e1_95_43_ok m, e1_95_44_ok m, e1_95_45_ok m, e1_95_46_ok m, e1_95_47_ok m, e1_95_48_ok m, e1_95_49_ok m, e1_95_50_ok m, e1_95_51_ok m, e1_95_52_ok m, e1_95_53_ok m, e1_95_54_ok m, e1_95_55_ok m, e1_95_56_ok m, e1_95_57_ok m, e1_95_58_ok m, e1_95_59_ok m, e1_95_60_ok m, e1_95_61_ok m, e1_95_62_ok m, e1_95_63_ok m, e1_95_64_ok m, e1_95_65_ok m, e1_95_66_ok m, e1_95_67_ok m, e1_95_68_ok m, e1_95_69_ok m, e1_95_70_ok m, e1_95_71_ok m, e1_95_72_ok m, e1_95_73_ok m, e1_95_74_ok m, e1_95_75_ok m, e1_95_76_ok m, e1_95_77_ok m, e1_95_78_ok m, e1_95_79_ok m, e1_95_80_ok m, e1_95_81_ok m, e1_95_82_ok m, e1_95_83_ok m, e1_95_84_ok m, e1_95_85_ok m, e1_95_86_ok m, e1_95_87_ok m, e1_95_88_ok m, e1_95_89_ok m, e1_95_90_ok m, e1_95_91_ok m, e1_95_92_ok m, e1_95_93_ok m, e1_95_94_ok m, e1_95_95_ok m, e1_95_96_ok m, e1_95_97_ok m, e1_95_98_ok m, e1_95_99_ok m, e1_95_100_ok m, e1_95_101_ok m, e1_95_102_ok m, e1_95_103_ok m, e1_95_104_ok m, e1_95_105_ok m, e1_95_106_ok m, e1_95_107_ok m, e1_95_108_ok m, e1_95_109_ok m, e1_95_110_ok m, e1_95_111_ok m, e1_95_112_ok m, e1_95_113_ok m, e1_95_114_ok m, e1_95_115_ok m, e1_95_116_ok m, e1_95_117_ok m, e1_95_118_ok m, e1_95_119_ok m, e1_95_120_ok m, e1_95_121_ok m, e1_95_122_ok m, e1_95_123_ok m, e1_95_124_ok m, e1_95_125_ok m, e1_95_126_ok m, e1_95_127_ok m, e1_95_128_ok m, e1_95_129_ok m, e1_95_130_ok m, e1_95_131_ok m, e1_95_132_ok m, e1_95_133_ok m, e1_95_134_ok m, e1_95_135_ok m, e1_95_136_ok m, e1_95_137_ok m, trivial⟩
def T1_109 : Memo := [e1_109_0, e1_109_1, e1_109_2]
theorem T1_109_ok (m : Int) : MemoOk (E0 m) 109 T1_109 := ⟨e1_109_0_ok m, e1_109_1_ok m, e1_109_2_ok m, trivial⟩
def T1_143 : Memo := [e1_143_0, e1_143_1, e1_143_2]
theorem T1_143_ok (m : Int) : MemoOk (E0 m) 143 T1_143 := ⟨e1_143_0_ok m, e1_143_1_ok m, e1_143_2_ok m, trivial⟩
def T1_147 : Memo := [e1_147_0, e1_147_1, e1_147_2, e1_147_3, e1_147_4, e1_147_5, e1_147_6, e1_147_7, e1_147_8, e1_147_9, e1_147_10, e1_147_11, e1_147_12, e1_147_13, e1_147_14, e1_147_15, e1_147_16, e1_147_17, e1_147_18]
theorem T1_147_ok (m : Int) : MemoOk (E0 m) 147 T1_147 := ⟨e1_147_0_ok m, e1_147_1_ok m, e1_147_2_ok m, e1_147_3_ok m, e1_147_4_ok m, e1_147_5_ok m, e1_147_6_ok m, e1_147_7_ok m, e1_147_8_ok m, e1_147_9_ok m, e1_147_10_ok m, e1_147_11_ok m, e1_147_12_ok m, e1_147_13_ok m, e1_147_14_ok m, e1_147_15_ok m, e1_147_16_ok m, e1_147_17_ok m, e1_147_18_ok m, trivial⟩
def T1_191 : Memo := [e1_191_0, e1_191_1, e1_191_2, e1_191_3, e1_191_4, e1_191_5, e1_191_6, e1_191_7, e1_191_8, e1_191_9, e1_191_10, e1_191_11, e1_191_12, e1_191_13, e1_191_14]
theorem T1_191_ok (m : Int) : MemoOk (E0 m) 191 T1_191 := ⟨e1_191_0_ok m, e1_191_1_ok m, e1_191_2_ok m, e1_191_3_ok m, e1_191_4_ok m, e1_191_5_ok m, e1_191_6_ok m, e1_191_7_ok m, e1_191_8_ok m, e1_191_9_ok m, e1_191_10_ok m, e1_191_11_ok m, e1_191_12_ok m, e1_191_13_ok m, e1_191_14_ok m, trivial⟩
def T1_210 : Memo := [e1_210_0, e1_210_1, e1_210_2, e1_210_3, e1_210_4, e1_210_5, e1_210_6, e1_210_7, e1_210_8, e1_210_9, e1_210_10, e1_210_11, e1_210_12, e1_210_13, e1_210_14, e1_210_15, e1_210_16, e1_210_17, e1_210_18, e1_210_19, e1_210_20]
theorem T1_210_ok (m : Int) : MemoOk (E0 m) 210 T1_210 := ⟨e1_210_0_ok m, e1_210_1_ok m, e1_210_2_ok m, e1_210_3_ok m, e1_210_4_ok m, e1_210_5_ok m, e1_210_6_ok m, e1_210_7_ok m, e1_210_8_ok m, e1_210_9_ok m, e1_210_10_ok m, e1_210_11_ok m, e1_210_12_ok m, e1_210_13_ok m, e1_210_14_ok m, e1_210_15_ok m, e1_210_16_ok m, e1_210_17_ok m, e1_210_18_ok m, e1_210_19_ok m, e1_210_20_ok m, trivial⟩
def T1_251 : Memo := [e1_251_0, e1_251_1]
theorem T1_251_ok (m : Int) : MemoOk (E0 m) 251 T1_251 := ⟨e1_251_0_ok m, e1_251_1_ok m, trivial⟩
def T1_289 : Memo := [e1_289_0]
theorem T1_289_ok (m : Int) : MemoOk (E0 m) 289 T1_289 := ⟨e1_289_0_ok m, trivial⟩
def T1_292 : Memo := [e1_292_0]
theorem T1_292_ok (m : Int) : MemoOk (E0 m) 292 T1_292 := ⟨e1_292_0_ok m, trivial⟩
noncomputable def primL1 (m : Int) : FuncId → Option (List V1 → Heap → Option (AV × Heap))
  | 95 => some (lookM T1_95)
  | 109 => some (lookM T1_109)
  | 143 => some (lookM T1_143)
  | 147 => some (lookM T1_147)
  | 191 => some (lookM T1_191)
  | 210 => some (lookM T1_210)
  | 251 => some (lookM T1_251)
  | 289 => some (lookM T1_289)
  | 292 => some (lookM T1_292)
  | g => primT g
noncomputable def E0_1 (m : Int) : Env := { E0 m with prim := primL1 m }
theorem E0_1ok (m : Int) : EnvOk (E0_1 m) := env_prim (E0ok m) fun g p h => by
  unfold primL1 at h
  split at h
  · cases h; exact memo_ok (E0ok m) (T1_95_ok m)
  · cases h; exact memo_ok (E0ok m) (T1_109_ok m)
  · cases h; exact memo_ok (E0ok m) (T1_143_ok m)
  · cases h; exact memo_ok (E0ok m) (T1_147_ok m)
  · cases h; exact memo_ok (E0ok m) (T1_191_ok m)
  · cases h; exact memo_ok (E0ok m) (T1_210_ok m)
  · cases h; exact memo_ok (E0ok m) (T1_251_ok m)
  · cases h; exact memo_ok (E0ok m) (T1_289_ok m)
  · cases h; exact memo_ok (E0ok m) (T1_292_ok m)
  · exact (E0ok m).prim g p h
end Go.Proofs.YteenmbcmgcnkmaaGreatDoor
