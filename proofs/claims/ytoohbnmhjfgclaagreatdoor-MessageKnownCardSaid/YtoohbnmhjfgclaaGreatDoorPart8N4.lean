/- Calls that the law makes, and what they answer: each one a run of the evaluator; then their table. -/
import Derived.Test.YtoohbnmhjfgclaaGreatDoorPart8N3
set_option linter.unusedVariables false
set_option linter.unusedSimpArgs false
set_option maxRecDepth 100000
namespace Go.Proofs.YtoohbnmhjfgclaaGreatDoor
open Go Go.Ab
def T1_22 : Memo := [e1_22_0, e1_22_1]
theorem T1_22_ok (m : Int) : MemoOk (E0 m) 22 T1_22 := ⟨e1_22_0_ok m, e1_22_1_ok m, trivial⟩
def T1_25 : Memo := [e1_25_0, e1_25_1, e1_25_2]
theorem T1_25_ok (m : Int) : MemoOk (E0 m) 25 T1_25 := ⟨e1_25_0_ok m, e1_25_1_ok m, e1_25_2_ok m, trivial⟩
def T1_35 : Memo := [e1_35_0, e1_35_1]
theorem T1_35_ok (m : Int) : MemoOk (E0 m) 35 T1_35 := ⟨e1_35_0_ok m, e1_35_1_ok m, trivial⟩
def T1_43 : Memo := [e1_43_0, e1_43_1]
theorem T1_43_ok (m : Int) : MemoOk (E0 m) 43 T1_43 := ⟨e1_43_0_ok m, e1_43_1_ok m, trivial⟩
def T1_53 : Memo := [e1_53_0, e1_53_1]
theorem T1_53_ok (m : Int) : MemoOk (E0 m) 53 T1_53 := ⟨e1_53_0_ok m, e1_53_1_ok m, trivial⟩
def T1_66 : Memo := [e1_66_0, e1_66_1, e1_66_2, e1_66_3, e1_66_4, e1_66_5, e1_66_6, e1_66_7, e1_66_8, e1_66_9, e1_66_10, e1_66_11, e1_66_12, e1_66_13, e1_66_14, e1_66_15, e1_66_16, e1_66_17, e1_66_18, e1_66_19, e1_66_20, e1_66_21, e1_66_22]
theorem T1_66_ok (m : Int) : MemoOk (E0 m) 66 T1_66 := ⟨e1_66_0_ok m, e1_66_1_ok m, e1_66_2_ok m, e1_66_3_ok m, e1_66_4_ok m, e1_66_5_ok m, e1_66_6_ok m, e1_66_7_ok m, e1_66_8_ok m, e1_66_9_ok m, e1_66_10_ok m, e1_66_11_ok m, e1_66_12_ok m, e1_66_13_ok m, e1_66_14_ok m, e1_66_15_ok m, e1_66_16_ok m, e1_66_17_ok m, e1_66_18_ok m, e1_66_19_ok m, e1_66_20_ok m, e1_66_21_ok m, e1_66_22_ok m, trivial⟩
def T1_74 : Memo := [e1_74_0]
theorem T1_74_ok (m : Int) : MemoOk (E0 m) 74 T1_74 := ⟨e1_74_0_ok m, trivial⟩
def T1_75 : Memo := [e1_75_0, e1_75_1, e1_75_2, e1_75_3, e1_75_4, e1_75_5, e1_75_6, e1_75_7, e1_75_8, e1_75_9, e1_75_10, e1_75_11, e1_75_12, e1_75_13, e1_75_14, e1_75_15]
theorem T1_75_ok (m : Int) : MemoOk (E0 m) 75 T1_75 := ⟨e1_75_0_ok m, e1_75_1_ok m, e1_75_2_ok m, e1_75_3_ok m, e1_75_4_ok m, e1_75_5_ok m, e1_75_6_ok m, e1_75_7_ok m, e1_75_8_ok m, e1_75_9_ok m, e1_75_10_ok m, e1_75_11_ok m, e1_75_12_ok m, e1_75_13_ok m, e1_75_14_ok m, e1_75_15_ok m, trivial⟩
def T1_79 : Memo := [e1_79_0, e1_79_1, e1_79_2, e1_79_3, e1_79_4, e1_79_5, e1_79_6, e1_79_7, e1_79_8, e1_79_9, e1_79_10, e1_79_11, e1_79_12, e1_79_13, e1_79_14, e1_79_15, e1_79_16, e1_79_17, e1_79_18, e1_79_19, e1_79_20, e1_79_21, e1_79_22, e1_79_23, e1_79_24, e1_79_25, e1_79_26, e1_79_27, e1_79_28, e1_79_29, e1_79_30, e1_79_31, e1_79_32, e1_79_33, e1_79_34, e1_79_35, e1_79_36, e1_79_37, e1_79_38, e1_79_39, e1_79_40, e1_79_41, e1_79_42, e1_79_43, e1_79_44, e1_79_45, e1_79_46, e1_79_47, e1_79_48, e1_79_49, e1_79_50, e1_79_51, e1_79_52, e1_79_53, e1_79_54, e1_79_55, e1_79_56, e1_79_57, e1_79_58, e1_79_59, e1_79_60, e1_79_61, e1_79_62, e1_79_63, e1_79_64, e1_79_65, e1_79_66, e1_79_67, e1_79_68, e1_79_69, e1_79_70, e1_79_71, e1_79_72, e1_79_73, e1_79_74, e1_79_75, e1_79_76, e1_79_77, e1_79_78, e1_79_79, e1_79_80, e1_79_81, e1_79_82, e1_79_83, e1_79_84, e1_79_85, e1_79_86, e1_79_87, e1_79_88, e1_79_89, e1_79_90, e1_79_91, e1_79_92, e1_79_93, e1_79_94, e1_79_95, e1_79_96, e1_79_97, e1_79_98, e1_79_99, e1_79_100, e1_79_101, e1_79_102, e1_79_103, e1_79_104, e1_79_105, e1_79_106, e1_79_107, e1_79_108, e1_79_109, e1_79_110, e1_79_111, e1_79_112, e1_79_113, e1_79_114, e1_79_115, e1_79_116, e1_79_117, e1_79_118, e1_79_119, e1_79_120, e1_79_121, e1_79_122, e1_79_123, e1_79_124, e1_79_125, e1_79_126, e1_79_127, e1_79_128, e1_79_129, e1_79_130, e1_79_131, e1_79_132, e1_79_133, e1_79_134, e1_79_135, e1_79_136, e1_79_137, e1_79_138, e1_79_139, e1_79_140, e1_79_141, e1_79_142, e1_79_143, e1_79_144, e1_79_145, e1_79_146, e1_79_147, e1_79_148, e1_79_149, e1_79_150, e1_79_151, e1_79_152, e1_79_153, e1_79_154, e1_79_155, e1_79_156, e1_79_157, e1_79_158, e1_79_159, e1_79_160, e1_79_161, e1_79_162, e1_79_163, e1_79_164, e1_79_165, e1_79_166, e1_79_167, e1_79_168, e1_79_169, e1_79_170, e1_79_171, e1_79_172, e1_79_173, e1_79_174, e1_79_175, e1_79_176]
theorem T1_79_ok (m : Int) : MemoOk (E0 m) 79 T1_79 := ⟨e1_79_0_ok m, e1_79_1_ok m, e1_79_2_ok m, e1_79_3_ok m, e1_79_4_ok m, e1_79_5_ok m, e1_79_6_ok m, e1_79_7_ok m, e1_79_8_ok m, e1_79_9_ok m, e1_79_10_ok m, e1_79_11_ok m, e1_79_12_ok m, e1_79_13_ok m, e1_79_14_ok m, e1_79_15_ok m, e1_79_16_ok m, e1_79_17_ok m, e1_79_18_ok m, e1_79_19_ok m, e1_79_20_ok m, e1_79_21_ok m, e1_79_22_ok m, e1_79_23_ok m, e1_79_24_ok m, e1_79_25_ok m, e1_79_26_ok m, e1_79_27_ok m, e1_79_28_ok m, e1_79_29_ok m, e1_79_30_ok m, e1_79_31_ok m, e1_79_32_ok m, e1_79_33_ok m, e1_79_34_ok m, e1_79_35_ok m, e1_79_36_ok m, e1_79_37_ok m, e1_79_38_ok m, e1_79_39_ok m, e1_79_40_ok m, e1_79_41_ok m, e1_79_42_ok m, e1_79_43_ok m, e1_79_44_ok m, e1_79_45_ok m, e1_79_46_ok m, e1_79_47_ok m, e1_79_48_ok m, e1_79_49_ok m, e1_79_50_ok m, e1_79_51_ok m, e1_79_52_ok m, e1_79_53_ok m, e1_79_54_ok m, e1_79_55_ok m, e1_79_56_ok m, e1_79_57_ok m, e1_79_58_ok m, e1_79_59_ok m, e1_79_60_ok m, e1_79_61_ok m, e1_79_62_ok m, e1_79_63_ok m, e1_79_64_ok m, e1_79_65_ok m, e1_79_66_ok m, e1_79_67_ok m, e1_79_68_ok m, e1_79_69_ok m, e1_79_70_ok m, e1_79_71_ok m, e1_79_72_ok m, e1_79_73_ok m, e1_79_74_ok m, e1_79_75_ok m, e1_79_76_ok m, e1_79_77_ok m, e1_79_78_ok m, e1_79_79_ok m, e1_79_80_ok m, e1_79_81_ok m, e1_79_82_ok m, e1_79_83_ok m, e1_79_84_ok m, e1_79_85_ok m, e1_79_86_ok m, e1_79_87_ok m, e1_79_88_ok m, e1_79_89_ok m, e1_79_90_ok m, e1_79_91_ok m, e1_79_92_ok m, e1_79_93_ok m, e1_79_94_ok m, e1_79_95_ok m, e1_79_96_ok m, e1_79_97_ok m, e1_79_98_ok m, e1_79_99_ok m, e1_79_100_ok m, e1_79_101_ok m, e1_79_102_ok m, e1_79_103_ok m, e1_79_104_ok m, e1_79_105_ok m, e1_79_106_ok m, e1_79_107_ok m, e1_79_108_ok m, e1_79_109_ok m, e1_79_110_ok m, e1_79_111_ok m, e1_79_112_ok m, e1_79_113_ok m, e1_79_114_ok m, e1_79_115_ok m, e1_79_116_ok m, e1_79_117_ok m, e1_79_118_ok m, e1_79_119_ok m, e1_79_120_ok m, e1_79_121_ok m, e1_79_122_ok m, e1_79_123_ok m, e1_79_124_ok m, e1_79_125_ok m, e1_79_126_ok m, e1_79_127_ok m, e1_79_128_ok m, e1_79_129_ok m, e1_79_130_ok m, e1_79_131_ok m, e1_79_132_ok m, e1_79_133_ok m, e1_79_134_ok m, e1_79_135_ok m, e1_79_136_ok m, e1_79_137_ok m, e1_79_138_ok m, e1_79_139_ok m, e1_79_140_ok m, e1_79_141_ok m, e1_79_142_ok m, e1_79_143_ok m, e1_79_144_ok m, e1_79_145_ok m, e1_79_146_ok m, e1_79_147_ok m, e1_79_148_ok m, e1_79_149_ok m, e1_79_150_ok m, e1_79_151_ok m, e1_79_152_ok m, e1_79_153_ok m, e1_79_154_ok m, e1_79_155_ok m, e1_79_156_ok m, e1_79_157_ok m, e1_79_158_ok m, e1_79_159_ok m, e1_79_160_ok m, e1_79_161_ok m, e1_79_162_ok m, e1_79_163_ok m, e1_79_164_ok m, e1_79_165_ok m, e1_79_166_ok m, e1_79_167_ok m, e1_79_168_ok m, e1_79_169_ok m, e1_79_170_ok m, e1_79_171_ok m, e1_79_172_ok m, e1_79_173_ok m, e1_79_174_ok m, e1_79_175_ok m, e1_79_176_ok m, trivial⟩
def T1_105 : Memo := [e1_105_0, e1_105_1, e1_105_2, e1_105_3, e1_105_4, e1_105_5]
theorem T1_105_ok (m : Int) : MemoOk (E0 m) 105 T1_105 := ⟨e1_105_0_ok m, e1_105_1_ok m, e1_105_2_ok m, e1_105_3_ok m, e1_105_4_ok m, e1_105_5_ok m, trivial⟩
noncomputable def primL1 (m : Int) : FuncId → Option (List V1 → Heap → Option (AV × Heap))
  | 22 => some (lookM T1_22)
  | 25 => some (lookM T1_25)
  | 35 => some (lookM T1_35)
  | 43 => some (lookM T1_43)
  | 53 => some (lookM T1_53)
  | 66 => some (lookM T1_66)
  | 74 => some (lookM T1_74)
  | 75 => some (lookM T1_75)
  | 79 => some (lookM T1_79)
  | 105 => some (lookM T1_105)
  | g => primT g
noncomputable def E0_1 (m : Int) : Env := { E0 m with prim := primL1 m }
theorem E0_1ok (m : Int) : EnvOk (E0_1 m) := env_prim (E0ok m) fun g p h => by
  unfold primL1 at h
  split at h
  · cases h; exact memo_ok (E0ok m) (T1_22_ok m)
  · cases h; exact memo_ok (E0ok m) (T1_25_ok m)
  · cases h; exact memo_ok (E0ok m) (T1_35_ok m)
  · cases h; exact memo_ok (E0ok m) (T1_43_ok m)
  · cases h; exact memo_ok (E0ok m) (T1_53_ok m)
  · cases h; exact memo_ok (E0ok m) (T1_66_ok m)
  · cases h; exact memo_ok (E0ok m) (T1_74_ok m)
  · cases h; exact memo_ok (E0ok m) (T1_75_ok m)
  · cases h; exact memo_ok (E0ok m) (T1_79_ok m)
  · cases h; exact memo_ok (E0ok m) (T1_105_ok m)
  · exact (E0ok m).prim g p h
end Go.Proofs.YtoohbnmhjfgclaaGreatDoor
