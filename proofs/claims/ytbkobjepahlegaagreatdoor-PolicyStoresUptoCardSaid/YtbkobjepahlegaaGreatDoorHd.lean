/- What the printed functions rest on: sizes, zeros, encoders. -/
import Derived.Test.YtbkobjepahlegaaGreatDoorEnv
import Derived.Test.YtbkobjepahlegaaGreatDoorEv8
set_option linter.all false
set_option maxRecDepth 100000
namespace Go.Proofs.YtbkobjepahlegaaGreatDoor
open Go Go.Ab
open Nat renaming reduceEqDiff→za, reduceAdd→zb, reduceLeDiff→zc, reduceLT→zd, reduceMul→ze, reduceBEq→zf, reduceSub→zg, reducePow→zh
open Int renaming reduceEq→zi, reduceLE→zj, reduceLT→zk, reduceToNat→zl, reduceNegSucc→zm, reduceAdd→zn, reduceBEq→zo
open String renaming reduceBEq→zp
noncomputable section
variable {mm : Int}
theorem E0P: (E0 mm).P=Tryz.prog := rfl
theorem E0hand: (E0 mm).hand=fun f => f==38||f==76||f==77 := rfl
theorem E0glob: (E0 mm).glob=fun _ => none := rfl
theorem zE: (E0 mm).P=Tryz.prog∧((E0 mm).hand=fun f => f==38||f==76||f==77)∧((E0 mm).glob=fun _ => none) := ⟨rfl, rfl, rfl⟩
theorem ext163_t(s : Bs)(c : UInt8): (E0 mm).ext 163 [.string (S s), .int .u8 (c.toNat : Int)]=some (.int .i64 (Lib.indexByte s c)) := eIndexByte_t s c
theorem ag115: aggP Tryz.prog 115=some false := by kernel_rfl
theorem ag22: aggP Tryz.prog 22=some false := by kernel_rfl
theorem ag23: aggP Tryz.prog 23=some false := by kernel_rfl
theorem ag25: aggP Tryz.prog 25=some true := by kernel_rfl
theorem ag27: aggP Tryz.prog 27=some true := by kernel_rfl
theorem ag28: aggP Tryz.prog 28=some false := by kernel_rfl
theorem ag3: aggP Tryz.prog 3=some false := by kernel_rfl
theorem ag30: aggP Tryz.prog 30=some true := by kernel_rfl
theorem ag35: aggP Tryz.prog 35=some false := by kernel_rfl
theorem ag37: aggP Tryz.prog 37=some true := by kernel_rfl
theorem ag4: aggP Tryz.prog 4=some false := by kernel_rfl
theorem ag42: aggP Tryz.prog 42=some true := by kernel_rfl
theorem ag45: aggP Tryz.prog 45=some false := by kernel_rfl
theorem ag5: aggP Tryz.prog 5=some false := by kernel_rfl
theorem ag73: aggP Tryz.prog 73=some false := by kernel_rfl
theorem ag9: aggP Tryz.prog 9=some false := by kernel_rfl
theorem by3: bytesP Tryz.prog 3=some 8 := by kernel_rfl
theorem by42: bytesP Tryz.prog 42=some 32 := by kernel_rfl
theorem by5: bytesP Tryz.prog 5=some 1 := by kernel_rfl
theorem by9: bytesP Tryz.prog 9=some 16 := by kernel_rfl
theorem ent100: entersB Tryz.prog 100=some true := by kernel_rfl
theorem ent101: entersB Tryz.prog 101=some true := by kernel_rfl
theorem ent102: entersB Tryz.prog 102=some true := by kernel_rfl
theorem ent103: entersB Tryz.prog 103=some true := by kernel_rfl
theorem ent104: entersB Tryz.prog 104=some true := by kernel_rfl
theorem ent105: entersB Tryz.prog 105=some true := by kernel_rfl
theorem ent106: entersB Tryz.prog 106=some true := by kernel_rfl
theorem ent107: entersB Tryz.prog 107=some true := by kernel_rfl
theorem ent108: entersB Tryz.prog 108=some true := by kernel_rfl
theorem ent109: entersB Tryz.prog 109=some true := by kernel_rfl
theorem ent110: entersB Tryz.prog 110=some true := by kernel_rfl
theorem ent111: entersB Tryz.prog 111=some true := by kernel_rfl
theorem ent112: entersB Tryz.prog 112=some true := by kernel_rfl
theorem ent113: entersB Tryz.prog 113=some true := by kernel_rfl
theorem ent114: entersB Tryz.prog 114=some true := by kernel_rfl
theorem ent115: entersB Tryz.prog 115=some true := by kernel_rfl
theorem ent116: entersB Tryz.prog 116=some true := by kernel_rfl
theorem ent117: entersB Tryz.prog 117=some true := by kernel_rfl
theorem ent118: entersB Tryz.prog 118=some true := by kernel_rfl
theorem ent119: entersB Tryz.prog 119=some true := by kernel_rfl
theorem ent12: entersB Tryz.prog 12=some true := by kernel_rfl
theorem ent120: entersB Tryz.prog 120=some true := by kernel_rfl
theorem ent121: entersB Tryz.prog 121=some true := by kernel_rfl
theorem ent122: entersB Tryz.prog 122=some true := by kernel_rfl
theorem ent123: entersB Tryz.prog 123=some true := by kernel_rfl
theorem ent124: entersB Tryz.prog 124=some true := by kernel_rfl
theorem ent125: entersB Tryz.prog 125=some true := by kernel_rfl
theorem ent126: entersB Tryz.prog 126=some true := by kernel_rfl
theorem ent127: entersB Tryz.prog 127=some true := by kernel_rfl
theorem ent128: entersB Tryz.prog 128=some true := by kernel_rfl
theorem ent129: entersB Tryz.prog 129=some true := by kernel_rfl
theorem ent13: entersB Tryz.prog 13=some true := by kernel_rfl
theorem ent130: entersB Tryz.prog 130=some true := by kernel_rfl
theorem ent131: entersB Tryz.prog 131=some true := by kernel_rfl
theorem ent132: entersB Tryz.prog 132=some true := by kernel_rfl
theorem ent133: entersB Tryz.prog 133=some true := by kernel_rfl
theorem ent134: entersB Tryz.prog 134=some true := by kernel_rfl
theorem ent135: entersB Tryz.prog 135=some true := by kernel_rfl
theorem ent136: entersB Tryz.prog 136=some true := by kernel_rfl
theorem ent137: entersB Tryz.prog 137=some true := by kernel_rfl
theorem ent138: entersB Tryz.prog 138=some true := by kernel_rfl
theorem ent139: entersB Tryz.prog 139=some true := by kernel_rfl
theorem ent14: entersB Tryz.prog 14=some true := by kernel_rfl
theorem ent140: entersB Tryz.prog 140=some true := by kernel_rfl
theorem ent141: entersB Tryz.prog 141=some true := by kernel_rfl
theorem ent142: entersB Tryz.prog 142=some true := by kernel_rfl
theorem ent143: entersB Tryz.prog 143=some true := by kernel_rfl
theorem ent144: entersB Tryz.prog 144=some true := by kernel_rfl
theorem ent145: entersB Tryz.prog 145=some true := by kernel_rfl
theorem ent146: entersB Tryz.prog 146=some true := by kernel_rfl
theorem ent147: entersB Tryz.prog 147=some true := by kernel_rfl
theorem ent148: entersB Tryz.prog 148=some true := by kernel_rfl
theorem ent149: entersB Tryz.prog 149=some true := by kernel_rfl
theorem ent15: entersB Tryz.prog 15=some true := by kernel_rfl
theorem ent150: entersB Tryz.prog 150=some true := by kernel_rfl
theorem ent151: entersB Tryz.prog 151=some true := by kernel_rfl
theorem ent152: entersB Tryz.prog 152=some true := by kernel_rfl
theorem ent153: entersB Tryz.prog 153=some true := by kernel_rfl
theorem ent154: entersB Tryz.prog 154=some true := by kernel_rfl
theorem ent155: entersB Tryz.prog 155=some true := by kernel_rfl
theorem ent16: entersB Tryz.prog 16=some true := by kernel_rfl
theorem ent167: entersB Tryz.prog 167=some true := by kernel_rfl
theorem ent168: entersB Tryz.prog 168=some true := by kernel_rfl
theorem ent17: entersB Tryz.prog 17=some true := by kernel_rfl
theorem ent18: entersB Tryz.prog 18=some true := by kernel_rfl
theorem ent19: entersB Tryz.prog 19=some true := by kernel_rfl
theorem ent20: entersB Tryz.prog 20=some true := by kernel_rfl
theorem ent21: entersB Tryz.prog 21=some true := by kernel_rfl
theorem ent22: entersB Tryz.prog 22=some true := by kernel_rfl
theorem ent23: entersB Tryz.prog 23=some true := by kernel_rfl
theorem ent24: entersB Tryz.prog 24=some true := by kernel_rfl
theorem ent25: entersB Tryz.prog 25=some true := by kernel_rfl
theorem ent26: entersB Tryz.prog 26=some true := by kernel_rfl
theorem ent27: entersB Tryz.prog 27=some true := by kernel_rfl
theorem ent28: entersB Tryz.prog 28=some true := by kernel_rfl
theorem ent29: entersB Tryz.prog 29=some true := by kernel_rfl
theorem ent30: entersB Tryz.prog 30=some true := by kernel_rfl
theorem ent31: entersB Tryz.prog 31=some true := by kernel_rfl
theorem ent32: entersB Tryz.prog 32=some true := by kernel_rfl
theorem ent33: entersB Tryz.prog 33=some true := by kernel_rfl
theorem ent34: entersB Tryz.prog 34=some true := by kernel_rfl
theorem ent35: entersB Tryz.prog 35=some true := by kernel_rfl
theorem ent36: entersB Tryz.prog 36=some true := by kernel_rfl
theorem ent37: entersB Tryz.prog 37=some true := by kernel_rfl
theorem ent40: entersB Tryz.prog 40=some true := by kernel_rfl
theorem ent41: entersB Tryz.prog 41=some true := by kernel_rfl
theorem ent42: entersB Tryz.prog 42=some true := by kernel_rfl
theorem ent43: entersB Tryz.prog 43=some true := by kernel_rfl
theorem ent44: entersB Tryz.prog 44=some true := by kernel_rfl
theorem ent45: entersB Tryz.prog 45=some true := by kernel_rfl
theorem ent46: entersB Tryz.prog 46=some true := by kernel_rfl
theorem ent47: entersB Tryz.prog 47=some true := by kernel_rfl
theorem ent48: entersB Tryz.prog 48=some true := by kernel_rfl
theorem ent49: entersB Tryz.prog 49=some true := by kernel_rfl
theorem ent50: entersB Tryz.prog 50=some true := by kernel_rfl
theorem ent51: entersB Tryz.prog 51=some true := by kernel_rfl
theorem ent52: entersB Tryz.prog 52=some true := by kernel_rfl
theorem ent53: entersB Tryz.prog 53=some true := by kernel_rfl
theorem ent54: entersB Tryz.prog 54=some true := by kernel_rfl
theorem ent55: entersB Tryz.prog 55=some true := by kernel_rfl
theorem ent56: entersB Tryz.prog 56=some true := by kernel_rfl
theorem ent57: entersB Tryz.prog 57=some true := by kernel_rfl
theorem ent58: entersB Tryz.prog 58=some true := by kernel_rfl
theorem ent59: entersB Tryz.prog 59=some true := by kernel_rfl
theorem ent60: entersB Tryz.prog 60=some true := by kernel_rfl
theorem ent61: entersB Tryz.prog 61=some true := by kernel_rfl
theorem ent62: entersB Tryz.prog 62=some true := by kernel_rfl
theorem ent63: entersB Tryz.prog 63=some true := by kernel_rfl
theorem ent64: entersB Tryz.prog 64=some true := by kernel_rfl
theorem ent65: entersB Tryz.prog 65=some true := by kernel_rfl
theorem ent66: entersB Tryz.prog 66=some true := by kernel_rfl
theorem ent67: entersB Tryz.prog 67=some true := by kernel_rfl
theorem ent68: entersB Tryz.prog 68=some true := by kernel_rfl
theorem ent69: entersB Tryz.prog 69=some true := by kernel_rfl
theorem ent70: entersB Tryz.prog 70=some true := by kernel_rfl
theorem ent71: entersB Tryz.prog 71=some true := by kernel_rfl
theorem ent72: entersB Tryz.prog 72=some true := by kernel_rfl
theorem ent73: entersB Tryz.prog 73=some true := by kernel_rfl
theorem ent74: entersB Tryz.prog 74=some true := by kernel_rfl
theorem ent75: entersB Tryz.prog 75=some true := by kernel_rfl
theorem ent76: entersB Tryz.prog 76=some true := by kernel_rfl
theorem ent77: entersB Tryz.prog 77=some true := by kernel_rfl
theorem ent78: entersB Tryz.prog 78=some true := by kernel_rfl
theorem ent79: entersB Tryz.prog 79=some true := by kernel_rfl
theorem ent80: entersB Tryz.prog 80=some true := by kernel_rfl
theorem ent81: entersB Tryz.prog 81=some true := by kernel_rfl
theorem ent82: entersB Tryz.prog 82=some true := by kernel_rfl
theorem ent83: entersB Tryz.prog 83=some true := by kernel_rfl
theorem ent84: entersB Tryz.prog 84=some true := by kernel_rfl
theorem ent85: entersB Tryz.prog 85=some true := by kernel_rfl
theorem ent86: entersB Tryz.prog 86=some true := by kernel_rfl
theorem ent87: entersB Tryz.prog 87=some true := by kernel_rfl
theorem ent88: entersB Tryz.prog 88=some true := by kernel_rfl
theorem ent89: entersB Tryz.prog 89=some true := by kernel_rfl
theorem ent90: entersB Tryz.prog 90=some true := by kernel_rfl
theorem ent91: entersB Tryz.prog 91=some true := by kernel_rfl
theorem ent92: entersB Tryz.prog 92=some true := by kernel_rfl
theorem ent93: entersB Tryz.prog 93=some true := by kernel_rfl
theorem ent94: entersB Tryz.prog 94=some true := by kernel_rfl
theorem ent95: entersB Tryz.prog 95=some true := by kernel_rfl
theorem ent96: entersB Tryz.prog 96=some true := by kernel_rfl
theorem ent97: entersB Tryz.prog 97=some true := by kernel_rfl
theorem ent98: entersB Tryz.prog 98=some true := by kernel_rfl
theorem ent99: entersB Tryz.prog 99=some true := by kernel_rfl
theorem entf163: entersB Tryz.prog 163=some false := by kernel_rfl
theorem exf163: (E0 mm).extp 163=none := rfl
theorem iu5: isU8 Tryz.prog 5=true := by kernel_rfl
theorem prm100: (E0 mm).prim 100=none := rfl
theorem prm101: (E0 mm).prim 101=none := rfl
theorem prm102: (E0 mm).prim 102=none := rfl
theorem prm103: (E0 mm).prim 103=none := rfl
theorem prm104: (E0 mm).prim 104=none := rfl
theorem prm105: (E0 mm).prim 105=none := rfl
theorem prm106: (E0 mm).prim 106=none := rfl
theorem prm107: (E0 mm).prim 107=none := rfl
theorem prm108: (E0 mm).prim 108=none := rfl
theorem prm109: (E0 mm).prim 109=none := rfl
theorem prm110: (E0 mm).prim 110=none := rfl
theorem prm111: (E0 mm).prim 111=none := rfl
theorem prm112: (E0 mm).prim 112=none := rfl
theorem prm113: (E0 mm).prim 113=none := rfl
theorem prm114: (E0 mm).prim 114=none := rfl
theorem prm115: (E0 mm).prim 115=none := rfl
theorem prm116: (E0 mm).prim 116=none := rfl
theorem prm117: (E0 mm).prim 117=none := rfl
theorem prm118: (E0 mm).prim 118=none := rfl
theorem prm119: (E0 mm).prim 119=none := rfl
theorem prm12: (E0 mm).prim 12=none := rfl
theorem prm120: (E0 mm).prim 120=none := rfl
theorem prm121: (E0 mm).prim 121=none := rfl
theorem prm122: (E0 mm).prim 122=none := rfl
theorem prm123: (E0 mm).prim 123=none := rfl
theorem prm124: (E0 mm).prim 124=none := rfl
theorem prm125: (E0 mm).prim 125=none := rfl
theorem prm126: (E0 mm).prim 126=none := rfl
theorem prm127: (E0 mm).prim 127=none := rfl
theorem prm128: (E0 mm).prim 128=none := rfl
theorem prm129: (E0 mm).prim 129=none := rfl
theorem prm13: (E0 mm).prim 13=none := rfl
theorem prm130: (E0 mm).prim 130=none := rfl
theorem prm131: (E0 mm).prim 131=none := rfl
theorem prm132: (E0 mm).prim 132=none := rfl
theorem prm133: (E0 mm).prim 133=none := rfl
theorem prm134: (E0 mm).prim 134=none := rfl
theorem prm135: (E0 mm).prim 135=none := rfl
theorem prm136: (E0 mm).prim 136=none := rfl
theorem prm137: (E0 mm).prim 137=none := rfl
theorem prm138: (E0 mm).prim 138=none := rfl
theorem prm139: (E0 mm).prim 139=none := rfl
theorem prm14: (E0 mm).prim 14=none := rfl
theorem prm140: (E0 mm).prim 140=none := rfl
theorem prm141: (E0 mm).prim 141=none := rfl
theorem prm142: (E0 mm).prim 142=some pTrim := rfl
theorem prm143: (E0 mm).prim 143=none := rfl
theorem prm144: (E0 mm).prim 144=none := rfl
theorem prm145: (E0 mm).prim 145=some pIndex := rfl
theorem prm146: (E0 mm).prim 146=none := rfl
theorem prm147: (E0 mm).prim 147=none := rfl
theorem prm148: (E0 mm).prim 148=none := rfl
theorem prm149: (E0 mm).prim 149=none := rfl
theorem prm15: (E0 mm).prim 15=none := rfl
theorem prm150: (E0 mm).prim 150=none := rfl
theorem prm151: (E0 mm).prim 151=none := rfl
theorem prm152: (E0 mm).prim 152=none := rfl
theorem prm153: (E0 mm).prim 153=none := rfl
theorem prm154: (E0 mm).prim 154=none := rfl
theorem prm155: (E0 mm).prim 155=none := rfl
theorem prm16: (E0 mm).prim 16=none := rfl
theorem prm167: (E0 mm).prim 167=none := rfl
theorem prm168: (E0 mm).prim 168=none := rfl
theorem prm17: (E0 mm).prim 17=none := rfl
theorem prm18: (E0 mm).prim 18=none := rfl
theorem prm19: (E0 mm).prim 19=none := rfl
theorem prm20: (E0 mm).prim 20=none := rfl
theorem prm21: (E0 mm).prim 21=none := rfl
theorem prm22: (E0 mm).prim 22=none := rfl
theorem prm23: (E0 mm).prim 23=none := rfl
theorem prm24: (E0 mm).prim 24=none := rfl
theorem prm25: (E0 mm).prim 25=none := rfl
theorem prm26: (E0 mm).prim 26=none := rfl
theorem prm27: (E0 mm).prim 27=none := rfl
theorem prm28: (E0 mm).prim 28=none := rfl
theorem prm29: (E0 mm).prim 29=none := rfl
theorem prm30: (E0 mm).prim 30=none := rfl
theorem prm31: (E0 mm).prim 31=none := rfl
theorem prm32: (E0 mm).prim 32=none := rfl
theorem prm33: (E0 mm).prim 33=none := rfl
theorem prm34: (E0 mm).prim 34=none := rfl
theorem prm35: (E0 mm).prim 35=none := rfl
theorem prm36: (E0 mm).prim 36=none := rfl
theorem prm37: (E0 mm).prim 37=none := rfl
theorem prm40: (E0 mm).prim 40=none := rfl
theorem prm41: (E0 mm).prim 41=none := rfl
theorem prm42: (E0 mm).prim 42=none := rfl
theorem prm43: (E0 mm).prim 43=none := rfl
theorem prm44: (E0 mm).prim 44=none := rfl
theorem prm45: (E0 mm).prim 45=none := rfl
theorem prm46: (E0 mm).prim 46=none := rfl
theorem prm47: (E0 mm).prim 47=none := rfl
theorem prm48: (E0 mm).prim 48=none := rfl
theorem prm49: (E0 mm).prim 49=none := rfl
theorem prm50: (E0 mm).prim 50=none := rfl
theorem prm51: (E0 mm).prim 51=none := rfl
theorem prm52: (E0 mm).prim 52=none := rfl
theorem prm53: (E0 mm).prim 53=none := rfl
theorem prm54: (E0 mm).prim 54=none := rfl
theorem prm55: (E0 mm).prim 55=none := rfl
theorem prm56: (E0 mm).prim 56=none := rfl
theorem prm57: (E0 mm).prim 57=none := rfl
theorem prm58: (E0 mm).prim 58=none := rfl
theorem prm59: (E0 mm).prim 59=none := rfl
theorem prm60: (E0 mm).prim 60=none := rfl
theorem prm61: (E0 mm).prim 61=none := rfl
theorem prm62: (E0 mm).prim 62=none := rfl
theorem prm63: (E0 mm).prim 63=none := rfl
theorem prm64: (E0 mm).prim 64=none := rfl
theorem prm65: (E0 mm).prim 65=none := rfl
theorem prm66: (E0 mm).prim 66=none := rfl
theorem prm67: (E0 mm).prim 67=none := rfl
theorem prm68: (E0 mm).prim 68=none := rfl
theorem prm69: (E0 mm).prim 69=none := rfl
theorem prm70: (E0 mm).prim 70=none := rfl
theorem prm71: (E0 mm).prim 71=none := rfl
theorem prm72: (E0 mm).prim 72=none := rfl
theorem prm73: (E0 mm).prim 73=none := rfl
theorem prm74: (E0 mm).prim 74=none := rfl
theorem prm75: (E0 mm).prim 75=none := rfl
theorem prm76: (E0 mm).prim 76=none := rfl
theorem prm77: (E0 mm).prim 77=none := rfl
theorem prm78: (E0 mm).prim 78=none := rfl
theorem prm79: (E0 mm).prim 79=none := rfl
theorem prm80: (E0 mm).prim 80=none := rfl
theorem prm81: (E0 mm).prim 81=none := rfl
theorem prm82: (E0 mm).prim 82=none := rfl
theorem prm83: (E0 mm).prim 83=none := rfl
theorem prm84: (E0 mm).prim 84=none := rfl
theorem prm85: (E0 mm).prim 85=none := rfl
theorem prm86: (E0 mm).prim 86=none := rfl
theorem prm87: (E0 mm).prim 87=none := rfl
theorem prm88: (E0 mm).prim 88=none := rfl
theorem prm89: (E0 mm).prim 89=none := rfl
theorem prm90: (E0 mm).prim 90=none := rfl
theorem prm91: (E0 mm).prim 91=none := rfl
theorem prm92: (E0 mm).prim 92=none := rfl
theorem prm93: (E0 mm).prim 93=none := rfl
theorem prm94: (E0 mm).prim 94=none := rfl
theorem prm95: (E0 mm).prim 95=none := rfl
theorem prm96: (E0 mm).prim 96=none := rfl
theorem prm97: (E0 mm).prim 97=none := rfl
theorem prm98: (E0 mm).prim 98=none := rfl
theorem prm99: (E0 mm).prim 99=none := rfl
theorem sz101: szP Tryz.prog 101=some 11 := by kernel_rfl
theorem sz102: szP Tryz.prog 102=some 22 := by kernel_rfl
theorem sz115: szP Tryz.prog 115=some 1 := by kernel_rfl
theorem sz132: szP Tryz.prog 132=some 12 := by kernel_rfl
theorem sz133: szP Tryz.prog 133=some 12 := by kernel_rfl
theorem sz134: szP Tryz.prog 134=some 7 := by kernel_rfl
theorem sz22: szP Tryz.prog 22=some 1 := by kernel_rfl
theorem sz23: szP Tryz.prog 23=some 1 := by kernel_rfl
theorem sz25: szP Tryz.prog 25=some 5 := by kernel_rfl
theorem sz27: szP Tryz.prog 27=some 5 := by kernel_rfl
theorem sz28: szP Tryz.prog 28=some 1 := by kernel_rfl
theorem sz3: szP Tryz.prog 3=some 1 := by kernel_rfl
theorem sz30: szP Tryz.prog 30=some 9 := by kernel_rfl
theorem sz35: szP Tryz.prog 35=some 1 := by kernel_rfl
theorem sz37: szP Tryz.prog 37=some 10 := by kernel_rfl
theorem sz4: szP Tryz.prog 4=some 1 := by kernel_rfl
theorem sz42: szP Tryz.prog 42=some 2 := by kernel_rfl
theorem sz45: szP Tryz.prog 45=some 1 := by kernel_rfl
theorem sz5: szP Tryz.prog 5=some 1 := by kernel_rfl
theorem sz73: szP Tryz.prog 73=some 1 := by kernel_rfl
theorem sz88: szP Tryz.prog 88=some 8 := by kernel_rfl
theorem sz9: szP Tryz.prog 9=some 1 := by kernel_rfl
theorem zc101: zeroC Tryz.prog 101=some [.d (.sc (.int .i64 0)), .d (.sc (.int .i64 0)), .d (.sc (.int .i64 0)), .d (.sc (.int .i64 0)), .d (.sc (.int .i64 0)), .d (.sc (.int .i64 0)), .d (.sc (.int .i64 0)), .d (.sc (.int .i64 0)), .d (.sc (.int .i64 0)), .d (.sc (.int .i64 0)), .d (.sc (.int .i64 0))] := by kernel_rfl
theorem zc102: zeroC Tryz.prog 102=some [.d (.sc (.string (S ([] : Bs)))), .d (.sc (.string (S ([] : Bs)))), .d (.sc (.string (S ([] : Bs)))), .d (.sc (.string (S ([] : Bs)))), .d (.sc (.string (S ([] : Bs)))), .d (.sc (.string (S ([] : Bs)))), .d (.sc (.string (S ([] : Bs)))), .d (.sc (.string (S ([] : Bs)))), .d (.sc (.string (S ([] : Bs)))), .d (.sc (.string (S ([] : Bs)))), .d (.sc (.string (S ([] : Bs)))), .d (.sc (.string (S ([] : Bs)))), .d (.sc (.string (S ([] : Bs)))), .d (.sc (.string (S ([] : Bs)))), .d (.sc (.string (S ([] : Bs)))), .d (.sc (.string (S ([] : Bs)))), .d (.sc (.string (S ([] : Bs)))), .d (.sc (.string (S ([] : Bs)))), .d (.sc (.string (S ([] : Bs)))), .d (.sc (.string (S ([] : Bs)))), .d (.sc (.string (S ([] : Bs)))), .d (.sc (.string (S ([] : Bs))))] := by kernel_rfl
theorem zc132: zeroC Tryz.prog 132=some [.d (.sc (.string (S ([] : Bs)))), .d (.sc (.string (S ([] : Bs)))), .d (.sc (.string (S ([] : Bs)))), .d (.sc (.string (S ([] : Bs)))), .d (.sc (.string (S ([] : Bs)))), .d (.sc (.string (S ([] : Bs)))), .d (.sc (.string (S ([] : Bs)))), .d (.sc (.string (S ([] : Bs)))), .d (.sc (.string (S ([] : Bs)))), .d (.sc (.string (S ([] : Bs)))), .d (.sc (.string (S ([] : Bs)))), .d (.sc (.string (S ([] : Bs))))] := by kernel_rfl
theorem zc133: zeroC Tryz.prog 133=some [.d (.sc (.int .i64 0)), .d (.sc (.int .i64 0)), .d (.sc (.int .i64 0)), .d (.sc (.int .i64 0)), .d (.sc (.int .i64 0)), .d (.sc (.int .i64 0)), .d (.sc (.int .i64 0)), .d (.sc (.int .i64 0)), .d (.sc (.int .i64 0)), .d (.sc (.int .i64 0)), .d (.sc (.int .i64 0)), .d (.sc (.int .i64 0))] := by kernel_rfl
theorem zc134: zeroC Tryz.prog 134=some [.d (.sc (.string (S ([] : Bs)))), .d (.sc (.string (S ([] : Bs)))), .d (.sc (.string (S ([] : Bs)))), .d (.sc (.string (S ([] : Bs)))), .d (.sc (.string (S ([] : Bs)))), .d (.sc (.string (S ([] : Bs)))), .d (.sc (.string (S ([] : Bs))))] := by kernel_rfl
theorem zc25: zeroC Tryz.prog 25=some [.d (.sc (.string (S ([] : Bs)))), .d (.sc (.string (S ([] : Bs)))), .d (.sc (.int .i64 0)), .d (.lst true []), .d (.lst true [])] := by kernel_rfl
theorem zc27: zeroC Tryz.prog 27=some [.d (.sc (.int .i64 0)), .d (.sc (.string (S ([] : Bs)))), .d (.sc (.int .i64 0)), .d (.lst true []), .d (.lst true [])] := by kernel_rfl
theorem zc3: zeroC Tryz.prog 3=some [.d (.sc (.int .i64 0))] := by kernel_rfl
theorem zc30: zeroC Tryz.prog 30=some [.d (.sc (.string (S ([] : Bs)))), .d (.sc (.int .u64 0)), .d (.sc (.int .u64 0)), .d (.lst true []), .d (.sc (.int .i64 0)), .d (.sc (.string (S ([] : Bs)))), .d (.sc (.int .i64 0)), .d (.lst true []), .d (.lst true [])] := by kernel_rfl
theorem zc35: zeroC Tryz.prog 35=some [.d (.sc .nilFunc)] := by kernel_rfl
theorem zc37: zeroC Tryz.prog 37=some [.d (.sc (.bool false)), .d (.sc (.bool false)), .d (.sc (.bool false)), .d (.sc (.bool false)), .d (.sc (.bool false)), .d (.sc (.bool false)), .d (.sc (.int .i64 0)), .d (.sc (.int .i64 0)), .d (.sc (.int .i64 0)), .d (.sc (.int .i64 0))] := by kernel_rfl
theorem zc4: zeroC Tryz.prog 4=some [.d (.sc (.bool false))] := by kernel_rfl
theorem zc42: zeroC Tryz.prog 42=some [.d (.sc (.string (S ([] : Bs)))), .d (.sc (.string (S ([] : Bs))))] := by kernel_rfl
theorem zc45: zeroC Tryz.prog 45=some [.d (.lst true [])] := by kernel_rfl
theorem zc5: zeroC Tryz.prog 5=some [.d (.sc (.int .u8 ((0 : UInt8).toNat : Int)))] := by kernel_rfl
theorem zc73: zeroC Tryz.prog 73=some [.d (.sc (.map none))] := by kernel_rfl
theorem zc88: zeroC Tryz.prog 88=some [.d (.sc (.string (S ([] : Bs)))), .d (.sc (.string (S ([] : Bs)))), .d (.sc (.string (S ([] : Bs)))), .d (.sc (.string (S ([] : Bs)))), .d (.sc (.string (S ([] : Bs)))), .d (.sc (.string (S ([] : Bs)))), .d (.sc (.string (S ([] : Bs)))), .d (.sc (.string (S ([] : Bs))))] := by kernel_rfl
theorem zc9: zeroC Tryz.prog 9=some [.d (.sc (.string (S ([] : Bs))))] := by kernel_rfl
theorem zv3: (zeroP Tryz.prog 3).bind ofV=some (.c (.d (.sc (.int .i64 0)))) := by kernel_rfl
theorem zv45: (zeroP Tryz.prog 45).bind ofV=some (.c (.d (.lst true []))) := by kernel_rfl

theorem ao0: (E0 mm).aown "head.go:132" = false := rfl
theorem hd1: (E0 mm).hard "text.go:39" = true := rfl
theorem hd2: (E0 mm).hard "head.go:134" = false := rfl
theorem nv3: (E0 mm).nw "head.go:134" = false := rfl
theorem rw4: (E0 mm).row "head.go:134" = false := rfl
theorem ns5(hp : Heap)(a0 : Bs): newSlice hp false false 1 1 [.d (.sc (.string (S a0)))]=some (.c (.d (.lst false (enL enS [a0]))), hp) := rfl
theorem ap45{hp : Heap}{k : Nat}{nl : Bool}{a b : List Bs}(hk : hp[k]? = some (.row a.length (rz nl 1))): appendA Tryz.prog false hp 45 (.own nl (enL enS a) k) (enL enS b)=if b=[]∨(a.length+b.length)*16≤140737488355328 then some (.c (.own (nl&&b.isEmpty) (enL enS (a++b)) k), hp.set k (.row (a++b).length (rz (nl&&b.isEmpty) 1))) else none := appendA_own (P := Tryz.prog) (t := 45) enS 1 16 (fun _ => rfl) Tryz.underlying45 sz9 by9 zc9 rfl (by decide) (by decide) (nl := nl) hk (b := b)
theorem hd7: (E0 mm).hard "policy.go:55" = false := rfl
theorem rw8: (E0 mm).row "policy.go:55" = false := rfl
theorem hd9: (E0 mm).hard "ref.go:50" = false := rfl
theorem nv10: (E0 mm).nw "ref.go:50" = false := rfl
theorem rw11: (E0 mm).row "ref.go:50" = false := rfl
theorem ns12(hp : Heap)(a0 : UInt8): newSlice hp false false 1 1 [.d (.sc (.int .u8 (a0.toNat : Int)))]=some (.c (.d (.lst false (enL enB [a0]))), hp) := rfl
theorem ap23{hp : Heap}{k : Nat}{nl : Bool}{a b : List UInt8}(hk : hp[k]? = some (.row a.length (rz nl 1))): appendA Tryz.prog false hp 23 (.own nl (enL enB a) k) (enL enB b)=if b=[]∨(a.length+b.length)*1≤140737488355328 then some (.c (.own (nl&&b.isEmpty) (enL enB (a++b)) k), hp.set k (.row (a++b).length (rz (nl&&b.isEmpty) 1))) else none := appendA_own (P := Tryz.prog) (t := 23) enB 1 1 (fun _ => rfl) Tryz.underlying23 sz5 by5 zc5 rfl (by decide) (by decide) (nl := nl) hk (b := b)
theorem hd14: (E0 mm).hard "ref.go:52" = false := rfl
theorem nv15: (E0 mm).nw "ref.go:52" = false := rfl
theorem rw16: (E0 mm).row "ref.go:52" = false := rfl
theorem hd17: (E0 mm).hard "ref.go:123" = false := rfl
theorem nv18: (E0 mm).nw "ref.go:123" = false := rfl
theorem rw19: (E0 mm).row "ref.go:123" = false := rfl
theorem hd20: (E0 mm).hard "policy.go:29" = false := rfl
theorem nv21: (E0 mm).nw "policy.go:29" = false := rfl
theorem rw22: (E0 mm).row "policy.go:29" = false := rfl
theorem ns23(hp : Heap)(a0 a1 : Bs)(a2 a3 : Bs)(a4 a5 : Bs)(a6 a7 : Bs): newSlice hp false false 1 8 [.d (.sc (.string (S a0))), .d (.sc (.string (S a1))), .d (.sc (.string (S a2))), .d (.sc (.string (S a3))), .d (.sc (.string (S a4))), .d (.sc (.string (S a5))), .d (.sc (.string (S a6))), .d (.sc (.string (S a7)))]=some (.c (.d (.lst false (enL enS [a0, a1, a2, a3, a4, a5, a6, a7]))), hp) := rfl
theorem hd24: (E0 mm).hard "slices.go:362" = true := rfl
theorem nv25: (E0 mm).nw "slices.go:362" = false := rfl
theorem rw26: (E0 mm).row "slices.go:362" = true := rfl
theorem az22{hp : Heap}{k : Nat}{b : List (Bs×Bs)}(hk : hp[k]? = some (.cells [])): type_of% (appendA_hz (P := Tryz.prog) (t := 22) enSS 2 32 (fun _ => rfl) Tryz.underlying22 sz42 by42 zc42 rfl (by decide) (by decide) (hp := hp) (k := k) (b := b) hk) := (appendA_hz (P := Tryz.prog) (t := 22) enSS 2 32 (fun _ => rfl) Tryz.underlying22 sz42 by42 zc42 rfl (by decide) (by decide) (hp := hp) (k := k) (b := b) hk)
theorem ce22{hp : Heap}{k : Nat}(hk : hp[k]? = some (.cells [])): type_of% (clearA_e (P := Tryz.prog) (t := 22) (sz := 2) Tryz.underlying22 sz42 zc42 rfl (by decide) (hp := hp) (k := k) hk) := (clearA_e (P := Tryz.prog) (t := 22) (sz := 2) Tryz.underlying22 sz42 zc42 rfl (by decide) (hp := hp) (k := k) hk)
theorem ao29: (E0 mm).aown "slices.go:248" = false := rfl
theorem wz30(l : List (Bs×Bs))(k : Nat)(h : k<l.length)(a0 a1 : Bs): wr (enZ enSS l) (k*2) [.d (.sc (.string (S a0))), .d (.sc (.string (S a1)))]=enZ enSS (l.set k (a0, a1)) := enZ_wr (f := enSS) (fun _ => rfl) l k (a0, a1) h
theorem cz22{hp : Heap}{k : Nat}{l : List (Bs×Bs)}(hk : hp[k]? = some (.cells (enZ enSS l)))(i m : Nat): type_of% (clearA_z (P := Tryz.prog) (t := 22) (f := enSS) (sz := 2) (fun _ => rfl) Tryz.underlying22 sz42 ((([] : Bs), ([] : Bs))) zc42 (by decide) (hp := hp) (k := k) (l := l) hk i m) := (clearA_z (P := Tryz.prog) (t := 22) (f := enSS) (sz := 2) (fun _ => rfl) Tryz.underlying22 sz42 ((([] : Bs), ([] : Bs))) zc42 (by decide) (hp := hp) (k := k) (l := l) hk i m)
theorem ao32: (E0 mm).aown "ref.go:27" = false := rfl
theorem ar33(k : Nat)(h : k<8): mkV false (([.d (.sc (.string (S ([105, 102, 45, 109, 97, 116, 99, 104] : Bs)))), .d (.sc (.string (S ([105, 102, 45, 110, 111, 110, 101, 45, 109, 97, 116, 99, 104] : Bs)))), .d (.sc (.string (S ([105, 102, 45, 109, 111, 100, 105, 102, 105, 101, 100, 45, 115, 105, 110, 99, 101] : Bs)))), .d (.sc (.string (S ([105, 102, 45, 117, 110, 109, 111, 100, 105, 102, 105, 101, 100, 45, 115, 105, 110, 99, 101] : Bs)))), .d (.sc (.string (S ([105, 102, 45, 114, 97, 110, 103, 101] : Bs)))), .d (.sc (.string (S ([114, 97, 110, 103, 101] : Bs)))), .d (.sc (.string (S ([99, 111, 110, 116, 101, 110, 116, 45, 108, 101, 110, 103, 116, 104] : Bs)))), .d (.sc (.string (S ([116, 114, 97, 110, 115, 102, 101, 114, 45, 101, 110, 99, 111, 100, 105, 110, 103] : Bs))))].drop k).take 1)=some (.c (.d (.sc (.string (S (([([105, 102, 45, 109, 97, 116, 99, 104] : Bs), ([105, 102, 45, 110, 111, 110, 101, 45, 109, 97, 116, 99, 104] : Bs), ([105, 102, 45, 109, 111, 100, 105, 102, 105, 101, 100, 45, 115, 105, 110, 99, 101] : Bs), ([105, 102, 45, 117, 110, 109, 111, 100, 105, 102, 105, 101, 100, 45, 115, 105, 110, 99, 101] : Bs), ([105, 102, 45, 114, 97, 110, 103, 101] : Bs), ([114, 97, 110, 103, 101] : Bs), ([99, 111, 110, 116, 101, 110, 116, 45, 108, 101, 110, 103, 116, 104] : Bs), ([116, 114, 97, 110, 115, 102, 101, 114, 45, 101, 110, 99, 111, 100, 105, 110, 103] : Bs)] : List Bs).getD k default)))))) := arr_get (fun a : Bs => .sc (.string (S a))) ([([105, 102, 45, 109, 97, 116, 99, 104] : Bs), ([105, 102, 45, 110, 111, 110, 101, 45, 109, 97, 116, 99, 104] : Bs), ([105, 102, 45, 109, 111, 100, 105, 102, 105, 101, 100, 45, 115, 105, 110, 99, 101] : Bs), ([105, 102, 45, 117, 110, 109, 111, 100, 105, 102, 105, 101, 100, 45, 115, 105, 110, 99, 101] : Bs), ([105, 102, 45, 114, 97, 110, 103, 101] : Bs), ([114, 97, 110, 103, 101] : Bs), ([99, 111, 110, 116, 101, 110, 116, 45, 108, 101, 110, 103, 116, 104] : Bs), ([116, 114, 97, 110, 115, 102, 101, 114, 45, 101, 110, 99, 111, 100, 105, 110, 103] : Bs)] : List Bs) k h
theorem hd34: (E0 mm).hard "policy.go:39" = false := rfl
theorem nv35: (E0 mm).nw "policy.go:39" = false := rfl
theorem rw36: (E0 mm).row "policy.go:39" = false := rfl
theorem ao37: (E0 mm).aown "control.go:61" = false := rfl
theorem ao38: (E0 mm).aown "text.go:53" = true := rfl
theorem ao39: (E0 mm).aown "text.go:54" = false := rfl
theorem hd40: (E0 mm).hard "text.go:57" = false := rfl
theorem nv41: (E0 mm).nw "text.go:57" = false := rfl
theorem rw42: (E0 mm).row "text.go:57" = false := rfl
theorem hd43: (E0 mm).hard "hop.go:20" = false := rfl
theorem hd44: (E0 mm).hard "text.go:17" = false := rfl
theorem rw45: (E0 mm).row "text.go:17" = false := rfl
theorem hd46: (E0 mm).hard "text.go:110" = false := rfl
theorem nv47: (E0 mm).nw "text.go:110" = false := rfl
theorem rw48: (E0 mm).row "text.go:110" = false := rfl
theorem hd49: (E0 mm).hard "control.go:22" = false := rfl
theorem nv50: (E0 mm).nw "control.go:22" = false := rfl
theorem rw51: (E0 mm).row "control.go:22" = false := rfl
theorem ao45O{kvs : Kvs}{k x : Bs}(h : hasM k kvs=true): type_of% (appendA_O (P := Tryz.prog) (t := 45) (kvs := kvs) (x := x) Tryz.underlying45 sz9 by9 zc9 rfl h) := (appendA_O (P := Tryz.prog) (t := 45) (kvs := kvs) (x := x) Tryz.underlying45 sz9 by9 zc9 rfl h)
theorem ao45O0{kvs : Kvs}{x : Bs}: type_of% (appendA_O0 (P := Tryz.prog) (t := 45) (kvs := kvs) (x := x) Tryz.underlying45 sz9 by9 zc9 rfl) := (appendA_O0 (P := Tryz.prog) (t := 45) (kvs := kvs) (x := x) Tryz.underlying45 sz9 by9 zc9 rfl)
theorem ao54: (E0 mm).aown "control.go:62" = false := rfl
theorem hd55: (E0 mm).hard "control.go:63" = false := rfl
theorem nv56: (E0 mm).nw "control.go:63" = false := rfl
theorem rw57: (E0 mm).row "control.go:63" = false := rfl
theorem ao58: (E0 mm).aown "control.go:63" = false := rfl
theorem hd59: (E0 mm).hard "control.go:44" = true := rfl
theorem nv60: (E0 mm).nw "control.go:44" = false := rfl
theorem rw61: (E0 mm).row "control.go:44" = false := rfl
theorem nh62(hp : Heap)(a0 : Int): newSlice hp true false 1 1 [.d (.sc (.int .i64 a0))]=some (.c (.slc hp.length 0 1 1 (some 1)), hp++[.cells (enI [a0])]) := rfl
theorem shnh62{hp : Heap}{k : Nat}{cap : Option Nat}(a0 : Int)(hk : hp[k]? = some (.cells (enI [a0]))): srcOf hp (.c (.slc k 0 1 1 cap))=some (enL enN [a0]) := listOf_enI (cap := cap) (l := [a0]) hk
theorem ah78hnil{hp : Heap}{b : List Int}: type_of% (appendA_hnil (P := Tryz.prog) (t := 78) (hp := hp) (b := b) Tryz.underlying78 sz3 by3 zc3 rfl) := (appendA_hnil (P := Tryz.prog) (t := 78) (hp := hp) (b := b) Tryz.underlying78 sz3 by3 zc3 rfl)
theorem ah78hslc{hp : Heap}{k : Nat}{l b : List Int}(hk : hp[k]? = some (.cells (enI l))): type_of% (appendA_hslc (P := Tryz.prog) (t := 78) (hp := hp) (b := b) Tryz.underlying78 sz3 by3 zc3 rfl hk) := (appendA_hslc (P := Tryz.prog) (t := 78) (hp := hp) (b := b) Tryz.underlying78 sz3 by3 zc3 rfl hk)
theorem ao65: (E0 mm).aown "ref.go:42" = false := rfl
theorem ao66: (E0 mm).aown "ref.go:43" = false := rfl
theorem hd67: (E0 mm).hard "ref.go:88" = false := rfl
theorem nv68: (E0 mm).nw "ref.go:88" = false := rfl
theorem rw69: (E0 mm).row "ref.go:88" = false := rfl
theorem hd70: (E0 mm).hard "ref.go:15" = false := rfl
theorem ao71: (E0 mm).aown "policy.go:44" = false := rfl
theorem ao72: (E0 mm).aown "ref.go:51" = false := rfl
theorem hd73: (E0 mm).hard "policy.go:34" = false := rfl
theorem nv74: (E0 mm).nw "policy.go:34" = false := rfl
theorem rw75: (E0 mm).row "policy.go:34" = false := rfl
theorem ns76(hp : Heap)(a0 a1 : Bs)(a2 a3 : Bs): newSlice hp false false 1 4 [.d (.sc (.string (S a0))), .d (.sc (.string (S a1))), .d (.sc (.string (S a2))), .d (.sc (.string (S a3)))]=some (.c (.d (.lst false (enL enS [a0, a1, a2, a3]))), hp) := rfl
theorem ao77: (E0 mm).aown "law.go:77" = false := rfl
theorem ao78: (E0 mm).aown "control.go:80" = false := rfl
theorem hd79: (E0 mm).hard "control.go:82" = false := rfl
theorem nv80: (E0 mm).nw "control.go:82" = false := rfl
theorem rw81: (E0 mm).row "control.go:82" = false := rfl
theorem ns82(hp : Heap)(a0 a1 : Bs): newSlice hp false false 1 2 [.d (.sc (.string (S a0))), .d (.sc (.string (S a1)))]=some (.c (.d (.lst false (enL enS [a0, a1]))), hp) := rfl
theorem ao83: (E0 mm).aown "policy.go:116" = false := rfl
theorem ao84: (E0 mm).aown "fresh.go:52" = false := rfl
theorem ao85: (E0 mm).aown "date.go:25" = false := rfl
theorem ar86(k : Nat)(h : k<12): mkV false (([.d (.sc (.int .i64 31)), .d (.sc (.int .i64 28)), .d (.sc (.int .i64 31)), .d (.sc (.int .i64 30)), .d (.sc (.int .i64 31)), .d (.sc (.int .i64 30)), .d (.sc (.int .i64 31)), .d (.sc (.int .i64 31)), .d (.sc (.int .i64 30)), .d (.sc (.int .i64 31)), .d (.sc (.int .i64 30)), .d (.sc (.int .i64 31))].drop k).take 1)=some (.c (.d (.sc (.int .i64 (([(31 : Int), (28 : Int), (31 : Int), (30 : Int), (31 : Int), (30 : Int), (31 : Int), (31 : Int), (30 : Int), (31 : Int), (30 : Int), (31 : Int)] : List Int).getD k default))))) := arr_get (fun a : Int => .sc (.int .i64 a)) ([(31 : Int), (28 : Int), (31 : Int), (30 : Int), (31 : Int), (30 : Int), (31 : Int), (31 : Int), (30 : Int), (31 : Int), (30 : Int), (31 : Int)] : List Int) k h
theorem hd87: (E0 mm).hard "date.go:40" = false := rfl
theorem nv88: (E0 mm).nw "date.go:40" = false := rfl
theorem rw89: (E0 mm).row "date.go:40" = false := rfl
theorem ns90(hp : Heap)(a0 a1 : UInt8): newSlice hp false false 1 2 [.d (.sc (.int .u8 (a0.toNat : Int))), .d (.sc (.int .u8 (a1.toNat : Int)))]=some (.c (.d (.lst false (enL enB [a0, a1]))), hp) := rfl
theorem hd91: (E0 mm).hard "fresh.go:67" = false := rfl
theorem nv92: (E0 mm).nw "fresh.go:67" = false := rfl
theorem rw93: (E0 mm).row "fresh.go:67" = false := rfl
theorem ns94(hp : Heap)(a0 a1 : Int)(a2 a3 : Int)(a4 a5 : Int)(a6 a7 : Int)(a8 a9 a10 : Int): newSlice hp false false 1 11 [.d (.sc (.int .i64 a0)), .d (.sc (.int .i64 a1)), .d (.sc (.int .i64 a2)), .d (.sc (.int .i64 a3)), .d (.sc (.int .i64 a4)), .d (.sc (.int .i64 a5)), .d (.sc (.int .i64 a6)), .d (.sc (.int .i64 a7)), .d (.sc (.int .i64 a8)), .d (.sc (.int .i64 a9)), .d (.sc (.int .i64 a10))]=some (.c (.d (.lst false (enL enN [a0, a1, a2, a3, a4, a5, a6, a7, a8, a9, a10]))), hp) := rfl
theorem hd95: (E0 mm).hard "policy.go:106" = false := rfl
theorem nv96: (E0 mm).nw "policy.go:106" = false := rfl
theorem rw97: (E0 mm).row "policy.go:106" = false := rfl
theorem ns98(hp : Heap)(a0 a1 : Bs): newSlice hp false false 2 1 [.d (.sc (.string (S a0))), .d (.sc (.string (S a1)))]=some (.c (.d (.lst false (enL enSS [(a0, a1)]))), hp) := rfl
theorem an22{hp : Heap}{b : List (Bs×Bs)}: appendA Tryz.prog false hp 22 (.d (.lst true [])) (enL enSS b)=if b.isEmpty=true then some (.c (.d (.lst true [])), hp) else if b.length*32≤140737488355328 then some (.c (.own false (enL enSS b) hp.length), hp++[.row b.length 2]) else none := appendA_nil (P := Tryz.prog) (t := 22) (hp := hp) (b := b) enSS 2 32 (fun _ => rfl) Tryz.underlying22 sz42 by42 zc42 rfl (by decide) (by decide)
theorem hd100: (E0 mm).hard "policy.go:109" = false := rfl
theorem nv101: (E0 mm).nw "policy.go:109" = false := rfl
theorem rw102: (E0 mm).row "policy.go:109" = false := rfl
theorem ap22{hp : Heap}{k : Nat}{nl : Bool}{a b : List (Bs×Bs)}(hk : hp[k]? = some (.row a.length (rz nl 2))): appendA Tryz.prog false hp 22 (.own nl (enL enSS a) k) (enL enSS b)=if b=[]∨(a.length+b.length)*32≤140737488355328 then some (.c (.own (nl&&b.isEmpty) (enL enSS (a++b)) k), hp.set k (.row (a++b).length (rz (nl&&b.isEmpty) 2))) else none := appendA_own (P := Tryz.prog) (t := 22) enSS 2 32 (fun _ => rfl) Tryz.underlying22 sz42 by42 zc42 rfl (by decide) (by decide) (nl := nl) hk (b := b)
theorem hd104: (E0 mm).hard "ref.go:132" = false := rfl
theorem nv105: (E0 mm).nw "ref.go:132" = false := rfl
theorem rw106: (E0 mm).row "ref.go:132" = false := rfl
theorem ar107(k : Nat)(h : k<12): mkV false (([.d (.sc (.string (S ([74, 97, 110] : Bs)))), .d (.sc (.string (S ([70, 101, 98] : Bs)))), .d (.sc (.string (S ([77, 97, 114] : Bs)))), .d (.sc (.string (S ([65, 112, 114] : Bs)))), .d (.sc (.string (S ([77, 97, 121] : Bs)))), .d (.sc (.string (S ([74, 117, 110] : Bs)))), .d (.sc (.string (S ([74, 117, 108] : Bs)))), .d (.sc (.string (S ([65, 117, 103] : Bs)))), .d (.sc (.string (S ([83, 101, 112] : Bs)))), .d (.sc (.string (S ([79, 99, 116] : Bs)))), .d (.sc (.string (S ([78, 111, 118] : Bs)))), .d (.sc (.string (S ([68, 101, 99] : Bs))))].drop k).take 1)=some (.c (.d (.sc (.string (S (([([74, 97, 110] : Bs), ([70, 101, 98] : Bs), ([77, 97, 114] : Bs), ([65, 112, 114] : Bs), ([77, 97, 121] : Bs), ([74, 117, 110] : Bs), ([74, 117, 108] : Bs), ([65, 117, 103] : Bs), ([83, 101, 112] : Bs), ([79, 99, 116] : Bs), ([78, 111, 118] : Bs), ([68, 101, 99] : Bs)] : List Bs).getD k default)))))) := arr_get (fun a : Bs => .sc (.string (S a))) ([([74, 97, 110] : Bs), ([70, 101, 98] : Bs), ([77, 97, 114] : Bs), ([65, 112, 114] : Bs), ([77, 97, 121] : Bs), ([74, 117, 110] : Bs), ([74, 117, 108] : Bs), ([65, 117, 103] : Bs), ([83, 101, 112] : Bs), ([79, 99, 116] : Bs), ([78, 111, 118] : Bs), ([68, 101, 99] : Bs)] : List Bs) k h
theorem ao108: (E0 mm).aown "ref.go:17" = false := rfl
theorem ao109: (E0 mm).aown "ref.go:33" = false := rfl
theorem ar110(k : Nat)(h : k<7): mkV false (([.d (.sc (.string (S ([84, 104, 117] : Bs)))), .d (.sc (.string (S ([70, 114, 105] : Bs)))), .d (.sc (.string (S ([83, 97, 116] : Bs)))), .d (.sc (.string (S ([83, 117, 110] : Bs)))), .d (.sc (.string (S ([77, 111, 110] : Bs)))), .d (.sc (.string (S ([84, 117, 101] : Bs)))), .d (.sc (.string (S ([87, 101, 100] : Bs))))].drop k).take 1)=some (.c (.d (.sc (.string (S (([([84, 104, 117] : Bs), ([70, 114, 105] : Bs), ([83, 97, 116] : Bs), ([83, 117, 110] : Bs), ([77, 111, 110] : Bs), ([84, 117, 101] : Bs), ([87, 101, 100] : Bs)] : List Bs).getD k default)))))) := arr_get (fun a : Bs => .sc (.string (S a))) ([([84, 104, 117] : Bs), ([70, 114, 105] : Bs), ([83, 97, 116] : Bs), ([83, 117, 110] : Bs), ([77, 111, 110] : Bs), ([84, 117, 101] : Bs), ([87, 101, 100] : Bs)] : List Bs) k h
theorem hd111: (E0 mm).hard "ref.go:136" = false := rfl
theorem nv112: (E0 mm).nw "ref.go:136" = false := rfl
theorem rw113: (E0 mm).row "ref.go:136" = false := rfl
theorem ao114: (E0 mm).aown "ref.go:86" = false := rfl
theorem ao115: (E0 mm).aown "ref.go:87" = false := rfl
theorem ao116: (E0 mm).aown "ref.go:147" = false := rfl
theorem ao117: (E0 mm).aown "ref.go:69" = false := rfl
theorem hd118: (E0 mm).hard "ref.go:24" = false := rfl
theorem nv119: (E0 mm).nw "ref.go:24" = false := rfl
theorem rw120: (E0 mm).row "ref.go:24" = false := rfl
theorem ao121: (E0 mm).aown "outright.go:83" = false := rfl
theorem ao122: (E0 mm).aown "outright.go:90" = false := rfl
theorem ao123: (E0 mm).aown "outright.go:92" = false := rfl
theorem ao124: (E0 mm).aown "outright.go:136" = false := rfl
theorem hd125: (E0 mm).hard "outright.go:137" = false := rfl
theorem ao126: (E0 mm).aown "outright.go:100" = false := rfl
theorem hd127: (E0 mm).hard "outright.go:102" = false := rfl
theorem nv128: (E0 mm).nw "outright.go:102" = false := rfl
theorem rw129: (E0 mm).row "outright.go:102" = false := rfl
theorem ao130: (E0 mm).aown "outright.go:102" = false := rfl
theorem ao131: (E0 mm).aown "law.go:12" = false := rfl
theorem ao132: (E0 mm).aown "outright.go:114" = false := rfl
theorem hd133: (E0 mm).hard "outright.go:115" = false := rfl
theorem nv134: (E0 mm).nw "outright.go:115" = false := rfl
theorem rw135: (E0 mm).row "outright.go:115" = false := rfl
theorem ao136: (E0 mm).aown "law.go:64" = false := rfl
theorem hd137: (E0 mm).hard "law.go:65" = false := rfl
theorem hd138: (E0 mm).hard "law.go:66" = false := rfl
theorem ao139: (E0 mm).aown "policy.go:89" = false := rfl
theorem hd140: (E0 mm).hard "vary.go:24" = false := rfl
theorem nv141: (E0 mm).nw "vary.go:24" = false := rfl
theorem rw142: (E0 mm).row "vary.go:24" = false := rfl
theorem ao143: (E0 mm).aown "policy.go:90" = false := rfl
theorem hd144: (E0 mm).hard "policy.go:99" = true := rfl
theorem nv145: (E0 mm).nw "policy.go:99" = false := rfl
theorem rw146: (E0 mm).row "policy.go:99" = false := rfl
theorem nc147(hp : Heap)(c0 c1 c2 c3 c4 : C): newSlice hp true false 1 5 [c0, c1, c2, c3, c4]=some (.c (.slc hp.length 0 1 5 (some 5)), hp++[.cells [c0, c1, c2, c3, c4]]) := rfl
theorem hd148: (E0 mm).hard "policy.go:84" = false := rfl
theorem nv149: (E0 mm).nw "policy.go:84" = false := rfl
theorem rw150: (E0 mm).row "policy.go:84" = false := rfl
theorem hd151: (E0 mm).hard "policy.go:93" = false := rfl
theorem nv152: (E0 mm).nw "policy.go:93" = false := rfl
theorem rw153: (E0 mm).row "policy.go:93" = false := rfl
theorem ao154: (E0 mm).aown "ref.go:104" = false := rfl
theorem hd155: (E0 mm).hard "ref.go:26" = false := rfl
theorem nv156: (E0 mm).nw "ref.go:26" = false := rfl
theorem rw157: (E0 mm).row "ref.go:26" = false := rfl
theorem ao158: (E0 mm).aown "ref.go:23" = false := rfl
theorem ar159(k : Nat)(h : k<22): mkV false (([.d (.sc (.string (S ([97, 103, 101] : Bs)))), .d (.sc (.string (S ([97, 117, 116, 104, 111, 114, 105, 122, 97, 116, 105, 111, 110] : Bs)))), .d (.sc (.string (S ([99, 97, 99, 104, 101, 45, 99, 111, 110, 116, 114, 111, 108] : Bs)))), .d (.sc (.string (S ([99, 111, 110, 116, 101, 110, 116, 45, 101, 110, 99, 111, 100, 105, 110, 103] : Bs)))), .d (.sc (.string (S ([99, 111, 110, 116, 101, 110, 116, 45, 108, 111, 99, 97, 116, 105, 111, 110] : Bs)))), .d (.sc (.string (S ([99, 111, 110, 116, 101, 110, 116, 45, 114, 97, 110, 103, 101] : Bs)))), .d (.sc (.string (S ([99, 111, 110, 116, 101, 110, 116, 45, 116, 121, 112, 101] : Bs)))), .d (.sc (.string (S ([100, 97, 116, 101] : Bs)))), .d (.sc (.string (S ([101, 116, 97, 103] : Bs)))), .d (.sc (.string (S ([101, 120, 112, 105, 114, 101, 115] : Bs)))), .d (.sc (.string (S ([104, 111, 115, 116] : Bs)))), .d (.sc (.string (S ([105, 102, 45, 109, 97, 116, 99, 104] : Bs)))), .d (.sc (.string (S ([105, 102, 45, 109, 111, 100, 105, 102, 105, 101, 100, 45, 115, 105, 110, 99, 101] : Bs)))), .d (.sc (.string (S ([105, 102, 45, 110, 111, 110, 101, 45, 109, 97, 116, 99, 104] : Bs)))), .d (.sc (.string (S ([105, 102, 45, 114, 97, 110, 103, 101] : Bs)))), .d (.sc (.string (S ([105, 102, 45, 117, 110, 109, 111, 100, 105, 102, 105, 101, 100, 45, 115, 105, 110, 99, 101] : Bs)))), .d (.sc (.string (S ([108, 97, 115, 116, 45, 109, 111, 100, 105, 102, 105, 101, 100] : Bs)))), .d (.sc (.string (S ([108, 111, 99, 97, 116, 105, 111, 110] : Bs)))), .d (.sc (.string (S ([112, 114, 97, 103, 109, 97] : Bs)))), .d (.sc (.string (S ([114, 97, 110, 103, 101] : Bs)))), .d (.sc (.string (S ([118, 97, 114, 121] : Bs)))), .d (.sc (.string (S ([118, 105, 97] : Bs))))].drop k).take 1)=some (.c (.d (.sc (.string (S (([([97, 103, 101] : Bs), ([97, 117, 116, 104, 111, 114, 105, 122, 97, 116, 105, 111, 110] : Bs), ([99, 97, 99, 104, 101, 45, 99, 111, 110, 116, 114, 111, 108] : Bs), ([99, 111, 110, 116, 101, 110, 116, 45, 101, 110, 99, 111, 100, 105, 110, 103] : Bs), ([99, 111, 110, 116, 101, 110, 116, 45, 108, 111, 99, 97, 116, 105, 111, 110] : Bs), ([99, 111, 110, 116, 101, 110, 116, 45, 114, 97, 110, 103, 101] : Bs), ([99, 111, 110, 116, 101, 110, 116, 45, 116, 121, 112, 101] : Bs), ([100, 97, 116, 101] : Bs), ([101, 116, 97, 103] : Bs), ([101, 120, 112, 105, 114, 101, 115] : Bs), ([104, 111, 115, 116] : Bs), ([105, 102, 45, 109, 97, 116, 99, 104] : Bs), ([105, 102, 45, 109, 111, 100, 105, 102, 105, 101, 100, 45, 115, 105, 110, 99, 101] : Bs), ([105, 102, 45, 110, 111, 110, 101, 45, 109, 97, 116, 99, 104] : Bs), ([105, 102, 45, 114, 97, 110, 103, 101] : Bs), ([105, 102, 45, 117, 110, 109, 111, 100, 105, 102, 105, 101, 100, 45, 115, 105, 110, 99, 101] : Bs), ([108, 97, 115, 116, 45, 109, 111, 100, 105, 102, 105, 101, 100] : Bs), ([108, 111, 99, 97, 116, 105, 111, 110] : Bs), ([112, 114, 97, 103, 109, 97] : Bs), ([114, 97, 110, 103, 101] : Bs), ([118, 97, 114, 121] : Bs), ([118, 105, 97] : Bs)] : List Bs).getD k default)))))) := arr_get (fun a : Bs => .sc (.string (S a))) ([([97, 103, 101] : Bs), ([97, 117, 116, 104, 111, 114, 105, 122, 97, 116, 105, 111, 110] : Bs), ([99, 97, 99, 104, 101, 45, 99, 111, 110, 116, 114, 111, 108] : Bs), ([99, 111, 110, 116, 101, 110, 116, 45, 101, 110, 99, 111, 100, 105, 110, 103] : Bs), ([99, 111, 110, 116, 101, 110, 116, 45, 108, 111, 99, 97, 116, 105, 111, 110] : Bs), ([99, 111, 110, 116, 101, 110, 116, 45, 114, 97, 110, 103, 101] : Bs), ([99, 111, 110, 116, 101, 110, 116, 45, 116, 121, 112, 101] : Bs), ([100, 97, 116, 101] : Bs), ([101, 116, 97, 103] : Bs), ([101, 120, 112, 105, 114, 101, 115] : Bs), ([104, 111, 115, 116] : Bs), ([105, 102, 45, 109, 97, 116, 99, 104] : Bs), ([105, 102, 45, 109, 111, 100, 105, 102, 105, 101, 100, 45, 115, 105, 110, 99, 101] : Bs), ([105, 102, 45, 110, 111, 110, 101, 45, 109, 97, 116, 99, 104] : Bs), ([105, 102, 45, 114, 97, 110, 103, 101] : Bs), ([105, 102, 45, 117, 110, 109, 111, 100, 105, 102, 105, 101, 100, 45, 115, 105, 110, 99, 101] : Bs), ([108, 97, 115, 116, 45, 109, 111, 100, 105, 102, 105, 101, 100] : Bs), ([108, 111, 99, 97, 116, 105, 111, 110] : Bs), ([112, 114, 97, 103, 109, 97] : Bs), ([114, 97, 110, 103, 101] : Bs), ([118, 97, 114, 121] : Bs), ([118, 105, 97] : Bs)] : List Bs) k h
theorem ao160: (E0 mm).aown "ref.go:90" = false := rfl
theorem ar161(k : Nat)(h : k<11): mkV false (([.d (.sc (.int .i64 200)), .d (.sc (.int .i64 203)), .d (.sc (.int .i64 204)), .d (.sc (.int .i64 300)), .d (.sc (.int .i64 301)), .d (.sc (.int .i64 308)), .d (.sc (.int .i64 404)), .d (.sc (.int .i64 405)), .d (.sc (.int .i64 410)), .d (.sc (.int .i64 414)), .d (.sc (.int .i64 501))].drop k).take 1)=some (.c (.d (.sc (.int .i64 (([(200 : Int), (203 : Int), (204 : Int), (300 : Int), (301 : Int), (308 : Int), (404 : Int), (405 : Int), (410 : Int), (414 : Int), (501 : Int)] : List Int).getD k default))))) := arr_get (fun a : Int => .sc (.int .i64 a)) ([(200 : Int), (203 : Int), (204 : Int), (300 : Int), (301 : Int), (308 : Int), (404 : Int), (405 : Int), (410 : Int), (414 : Int), (501 : Int)] : List Int) k h
theorem eqg42neq(x y : Operand)(a0 : ByteArray)(a1 : ByteArray)(b0 : ByteArray)(b1 : ByteArray): evalS Tryz.prog (eqGuard .neq 42 x y (.agg #[.string a0, .string a1]) (.agg #[.string b0, .string b1]))=some () := by kernel_rfl
theorem eqg42eql(x y : Operand)(a0 : ByteArray)(a1 : ByteArray)(b0 : ByteArray)(b1 : ByteArray): evalS Tryz.prog (eqGuard .eql 42 x y (.agg #[.string a0, .string a1]) (.agg #[.string b0, .string b1]))=some () := by kernel_rfl
theorem eqh42: Tryz.prog.stoodInHeld 42=false := by kernel_rfl
theorem eqp42_0(c : Value)(a0 : ByteArray)(a1 : ByteArray): evalS Tryz.prog (part 9 #[.string a0, .string a1] 0)=some (.string a0) := by kernel_rfl
theorem eqq42_0(d : Nat)(a b : ByteArray): evalS Tryz.prog (Op.equalIn (d+1) 9 (.string a) (.string b))=some (a==b) := by kernel_rfl
theorem eqp42_1(c : Value)(a0 : ByteArray)(a1 : ByteArray): evalS Tryz.prog (part 9 #[.string a0, .string a1] 1)=some (.string a1) := by kernel_rfl
theorem eqq42_1(d : Nat)(a b : ByteArray): evalS Tryz.prog (Op.equalIn (d+1) 9 (.string a) (.string b))=some (a==b) := by kernel_rfl
theorem eqe42(D : Nat)(a0 : ByteArray)(a1 : ByteArray)(b0 : ByteArray)(b1 : ByteArray): evalS Tryz.prog (Op.equalIn (D+2) 42 (.agg #[.string a0, .string a1]) (.agg #[.string b0, .string b1]))=some ((a0==b0&&a1==b1)) := by
  unfold Op.equalIn
  simp only[evalS_bind, underlying, ev_program, Option.bind_some, Tryz.underlying42, evalS_pure, eqh42, Bool.false_eq_true, if_false]
  simp only[evalS_bind, evalS_pure, List.forIn_toArray, bind_pure_comp, List.forIn_cons, List.forIn_nil, ne_eq, String.reduceEq, not_false_eq_true, if_true, eqp42_0 .nilIface, eqp42_1 .nilIface, eqq42_0, eqq42_1, Option.bind_some]
  cases h0 : (a0==b0)
  · simp only[Bool.not_true, Bool.not_false, Bool.false_eq_true, if_true, if_false, evalS_bind, evalS_pure, Option.bind_some, eqp42_0 .nilIface, eqp42_1 .nilIface, eqq42_0, eqq42_1, h0]
    rfl
  · cases h1 : (a1==b1)
    · simp only[Bool.not_true, Bool.not_false, Bool.false_eq_true, if_true, if_false, evalS_bind, evalS_pure, Option.bind_some, eqp42_0 .nilIface, eqp42_1 .nilIface, eqq42_0, eqq42_1, h0, h1]
      rfl
    · simp only[Bool.not_true, Bool.not_false, Bool.false_eq_true, if_true, if_false, evalS_bind, evalS_pure, Option.bind_some, eqp42_0 .nilIface, eqp42_1 .nilIface, eqq42_0, eqq42_1, h0, h1]
      rfl
theorem eqs42n(x y : Operand)(a0 a1 : Bs)(b0 b1 : Bs): evalS Tryz.prog (do eqGuard .neq 42 x y (.agg #[.string (S a0), .string (S a1)]) (.agg #[.string (S b0), .string (S b1)]);binOp .neq 42 (.agg #[.string (S a0), .string (S a1)]) (.agg #[.string (S b0), .string (S b1)]))=some (.bool (!((a0==b0&&a1==b1)))) := by
  have : binOp .neq 42 (.agg #[.string (S a0), .string (S a1)]) (.agg #[.string (S b0), .string (S b1)])=(do pure (.bool (!(← Op.equal 42 (.agg #[.string (S a0), .string (S a1)]) (.agg #[.string (S b0), .string (S b1)]))))) := rfl
  simp only[evalS_bind, eqg42neq, Option.bind_some, this, Op.equal]
  rw[show Op.maxDepth=9998+2 from rfl, eqe42]
  try simp only[S_beq]
  rfl
theorem eqs42e(x y : Operand)(a0 a1 : Bs)(b0 b1 : Bs): evalS Tryz.prog (do eqGuard .eql 42 x y (.agg #[.string (S a0), .string (S a1)]) (.agg #[.string (S b0), .string (S b1)]);binOp .eql 42 (.agg #[.string (S a0), .string (S a1)]) (.agg #[.string (S b0), .string (S b1)]))=some (.bool ((a0==b0&&a1==b1))) := by
  have : binOp .eql 42 (.agg #[.string (S a0), .string (S a1)]) (.agg #[.string (S b0), .string (S b1)])=(do pure (.bool ((← Op.equal 42 (.agg #[.string (S a0), .string (S a1)]) (.agg #[.string (S b0), .string (S b1)]))))) := rfl
  simp only[evalS_bind, eqg42eql, Option.bind_some, this, Op.equal]
  rw[show Op.maxDepth=9998+2 from rfl, eqe42]
  try simp only[S_beq]
  rfl
theorem ao163: (E0 mm).aown "outright.go:17" = false := rfl
theorem hd164: (E0 mm).hard "outright.go:18" = false := rfl
theorem nv165: (E0 mm).nw "outright.go:18" = false := rfl
theorem rw166: (E0 mm).row "outright.go:18" = false := rfl
theorem ao167: (E0 mm).aown "outright.go:19" = false := rfl
theorem hd168: (E0 mm).hard "outright.go:20" = false := rfl
theorem nv169: (E0 mm).nw "outright.go:20" = false := rfl
theorem rw170: (E0 mm).row "outright.go:20" = false := rfl
theorem ao171: (E0 mm).aown "outright.go:21" = false := rfl
theorem hd172: (E0 mm).hard "outright.go:22" = false := rfl
theorem nv173: (E0 mm).nw "outright.go:22" = false := rfl
theorem rw174: (E0 mm).row "outright.go:22" = false := rfl
theorem ao175: (E0 mm).aown "outright.go:23" = false := rfl
theorem hd176: (E0 mm).hard "outright.go:24" = false := rfl
theorem nv177: (E0 mm).nw "outright.go:24" = false := rfl
theorem rw178: (E0 mm).row "outright.go:24" = false := rfl
theorem ao179: (E0 mm).aown "outright.go:28" = false := rfl
theorem hd180: (E0 mm).hard "outright.go:29" = false := rfl
theorem nv181: (E0 mm).nw "outright.go:29" = false := rfl
theorem rw182: (E0 mm).row "outright.go:29" = false := rfl
theorem ao183: (E0 mm).aown "outright.go:30" = false := rfl
theorem hd184: (E0 mm).hard "outright.go:31" = false := rfl
theorem nv185: (E0 mm).nw "outright.go:31" = false := rfl
theorem rw186: (E0 mm).row "outright.go:31" = false := rfl
theorem ao187: (E0 mm).aown "outright.go:32" = false := rfl
theorem hd188: (E0 mm).hard "outright.go:33" = false := rfl
theorem nv189: (E0 mm).nw "outright.go:33" = false := rfl
theorem rw190: (E0 mm).row "outright.go:33" = false := rfl
theorem ao191: (E0 mm).aown "outright.go:34" = false := rfl
theorem hd192: (E0 mm).hard "outright.go:35" = false := rfl
theorem nv193: (E0 mm).nw "outright.go:35" = true := rfl
theorem rw194: (E0 mm).row "outright.go:35" = false := rfl
theorem ao195: (E0 mm).aown "outright.go:42" = false := rfl
theorem ao196: (E0 mm).aown "outright.go:54" = false := rfl
theorem hd197: (E0 mm).hard "outright.go:55" = false := rfl
theorem nv198: (E0 mm).nw "outright.go:55" = false := rfl
theorem rw199: (E0 mm).row "outright.go:55" = false := rfl
theorem ao200: (E0 mm).aown "outright.go:61" = false := rfl
theorem hd201: (E0 mm).hard "outright.go:62" = false := rfl
theorem nv202: (E0 mm).nw "outright.go:62" = false := rfl
theorem rw203: (E0 mm).row "outright.go:62" = false := rfl
end
end Go.Proofs.YtbkobjepahlegaaGreatDoor
