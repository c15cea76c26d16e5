/-
  Part of the proof of statement 5
-/
import Derived.Test.YtbndcmnnbiiobaaGreatDoorA08
import Derived.Test.YtbndcmnnbiiobaaGreatDoorA06
import Derived.Test.YtbndcmnnbiiobaaGreatDoorA07
import Derived.Test.YtbndcmnnbiiobaaGreatDoorA05
import Derived.Test.YtbndcmnnbiiobaaGreatDoorProg
import Derived.Shelf.SlSortCmp.NoneTotal
import Derived.Ground.SlsfProg
import Derived.Shelf.Strings.OnBuilder
import Derived.Shelf.Strings.Count
import Derived.Shelf.Strings.Search3
import Derived.Shelf.LaysM
import Derived.Shelf.Strconv.Itoa3
import Derived.Shelf.Strings.Repeat
import Derived.Shelf.Strings.Prefix
set_option linter.unusedVariables false
set_option maxRecDepth 100000
set_option maxHeartbeats 16000000
namespace Go.Proofs
open Go.Shelf
def Tryz.uy:Go.Shelf.Ren:=⟨fun |6=>192|15=>231|14=>230|28=>143|29=>254|20=>246|21=>247|22=>248|23=>249|24=>250|25=>251|26=>252|27=>253|46=>284|47=>285|48=>286|49=>287|50=>288|57=>302|n=>n,fun |22=>179|24=>183|25=>224|3=>3|39=>100|0=>0|53=>53|55=>98|4=>4|46=>275|45=>274|50=>80|5=>5|9=>9|66=>293|70=>297|76=>305|77=>306|n=>n,fun |n=>n⟩
theorem Tryz.aEj:Go.Proofs.SlLaysF0.n6 Tryz.prog Tryz.uy:={
 mixed:=by kernel_rfl
 f6:=⟨Tryz.f192.name,by decide,Tryz.func192.trans (Ao some (by kernel_rfl))⟩
 f14:=⟨Tryz.f230.name,by decide,Tryz.func230.trans (Ao some (by kernel_rfl))⟩
 f15:=Tryz.func231.trans (Ao some (by kernel_rfl))
 f20:=⟨Tryz.f246.name,by decide,Tryz.func246.trans (Ao some (by kernel_rfl))⟩
 f21:=⟨Tryz.f247.name,by decide,Tryz.func247.trans (Ao some (by kernel_rfl))⟩
 f22:=⟨Tryz.f248.name,by decide,Tryz.func248.trans (Ao some (by kernel_rfl))⟩
 f23:=⟨Tryz.f249.name,by decide,Tryz.func249.trans (Ao some (by kernel_rfl))⟩
 f24:=⟨Tryz.f250.name,by decide,Tryz.func250.trans (Ao some (by kernel_rfl))⟩
 f25:=⟨Tryz.f251.name,by decide,Tryz.func251.trans (Ao some (by kernel_rfl))⟩
 f26:=⟨Tryz.f252.name,by decide,Tryz.func252.trans (Ao some (by kernel_rfl))⟩
 f27:=⟨Tryz.f253.name,by decide,Tryz.func253.trans (Ao some (by kernel_rfl))⟩
 f28:=Tryz.func143.trans (Ao some (by kernel_rfl))
 f29:=Tryz.func254.trans (Ao some (by kernel_rfl))
 f46:=⟨Tryz.f284.name,by decide,Tryz.func284.trans (Ao some (by kernel_rfl))⟩
 f47:=Tryz.func285.trans (Ao some (by kernel_rfl))
 f48:=Tryz.func286.trans (Ao some (by kernel_rfl))
 f49:=⟨Tryz.f287.name,by decide,Tryz.func287.trans (Ao some (by kernel_rfl))⟩
 f50:=⟨Tryz.f288.name,by decide,Tryz.func288.trans (Ao some (by kernel_rfl))⟩
 f57:=⟨Tryz.f302.name,by decide,Tryz.func302.trans (Ao some (by kernel_rfl))⟩
 t0:=Tryz.underlying0
 a0:=Tryz.isAgg0
 z0:=Tryz.sizeOf0
 v0:=Tryz.zeroValue0
 t3:=Tryz.underlying3
 a3:=Tryz.isAgg3
 z3:=Tryz.sizeOf3
 v3:=Tryz.zeroValue3
 t4:=Tryz.underlying4
 a4:=Tryz.isAgg4
 z4:=Tryz.sizeOf4
 v4:=Tryz.zeroValue4
 t5:=Tryz.underlying5
 a5:=Tryz.isAgg5
 z5:=Tryz.sizeOf5
 v5:=Tryz.zeroValue5
 t9:=Tryz.underlying9
 a9:=Tryz.isAgg9
 z9:=Tryz.sizeOf9
 v9:=Tryz.zeroValue9
 t22:=Tryz.underlying179
 a22:=Tryz.isAgg179
 z22:=Tryz.sizeOf179
 v22:=Tryz.zeroValue179
 t25:=Tryz.underlying224
 a25:=Tryz.isAgg224
 z25:=Tryz.sizeOf224
 v25:=Tryz.zeroValue224
 t39:=Tryz.underlying100
 a39:=Tryz.isAgg100
 z39:=Tryz.sizeOf100
 v39:=Tryz.zeroValue100
 t45:=Tryz.underlying274
 a45:=Tryz.isAgg274
 z45:=Tryz.sizeOf274
 v45:=Tryz.zeroValue274
 t46:=Tryz.underlying275
 a46:=Tryz.isAgg275
 z46:=Tryz.sizeOf275
 v46:=Tryz.zeroValue275
 t50:=Tryz.underlying80
 a50:=Tryz.isAgg80
 z50:=Tryz.sizeOf80
 v50:=Tryz.zeroValue80
 t53:=Tryz.underlying53
 a53:=Tryz.isAgg53
 z53:=Tryz.sizeOf53
 v53:=Tryz.zeroValue53
 t55:=Tryz.underlying98
 a55:=Tryz.isAgg98
 z55:=Tryz.sizeOf98
 v55:=Tryz.zeroValue98
 t66:=Tryz.underlying293
 a66:=Tryz.isAgg293
 z66:=Tryz.sizeOf293
 v66:=Tryz.zeroValue293
 t70:=Tryz.underlying297
 a70:=Tryz.isAgg297
 z70:=Tryz.sizeOf297
 v70:=Tryz.zeroValue297
 t76:=Tryz.underlying305
 a76:=Tryz.isAgg305
 z76:=Tryz.sizeOf305
 v76:=Tryz.zeroValue305
 t77:=Tryz.underlying306
 a77:=Tryz.isAgg306
 z77:=Tryz.sizeOf306
 v77:=Tryz.zeroValue306}
def Tryz.ux:Go.Shelf.Ren:=⟨fun |6=>216|15=>231|14=>239|28=>143|29=>254|20=>264|21=>265|22=>266|23=>267|24=>268|25=>269|26=>270|27=>271|46=>294|47=>285|48=>286|49=>295|50=>296|57=>304|n=>n,fun |22=>192|24=>23|25=>244|3=>3|39=>100|0=>0|53=>53|55=>98|4=>4|46=>275|45=>274|50=>80|5=>5|9=>9|66=>293|70=>297|76=>305|77=>306|n=>n,fun |n=>n⟩
theorem Tryz.aMk:Go.Proofs.SlLaysF0.n6 Tryz.prog Tryz.ux:={
 mixed:=by kernel_rfl
 f6:=⟨Tryz.f216.name,by decide,Tryz.func216.trans (Ao some (by kernel_rfl))⟩
 f14:=⟨Tryz.f239.name,by decide,Tryz.func239.trans (Ao some (by kernel_rfl))⟩
 f15:=Tryz.func231.trans (Ao some (by kernel_rfl))
 f20:=⟨Tryz.f264.name,by decide,Tryz.func264.trans (Ao some (by kernel_rfl))⟩
 f21:=⟨Tryz.f265.name,by decide,Tryz.func265.trans (Ao some (by kernel_rfl))⟩
 f22:=⟨Tryz.f266.name,by decide,Tryz.func266.trans (Ao some (by kernel_rfl))⟩
 f23:=⟨Tryz.f267.name,by decide,Tryz.func267.trans (Ao some (by kernel_rfl))⟩
 f24:=⟨Tryz.f268.name,by decide,Tryz.func268.trans (Ao some (by kernel_rfl))⟩
 f25:=⟨Tryz.f269.name,by decide,Tryz.func269.trans (Ao some (by kernel_rfl))⟩
 f26:=⟨Tryz.f270.name,by decide,Tryz.func270.trans (Ao some (by kernel_rfl))⟩
 f27:=⟨Tryz.f271.name,by decide,Tryz.func271.trans (Ao some (by kernel_rfl))⟩
 f28:=Tryz.func143.trans (Ao some (by kernel_rfl))
 f29:=Tryz.func254.trans (Ao some (by kernel_rfl))
 f46:=⟨Tryz.f294.name,by decide,Tryz.func294.trans (Ao some (by kernel_rfl))⟩
 f47:=Tryz.func285.trans (Ao some (by kernel_rfl))
 f48:=Tryz.func286.trans (Ao some (by kernel_rfl))
 f49:=⟨Tryz.f295.name,by decide,Tryz.func295.trans (Ao some (by kernel_rfl))⟩
 f50:=⟨Tryz.f296.name,by decide,Tryz.func296.trans (Ao some (by kernel_rfl))⟩
 f57:=⟨Tryz.f304.name,by decide,Tryz.func304.trans (Ao some (by kernel_rfl))⟩
 t0:=Tryz.underlying0
 a0:=Tryz.isAgg0
 z0:=Tryz.sizeOf0
 v0:=Tryz.zeroValue0
 t3:=Tryz.underlying3
 a3:=Tryz.isAgg3
 z3:=Tryz.sizeOf3
 v3:=Tryz.zeroValue3
 t4:=Tryz.underlying4
 a4:=Tryz.isAgg4
 z4:=Tryz.sizeOf4
 v4:=Tryz.zeroValue4
 t5:=Tryz.underlying5
 a5:=Tryz.isAgg5
 z5:=Tryz.sizeOf5
 v5:=Tryz.zeroValue5
 t9:=Tryz.underlying9
 a9:=Tryz.isAgg9
 z9:=Tryz.sizeOf9
 v9:=Tryz.zeroValue9
 t22:=Tryz.underlying192
 a22:=Tryz.isAgg192
 z22:=Tryz.sizeOf192
 v22:=Tryz.zeroValue192
 t25:=Tryz.underlying244
 a25:=Tryz.isAgg244
 z25:=Tryz.sizeOf244
 v25:=Tryz.zeroValue244
 t39:=Tryz.underlying100
 a39:=Tryz.isAgg100
 z39:=Tryz.sizeOf100
 v39:=Tryz.zeroValue100
 t45:=Tryz.underlying274
 a45:=Tryz.isAgg274
 z45:=Tryz.sizeOf274
 v45:=Tryz.zeroValue274
 t46:=Tryz.underlying275
 a46:=Tryz.isAgg275
 z46:=Tryz.sizeOf275
 v46:=Tryz.zeroValue275
 t50:=Tryz.underlying80
 a50:=Tryz.isAgg80
 z50:=Tryz.sizeOf80
 v50:=Tryz.zeroValue80
 t53:=Tryz.underlying53
 a53:=Tryz.isAgg53
 z53:=Tryz.sizeOf53
 v53:=Tryz.zeroValue53
 t55:=Tryz.underlying98
 a55:=Tryz.isAgg98
 z55:=Tryz.sizeOf98
 v55:=Tryz.zeroValue98
 t66:=Tryz.underlying293
 a66:=Tryz.isAgg293
 z66:=Tryz.sizeOf293
 v66:=Tryz.zeroValue293
 t70:=Tryz.underlying297
 a70:=Tryz.isAgg297
 z70:=Tryz.sizeOf297
 v70:=Tryz.zeroValue297
 t76:=Tryz.underlying305
 a76:=Tryz.isAgg305
 z76:=Tryz.sizeOf305
 v76:=Tryz.zeroValue305
 t77:=Tryz.underlying306
 a77:=Tryz.isAgg306
 z77:=Tryz.sizeOf306
 v77:=Tryz.zeroValue306}
def Tryz.uz:Go.Shelf.Ren:=⟨fun |6=>226|15=>231|14=>245|28=>143|29=>254|20=>276|21=>277|22=>278|23=>279|24=>280|25=>281|26=>282|27=>283|46=>299|47=>285|48=>286|49=>300|50=>301|57=>305|n=>n,fun |22=>42|24=>46|25=>218|3=>3|39=>100|0=>0|53=>53|55=>98|4=>4|46=>275|45=>274|50=>80|5=>5|9=>9|66=>293|70=>297|76=>305|77=>306|n=>n,fun |n=>n⟩
theorem Tryz.aEl:Go.Proofs.SlLaysF0.n6 Tryz.prog Tryz.uz:={
 mixed:=by kernel_rfl
 f6:=⟨Tryz.f226.name,by decide,Tryz.func226.trans (Ao some (by kernel_rfl))⟩
 f14:=⟨Tryz.f245.name,by decide,Tryz.func245.trans (Ao some (by kernel_rfl))⟩
 f15:=Tryz.func231.trans (Ao some (by kernel_rfl))
 f20:=⟨Tryz.f276.name,by decide,Tryz.func276.trans (Ao some (by kernel_rfl))⟩
 f21:=⟨Tryz.f277.name,by decide,Tryz.func277.trans (Ao some (by kernel_rfl))⟩
 f22:=⟨Tryz.f278.name,by decide,Tryz.func278.trans (Ao some (by kernel_rfl))⟩
 f23:=⟨Tryz.f279.name,by decide,Tryz.func279.trans (Ao some (by kernel_rfl))⟩
 f24:=⟨Tryz.f280.name,by decide,Tryz.func280.trans (Ao some (by kernel_rfl))⟩
 f25:=⟨Tryz.f281.name,by decide,Tryz.func281.trans (Ao some (by kernel_rfl))⟩
 f26:=⟨Tryz.f282.name,by decide,Tryz.func282.trans (Ao some (by kernel_rfl))⟩
 f27:=⟨Tryz.f283.name,by decide,Tryz.func283.trans (Ao some (by kernel_rfl))⟩
 f28:=Tryz.func143.trans (Ao some (by kernel_rfl))
 f29:=Tryz.func254.trans (Ao some (by kernel_rfl))
 f46:=⟨Tryz.f299.name,by decide,Tryz.func299.trans (Ao some (by kernel_rfl))⟩
 f47:=Tryz.func285.trans (Ao some (by kernel_rfl))
 f48:=Tryz.func286.trans (Ao some (by kernel_rfl))
 f49:=⟨Tryz.f300.name,by decide,Tryz.func300.trans (Ao some (by kernel_rfl))⟩
 f50:=⟨Tryz.f301.name,by decide,Tryz.func301.trans (Ao some (by kernel_rfl))⟩
 f57:=⟨Tryz.f305.name,by decide,Tryz.func305.trans (Ao some (by kernel_rfl))⟩
 t0:=Tryz.underlying0
 a0:=Tryz.isAgg0
 z0:=Tryz.sizeOf0
 v0:=Tryz.zeroValue0
 t3:=Tryz.underlying3
 a3:=Tryz.isAgg3
 z3:=Tryz.sizeOf3
 v3:=Tryz.zeroValue3
 t4:=Tryz.underlying4
 a4:=Tryz.isAgg4
 z4:=Tryz.sizeOf4
 v4:=Tryz.zeroValue4
 t5:=Tryz.underlying5
 a5:=Tryz.isAgg5
 z5:=Tryz.sizeOf5
 v5:=Tryz.zeroValue5
 t9:=Tryz.underlying9
 a9:=Tryz.isAgg9
 z9:=Tryz.sizeOf9
 v9:=Tryz.zeroValue9
 t22:=Tryz.underlying42
 a22:=Tryz.isAgg42
 z22:=Tryz.sizeOf42
 v22:=Tryz.zeroValue42
 t25:=Tryz.underlying218
 a25:=Tryz.isAgg218
 z25:=Tryz.sizeOf218
 v25:=Tryz.zeroValue218
 t39:=Tryz.underlying100
 a39:=Tryz.isAgg100
 z39:=Tryz.sizeOf100
 v39:=Tryz.zeroValue100
 t45:=Tryz.underlying274
 a45:=Tryz.isAgg274
 z45:=Tryz.sizeOf274
 v45:=Tryz.zeroValue274
 t46:=Tryz.underlying275
 a46:=Tryz.isAgg275
 z46:=Tryz.sizeOf275
 v46:=Tryz.zeroValue275
 t50:=Tryz.underlying80
 a50:=Tryz.isAgg80
 z50:=Tryz.sizeOf80
 v50:=Tryz.zeroValue80
 t53:=Tryz.underlying53
 a53:=Tryz.isAgg53
 z53:=Tryz.sizeOf53
 v53:=Tryz.zeroValue53
 t55:=Tryz.underlying98
 a55:=Tryz.isAgg98
 z55:=Tryz.sizeOf98
 v55:=Tryz.zeroValue98
 t66:=Tryz.underlying293
 a66:=Tryz.isAgg293
 z66:=Tryz.sizeOf293
 v66:=Tryz.zeroValue293
 t70:=Tryz.underlying297
 a70:=Tryz.isAgg297
 z70:=Tryz.sizeOf297
 v70:=Tryz.zeroValue297
 t76:=Tryz.underlying305
 a76:=Tryz.isAgg305
 z76:=Tryz.sizeOf305
 v76:=Tryz.zeroValue305
 t77:=Tryz.underlying306
 a77:=Tryz.isAgg306
 z77:=Tryz.sizeOf306
 v77:=Tryz.zeroValue306}
def Tryz.Wv:Go.Shelf.Ren:=⟨fun |143=>76|219=>140|217=>179|225=>180|224=>181|267=>182|266=>223|314=>224|n=>n,fun |9=>9|3=>3|4=>4|5=>5|46=>100|146=>246|51=>53|n=>n,fun |1=>0|n=>n⟩
theorem Tryz.il:Go.Proofs.Lays.n143 Tryz.prog Tryz.Wv:={
 mixed:=by kernel_rfl
 f143:=Tryz.func76.trans (Ao some (by kernel_rfl))
 f217:=Tryz.func179.trans (Ao some (by kernel_rfl))
 f219:=Tryz.func140.trans (Ao some (by kernel_rfl))
 f224:=Tryz.func181.trans (Ao some (by kernel_rfl))
 f225:=Tryz.func180.trans (Ao some (by kernel_rfl))
 f266:=Tryz.func223.trans (Ao some (by kernel_rfl))
 f267:=Tryz.func182.trans (Ao some (by kernel_rfl))
 f314:=Tryz.func224.trans (Ao some (by kernel_rfl))
 t3:=Tryz.underlying3
 a3:=Tryz.isAgg3
 z3:=Tryz.sizeOf3
 v3:=Tryz.zeroValue3
 t4:=Tryz.underlying4
 a4:=Tryz.isAgg4
 z4:=Tryz.sizeOf4
 v4:=Tryz.zeroValue4
 t5:=Tryz.underlying5
 a5:=Tryz.isAgg5
 z5:=Tryz.sizeOf5
 v5:=Tryz.zeroValue5
 t9:=Tryz.underlying9
 a9:=Tryz.isAgg9
 z9:=Tryz.sizeOf9
 v9:=Tryz.zeroValue9
 t46:=Tryz.underlying100
 a46:=Tryz.isAgg100
 z46:=Tryz.sizeOf100
 v46:=Tryz.zeroValue100
 t51:=Tryz.underlying53
 a51:=Tryz.isAgg53
 z51:=Tryz.sizeOf53
 v51:=Tryz.zeroValue53
 t146:=Tryz.underlying246
 a146:=Tryz.isAgg246
 z146:=Tryz.sizeOf246
 v146:=Tryz.zeroValue246
 g1:=by kernel_rfl}
def Tryz.Wu:Go.Shelf.Ren:=⟨fun |138=>75|195=>137|218=>139|143=>76|219=>140|217=>179|225=>180|224=>181|267=>182|266=>223|314=>224|n=>n,fun |9=>9|3=>3|4=>4|5=>5|0=>0|46=>100|146=>246|51=>53|n=>n,fun |1=>0|n=>n⟩
theorem Tryz.ik:Go.Proofs.Lays.n138 Tryz.prog Tryz.Wu:={
 mixed:=by kernel_rfl
 f138:=Tryz.func75.trans (Ao some (by kernel_rfl))
 f143:=Tryz.func76.trans (Ao some (by kernel_rfl))
 f195:=Tryz.func137.trans (Ao some (by kernel_rfl))
 f217:=Tryz.func179.trans (Ao some (by kernel_rfl))
 f218:=Tryz.func139.trans (Ao some (by kernel_rfl))
 f219:=Tryz.func140.trans (Ao some (by kernel_rfl))
 f224:=Tryz.func181.trans (Ao some (by kernel_rfl))
 f225:=Tryz.func180.trans (Ao some (by kernel_rfl))
 f266:=Tryz.func223.trans (Ao some (by kernel_rfl))
 f267:=Tryz.func182.trans (Ao some (by kernel_rfl))
 f314:=Tryz.func224.trans (Ao some (by kernel_rfl))
 t0:=Tryz.underlying0
 a0:=Tryz.isAgg0
 z0:=Tryz.sizeOf0
 v0:=Tryz.zeroValue0
 t3:=Tryz.underlying3
 a3:=Tryz.isAgg3
 z3:=Tryz.sizeOf3
 v3:=Tryz.zeroValue3
 t4:=Tryz.underlying4
 a4:=Tryz.isAgg4
 z4:=Tryz.sizeOf4
 v4:=Tryz.zeroValue4
 t5:=Tryz.underlying5
 a5:=Tryz.isAgg5
 z5:=Tryz.sizeOf5
 v5:=Tryz.zeroValue5
 t9:=Tryz.underlying9
 a9:=Tryz.isAgg9
 z9:=Tryz.sizeOf9
 v9:=Tryz.zeroValue9
 t46:=Tryz.underlying100
 a46:=Tryz.isAgg100
 z46:=Tryz.sizeOf100
 v46:=Tryz.zeroValue100
 t51:=Tryz.underlying53
 a51:=Tryz.isAgg53
 z51:=Tryz.sizeOf53
 v51:=Tryz.zeroValue53
 t146:=Tryz.underlying246
 a146:=Tryz.isAgg246
 z146:=Tryz.sizeOf246
 v146:=Tryz.zeroValue246
 g1:=by kernel_rfl}
def Tryz.Mp:Go.Shelf.Ren:=⟨fun |156=>33|165=>70|166=>71|169=>72|240=>131|241=>132|276=>172|277=>173|n=>n,fun |31=>37|9=>9|3=>3|4=>4|0=>0|20=>20|72=>116|76=>120|70=>113|37=>114|75=>119|127=>164|164=>207|5=>5|80=>122|n=>n,fun |n=>n⟩
theorem Tryz.UK:Go.Proofs.Lays.n156 Tryz.prog Tryz.Mp:={
 mixed:=by kernel_rfl
 f156:=Tryz.func33.trans (Ao some (by kernel_rfl))
 f165:=Tryz.func70.trans (Ao some (by kernel_rfl))
 f166:=Tryz.func71.trans (Ao some (by kernel_rfl))
 f169:=Tryz.func72.trans (Ao some (by kernel_rfl))
 f240:=Tryz.func131.trans (Ao some (by kernel_rfl))
 f241:=Tryz.func132.trans (Ao some (by kernel_rfl))
 f276:=Tryz.func172.trans (Ao some (by kernel_rfl))
 f277:=Tryz.func173.trans (Ao some (by kernel_rfl))
 t0:=Tryz.underlying0
 a0:=Tryz.isAgg0
 z0:=Tryz.sizeOf0
 v0:=Tryz.zeroValue0
 t3:=Tryz.underlying3
 a3:=Tryz.isAgg3
 z3:=Tryz.sizeOf3
 v3:=Tryz.zeroValue3
 t4:=Tryz.underlying4
 a4:=Tryz.isAgg4
 z4:=Tryz.sizeOf4
 v4:=Tryz.zeroValue4
 t9:=Tryz.underlying9
 a9:=Tryz.isAgg9
 z9:=Tryz.sizeOf9
 v9:=Tryz.zeroValue9
 t20:=Tryz.underlying20
 a20:=Tryz.isAgg20
 z20:=Tryz.sizeOf20
 v20:=Tryz.zeroValue20
 t31:=Tryz.underlying37
 a31:=Tryz.isAgg37
 z31:=Tryz.sizeOf37
 v31:=Tryz.zeroValue37
 t37:=Tryz.underlying114
 a37:=Tryz.isAgg114
 z37:=Tryz.sizeOf114
 v37:=Tryz.zeroValue114
 t70:=Tryz.underlying113
 a70:=Tryz.isAgg113
 z70:=Tryz.sizeOf113
 v70:=Tryz.zeroValue113
 t72:=Tryz.underlying116
 a72:=Tryz.isAgg116
 z72:=Tryz.sizeOf116
 v72:=Tryz.zeroValue116
 t75:=Tryz.underlying119
 a75:=Tryz.isAgg119
 z75:=Tryz.sizeOf119
 v75:=Tryz.zeroValue119
 t76:=Tryz.underlying120
 a76:=Tryz.isAgg120
 z76:=Tryz.sizeOf120
 v76:=Tryz.zeroValue120
 t127:=Tryz.underlying164
 a127:=Tryz.isAgg164
 z127:=Tryz.sizeOf164
 v127:=Tryz.zeroValue164
 t164:=Tryz.underlying207
 a164:=Tryz.isAgg207
 z164:=Tryz.sizeOf207
 v164:=Tryz.zeroValue207}
theorem Tryz.pB:Builder.Extra Tryz.prog Tryz.Mp:={
 sizeBuilder:=by kernel_rfl
 liesBuilder:=by kernel_rfl
 t5:=Tryz.underlying5
 a5:=Tryz.isAgg5
 z5:=Tryz.sizeOf5
 v5:=Tryz.zeroValue5
 infoByte:=by kernel_rfl
 cellsByte:=by kernel_rfl
 sizeByte:=by kernel_rfl
 neB5:=by decide}
def Tryz.UL:Go.Shelf.Ren:=⟨fun |171=>134|243=>174|246=>219|283=>240|284=>241|285=>242|286=>243|129=>254|317=>272|318=>273|319=>274|320=>275|337=>297|338=>298|n=>n,fun |3=>3|9=>9|2=>2|4=>4|171=>266|0=>0|53=>98|37=>114|5=>5|173=>269|212=>286|51=>53|20=>20|213=>287|46=>100|232=>309|233=>310|n=>n,fun |17=>3|18=>4|19=>5|n=>n⟩
theorem Tryz.aCc:Go.Proofs.LaysM.n171 Tryz.prog Tryz.UL:={
 mixed:=by kernel_rfl
 f129:=Tryz.func254.trans (Ao some (by kernel_rfl))
 f171:=Tryz.func134.trans (Ao some (by kernel_rfl))
 f243:=Tryz.func174.trans (Ao some (by kernel_rfl))
 f246:=Tryz.func219.trans (Ao some (by kernel_rfl))
 f283:=Tryz.func240.trans (Ao some (by kernel_rfl))
 f284:=Tryz.func241.trans (Ao some (by kernel_rfl))
 f285:=Tryz.func242.trans (Ao some (by kernel_rfl))
 f286:=Tryz.func243.trans (Ao some (by kernel_rfl))
 f317:=Tryz.func272.trans (Ao some (by kernel_rfl))
 f318:=Tryz.func273.trans (Ao some (by kernel_rfl))
 f319:=Tryz.func274.trans (Ao some (by kernel_rfl))
 f320:=Tryz.func275.trans (Ao some (by kernel_rfl))
 f337:=Tryz.func297.trans (Ao some (by kernel_rfl))
 f338:=Tryz.func298.trans (Ao some (by kernel_rfl))
 t0:=Tryz.underlying0
 a0:=Tryz.isAgg0
 z0:=Tryz.sizeOf0
 v0:=Tryz.zeroValue0
 t2:=Tryz.underlying2
 a2:=Tryz.isAgg2
 z2:=Tryz.sizeOf2
 v2:=Tryz.zeroValue2
 t3:=Tryz.underlying3
 a3:=Tryz.isAgg3
 z3:=Tryz.sizeOf3
 v3:=Tryz.zeroValue3
 t4:=Tryz.underlying4
 a4:=Tryz.isAgg4
 z4:=Tryz.sizeOf4
 v4:=Tryz.zeroValue4
 t5:=Tryz.underlying5
 a5:=Tryz.isAgg5
 z5:=Tryz.sizeOf5
 v5:=Tryz.zeroValue5
 t9:=Tryz.underlying9
 a9:=Tryz.isAgg9
 z9:=Tryz.sizeOf9
 v9:=Tryz.zeroValue9
 t20:=Tryz.underlying20
 a20:=Tryz.isAgg20
 z20:=Tryz.sizeOf20
 v20:=Tryz.zeroValue20
 t37:=Tryz.underlying114
 a37:=Tryz.isAgg114
 z37:=Tryz.sizeOf114
 v37:=Tryz.zeroValue114
 t46:=Tryz.underlying100
 a46:=Tryz.isAgg100
 z46:=Tryz.sizeOf100
 v46:=Tryz.zeroValue100
 t51:=Tryz.underlying53
 a51:=Tryz.isAgg53
 z51:=Tryz.sizeOf53
 v51:=Tryz.zeroValue53
 t53:=Tryz.underlying98
 a53:=Tryz.isAgg98
 z53:=Tryz.sizeOf98
 v53:=Tryz.zeroValue98
 t171:=Tryz.underlying266
 a171:=Tryz.isAgg266
 z171:=Tryz.sizeOf266
 v171:=Tryz.zeroValue266
 t173:=Tryz.underlying269
 a173:=Tryz.isAgg269
 z173:=Tryz.sizeOf269
 v173:=Tryz.zeroValue269
 t212:=Tryz.underlying286
 a212:=Tryz.isAgg286
 z212:=Tryz.sizeOf286
 v212:=Tryz.zeroValue286
 t213:=Tryz.underlying287
 a213:=Tryz.isAgg287
 z213:=Tryz.sizeOf287
 t232:=Tryz.underlying309
 a232:=Tryz.isAgg309
 z232:=Tryz.sizeOf309
 v232:=Tryz.zeroValue309
 t233:=Tryz.underlying310
 a233:=Tryz.isAgg310
 z233:=Tryz.sizeOf310
 v233:=Tryz.zeroValue310
 g17:=by kernel_rfl
 g18:=by kernel_rfl
 g19:=by kernel_rfl
 i0:=by kernel_rfl
 i2:=by kernel_rfl
 i3:=by kernel_rfl
 i4:=by kernel_rfl
 i5:=by kernel_rfl
 i9:=by kernel_rfl
 i20:=by kernel_rfl
 i37:=by kernel_rfl
 i46:=by kernel_rfl
 i51:=by kernel_rfl
 i53:=by kernel_rfl
 i171:=by kernel_rfl
 i173:=by kernel_rfl
 i212:=by kernel_rfl
 i232:=by kernel_rfl
 i233:=by kernel_rfl
 m17:=by kernel_rfl
 m18:=by kernel_rfl
 m19:=by kernel_rfl}
def Tryz.Mo:Go.Shelf.Ren:=⟨fun |105=>135|212=>175|99=>176|165=>70|166=>71|170=>177|169=>72|263=>220|264=>221|206=>222|240=>131|241=>132|276=>172|277=>173|n=>n,fun |9=>9|3=>3|4=>4|20=>20|0=>0|46=>100|109=>210|5=>5|72=>116|76=>120|51=>53|146=>246|53=>98|148=>248|70=>113|37=>114|75=>119|127=>164|164=>207|80=>122|n=>n,fun |n=>n⟩
theorem Tryz.UJ:Go.Proofs.Lays.n105 Tryz.prog Tryz.Mo:={
 mixed:=by kernel_rfl
 f99:=Tryz.func176.trans (Ao some (by kernel_rfl))
 f105:=Tryz.func135.trans (Ao some (by kernel_rfl))
 f165:=Tryz.func70.trans (Ao some (by kernel_rfl))
 f166:=Tryz.func71.trans (Ao some (by kernel_rfl))
 f169:=Tryz.func72.trans (Ao some (by kernel_rfl))
 f170:=Tryz.func177.trans (Ao some (by kernel_rfl))
 f206:=Tryz.func222.trans (Ao some (by kernel_rfl))
 f212:=Tryz.func175.trans (Ao some (by kernel_rfl))
 f240:=Tryz.func131.trans (Ao some (by kernel_rfl))
 f241:=Tryz.func132.trans (Ao some (by kernel_rfl))
 f263:=Tryz.func220.trans (Ao some (by kernel_rfl))
 f264:=Tryz.func221.trans (Ao some (by kernel_rfl))
 f276:=Tryz.func172.trans (Ao some (by kernel_rfl))
 f277:=Tryz.func173.trans (Ao some (by kernel_rfl))
 t0:=Tryz.underlying0
 a0:=Tryz.isAgg0
 z0:=Tryz.sizeOf0
 v0:=Tryz.zeroValue0
 t3:=Tryz.underlying3
 a3:=Tryz.isAgg3
 z3:=Tryz.sizeOf3
 v3:=Tryz.zeroValue3
 t4:=Tryz.underlying4
 a4:=Tryz.isAgg4
 z4:=Tryz.sizeOf4
 v4:=Tryz.zeroValue4
 t5:=Tryz.underlying5
 a5:=Tryz.isAgg5
 z5:=Tryz.sizeOf5
 v5:=Tryz.zeroValue5
 t9:=Tryz.underlying9
 a9:=Tryz.isAgg9
 z9:=Tryz.sizeOf9
 v9:=Tryz.zeroValue9
 t20:=Tryz.underlying20
 a20:=Tryz.isAgg20
 z20:=Tryz.sizeOf20
 v20:=Tryz.zeroValue20
 t37:=Tryz.underlying114
 a37:=Tryz.isAgg114
 z37:=Tryz.sizeOf114
 v37:=Tryz.zeroValue114
 t46:=Tryz.underlying100
 a46:=Tryz.isAgg100
 z46:=Tryz.sizeOf100
 v46:=Tryz.zeroValue100
 t51:=Tryz.underlying53
 a51:=Tryz.isAgg53
 z51:=Tryz.sizeOf53
 v51:=Tryz.zeroValue53
 t53:=Tryz.underlying98
 a53:=Tryz.isAgg98
 z53:=Tryz.sizeOf98
 v53:=Tryz.zeroValue98
 t70:=Tryz.underlying113
 a70:=Tryz.isAgg113
 z70:=Tryz.sizeOf113
 v70:=Tryz.zeroValue113
 t72:=Tryz.underlying116
 a72:=Tryz.isAgg116
 z72:=Tryz.sizeOf116
 v72:=Tryz.zeroValue116
 t75:=Tryz.underlying119
 a75:=Tryz.isAgg119
 z75:=Tryz.sizeOf119
 v75:=Tryz.zeroValue119
 t76:=Tryz.underlying120
 a76:=Tryz.isAgg120
 z76:=Tryz.sizeOf120
 v76:=Tryz.zeroValue120
 t109:=Tryz.underlying210
 a109:=Tryz.isAgg210
 z109:=Tryz.sizeOf210
 v109:=Tryz.zeroValue210
 t127:=Tryz.underlying164
 a127:=Tryz.isAgg164
 z127:=Tryz.sizeOf164
 v127:=Tryz.zeroValue164
 t146:=Tryz.underlying246
 a146:=Tryz.isAgg246
 z146:=Tryz.sizeOf246
 v146:=Tryz.zeroValue246
 t148:=Tryz.underlying248
 a148:=Tryz.isAgg248
 z148:=Tryz.sizeOf248
 v148:=Tryz.zeroValue248
 t164:=Tryz.underlying207
 a164:=Tryz.isAgg207
 z164:=Tryz.sizeOf207
 v164:=Tryz.zeroValue207}
theorem Tryz.HN:Builder.Extra Tryz.prog Tryz.Mo:={
 sizeBuilder:=by kernel_rfl
 liesBuilder:=by kernel_rfl
 t5:=Tryz.underlying5
 a5:=Tryz.isAgg5
 z5:=Tryz.sizeOf5
 v5:=Tryz.zeroValue5
 infoByte:=by kernel_rfl
 cellsByte:=by kernel_rfl
 sizeByte:=by kernel_rfl
 neB5:=by decide}
def Tryz.Wt:Go.Shelf.Ren:=⟨fun |102=>12|209=>36|207=>77|n=>n,fun |9=>9|4=>4|3=>3|n=>n,fun |n=>n⟩
theorem Tryz.aHp:Go.Proofs.Lays.n102 Tryz.prog Tryz.Wt:={
 mixed:=by kernel_rfl
 f102:=Tryz.func12.trans (Ao some (by kernel_rfl))
 f207:=Tryz.func77.trans (Ao some (by kernel_rfl))
 f209:=Tryz.func36.trans (Ao some (by kernel_rfl))
 t3:=Tryz.underlying3
 a3:=Tryz.isAgg3
 z3:=Tryz.sizeOf3
 v3:=Tryz.zeroValue3
 t4:=Tryz.underlying4
 a4:=Tryz.isAgg4
 z4:=Tryz.sizeOf4
 v4:=Tryz.zeroValue4
 t9:=Tryz.underlying9
 a9:=Tryz.isAgg9
 z9:=Tryz.sizeOf9
 v9:=Tryz.zeroValue9}
end Go.Proofs
namespace Go.Proofs.YtbndcmnnbiiobaaGreatDoor
open Go Go.Av Go.mO
attribute [local congr] aU aO aP aN aY aR aQ aI aZ
attribute [local irreducible] FC bL eU
theorem DV (neg:Bool) {l:List Nat} (hl:TT l) (H:aA):Sg 59 [.bool neg,.agg (wC l)] H (.ret (.agg (.bool false::.bool (neg&& !decide (l=zs))::wC l))) H:=by
 refine So bBl (by simp only[sf]) ?_ H;unfold W59;dsimp only;cases neg<;>
 · simp only[↓zP,zG,Nat.reduceLT];refine Dz ?_;simp only[↓zP,zJ,Nat.reduceLT,Nat.reduceEqDiff,Nat.reduceAdd,zD,reduceCtorEq,Nat.reduceLeDiff,iL hl];exact⟨rfl,_,by simp only[↓zP,zR,Nat.reduceEqDiff,Nat.reduceAdd,iL hl];rfl,rfl⟩
theorem sI (H:aA):Sg 78 [] H (.ret (.agg wU)) H:=by refine So bIe (by simp only[sf]) ?_ H;unfold W78;dsimp only;simp only[↓zP,zJ,Nat.reduceLT,Nat.reduceEqDiff,Nat.reduceAdd,Nat.reduceLeDiff];exact⟨rfl,_,by simp only[↓zP,zR,Nat.reduceEqDiff,Nat.reduceAdd];rfl,rfl⟩
theorem Vj (b n:Bool) {l:List Nat} (hl:TT l) (H:aA):Sg 142 [.agg (.bool b::.bool n::wC l)] H (.ret (.bool (if b then decide (l=zs)&& !n else !decide (l=zs)|| !n))) H:=by
 refine So aYn (by simp only[sf]) ?_ H;unfold aNu;dsimp only;by_cases hz:l=zs<;>cases b<;>
 · simp only[↓zP,zJ,Nat.reduceLT,Nat.reduceEqDiff,Nat.reduceAdd,Nat.reduceLeDiff,iL hl,hz,Gp,Fm];exact⟨rfl,_,by simp only[↓zP,zR];rfl,rfl⟩
theorem SZ {u:Nat} (h:u<2^64):AV.int .u32 ((bA u 0:Nat):Int)::AV.int .u32 ((bA u 1:Nat):Int)::((wC zs).drop 1).drop 1=wC (aW 16 u):=by have hk:∀k,2<=k->bA u k=0:=fun k hk=>SX (m:=2) (by simpa [W] using h) hk;simp[wC,zs,aW,List.range,List.range.loop,hk,List.replicate]
theorem wT {z:Int} (h0: -2^63<=z) (h1:z<2^63) (H:aA):Sg 27 [.int .i64 z] H (.ret (.agg (cI z))) H:=by
 refine So bGz (by simp only[sf]) ?_ H;unfold W27;dsimp only;have hu:z.natAbs<2^64:=by omega
 have l2:=SZ hu;have hl:=TT.aW z.natAbs;have e0:((z.natAbs%W:Nat):Int)=(bA z.natAbs 0:Nat):=by simp[bA]
 have e1:((z.natAbs / W%W:Nat):Int)=(bA z.natAbs 1:Nat):=by simp[bA]
 have fin:decide (aW 16 z.natAbs=zs)=decide (z=0):=by
  by_cases hz:z=0
  · subst hz;rfl
  rw[Ae hz,Ae];intro e;have :=gU (m:=16) (n:=z.natAbs) (Cg hu (by decide));rw[e,Zt] at this;omega
 have fs:(decide (z<0)&& !decide (z=0))=decide (z<0):=by by_cases h:z<0<;>simp[h];omega
 simp only[↓zP,zJ,Nat.reduceLT,Nat.reduceEqDiff,Nat.reduceAdd,Nat.reduceLeDiff,Int.reduceLT];refine⟨fun pt=>?_,fun pt=>?_⟩
 · have w1:IntKind.u64.wrap z=((2^64 -z.natAbs:Nat):Int):=qH (by omega) (by omega);have w2:IntKind.u64.wrap (0 -((2^64 -z.natAbs:Nat):Int))=(z.natAbs:Int):=qH (by omega) (by omega);simp only[w1,w2,Uz,Oh,e0,e1,l2];refine bK (DV (decide (z<0)) hl _) ?_;simp only[↓zP,zJ,Nat.reduceEqDiff,Nat.reduceAdd,iL hl,fin,fs];exact⟨rfl,_,by simp only[↓zP,zR,Nat.reduceEqDiff,Nat.reduceAdd,iL hl];rfl,rfl⟩
 have w1:IntKind.u64.wrap z=(z.natAbs:Int):=qH (by omega) (by omega);simp only[w1,Uz,Oh,e0,e1,l2];refine bK (DV (decide (z<0)) hl _) ?_;simp only[↓zP,zJ,Nat.reduceEqDiff,Nat.reduceAdd,iL hl,fin,fs];exact⟨rfl,_,by simp only[↓zP,zR,Nat.reduceEqDiff,Nat.reduceAdd,iL hl];rfl,rfl⟩
theorem fq (rs:List AR) (hlen:rs.length<2^30) (H:aA):Sg 80 [.aV 1 18 (rs.map AR.cells)] H (.ret (.bool (rs.all AR.ZL))) H:=by
 refine So bIg (by simp only[sf,dF oe]) ?_ H;unfold W80;dsimp only;refine bS ?_;simp only[↓zP,zG,Nat.reduceLT];refine bT ?_;refine aJ fun K hK=>?_;refine bS ?_;simp only[↓zP,zJ,Nat.reduceLT,Nat.reduceEqDiff];refine bT ?_;refine bQ [] (fun i _ H=>(rs.take i).all AR.ZL=true) rs.length (by omega) (by decide) ?_ ?_ ?_ ?_ ?_
 · simp only[zB]
 · simp only[zB,Nat.reduceEqDiff,Ad]
 · rfl
 · intro i f H hi hk e1 hj;have hc:(rs.map AR.cells).getD i []=rs[i].cells:=dT hi;have hg:=aEr hi hj
   have hf:rs[i].ZL=false->rs.all AR.ZL=false:=fun h=>by rw[<-Gg,Ba];exact fun ha=>by rw[ha _ (Ai hi)] at h;cases h
   generalize rs[i]=r at hc hg hf;obtain⟨b,n,l,hl⟩:=r;simp only[AR.cells,AR.ZL,EP] at hc hg hf;refine aH ?_;cases b
   · simp only[↓zP,zJ,Nat.reduceLT,Nat.reduceEqDiff,Nat.reduceAdd,Nat.reduceLeDiff,e1,hk 5 rfl,aB,Ad,hi,hc,iL hl];refine bK (Vj false n hl _) ?_;by_cases hz:l=zs<;>cases n<;>
     · simp only[hz,Gp,Fm,Hq,Fv,Gd,Bool.or_true,Lj,Bool.and_false] at hg;simp only[↓zP,zJ,Nat.reduceLT,Nat.reduceEqDiff,hz,Gp,Fm,Bool.or_true,Lj,hg]
       try
        refine⟨rfl,_,by simp only[↓zP,zR];rfl,?_⟩;rw[hf (by simp[hz])];rfl
   simp only[Hq,Jt] at hg hf;simp only[↓zP,zJ,Nat.reduceLT,Nat.reduceEqDiff,Nat.reduceAdd,Nat.reduceLeDiff,e1,hk 5 rfl,aB,Ad,hi,hc,iL hl];refine⟨rfl,_,by simp only[↓zP,zR];rfl,?_⟩;rw[hf trivial];rfl
 intro f H hk hj;rw[Ar] at hj;simp only[↓zP];apply hK;simp only[↓zP,zG,Nat.reduceLT,hj];exact⟨rfl,_,by simp only[↓zP,zR];rfl,rfl⟩
theorem PN (a:Nat) (H:aA):Sg 209 [.int .u32 a] H (.ret (.bool false)) H:=by
 refine So bAg (by simp only[sf]) ?_ H;unfold aPm;dsimp only;simp only[↓zP,zJ,Nat.reduceLT,Nat.reduceEqDiff,Fx]
 (refine Rx ?_;rfl)
theorem TM (a b:Nat) (H:aA):Sg 163 [.int .u32 a,.int .u32 b] H (.ret (.int .i64 (LP a b))) H:=by
 refine So aZd (by simp only[sf]) ?_ H;unfold aOk;dsimp only;simp only[↓zP,zJ,Nat.reduceLT,Nat.reduceEqDiff];refine bK (PN a _) ?_;simp only[↓zP,zJ,Nat.reduceLT,Nat.reduceEqDiff];refine bK (PN b _) ?_;simp only[↓zP,zJ,Nat.reduceLT,Nat.reduceEqDiff];refine⟨fun h=>?_,fun h=>⟨fun h2=>?_,fun h2=>?_⟩⟩<;>refine Rx ?_<;>unfold LP
 · rw[if_pos (by omega)];rfl
 · rw[if_neg (by omega),if_pos (by omega)];rfl
 rw[if_neg (by omega),if_neg (by omega)];rfl
theorem Pt {a b:Nat} (ha:a<W^16) (hb:b<W^16) (H:aA):Sg 115 [.agg (wC (aW 16 a)),.agg (wC (aW 16 b))] H (.ret (.int .i64 (LP a b))) H:=by
 refine So aXv (by simp only[sf]) ?_ H;unfold aNd;dsimp only;have la:=iL (.aW a);have lb:=iL (.aW b);simp only[↓zP,zJ,Nat.reduceLT,Nat.reduceEqDiff];refine aH (fK [5] (fun m vs H'=>vs=[.int .i64 ((m:Int) -1)]/\m<=16/\a / W^m=b / W^m/\H'.get 0=some (.cells (wC (aW 16 a)) false)/\H'.get 1=some (.cells (wC (aW 16 b)) false)) 16 (by rfl) ?_ ?_)
 · refine⟨by simp only[sm,zB];rfl,by omega,by rw[Eh ha,Eh hb],by simp only[zI,Nat.reduceEqDiff],by simp only[zI,Nat.reduceEqDiff]⟩
 rintro m f H hk ⟨hv,hm,hd,g0,g1⟩;simp only[zM] at hv;simp only[↓zP,zJ,Nat.reduceLT,hv];refine⟨fun h=>?_,fun h=>?_⟩
 · obtain⟨m,rfl⟩:∃k,m=k+1:=⟨m -1,by omega⟩;have e:((m+1:Nat):Int) -1=(m:Nat):=by omega
   refine aH ?_;simp only[↓zP,e];refine Dz ?_;simp only[↓zP,zJ,Nat.reduceLT,Nat.reduceEqDiff,Nat.reduceAdd,zD,reduceCtorEq,hv,e,hk 2 rfl,hk 3 rfl,aB,g0,g1,show m<16 by omega,show m+1<=16 by omega,la,lb,kJ (show m<16 by omega)];by_cases bN:bA a m=bA b m
   · simp only[zG,bN,Fx];have w:IntKind.i64.wrap ((m:Int) -1)=(m:Int) -1:=wrap_i64 (by omega) (by omega);exact⟨m,by omega,by rw[w],by omega,Rs hd bN⟩
   have hb:(((bA a m:Nat):Int) != ((bA b m:Nat):Int))=true:=(by simp;omega);simp only[zG,hb];refine Dz ?_;simp only[↓zP,zJ,Nat.reduceLT,Nat.reduceEqDiff,Nat.reduceAdd,zD,reduceCtorEq,hv,e,hk 2 rfl,hk 3 rfl,aB,g0,g1,show m<16 by omega,show m+1<=16 by omega,la,lb,kJ (show m<16 by omega)];refine eT (TM (bA a m) (bA b m) _) ?_;simp only[↓zP,zJ,Nat.reduceLT,Nat.reduceEqDiff,Nat.reduceAdd,zD,reduceCtorEq];refine Rx ?_;rw[aGl hd bN];rfl
 obtain rfl:m=0:=by omega
 simp only[Kd,Ku] at hd;refine Rx ?_;simp[hd,LP,pY]
theorem aIy {a b:Nat} (ha:a<W^16) (hb:b<W^16) (H:aA):Sg 114 [.agg (wC (aW 16 a)),.agg (wC (aW 16 b))] H (.ret (.gP [.agg (wC (aW 16 (a+b))),.bool (decide (a+b<W^16))])) H:=by
 refine So aXu (by simp only[sf]) ?_ H;unfold aNc;dsimp only;have la:=iL (.aW a);have lb:=iL (.aW b);simp only[↓zP,zJ,Nat.reduceLT,Nat.reduceEqDiff,Nat.reduceAdd];refine iR [7] (fun i vs H'=>vs=[.int .u64 (cr a b i:Nat)]/\H'.get 0=some (.cells (wC (aW 16 a)) false)/\H'.get 1=some (.cells (wC (aW 16 b)) false)/\H'.get 2=some (.cells (wC zs) false)/\H'.get 3=some (.cells (wC (Ud i (aW 16 (a+b)))) false)) 16 (by decide) rfl (by decide) ?_ ?_ ?_ ?_
 · simp only[zB]
 · refine⟨by simp only[sm,zB,Nat.reduceEqDiff,aGp];rfl,?_⟩;rw[Py];simp only[zJ,Nat.reduceEqDiff,Nat.reduceAdd]
 · rintro i f H hi hk e1 ⟨hv,g0,g1,g2,g3⟩;simp only[zM] at hv;have c1:=aKo a b i;have c2:=gE a i;have c3:=gE b i;have hW:W=4294967296:=rfl;have w1:IntKind.u64.wrap ((bA a i:Nat):Int)=(bA a i:Nat):=qH (by omega) (.inl rfl);have w2:IntKind.u64.wrap ((bA b i:Nat):Int)=(bA b i:Nat):=qH (by omega) (.inl rfl);have w3:IntKind.u64.wrap (((bA a i:Nat):Int)+(bA b i:Nat))=((bA a i+bA b i:Nat):Int):=qH (by omega) (.inl (by omega));have w4:IntKind.u64.wrap (((cr a b i:Nat):Int)+((bA a i+bA b i:Nat):Int))=((cr a b i+bA a i+bA b i:Nat):Int):=qH (by omega) (.inl (by omega));refine aH ?_;simp only[↓zP,zG,Nat.reduceLT,Nat.reduceEqDiff,e1];refine Dz ?_;simp only[↓zP,zJ,Nat.reduceLT,Nat.reduceEqDiff,Nat.reduceAdd,zD,reduceCtorEq,Int.reduceLT,hv,hk 2 rfl,hk 3 rfl,hk 6 rfl,aB,g0,g1,g3,hi,show i+1<=16 by omega,la,lb,kJ hi,w1,w2,w3,w4,Uz,Oh,JY,<-aGo];exact⟨g2,by rw[Px hi (by rw[aCe])]⟩
 rintro f H hk ⟨hv,g0,g1,g2,g3⟩;simp only[zM] at hv;simp only[↓zP,zJ,Nat.reduceEqDiff,hv,hk 6 rfl,hk 4 rfl,g2,g3,Sq,(iL (.aW (a+b)))]
 have hc:(((cr a b 16:Nat):Int)==0)=decide (a+b<W^16):=by rw[aQv ha hb];split<;>rename_i hl<;>simp[hl]
 refine⟨rfl,_,by simp only[↓zP,zR,Nat.reduceEqDiff,hk 4 rfl,iL (.aW (a+b))];rfl,?_⟩;rw[hc];rfl
theorem aRb (u:Nat):(u:Int).fdiv (2^min (Int.toNat 63) IntKind.u64.bits)=((u / 2^63:Nat):Int):=by show(u:Int).fdiv (2^63)=_;rw[Js _ (by decide)];rfl
theorem XB {a b:Nat} (ha:a<W^16) (hb:b<=a) (H:aA):Sg 116 [.agg (wC (aW 16 a)),.agg (wC (aW 16 b))] H (.ret (.agg (wC (aW 16 (a -b))))) H:=by
 refine So aXw (by simp only[sf]) ?_ H;unfold aNe;dsimp only;have la:=iL (.aW a);have lb:=iL (.aW b);simp only[↓zP,zJ,Nat.reduceLT,Nat.reduceEqDiff,Nat.reduceAdd];refine iR [6] (fun i vs H'=>vs=[.int .u64 (bw a b i:Nat)]/\H'.get 0=some (.cells (wC (aW 16 a)) false)/\H'.get 1=some (.cells (wC (aW 16 b)) false)/\H'.get 2=some (.cells (wC zs) false)/\H'.get 3=some (.cells (wC (Ud i (aW 16 (a -b)))) false)) 16 (by decide) rfl (by decide) ?_ ?_ ?_ ?_
 · simp only[zB]
 · refine⟨by simp only[sm,zB,Nat.reduceEqDiff,aGg];rfl,?_⟩;rw[Py];simp only[zJ,Nat.reduceEqDiff,Nat.reduceAdd]
 · rintro i f H hi hk e1 ⟨hv,g0,g1,g2,g3⟩;simp only[zM] at hv;have c1:bw a b i<=1:=by unfold bw;split<;>omega
   have c2:=gE a i;have c3:=gE b i;have c4:=aCf hb i;have c5:=aGf a b i;have hW:W=4294967296:=rfl;have w1:IntKind.u64.wrap ((bA a i:Nat):Int)=(bA a i:Nat):=qH (by omega) (.inl rfl);have w2:IntKind.u64.wrap ((bA b i:Nat):Int)=(bA b i:Nat):=qH (by omega) (.inl rfl);obtain⟨D,hD⟩:∃D:Nat,(D:Int)=(((bA a i:Nat):Int) -(bA b i:Nat) -(bw a b i:Nat))%2^64:=⟨((((bA a i:Nat):Int) -(bA b i:Nat) -(bw a b i:Nat))%2^64).toNat,Le (by omega)⟩
   have w3:IntKind.u64.wrap (IntKind.u64.wrap (((bA a i:Nat):Int) -(bA b i:Nat)) -((bw a b i:Nat):Int))=(D:Int):=by simp only[IntKind.wrap,IntKind.bits,IntKind.signed,hD];simp
   have w4:D / 2^63=bw a b (i+1):=(by rw[c5];split<;>omega);refine aH ?_;simp only[↓zP,zG,Nat.reduceLT,Nat.reduceEqDiff,e1];refine Dz ?_;simp only[↓zP,zJ,Nat.reduceLT,Nat.reduceEqDiff,Nat.reduceAdd,zD,reduceCtorEq,Int.reduceLT,hv,hk 2 rfl,hk 3 rfl,hk 5 rfl,aB,g0,g1,g3,hi,show i+1<=16 by omega,la,lb,kJ hi,w1,w2,w3,Uz,aRb,JY,w4];exact⟨g2,by rw[Px hi (by rw[c4,hW];omega)]⟩
 rintro f H hk ⟨hv,g0,g1,g2,g3⟩;simp only[zM] at hv;simp only[↓zP,zJ,Nat.reduceEqDiff,hk 5 rfl,hk 4 rfl,g2,g3,Sq,(iL (.aW (a -b)))];exact⟨rfl,_,by simp only[↓zP,zR,Nat.reduceEqDiff,hk 4 rfl,iL (.aW (a -b))];rfl,rfl⟩
theorem rP {a:List AV} {x:Option Int} (ha:fZ a x) (H:aA):Sg 80 [.aV 1 18 [a]] H (.ret (.bool x.isSome)) H:=by obtain⟨r,rfl,-,hr⟩:=ha.raw;have :=fq [r] (by simp) H;simpa [hr] using this
theorem BK {a b:List AV} {x y:Option Int} (ha:fZ a x) (hb:fZ b y) (H:aA):Sg 80 [.aV 1 18 [a,b]] H (.ret (.bool (x.isSome&&y.isSome))) H:=by obtain⟨r,rfl,-,hr⟩:=ha.raw;obtain⟨q,rfl,-,hq⟩:=hb.raw;have :=fq [r,q] (by simp) H;simpa [hr,hq] using this
theorem oH {n:Bool} {m:Nat} (hm:m<W^16) {z:Int} (hz:z=sg n m) (H:aA):Sg 59 [.bool n,.agg (wC (aW 16 m))] H (.ret (.agg (cI z))) H:=by
 have :=DV n (.aW m) H
 have e:(n&& !decide (aW 16 m=zs))=decide (z<0):=by
  have h0:aW 16 m=zs↔m=0:=by rw[<-CB (.aW m),gU hm]
  subst hz
  cases n with
  |false=>simp[sg]
  |true=>
   by_cases JA:m=0
   · subst JA;simp[sg,GJ]
   have : -(m:Int)<0:=(by omega);simp only[sg,h0,JA,this,if_true,Cq,Gp,Fm,Fv]
 have e2:z.natAbs=m:=by rw[hz,lI]
 rw[e] at this;unfold cI
 rwa [e2]
theorem c9 {a b:List AV} {x y:Option Int} (ha:fZ a x) (hb:fZ b y) (hxy:(x.isSome&&y.isSome)=false) (H:aA):Sg 57 [.agg a,.agg b] H (.ret (.agg wU)) H:=by have hg:=BK ha hb;rw[hxy] at hg;refine So bBk (by simp only[sf,ha.free,hb.free]) ?_ H;unfold W57;dsimp only;simp only[↓zP,zJ,Nat.reduceLT,Nat.reduceEqDiff,Nat.reduceAdd,oL ha.len,oL hb.len];refine bK (hg _) ?_;simp only[↓zP,zJ,Nat.reduceLT];refine bK (sI _) ?_;simp only[↓zP,zJ,Nat.reduceEqDiff,Nat.reduceAdd,wU];exact⟨rfl,_,by simp only[↓zP,zR,Nat.reduceEqDiff,Nat.reduceAdd];rfl,rfl⟩
theorem xj {z w:Int} (hz:z.natAbs<W^16) (hw:w.natAbs<W^16) (H:aA):Sg 57 [.agg (cI z),.agg (cI w)] H (.ret (.agg (cO (norm (z+w))))) H:=by
 refine So bBk (by simp only[sf,sfI]) ?_ H;unfold W57;dsimp only;have la:=iL (.aW z.natAbs);have lb:=iL (.aW w.natAbs);simp only[↓zP,zJ,Nat.reduceLT,Nat.reduceEqDiff,Nat.reduceAdd];refine bK (BK (.enc hz) (.enc hw) _) ?_;simp only[↓zP,zJ,Nat.reduceLT,Nat.reduceEqDiff,Nat.reduceAdd,Nat.reduceLeDiff,Bd,Ds,cI,la,lb];by_cases hs:decide (z<0)=decide (w<0)
 · simp only[zG,hs,Jc];refine bK (aIy hz hw _) ?_;have hl:=iL (.aW (z.natAbs+w.natAbs))
   have e:z+w=sg (decide (w<0)) (z.natAbs+w.natAbs):=by by_cases h1:z<0<;>by_cases h2:w<0<;>simp[h1,h2,sg] at hs ⊢ <;>omega
   have e2:(z+w).natAbs=z.natAbs+w.natAbs:=(by rw[e,lI]);simp only[↓zP,zJ,Nat.reduceLT,Nat.reduceEqDiff,Nat.reduceAdd,Nat.reduceLeDiff,hl];refine⟨fun h=>?_,fun h=>?_⟩
   · refine bK (oH h e _) ?_;have hr:norm (z+w)=some (z+w):=(by unfold norm;rw[e2,if_pos h]);have hl:=iL (.aW (z+w).natAbs);simp only[↓zP,zJ,Nat.reduceEqDiff,Nat.reduceAdd,cI,hl];refine⟨rfl,_,by simp only[↓zP,zR,Nat.reduceEqDiff,Nat.reduceAdd,hl];rfl,?_⟩;rw[hr];rfl
   refine bK (sI _) ?_;simp only[↓zP,zJ,Nat.reduceEqDiff,Nat.reduceAdd,wU];refine Rx ?_;have hr:norm (z+w)=none:=(by unfold norm;rw[e2,if_neg h]);rw[hr];rfl
 have EG:(decide (z<0)==decide (w<0))=false:=by simpa using hs
 have hb:(z+w).natAbs<W^16:=by generalize W^16=X at *;by_cases h1:z<0<;>by_cases h2:w<0<;>simp[h1,h2] at hs<;>omega
 have hr:norm (z+w)=some (z+w):=by unfold norm;rw[if_pos hb]
 have hl:=iL (.aW (z+w).natAbs);simp only[zG,EG];refine bK (Pt hz hw _) ?_;simp only[↓zP,zJ,Nat.reduceLT];refine⟨fun h=>?_,fun h=>?_⟩
 · have hle:w.natAbs<=z.natAbs:=by
    unfold LP at h;split at h<;>omega
   have e:z+w=sg (decide (z<0)) (z.natAbs -w.natAbs):=by by_cases h1:z<0<;>by_cases h2:w<0<;>simp[h1,h2,sg] at hs ⊢ <;>omega
   refine Dz ?_;simp only[↓zP,zJ,Nat.reduceLT,Nat.reduceEqDiff,Nat.reduceAdd,zD,reduceCtorEq,Nat.reduceLeDiff,la,lb];refine eT (XB hz hle _) ?_;simp only[Nat.reduceAdd];refine eT (oH (Er (Nat.sub_le _ _) hz) e _) ?_;simp only[↓zP,zJ,Nat.reduceEqDiff,Nat.reduceAdd,zD,reduceCtorEq,cI,hl];refine⟨rfl,_,by simp only[↓zP,zR,Nat.reduceEqDiff,Nat.reduceAdd,hl];rfl,?_⟩;rw[hr];rfl
 have hle:z.natAbs<=w.natAbs:=by unfold LP at h;split at h<;>(try split at h)<;>omega
 have e:z+w=sg (decide (w<0)) (w.natAbs -z.natAbs):=by by_cases h1:z<0<;>by_cases h2:w<0<;>simp[h1,h2,sg] at hs ⊢ <;>omega
 refine Dz ?_;simp only[↓zP,zJ,Nat.reduceLT,Nat.reduceEqDiff,Nat.reduceAdd,zD,reduceCtorEq,Nat.reduceLeDiff,la,lb];refine eT (XB hw hle _) ?_;simp only[Nat.reduceAdd];refine eT (oH (Er (Nat.sub_le _ _) hw) e _) ?_;simp only[↓zP,zJ,Nat.reduceEqDiff,Nat.reduceAdd,zD,reduceCtorEq,cI,hl];refine⟨rfl,_,by simp only[↓zP,zR,Nat.reduceEqDiff,Nat.reduceAdd,hl];rfl,?_⟩;rw[hr];rfl
theorem TK {a b:List AV} {x y:Option Int} (ha:fZ a x) (hb:fZ b y) (H:aA):Sg 57 [.agg a,.agg b] H (.ret (.agg (cO (IB x y)))) H:=by
 cases x with
 |none=>exact c9 ha hb rfl H
 |some z=>cases y with
  |none=>exact c9 ha hb rfl H
  |some w=>obtain⟨rfl,hz⟩:=ha.some;obtain⟨rfl,hw⟩:=hb.some;exact xj hz hw H
theorem YT {a:List AV} {x:Option Int} (ha:fZ a x) (H:aA):Sg 104 [.agg a] H (.ret (.agg (cO (RS x)))) H:=by
 refine So aXm (by simp only[sf,ha.free]) ?_ H;unfold aMu;dsimp only;simp only[↓zP,zJ,Nat.reduceLT,Nat.reduceEqDiff,oL ha.len];refine bK (rP ha _) ?_
 cases x with
 |none=>simp only[↓zP,zJ,Nat.reduceLT,Bu];refine bK (sI _) ?_;simp only[↓zP,zJ,Nat.reduceEqDiff,Nat.reduceAdd,wU];exact⟨rfl,_,by simp only[↓zP,zR,Nat.reduceEqDiff,Nat.reduceAdd];rfl,rfl⟩
 |some z=>obtain⟨rfl,hz⟩:=ha.some;have la:=iL (.aW z.natAbs);have hl:=iL (.aW (-z).natAbs);simp only[↓zP,zJ,Nat.reduceLT,Nat.reduceEqDiff,Nat.reduceAdd,Nat.reduceLeDiff,Bd,cI,la];refine bK (oH (n:= !decide (z<0)) hz (z:= -z) (by by_cases h:z<0<;>simp[sg,h]<;>omega) _) ?_;simp only[↓zP,zJ,Nat.reduceEqDiff,Nat.reduceAdd,cI,hl];exact⟨rfl,_,by simp only[↓zP,zR,Nat.reduceEqDiff,Nat.reduceAdd,hl];rfl,rfl⟩
theorem yj {a b:List AV} {x y:Option Int} (ha:fZ a x) (hb:fZ b y) (H:aA):Sg 121 [.agg a,.agg b] H (.ret (.agg (cO (IB x (RS y))))) H:=by
 refine So aYb (by simp only[sf,ha.free,hb.free]) ?_ H;unfold aNj;dsimp only;simp only[↓zP,zJ,Nat.reduceLT,Nat.reduceEqDiff,Nat.reduceAdd];refine Dz ?_;simp only[↓zP,zJ,Nat.reduceLT,Nat.reduceEqDiff,Nat.reduceAdd,zD,reduceCtorEq,oL ha.len,oL hb.len];refine eT (YT hb _) ?_;simp only[Nat.reduceAdd];refine eT (TK ha hb.neg _) ?_;simp only[↓zP,zJ,Nat.reduceEqDiff,Nat.reduceAdd,zD,reduceCtorEq]
 (refine Rx ?_;rfl)
theorem KJ (a:Nat) (H:aA):Sg 141 [.agg (wC (aW 16 a))] H (.ret (.int .i64 (sz a:Nat))) H:=by
 refine So aYm (by simp only[sf]) ?_ H;unfold aNt;dsimp only;have la:=iL (.aW a);simp only[↓zP,zJ,Nat.reduceLT];refine aH (fK [3] (fun m vs H'=>vs=[.int .i64 (m:Nat)]/\m<=16/\j7 m a=sz a/\H'.get 0=some (.cells (wC (aW 16 a)) false)) 16 (by rfl) ?_ ?_)
 · refine⟨by simp only[sm,zB];rfl,by omega,rfl,by simp only[zI]⟩
 rintro m f H hk ⟨hv,hm,hd,g0⟩;simp only[zM] at hv;simp only[↓zP,zJ,Nat.reduceLT,Nat.reduceEqDiff,hv]
 cases m with
 |zero=>simp only[zJ,show decide (((0:Nat):Int)>0)=false from rfl];refine Rx ?_;rw[<-hd];rfl
 |succ m=>
  have w:IntKind.i64.wrap (((m+1:Nat):Int) -1)=(m:Nat):=wI (by omega);simp only[↓zP,zJ,Nat.reduceEqDiff,show decide (((m+1:Nat):Int)>0)=true from Al (by omega),hk 1 rfl,w,aB,g0,show m<16 by omega,show m+1<=16 by omega,la,kJ (show m<16 by omega)];by_cases hz:bA a m=0
  · simp only[zG,hz,show(((0:Nat):Int)==0)=true from rfl];refine aH ?_;simp only[↓zP,zG,Nat.reduceLT,Nat.reduceEqDiff,hv,w];refine⟨m,by omega,rfl,by omega,by rw[<-hd,j7,if_pos hz],g0⟩
  have hb:(((bA a m:Nat):Int)==0)=false:=by simp;omega
  simp only[zG,hb];refine Rx ?_;rw[<-hd,j7,if_neg hz];rfl
theorem JH:∀b:Nat,b<256->([0,1,2,2,3,3,3,3,4,4,4,4,4,4,4,4,5,5,5,5,5,5,5,5,5,5,5,5,5,5,5,5,6,6,6,6,6,6,6,6,6,6,6,6,6,6,6,6,6,6,6,6,6,6,6,6,6,6,6,6,6,6,6,6,7,7,7,7,7,7,7,7,7,7,7,7,7,7,7,7,7,7,7,7,7,7,7,7,7,7,7,7,7,7,7,7,7,7,7,7,7,7,7,7,7,7,7,7,7,7,7,7,7,7,7,7,7,7,7,7,7,7,7,7,7,7,7,7,8,8,8,8,8,8,8,8,8,8,8,8,8,8,8,8,8,8,8,8,8,8,8,8,8,8,8,8,8,8,8,8,8,8,8,8,8,8,8,8,8,8,8,8,8,8,8,8,8,8,8,8,8,8,8,8,8,8,8,8,8,8,8,8,8,8,8,8,8,8,8,8,8,8,8,8,8,8,8,8,8,8,8,8,8,8,8,8,8,8,8,8,8,8,8,8,8,8,8,8,8,8,8,8,8,8,8,8,8,8,8,8,8,8,8,8,8,8,8,8,8,8,8,8,8,8,8,8]:List UInt8)[b]?=some (UInt8.ofNat (eX b)):=by decide+kernel
theorem aKu (u k:Nat) (kk:IntKind) (hk:k<=kk.bits):(u:Int).fdiv (2^min (Int.toNat k) kk.bits)=((u / 2^k:Nat):Int):=by rw[show min (Int.toNat k) kk.bits=k by simp;omega,Js _ (by exact_mod_cast Bb _)];simp
theorem Ng {b n:Nat} (hb:b<256) (hn:n<=24):IntKind.i64.wrap ((n:Int)+IntKind.i64.wrap ((UInt8.ofNat (eX b)).toNat:Int))=((n+eX b:Nat):Int):=by
 have h1:eX b<=8:=oO.2 hb;have h2:(UInt8.ofNat (eX b)).toNat=eX b:=by simp;omega
 have h3:IntKind.i64.wrap ((eX b:Nat):Int)=(eX b:Nat):=wrap_i64 (by omega) (by omega);rw[h2,h3,wrap_i64 (by omega) (by omega)];simp
theorem wu8 {b:Nat} (hb:b<256):IntKind.u8.wrap (b:Int)=(b:Int):=by simp only[IntKind.wrap,IntKind.bits,IntKind.signed];simp;omega
theorem x7 {a:Nat} (ha:a<W) (H:aA):Sg 143 [.int .u32 a] H (.ret (.int .i64 (eX a:Nat))) H:=by
 refine So aYo (by simp only[sf]) ?_ H;unfold aNv;dsimp only;have hW:W=4294967296:=rfl;simp only[↓zP,zJ,Nat.reduceLT,Nat.reduceEqDiff,Int.reduceLT];have f16:∀u:Nat,(u:Int).fdiv (2^min (Int.toNat 16) IntKind.u32.bits)=((u / 2^16:Nat):Int):=fun u=>aKu u 16 .u32 (by decide);have f8:∀u:Nat,(u:Int).fdiv (2^min (Int.toNat 8) IntKind.u32.bits)=((u / 2^8:Nat):Int):=fun u=>aKu u 8 .u32 (by decide);have w24:IntKind.i64.wrap (16+8)=((24:Nat):Int):=by decide
 have w8:IntKind.i64.wrap (0+8)=((8:Nat):Int):=by decide
 refine⟨fun h=>?_,fun h=>?_⟩
 · simp only[f16];refine⟨fun h2=>?_,fun h2=>?_⟩
   · have hb:a / 2^16 / 2^8<256:=(by omega);simp only[↓zP,zJ,f8,wu8 hb,aB,JH _ hb,w24,Ng hb (show 24<=24 by omega)];refine Rx ?_
     have e:eX a=24+eX (a / 2^16 / 2^8):=by rw[Gc,<-Ks,tE (k:=16+8) (by omega)];omega
     rw[e];rfl
   have hb:a / 2^16<256:=(by omega);have :=Ng hb (show 16<=24 by omega);simp only[↓zP,zJ,wu8 hb,aB,JH _ hb];refine Rx ?_;have e:eX a=16+eX (a / 2^16):=(by rw[tE (k:=16) (by omega)];omega);rw[e,<-this];rfl
 refine⟨fun h2=>?_,fun h2=>?_⟩
 · have hb:a / 2^8<256:=by omega
   simp only[↓zP,zJ,f8,wu8 hb,aB,JH _ hb,w8,Ng hb (show 8<=24 by omega)];refine Rx ?_;have e:eX a=8+eX (a / 2^8):=(by rw[tE (k:=8) (by omega)];omega);rw[e];rfl
 have hb:a<256:=by omega
 have :=Ng hb (show 0<=24 by omega);simp only[↓zP,zJ,wu8 hb,aB,JH _ hb];refine Rx ?_;rw[Df] at this;rw[<-this];rfl
theorem aKv {α:Type} (a b d:α) (l:List α) (k:Nat):(a::b::l).getD (2+k) d=l.getD k d:=by rw[Hh];rfl
def zj:Option Int->Nat
 |some z=>eX z.natAbs
 |none=>0
theorem aFf {a:List AV} {x:Option Int} (ha:fZ a x) (H:aA):Sg 81 [.agg a] H (.ret (.int .i64 (zj x:Nat))) H:=by
 refine So bIh (by simp only[sf,ha.free]) ?_ H;unfold W81;dsimp only;obtain⟨r,rfl,hx,-⟩:=ha.raw;have hr:=jf r.hl;have lr:=Lr r.hl;have hs:=KJ (DO r.l);rw[lr] at hs;have Mf:=rP ha;rw[show r.cells=.bool r.b::.bool r.n::wC r.l from rfl] at Mf;simp only[↓zP,zJ,Nat.reduceLT,Nat.reduceEqDiff,Nat.reduceAdd,AR.cells,iL r.hl];refine bK (hs _) ?_;simp only[↓zP,zJ,Nat.reduceLT,Nat.reduceEqDiff,Nat.reduceAdd,iL r.hl];refine bK (Mf _) ?_
 cases x with
 |none=>simp only[↓zP,zJ,Nat.reduceLT,Nat.reduceEqDiff,Bu];exact⟨rfl,_,by simp only[↓zP,zR];rfl,rfl⟩
 |some z=>
  have hz:=ha.fit;obtain⟨hb,hn,hl,-⟩:=TG r.hl hx.symm;have ez:DO r.l=z.natAbs:=by rw[hl,gU hz]
  rw[ez];by_cases h0:sz z.natAbs=0
  · simp only[↓zP,zJ,Nat.reduceLT,Nat.reduceEqDiff,Bd,h0,show(((0:Nat):Int)==0)=true from rfl];refine Rx ?_;rw[zj,(aJt hz).1 h0];rfl
  have hb:(((sz z.natAbs:Nat):Int)==0)=false:=by simp;omega
  have l16:=aEo z.natAbs;have w1:IntKind.i64.wrap (((sz z.natAbs:Nat):Int) -1)=((sz z.natAbs -1:Nat):Int):=wI (by omega);have w2:IntKind.i64.wrap (32*((sz z.natAbs -1:Nat):Int))=((32*(sz z.natAbs -1):Nat):Int):=by rw[wrap_i64 (by omega) (by omega)];simp
  have hg:(wC r.l).getD (sz z.natAbs -1) aD=.int .u32 (bA z.natAbs (sz z.natAbs -1)):=by rw[hl,kJ (by omega)]
  have wD:eX (bA z.natAbs (sz z.natAbs -1))<=32:=oO.2 (gE _ _)
  have w3:IntKind.i64.wrap (((32*(sz z.natAbs -1):Nat):Int)+(eX (bA z.natAbs (sz z.natAbs -1)):Nat))=((eX z.natAbs:Nat):Int):=by rw[wrap_i64 (by omega) (by omega),l9 hz h0];simp
  simp only[↓zP,zJ,Nat.reduceLT,Nat.reduceEqDiff,Nat.reduceAdd,Nat.reduceLeDiff,Bd,hb,w1,w2,aB,show sz z.natAbs -1<16 by omega,show 2+(sz z.natAbs -1)<=17 by omega,iL r.hl,aKv,hg];refine bK (x7 (gE z.natAbs (sz z.natAbs -1)) _) ?_;simp only[↓zP,zJ,Nat.reduceLT,Nat.reduceEqDiff,w3]
  (refine Rx ?_;rfl)
def eN:Option Int->Int×Bool
 |some z=>if -2^63<=z/\z<2^63 then(z,true) else(0,false)
 |none=>(0,false)
theorem aIp {a b:Nat} (ha:a<4294967296) (hb:b<4294967296):IC .or .u64 (IntKind.u64.wrap (((a:Nat):Int)*2^(min (Int.toNat 32) IntKind.u64.bits))) ((b:Nat):Int)=some (.int .u64 ((a*4294967296+b:Nat):Int)):=by
 have e:IntKind.u64.wrap (((a:Nat):Int)*2^(min (Int.toNat 32) IntKind.u64.bits))=((a*4294967296:Nat):Int):=by show IntKind.u64.wrap (((a:Nat):Int)*4294967296)=_;exact qH (by omega) (by omega)
 rw[e]
 have e2:(a*4294967296|||b)=a*4294967296+b:=by have :=Nat.two_pow_add_eq_or_of_lt (i:=32) hb a;rw[Da] at this;exact this.symm
 have e3:∀n:Nat,BitVec.ofInt 64 (n:Int)=BitVec.ofNat 64 n:=fun n=>by simp
 simp only[IC];congr 2;rw[show IntKind.u64.bits=64 from rfl,e3,e3,<-BitVec.ofNat_or,e2,BitVec.toNat_ofNat,Cn (by omega)];exact qH (by omega) (.inl rfl)
theorem AT {a:List AV} {x:Option Int} (ha:fZ a x) (H:aA):Sg 38 [.agg a] H (.ret (.gP [.int .i64 (eN x).1,.bool (eN x).2])) H:=by
 refine So bHf (by simp only[sf,ha.free]) ?_ H;unfold W38;dsimp only;simp only[↓zP,zJ,Nat.reduceLT,Nat.reduceEqDiff,oL ha.len];refine bK (rP ha _) ?_
 cases x with
 |none=>simp only[↓zP,zJ,Nat.reduceLT,Nat.reduceEqDiff,Bu];exact⟨rfl,_,by simp only[↓zP,zR,Nat.reduceEqDiff];rfl,rfl⟩
 |some z=>
  obtain⟨rfl,hz⟩:=ha.some;have la:=iL (.aW z.natAbs);have hW:W=4294967296:=rfl;have hW2:W^2=2^64:=rfl;simp only[↓zP,zJ,Nat.reduceLT,Nat.reduceEqDiff,Bd];refine bK (aFf ha _) ?_;simp only[↓zP,zJ,Nat.reduceLT,Nat.reduceEqDiff,zj];refine⟨fun h=>?_,fun h=>?_⟩
  · have :¬z.natAbs<2^64:=fun hh=>by have :=oO.2 hh;omega
    refine Rx ?_;rw[eN,if_neg (by omega)];rfl
  have eQ:z.natAbs<2^64:=oO.1 (by omega);have e0:(wC (aW 16 z.natAbs)).getD 0 aD=.int .u32 (bA z.natAbs 0:Nat):=kJ (by omega);have e1:(wC (aW 16 z.natAbs)).getD 1 aD=.int .u32 (bA z.natAbs 1:Nat):=kJ (by omega);have h0:=gE z.natAbs 0;have h1:=gE z.natAbs 1;have w0:IntKind.u64.wrap ((bA z.natAbs 0:Nat):Int)=(bA z.natAbs 0:Nat):=qH (by omega) (.inl rfl);have w1:IntKind.u64.wrap ((bA z.natAbs 1:Nat):Int)=(bA z.natAbs 1:Nat):=qH (by omega) (.inl rfl)
  have et:bA z.natAbs 1*W+bA z.natAbs 0=z.natAbs:=by have h2:bA z.natAbs 0=z.natAbs%W:=(by simp[bA]);have h3:bA z.natAbs 1=z.natAbs / W:=(by unfold bA;rw[Nat.pow_one,hW,Cn (by omega)]);rw[h2,h3,Da];exact Fh _ _
  have ho:=aIp h1 h0;rw[hW] at et;rw[et] at ho;unfold cI;simp only[↓zP,zJ,Nat.reduceLT,Nat.reduceAdd,Nat.reduceLeDiff,Int.reduceLT,la,jI,e0,e1,w0,w1,ho];refine aH ?_;by_cases Mm:z<0
  · simp only[↓zP,zJ,Nat.reduceLT,Nat.reduceEqDiff,Nat.reduceAdd,Nat.reduceLeDiff,Al Mm,la];refine⟨fun h4=>?_,fun h4=>?_⟩
    · have w2:IntKind.u64.wrap (0 -((z.natAbs:Nat):Int))=((2^64 -z.natAbs:Nat):Int):=qH (by omega) (by omega)
      have w3:IntKind.i64.wrap ((2^64 -z.natAbs:Nat):Int)=z:=by simp only[IntKind.wrap,IntKind.bits,IntKind.signed];simp;omega
      refine⟨rfl,_,by simp only[↓zP,zR,Nat.reduceEqDiff,w2,w3];rfl,?_⟩;rw[eN,if_pos (by omega)];rfl
    refine Rx ?_;rw[eN,if_neg (by omega)];rfl
  simp only[↓zP,zJ,Nat.reduceLT,Nat.reduceEqDiff,Nat.reduceAdd,Nat.reduceLeDiff,Ae Mm,la];refine⟨fun h4=>?_,fun h4=>?_⟩
  · have w3:IntKind.i64.wrap ((z.natAbs:Nat):Int)=z:=by
     rw[wrap_i64 (by omega) (by omega)];omega
    refine⟨rfl,_,by simp only[↓zP,zR,Nat.reduceEqDiff,w3];rfl,?_⟩;rw[eN,if_pos (by omega)];rfl
  refine Rx ?_;rw[eN,if_neg (by omega)];rfl
def AH:Option Int->Int
 |some z=>if z<0 then -1 else if z=0 then 0 else 1
 |none=>0
def aVp:Option Int->Option Int
 |some z=>some z.natAbs
 |none=>none
def iH:Option Int->Option Int->Int
 |some x,some y=>if x<y then -1 else if y<x then 1 else 0
 |none,none=>0
 |none,_=> -1
 |_,none=>1
theorem rW {n:Nat} (h:n<W^16):aW 16 n=zs↔n=0:=by rw[<-CB (.aW n),gU h]
theorem NZ {a:List AV} {x:Option Int} (ha:fZ a x) (H:aA):Sg 123 [.agg a] H (.ret (.int .i64 (AH x))) H:=by
 refine So aYd (by simp only[sf,ha.free]) ?_ H;unfold aNl;dsimp only;simp only[↓zP,zJ,Nat.reduceLT];refine aH ?_;simp only[↓zP,zJ,Nat.reduceLT,Nat.reduceEqDiff,oL ha.len];refine bK (rP ha _) ?_
 cases x with
 |none=>simp only[↓zP,zJ,Nat.reduceLT,Nat.reduceEqDiff,Bu];exact⟨rfl,_,by simp only[↓zP,zR];rfl,rfl⟩
 |some z=>
  obtain⟨rfl,hz⟩:=ha.some;have la:=iL (.aW z.natAbs);unfold cI;by_cases Mm:z<0
  · have he:decide (aW 16 z.natAbs=zs)=false:=by rw[Ae];rw[rW hz];omega
    simp only[↓zP,zJ,Nat.reduceLT,Nat.reduceEqDiff,Nat.reduceAdd,Nat.reduceLeDiff,Bd,la,he,Al Mm];refine Rx ?_;rw[AH,if_pos Mm];rfl
  by_cases h1:z=0
  · subst h1;simp only[↓zP,zJ,Nat.reduceLT,Nat.reduceEqDiff,Nat.reduceAdd,Int.reduceLT,Bd,la,show decide (aW 16 (Int.natAbs 0)=zs)=true from rfl];exact⟨rfl,_,by simp only[↓zP,zR];rfl,rfl⟩
  have he:decide (aW 16 z.natAbs=zs)=false:=by rw[Ae];rw[rW hz];omega
  simp only[↓zP,zJ,Nat.reduceLT,Nat.reduceEqDiff,Nat.reduceAdd,Nat.reduceLeDiff,Bd,la,he,Ae Mm];refine Rx ?_;rw[AH,if_neg Mm,if_neg h1];rfl
theorem aMl {a:List AV} {x:Option Int} (ha:fZ a x) (H:aA):Sg 166 [.agg a] H (.ret (.agg (cO (aVp x)))) H:=by
 refine So aZf (by simp only[sf,ha.free]) ?_ H;unfold aOm;dsimp only;simp only[↓zP,zJ,Nat.reduceLT,Nat.reduceEqDiff,oL ha.len];refine bK (rP ha _) ?_
 cases x with
 |none=>simp only[↓zP,zJ,Nat.reduceLT,Bu];refine bK (sI _) ?_;simp only[↓zP,zJ,Nat.reduceEqDiff,Nat.reduceAdd];exact⟨rfl,_,by simp only[↓zP,zR,Nat.reduceEqDiff];rfl,rfl⟩
 |some z=>obtain⟨rfl,hz⟩:=ha.some;have la:=iL (.aW z.natAbs);unfold cI;simp only[↓zP,zJ,Nat.reduceLT,Nat.reduceEqDiff,Nat.reduceAdd,Bd,la];refine bK (oH (n:=false) hz (z:=(z.natAbs:Int)) rfl _) ?_;simp only[↓zP,zJ,Nat.reduceEqDiff,Nat.reduceAdd];exact⟨rfl,_,by simp only[↓zP,zR,Nat.reduceEqDiff];rfl,rfl⟩
theorem KX {a b:List AV} {x y:Option Int} (ha:fZ a x) (hb:fZ b y) (H:aA):Sg 69 [.agg a,.agg b] H (.ret (.int .i64 (iH x y))) H:=by
 refine So bId (by simp only[sf,ha.free,hb.free]) ?_ H;unfold W69;dsimp only;refine bS ?_;simp only[↓zP,zJ,seval];refine fL ?_;refine Dz ?_;simp only[↓zP,zJ,seval,zD,oL ha.len];refine eT (rP ha _) ?_;simp only[↓zP,zJ,seval,zD,oL hb.len];refine eT (rP hb _) ?_;simp only[↓zP,zJ,seval,zD];refine bT ?_;refine aJ fun K hK=>?_;refine aH ?_
 cases x with
 |none=>
  cases y<;>
  · simp only[↓zP,zJ,seval,Bu,Bd];exact⟨rfl,_,by simp only[↓zP,zR,seval];rfl,rfl⟩
 |some z=>cases y with
  |none=>simp only[↓zP,zJ,seval,Bu,Bd];exact⟨rfl,_,by simp only[↓zP,zR,seval];rfl,rfl⟩
  |some w=>
   obtain⟨rfl,hz⟩:=ha.some;obtain⟨rfl,hw⟩:=hb.some;have la:=iL (.aW z.natAbs);have lb:=iL (.aW w.natAbs);unfold cI;by_cases h1:z<0<;>by_cases h2:w<0
   · simp only[↓zP,zJ,seval,Bd,Al h1,Al h2,la,lb];refine bK (Pt hw hz _) ?_;simp only[↓zP,zG,seval];refine⟨rfl,_,by simp only[↓zP,zR,seval];rfl,?_⟩
     have e:iH (some z) (some w)=LP w.natAbs z.natAbs:=by
      simp only[iH,LP]
      repeat' split
      all_goals first|rfl|omega
     rw[e];rfl
   · simp only[↓zP,zJ,seval,Bd,Al h1,Ae h2,la,lb];refine⟨rfl,_,by simp only[↓zP,zR,seval];rfl,?_⟩;rw[iH,if_pos (by omega)];rfl
   · simp only[↓zP,zJ,seval,Bd,Ae h1,Al h2,la,lb];refine⟨rfl,_,by simp only[↓zP,zR,seval];rfl,?_⟩;rw[iH,if_neg (by omega),if_pos (by omega)];rfl
   simp only[↓zP,zJ,seval,Bd,Ae h1,Ae h2,la,lb];apply hK;simp only[↓zP,zJ,seval,la,lb];refine bK (Pt hz hw _) ?_;simp only[↓zP,zG,seval];refine⟨rfl,_,by simp only[↓zP,zR,seval];rfl,?_⟩
   have e:iH (some z) (some w)=LP z.natAbs w.natAbs:=by
    simp only[iH,LP]
    repeat' split
    all_goals first|rfl|omega
   rw[e];rfl
theorem aKl:[AV.int .u32 0,.int .u32 0,.int .u32 0,.int .u32 0,.int .u32 0,.int .u32 0,.int .u32 0,.int .u32 0,.int .u32 0,.int .u32 0,.int .u32 0,.int .u32 0,.int .u32 0,.int .u32 0,.int .u32 0,.int .u32 0,.int .u32 0,.int .u32 0,.int .u32 0,.int .u32 0,.int .u32 0,.int .u32 0,.int .u32 0,.int .u32 0,.int .u32 0,.int .u32 0,.int .u32 0,.int .u32 0,.int .u32 0,.int .u32 0,.int .u32 0,.int .u32 0]=wC (List.replicate 32 0):=rfl
theorem OA {a b:List AV} {x y:Option Int} (ha:fZ a x) (hb:fZ b y) (H:aA):Sg 79 [.agg a,.agg b] H (.ret (.agg (cO (GL x y)))) H:=by
 refine So bIf (by simp only[sf,ha.free,hb.free]) ?_ H;unfold W79;dsimp only;refine aJ fun K hK=>?_;simp only[↓zP,zG,Nat.reduceLT,Nat.reduceEqDiff,Nat.reduceAdd,zI];apply hK;clear hK K;refine aJ fun K hK=>?_;simp only[↓zP,zG,Nat.reduceLT,Nat.reduceEqDiff,Nat.reduceAdd,zI,oL ha.len,oL hb.len];refine bK (BK ha hb _) ?_
 cases x with
 |none=>simp only[↓zP,zG,Nat.reduceLT,zI,Bu,Jt];refine bK (sI _) ?_;simp only[↓zP,zG,Nat.reduceEqDiff,Nat.reduceAdd,zI,wU];exact⟨rfl,_,by simp only[↓zP,zR,Nat.reduceEqDiff,Nat.reduceAdd];rfl,rfl⟩
 |some z=>cases y with
  |none=>simp only[↓zP,zG,Nat.reduceLT,zI,Bu,Bool.and_false];refine bK (sI _) ?_;simp only[↓zP,zG,Nat.reduceEqDiff,Nat.reduceAdd,zI,wU];exact⟨rfl,_,by simp only[↓zP,zR,Nat.reduceEqDiff,Nat.reduceAdd];rfl,rfl⟩
  |some w=>
   obtain⟨rfl,hz⟩:=ha.some;obtain⟨rfl,hw⟩:=hb.some;have la:=iL (.aW z.natAbs);have lb:=iL (.aW w.natAbs);have hW:W=4294967296:=rfl;simp only[↓zP,zG,Nat.reduceLT,zI,Bd,Ds];apply hK;clear hK K;unfold cI;generalize hA:z.natAbs=A at *;generalize hB:w.natAbs=B at *;refine aJ fun K hK=>?_;simp only[↓zP,zG,Nat.reduceLT,aKl];apply hK;clear hK K;refine aJ fun K hK=>?_;refine Dz ?_;simp only[↓zP,zG,Nat.reduceLT,Nat.reduceEqDiff,Nat.reduceAdd,zD,reduceCtorEq,zI,la];refine eT (KJ A _) ?_;simp only[↓zP,zG,Nat.reduceLT,Nat.reduceEqDiff,Nat.reduceAdd,zD,reduceCtorEq,zI,lb];refine eT (KJ B _) ?_;simp only[↓zP,zG,Nat.reduceLT,Nat.reduceEqDiff,Nat.reduceAdd,zD,reduceCtorEq,zI];apply hK;clear hK K;have hn:=aEo A;have hm:=aEo B;have hAl:=j8 hz;have hBl:=j8 hw;generalize hnn:sz A=n at *;generalize hmm:sz B=m at *;refine aJ fun K hK=>?_;refine aJ fun K2 cK=>?_;simp only[↓zP,zG,Nat.reduceLT,Nat.reduceEqDiff];apply cK;clear cK K2;refine bQ [] (fun i _ H'=>∃o,LW 32 o/\DO o=A%W^i*B/\H'.get 0=some (.cells (.bool false::.bool (decide (z<0))::wC (aW 16 A)) false)/\H'.get 1=some (.cells (.bool false::.bool (decide (w<0))::wC (aW 16 B)) false)/\H'.get 2=some (.cells (.bool false::.bool false::wC zs) false)/\H'.get 3=some (.cells (wC o) false)) n (by omega) (by decide) ?_ ?_ ?_ ?_ ?_
   · simp only[zB]
   · simp only[zB,Nat.reduceEqDiff]
   · refine⟨List.replicate 32 0,⟨by simp,fun d hd=>by rw[Ff hd];decide⟩,by rw[Kd,Nat.mod_one,Ic];decide,?_⟩;simp only[zG,Nat.reduceEqDiff,Nat.reduceAdd,zI]
   · rintro i f H hi hk e1 ⟨o,ho,hv,g0,g1,g2,g3⟩;have hD:=gE A i;refine aH ?_;refine aJ fun K2 cK=>?_;simp only[↓zP,zG,Nat.reduceLT,e1];apply cK;clear cK K2;refine aJ fun K2 cK=>?_;simp only[↓zP,zG,Nat.reduceLT];apply cK;clear cK K2;refine aJ fun K2 cK=>?_;refine aJ fun K3 EB=>?_;simp only[↓zP,zG,Nat.reduceLT,Nat.reduceEqDiff,hk 7 rfl];apply EB;clear EB K3
     have hP:A%W^i*B<W^(i+m):=by rw[Ks];exact Nat.mul_lt_mul'' (De _ (lJ i)) hBl
     refine bQ [9] (fun k vs H'=>∃o c,vs=[.int .u64 (c:Nat)]/\c<W/\LW 32 o/\DO o+c*W^(i+k)=A%W^i*B+bA A i*W^i*(B%W^k)/\(∀j,i+k<=j->o.getD j 0=bA (A%W^i*B) j)/\H'.get 0=some (.cells (.bool false::.bool (decide (z<0))::wC (aW 16 A)) false)/\H'.get 1=some (.cells (.bool false::.bool (decide (w<0))::wC (aW 16 B)) false)/\H'.get 2=some (.cells (.bool false::.bool false::wC zs) false)/\H'.get 3=some (.cells (wC o) false)) m (by omega) (by decide) ?_ ?_ ?_ ?_ ?_
     · simp only[zB]
     · simp only[zB,Nat.reduceEqDiff]
     · refine⟨o,0,by simp only[sm,zB,Nat.reduceEqDiff];rfl,by omega,ho,by rw[hv];simp[Nat.mod_one],fun j hj=>by rw[<-hv,ho.bA],g0,g1,g2,g3⟩
     · rintro k f2 H2 hkm dA e2 ⟨o,c,nJ,hc,ho,he,hj,g0,g1,g2,g3⟩;simp only[zM] at nJ;have hB':=gE B k;have ho':=ho.getD (i+k);have hmul:bA A i*bA B k<=4294967295*4294967295:=Bv (by omega) (by omega);have q1:IntKind.u64.wrap ((bA A i:Nat):Int)=(bA A i:Nat):=qH (by omega) (.inl rfl);have q2:IntKind.u64.wrap ((bA B k:Nat):Int)=(bA B k:Nat):=qH (by omega) (.inl rfl);have q3:IntKind.u64.wrap ((o.getD (i+k) 0:Nat):Int)=(o.getD (i+k) 0:Nat):=qH (by omega) (.inl rfl);have q4:IntKind.u64.wrap (((bA A i:Nat):Int)*(bA B k:Nat))=((bA A i*bA B k:Nat):Int):=qH (by omega) (.inl (by simp));have q5:IntKind.u64.wrap (((bA A i*bA B k:Nat):Int)+(o.getD (i+k) 0:Nat))=((bA A i*bA B k+o.getD (i+k) 0:Nat):Int):=qH (by omega) (.inl (by omega));have q6:IntKind.u64.wrap (((c:Nat):Int)+((bA A i*bA B k+o.getD (i+k) 0:Nat):Int))=((c+bA A i*bA B k+o.getD (i+k) 0:Nat):Int):=qH (by omega) (.inl (by omega));have q7:IntKind.i64.wrap ((i:Int)+(k:Int))=((i+k:Nat):Int):=wI (by omega);have hg:(wC o).getD (i+k) aD=.int .u32 (o.getD (i+k) 0:Nat):=vS (by rw[ho.1];omega);have hs:=aCm ho (show i+k<32 by omega) he;refine aH ?_;refine aJ fun K2 cK=>?_;simp only[↓zP,zG,Nat.reduceLT,e2];apply cK;clear cK K2;refine aJ fun K2 cK=>?_;refine Dz ?_;simp only[↓zP,zG,Nat.reduceLT,Nat.reduceEqDiff,Nat.reduceAdd,zD,reduceCtorEq,zI,Nat.reduceLeDiff,nJ,dA 8 rfl,dA 2 rfl,dA 3 rfl,dA 5 rfl,hk 2 rfl,hk 3 rfl,hk 5 rfl,aB,g0,g1,g3,show i<16 by omega,show k<16 by omega,show 2+i<=17 by omega,show 2+k<=17 by omega,la,lb,aKv,kJ (show i<16 by omega),kJ (show k<16 by omega),q1,q2,q3,q4,q5,q6,q7,show i+k<32 by omega,show i+k+1<=32 by omega,cM,ho.1,hg];apply cK;clear cK K2;simp only[↓zP,zG,Nat.reduceLT,Nat.reduceEqDiff,zI,Int.reduceLT,dA 8 rfl,dA 5 rfl,hk 5 rfl,q7,aB,g3,show i+k<32 by omega,show i+k+1<=32 by omega,cM,ho.1,Uz,Oh];refine⟨o.set (i+k) _,_,rfl,?_,ho.set (i+k) (De _ OI),hs,fun j hjk=>?_,g0,g1,g2,?_⟩
       · rw[Ed OI,hW];omega
       · rw[aAt (by rw[ho.1];omega),if_neg (by omega)];exact hj j (by omega)
       exact Ao (fun l=>some (dY.cells l false)) (yE (by rw[ho.1];omega) _)
     rintro f2 H2 dA ⟨o,c,nJ,hc,ho,he,hj,g0,g1,g2,g3⟩;simp only[zM] at nJ;have q7:IntKind.i64.wrap ((i:Int)+(m:Int))=((i+m:Nat):Int):=wI (by omega);simp only[↓zP];apply cK;clear cK K2;simp only[↓zP,zG,Nat.reduceLT,Nat.reduceEqDiff,zI,dA 8 rfl,dA 7 rfl,dA 5 rfl,hk 7 rfl,hk 5 rfl,q7,nJ,aB,g3,show i+m<32 by omega,show i+m+1<=32 by omega,cM,ho.1,Uz];rw[Cn hc];refine⟨o.set (i+m) c,ho.set _ hc,aHr ho (by omega) hBl rfl he (by rw[hj _ (Ak _)];exact DM hP),g0,g1,g2,?_⟩;exact Ao (fun l=>some (dY.cells l false)) (yE (by rw[ho.1];omega) _)
   rintro f H hk ⟨o,ho,hv,g0,g1,g2,g3⟩;simp only[↓zP];apply hK;clear hK K;rw[Cn hAl] at hv;have hoe:=ho.eq;rw[hv] at hoe;have l1:(wC o).length=32:=by rw[cM,ho.1]
   have l2:((wC o).drop 16).take 16=wC (o.drop 16):=by rw[Bk (by simp[l1])];simp[wC]
   have EC:(z*w).natAbs=A*B:=(by rw[Ha,hA,hB]);have hX:A*B<W^32:=(by rw[<-hv];exact ho.lt);have l3:(wC o).take 16=wC (aW 16 (A*B)):=(by rw[hoe,<-Zm (by omega:16<=32)];simp[wC]);have l4:(A*B<W^16)↔o.drop 16=zs:=(by rw[hoe];exact Zl hX);have d16:(o.drop 16).length=16:=(by simp[ho.1]);simp only[↓zP,zG,Nat.reduceLT,Nat.reduceEqDiff,Nat.reduceAdd,zI,Nat.reduceLeDiff,Nat.reduceSub,hk 5 rfl,g3,l1,l2,cZ,show asNat (.int .i64 16)=some 16 from rfl,Bu,tU,Dg,Bc,Rq (b:=zs) d16 rfl];refine⟨fun h=>?_,fun h=>?_⟩
   · have eQ:=l4.2 h;have hr:norm (z*w)=some (z*w):=(by unfold norm;rw[EC,if_pos eQ]);refine Dz ?_;simp only[↓zP,zG,Nat.reduceLT,Nat.reduceEqDiff,Nat.reduceAdd,zD,reduceCtorEq,zI,Nat.reduceLeDiff,hk 5 rfl,hk 2 rfl,hk 3 rfl,g0,g1,g3,l1,l3,la,lb,cZ,show asNat (.int .i64 16)=some 16 from rfl,Bu,Bd,tU,Dg,Bc]
     have e:z*w=sg (!(decide (z<0)==decide (w<0))) (A*B):=by
      have ez:z=if z<0 then -(A:Int) else A:=by split<;>omega
      have ew:w=if w<0 then -(B:Int) else B:=(by split<;>omega);by_cases h1:z<0<;>by_cases h2:w<0<;>simp only[h1,h2,if_true,Cm] at ez ew<;>simp[h1,h2,sg]<;>(conv=>lhs;rw[ez,ew])<;>simp only[Ji,Int.mul_neg,Int.neg_neg]
     refine eT (oH eQ e _) ?_;simp only[↓zP,zG,Nat.reduceEqDiff,Nat.reduceAdd,zD,reduceCtorEq,zI,hk 4 rfl,g2];refine⟨rfl,_,by simp only[↓zP,zR,Nat.reduceEqDiff,hk 4 rfl];rfl,?_⟩;rw[GL,hr];rfl
   refine bK (sI _) ?_;simp only[↓zP,zG,Nat.reduceEqDiff,Nat.reduceAdd,zI,wU,hk 4 rfl,g2];refine⟨rfl,_,by simp only[↓zP,zR,Nat.reduceEqDiff,Nat.reduceAdd,hk 4 rfl];rfl,?_⟩;have hr:norm (z*w)=none:=(by unfold norm;rw[EC,if_neg (fun hh=>h (l4.1 hh))]);rw[GL,hr];rfl
def KS (z:Int):Prop:= -2^63<=z/\z<2^63
theorem KS.fit {z:Int} (h:KS z):z.natAbs<W^16:=by
 have h1:(2:Nat)^64<W^16:=by decide
 have :=h.1;have :=h.2;omega
theorem zF {v:aG.V} (hv:∀i,KS (v.at i)) (H:aA):Sg 170 [.agg (bZ v)] H (.ret (.agg (c3 fun i=>cI (v.at i)))) H:=by
 refine Sp aLw (by simp only[sf,cC]) (by simp only[sf];exact jW fun i _=>cH _) ?_ H;unfold aFs;dsimp only;simp only[↓zP,zJ,seval,zY,oL (aM v)];refine iR [] (fun i _ H'=>H'.get 1=some (.cells (c3 fun j=>if j<i then cI (v.at j) else cI 0) false)) 3 (by decide) rfl (by decide) ?_ ?_ ?_ ?_
 · simp only[zB,seval]
 · simp only[seval,zI,Ax]
 · rintro i f H hi hk e1 g1;have hl:∀j,j<3->(if j<i then cI (v.at j) else cI 0).length=18:=fun j _=>by split<;>exact dE _
   refine aH ?_;simp only[↓zP,zJ,seval,e1,hk 5 rfl,aB,hi,aM,show i+1<=3 by omega,iM v hi];refine bK (wT (hv i).1 (hv i).2 _) ?_;simp only[↓zP,zJ,seval,hk 2 rfl,aB,hi,g1,fO hl,show i*18+18<=54 by omega];rw[zl hl hi (dE _)]
   exact Ao (fun l=>some (dY.cells l false)) (ID fun j _=>by
    by_cases h:j=i
    · subst h;rw[if_pos rfl,if_pos (by omega)]
    rw[if_neg h];by_cases h2:j<i
    · rw[if_pos h2,if_pos (by omega)]
    rw[if_neg h2,if_neg (by omega)])
 rintro f H hk g1;have e:(c3 fun j=>if j<3 then cI (v.at j) else cI 0)=c3 fun i=>cI (v.at i):=ID fun j hj=>if_pos hj;rw[e] at g1;have hl:∀j,j<3->(cI (v.at j)).length=18:=fun j _=>dE _;simp only[↓zP,zJ,seval,hk 2 rfl,g1,oL (fO hl)];exact⟨rfl,_,by simp only[↓zP,zR,seval,hk 2 rfl,oL (fO hl)];rfl,rfl⟩
theorem aKe {a b:Nat->List AV} {x y:Nat->Option Int} (ha:∀i,i<3->fZ (a i) (x i)) (hb:∀i,i<3->fZ (b i) (y i)) (H:aA):Sg 171 [.agg (c3 a),.agg (c3 b)] H (.ret (.agg (cO (smO x y 3)))) H:=by
 have la:∀i,i<3->(a i).length=18:=fun i hi=>(ha i hi).len;have lb:∀i,i<3->(b i).length=18:=fun i hi=>(hb i hi).len;refine So aLx (by simp only[sf,jW fun i hi=>(ha i hi).free,jW fun i hi=>(hb i hi).free]) ?_ H;unfold aFt;dsimp only;simp only[↓zP,zJ,seval];refine bK (wT (z:=0) (by decide) (by decide) _) ?_;simp only[↓zP,zJ,seval];refine iR [] (fun i _ H'=>H'.get 0=some (.cells (c3 a) false)/\H'.get 1=some (.cells (c3 b) false)/\H'.get 2=some (.cells (.bool false::.bool false::wC zs) false)/\H'.get 3=some (.cells (cO (smO x y i)) false)) 3 (by decide) rfl (by decide) ?_ ?_ ?_ ?_
 · simp only[zB,seval]
 · simp only[seval,zI];exact⟨trivial,trivial,trivial,rfl⟩
 · rintro i f H hi hk e1 ⟨g0,g1,g2,g3⟩;refine aH ?_;refine bS ?_;simp only[↓zP,zG,seval,e1];refine bT ?_;refine Dz ?_;simp only[↓zP,zJ,seval,zD,hk 5 rfl,hk 2 rfl,hk 3 rfl,aB,hi,g0,g1,g3,fO la,fO lb,sM la hi,sM lb hi,show i*18+18<=54 by omega];refine eT (OA (ha i hi) (hb i hi) _) ?_;simp only[seval];refine eT (TK (fZ.sm (x:=x) (y:=y) i) (fZ.mul (x:=x i) (y:=y i)) _) ?_;simp only[↓zP,zJ,seval,zD,hk 5 rfl,g3];exact⟨g0,g1,g2,rfl⟩
 rintro f H hk ⟨g0,g1,g2,g3⟩;simp only[↓zP,zJ,seval,hk 5 rfl,hk 4 rfl,g2,g3];exact⟨rfl,_,by simp only[↓zP,zR,seval,hk 4 rfl];rfl,rfl⟩
theorem vj {a b:Nat->List AV} {x y:Nat->Option Int} (ha:∀i,i<3->fZ (a i) (x i)) (hb:∀i,i<3->fZ (b i) (y i)) (H:aA):Sg 169 [.agg (c3 a),.agg (c3 b)] H (.ret (.agg (c3 fun i=>cO (Yn x y i)))) H:=by
 have la:∀i,i<3->(a i).length=18:=fun i hi=>(ha i hi).len;have lb:∀i,i<3->(b i).length=18:=fun i hi=>(hb i hi).len;refine Sp aZi (by simp only[sf,jW fun i hi=>(ha i hi).free,jW fun i hi=>(hb i hi).free]) (by simp only[sf];exact jW fun i _=>tG _) ?_ H;unfold aOp;dsimp only;simp only[↓zP,zJ,seval,zY];refine iR [] (fun i _ H'=>H'.get 0=some (.cells (c3 a) false)/\H'.get 1=some (.cells (c3 b) false)/\H'.get 2=some (.cells (c3 fun j=>if j<i then cO (Yn x y j) else cI 0) false)) 3 (by decide) rfl (by decide) ?_ ?_ ?_ ?_
 · simp only[zB,seval]
 · simp only[zJ,seval,Ax]
 · rintro i f H hi hk e1 ⟨g0,g1,g2⟩
   have hl:∀j,j<3->(if j<i then cO (Yn x y j) else cI 0).length=18:=fun j _=>by split<;>first|exact dE _|exact FO _
   have w1:IntKind.i64.wrap ((i:Int)+1)=((i+1:Nat):Int):=(by rw[wrap_i64 (by omega) (by omega)];simp);have w2:IntKind.i64.wrap ((i:Int)+2)=((i+2:Nat):Int):=(by rw[wrap_i64 (by omega) (by omega)];simp);have m1:((i+1:Nat):Int).tmod 3=(((i+1)%3:Nat):Int):=rfl;have m2:((i+2:Nat):Int).tmod 3=(((i+2)%3:Nat):Int):=rfl;have b1:(i+1)%3<3:=De _ (by decide);have b2:(i+2)%3<3:=De _ (by decide);refine aH ?_;refine bS ?_;simp only[↓zP,zG,seval,e1];refine fL ?_;simp only[↓zP,zG,seval,w1,w2,m1,m2];refine bT ?_;have p1:(i+1)%3*18+18<=54:=(by omega);have p2:(i+2)%3*18+18<=54:=(by omega);refine Dz ?_;simp only[↓zP,zJ,seval,zD,hk 2 rfl,hk 3 rfl,aB,b1,b2,p1,p2,g0,g1,fO la,fO lb,sM la b1,sM lb b2];refine eT (OA (ha _ b1) (hb _ b2) _) ?_;simp only[↓zP,zJ,seval,zD,hk 2 rfl,hk 3 rfl,aB,b1,b2,p1,p2,g0,g1,fO la,fO lb,sM la b2,sM lb b1];refine eT (OA (ha _ b2) (hb _ b1) _) ?_;simp only[seval];refine eT (yj (fZ.mul (x:=x ((i+1)%3)) (y:=y ((i+2)%3))) (fZ.mul (x:=x ((i+2)%3)) (y:=y ((i+1)%3))) _) ?_;simp only[↓zP,zJ,seval,zD,hk 4 rfl,g2,hi,aB,fO hl,show i*18+18<=54 by omega];refine⟨g0,g1,?_⟩;rw[zl hl hi (FO _)]
   exact Ao (fun l=>dY.cells l false) (ID fun j _=>by
    by_cases h:j=i
    · subst h;rw[if_pos rfl,if_pos (by omega)];rfl
    rw[if_neg h];by_cases h2:j<i
    · rw[if_pos h2,if_pos (by omega)]
    rw[if_neg h2,if_neg (by omega)])
 rintro f H hk ⟨g0,g1,g2⟩;have e:(c3 fun j=>if j<3 then cO (Yn x y j) else cI 0)=c3 fun i=>cO (Yn x y i):=ID fun j hj=>if_pos hj;rw[e] at g2;have hl:∀j,j<3->(cO (Yn x y j)).length=18:=fun j _=>FO _;simp only[↓zP,zJ,seval,hk 4 rfl,g2,oL (fO hl)];exact⟨rfl,_,by simp only[↓zP,zR,seval,hk 4 rfl,oL (fO hl)];rfl,rfl⟩
theorem aMm {v w:aG.V} (hv:∀i,KS (v.at i)) (hw:∀i,KS (w.at i)) (H:aA):Sg 130 [.agg (bZ v),.agg (bZ w)] H (.ret (.agg (cO (smO (fun i=>some (v.at i)) (fun i=>some (w.at i)) 3)))) H:=by
 have ha:∀i,i<3->fZ (cI (v.at i)) (some (v.at i)):=fun i _=>.enc (KS.fit (hv i));have hb:∀i,i<3->fZ (cI (w.at i)) (some (w.at i)):=fun i _=>.enc (KS.fit (hw i));refine So aLq (by simp only[sf,cC]) ?_ H;unfold aFm;dsimp only;simp only[↓zP,zJ,seval];refine Dz ?_;simp only[↓zP,zJ,seval,zD,oL (aM v)];refine eT (zF hv _) ?_;simp only[↓zP,zJ,seval,zD,oL (aM w)];refine eT (zF hw _) ?_;simp only[seval];refine eT (aKe ha hb _) ?_;simp only[↓zP,zJ,seval,zD]
 (refine Rx ?_;rfl)
theorem xm {v w:aG.V} (hv:∀i,KS (v.at i)) (hw:∀i,KS (w.at i)) (H:aA):Sg 129 [.agg (bZ v),.agg (bZ w)] H (.ret (.agg (c3 fun i=>cO (Yn (fun i=>some (v.at i)) (fun i=>some (w.at i)) i)))) H:=by have ha:∀i,i<3->fZ (cI (v.at i)) (some (v.at i)):=fun i _=>.enc (KS.fit (hv i));have hb:∀i,i<3->fZ (cI (w.at i)) (some (w.at i)):=fun i _=>.enc (KS.fit (hw i));have hl:∀j,j<3->(cO (Yn (fun i=>some (v.at i)) (fun i=>some (w.at i)) j)).length=18:=fun j _=>FO _;have hz:∀j:Nat,j<3->(cI 0).length=18:=fun j _=>dE _;refine Sp aYj (by simp only[sf,cC]) (by simp only[sf];exact jW fun i _=>tG _) ?_ H;unfold aNr;dsimp only;simp only[↓zP,zJ,seval,zY];refine Dz ?_;simp only[↓zP,zJ,seval,zD,oL (aM v)];refine eT (zF hv _) ?_;simp only[↓zP,zJ,seval,zD,oL (aM w)];refine eT (zF hw _) ?_;simp only[seval];refine eT (vj ha hb _) ?_;simp only[↓zP,zJ,seval,zD,oL (fO hl),oL (fO hz)];exact⟨rfl,_,by simp only[↓zP,zR,seval,oL (fO hl)];rfl,rfl⟩
theorem qp {a:Nat->List AV} {x:Nat->Option Int} (ha:∀i,i<3->fZ (a i) (x i)) (H:aA):Sg 64 [.agg (c3 a)] H (.ret (.agg (bZ ⟨(eN (x 0)).1,(eN (x 1)).1,(eN (x 2)).1⟩))) H:=by
 have la:∀i,i<3->(a i).length=18:=fun i hi=>(ha i hi).len;refine Sp bBm (by simp only[sf,jW fun i hi=>(ha i hi).free]) (by simp only[sf,cC]) ?_ H;unfold W64;dsimp only;simp only[↓zP,zJ,seval];refine iR [] (fun i _ H'=>H'.get 0=some (.cells (c3 a) false)/\H'.get 1=some (.cells [.int .i64 0,.int .i64 0,.int .i64 0] false)/\H'.get 2=some (.cells ([0,1,2].map fun j=>if j<i then .int .i64 (eN (x j)).1 else .int .i64 0) false)) 3 (by decide) rfl (by decide) ?_ ?_ ?_ ?_
 · simp only[zB,seval]
 · simp only[zJ,seval,Ax]
 · rintro i f H hi hk e1 ⟨g0,g1,g2⟩;refine aH ?_;simp only[↓zP,zJ,seval,e1,hk 1 rfl,aB,hi,g0,fO la,sM la hi,show i*18+18<=54 by omega];refine bK (AT (ha i hi) _) ?_;simp only[↓zP,zJ,seval,hk 3 rfl,g2,aB,hi,show i+1<=3 by omega];refine⟨g0,g1,?_⟩
   match i,hi with
   |0,_=>rfl
   |1,_=>rfl
   |2,_=>rfl
 rintro f H hk ⟨g0,g1,g2⟩;simp only[↓zP,zJ,seval,hk 3 rfl,hk 2 rfl,g1,g2];exact⟨rfl,_,by simp only[↓zP,zR,seval,hk 2 rfl];rfl,rfl⟩
end Go.Proofs.YtbndcmnnbiiobaaGreatDoor
namespace Go.Proofs.YtbndcmnnbiiobaaGreatDoor
open Go Go.Av Go.aG
attribute [local congr] aU aO aP aN aY aR aQ aI aZ
attribute [local irreducible] FC bL eU
theorem wrapN {x:Int} {B:Nat} (h:x.natAbs<=B) (hB:B<2^63):IntKind.i64.wrap x=x:=wrap_i64 (by omega) (by omega)
theorem bM.c {A:Nat} {v:aG.V} (h:bM A v) (i:Nat):(v.at i).natAbs<=A:=by
 unfold V.at;split
 · exact h.1
 · exact h.2.1
 exact h.2.2
theorem IX {a b:aG.V} {A B:Nat} (ha:bM A a) (hb:bM B b) (hs:3*(A*B)<2^62) (H:aA):Sg 194 [.agg (bZ a),.agg (bZ b)] H (.ret (.int .i64 (aG.dot a b))) H:=by
 have h1:=bO ha.1 hb.1;have h2:=bO ha.2.1 hb.2.1;have h3:=bO ha.2.2 hb.2.2;have w1:=wrapN h1 (by omega);have w2:=wrapN h2 (by omega);have w3:=wrapN h3 (by omega);have w4:IntKind.i64.wrap (a.x*b.x+a.y*b.y)=a.x*b.x+a.y*b.y:=wrapN (B:=2*(A*B)) (by omega) (by omega);have w5:IntKind.i64.wrap (a.x*b.x+a.y*b.y+a.z*b.z)=a.x*b.x+a.y*b.y+a.z*b.z:=wrapN (B:=3*(A*B)) (by omega) (by omega);refine So aZr (by simp only[sf,cC]) ?_ H;unfold aOx;dsimp only;simp only[↓zP,zJ,seval,bZ,jI,w1,w2,w3,w4,w5]
 (refine Rx ?_;rfl)
theorem Rz {x y:Int} {M:Nat} (hx:x.natAbs<=M) (hy:y.natAbs<=M) (hM:M<2^61):IntKind.i64.wrap (x -y)=x -y:=wrapN (B:=2*M) (by omega) (by omega)
theorem SM {a b:aG.V} {A B:Nat} (ha:bM A a) (hb:bM B b) (hs:A*B<2^61) (H:aA):Sg 158 [.agg (bZ a),.agg (bZ b)] H (.ret (.agg (bZ (aG.aT a b)))) H:=by
 obtain⟨a1,a2,a3⟩:=ha;obtain⟨b1,b2,b3⟩:=hb;have w1:=wrapN (bO a2 b3) (by omega);have w2:=wrapN (bO a3 b2) (by omega);have w3:=wrapN (bO a3 b1) (by omega);have w4:=wrapN (bO a1 b3) (by omega);have w5:=wrapN (bO a1 b2) (by omega);have w6:=wrapN (bO a2 b1) (by omega);have w7:=Rz (bO a2 b3) (bO a3 b2) hs;have w8:=Rz (bO a3 b1) (bO a1 b3) hs;have w9:=Rz (bO a1 b2) (bO a2 b1) hs;refine So aLv (by simp only[sf,cC]) ?_ H;unfold aFr;dsimp only;simp only[zJ,seval,bZ,jI,w1,w2,w3,w4,w5,w6,w7,w8,w9]
 (refine Rx ?_;rfl)
theorem kb {a:aG.V} {A:Nat} (ha:bM A a) (hs:A<2^62) (H:aA):Sg 190 [.agg (bZ a)] H (.ret (.agg (bZ (aG.neg a)))) H:=by
 obtain⟨a1,a2,a3⟩:=ha;have w1:IntKind.i64.wrap (0 -a.x)= -a.x:=(wrapN (B:=A) (by omega) (by omega)).trans (by omega);have w2:IntKind.i64.wrap (0 -a.y)= -a.y:=(wrapN (B:=A) (by omega) (by omega)).trans (by omega);have w3:IntKind.i64.wrap (0 -a.z)= -a.z:=(wrapN (B:=A) (by omega) (by omega)).trans (by omega);refine So aZo (by simp only[sf,cC]) ?_ H;unfold aOu;dsimp only;simp only[↓zP,zJ,seval,bZ,jI,w1,w2,w3]
 (refine Rx ?_;rfl)
theorem aKc {a b:aG.V} {A B:Nat} (ha:bM A a) (hb:bM B b) (hs:A+B<2^62) (H:aA):Sg 218 [.agg (bZ a),.agg (bZ b)] H (.ret (.agg (bZ (aG.add a b)))) H:=by
 refine So bAj (by simp only[sf,cC]) ?_ H;unfold aPo;dsimp only;simp only[↓zP,zJ,seval,bZ];refine iR [] (fun i _ H'=>H'.get 0=some (.cells ([0,1,2].map fun j=>if j<i then .int .i64 (a.at j+b.at j) else .int .i64 (a.at j)) false)/\H'.get 1=some (.cells (bZ b) false)/\H'.get 2=some (.cells [.int .i64 0,.int .i64 0,.int .i64 0] false)) 3 (by decide) rfl (by decide) ?_ ?_ ?_ ?_
 · simp only[zB,seval]
 · simp only[seval,zI,Ax];exact⟨rfl,rfl,trivial⟩
 · rintro i f H hi hk e1 ⟨g0,g1,g2⟩;have hl:([0,1,2].map fun j=>if j<i then AV.int .i64 (a.at j+b.at j) else .int .i64 (a.at j)).length=3:=by simp
   have hg:([0,1,2].map fun j=>if j<i then AV.int .i64 (a.at j+b.at j) else .int .i64 (a.at j)).getD i aD=.int .i64 (a.at i):=by
    match i,hi with
    |0,_=>rfl
    |1,_=>rfl
    |2,_=>rfl
   have w:IntKind.i64.wrap (a.at i+b.at i)=a.at i+b.at i:=by have h1:=bM.c ha i;have h2:=bM.c hb i;exact wrapN (B:=A+B) (by omega) (by omega)
   refine aH ?_;refine bS ?_;simp only[↓zP,zG,seval,e1];refine bT ?_;refine Dz ?_;generalize hc:([0,1,2].map fun j=>if j<i then AV.int .i64 (a.at j+b.at j) else .int .i64 (a.at j))=cs at *;simp only[↓zP,zJ,seval,zD,hk 2 rfl,hk 3 rfl,aB,hi,g0,g1,hl,hg,aM,iM b hi,w,show i+1<=3 by omega];subst hc;refine⟨?_,g2⟩
   match i,hi with
   |0,_=>rfl
   |1,_=>rfl
   |2,_=>rfl
 rintro f H hk ⟨g0,g1,g2⟩;simp only[↓zP,zJ,seval,hk 2 rfl,hk 4 rfl,g0,g2];exact⟨rfl,_,by simp only[↓zP,zR,seval,hk 4 rfl];rfl,rfl⟩
theorem Vk (a b:aG.V):aG.add a (aG.neg b)=aG.sub a b:=by simp only[aG.add,aG.neg,aG.sub,Int.sub_eq_add_neg]
theorem KO {a b:aG.V} {A B:Nat} (ha:bM A a) (hb:bM B b) (hs:A+B<2^62) (H:aA):Sg 168 [.agg (bZ a),.agg (bZ b)] H (.ret (.agg (bZ (aG.sub a b)))) H:=by refine Sp aZh (by simp only[sf,cC]) (by simp only[sf,cC]) ?_ H;unfold aOo;dsimp only;simp only[↓zP,zJ,seval];refine Dz ?_;simp only[↓zP,zJ,seval,zD,oL (aM a),oL (aM b)];refine eT (kb hb (by omega) _) ?_;simp only[seval];refine eT (aKc ha (JQ hb) hs _) ?_;rw[Vk];simp only[↓zP,zJ,seval,zD,oL (aM (aG.sub a b))];exact⟨rfl,_,by simp only[↓zP,zR,seval,oL (aM (aG.sub a b))];rfl,rfl⟩
theorem Wo (a:Int) (H:aA):Sg 228 [.int .i64 a] H (.ret (.bool false)) H:=by
 refine So bAk (by simp only[sf]) ?_ H;unfold aPp;dsimp only;simp only[↓zP,zJ,seval,Fx]
 (refine Rx ?_;rfl)
def uX (a b:Int):Int:=if a<b then -1 else if b<a then 1 else 0
theorem iQ (a b:Int) (H:aA):Sg 187 [.int .i64 a,.int .i64 b] H (.ret (.int .i64 (uX a b))) H:=by
 refine So aZm (by simp only[sf]) ?_ H;unfold aOs;dsimp only;simp only[↓zP,zJ,seval];refine bK (Wo a _) ?_;simp only[↓zP,zJ,seval];refine bK (Wo b _) ?_;simp only[↓zP,zJ,seval];refine⟨fun h=>?_,fun h=>⟨fun h2=>?_,fun h2=>?_⟩⟩<;>refine Rx ?_<;>unfold uX
 · rw[if_pos (by omega)];rfl
 · rw[if_neg (by omega),if_pos (by omega)];rfl
 rw[if_neg (by omega),if_neg (by omega)];rfl
def orZ (l:List Int):Int:=(l.find? (· ≠0)).getD 0
theorem ya (l:List Int) (hl:l.length<2^30) (H:aA):Sg 186 [.aV 1 1 (eA l)] H (.ret (.int .i64 (orZ l))) H:=by
 refine So aZl (by simp only[sf,IL]) ?_ H;unfold aOr;dsimp only;refine bS ?_;simp only[↓zP,zG,seval];refine fL ?_;simp only[↓zP,zG,seval];refine bT ?_;refine aJ fun K hK=>?_;refine bS ?_;simp only[↓zP,zJ,seval];refine bT ?_;refine bQ [] (fun i _ H=>∀x∈l.take i,x=0) l.length (by omega) (by decide) ?_ ?_ ?_ ?_ ?_
 · simp only[zB,seval]
 · simp only[zB,seval,dZ]
 · intro x hx;simp at hx
 · intro i f H hi hk e1 hj;have hg:(eA l).getD i []=[.int .i64 l[i]]:=by simp[eA,List.getD,hi]
   refine aH ?_;by_cases hz:l[i]=0
   · simp only[↓zP,zJ,seval,e1,hk 6 rfl,hk 3 rfl,aB,dZ,hi,hg,hz,show((0:Int) != 0)=false from rfl];intro x hx;rw[Ap,As] at hx
     rcases hx with hx|hx
     · exact hj x hx
     simp[hi] at hx;rw[hx,hz]
   have hb:(l[i] != 0)=true:=(by simpa using hz);simp only[↓zP,zJ,seval,e1,hk 6 rfl,hk 3 rfl,aB,dZ,hi,hg,hb];refine Rx ?_
   have :l.find? (· ≠0)=some l[i]:=by
    conv=>lhs;rw[<-Gk i l]
    rw[List.find?_append,Io.2 (fun x hx=>by simp[hj x hx]),Dm hi,List.find?_cons_of_pos (by simpa using hz)];rfl
   rw[orZ,this];rfl
 intro f H hk hj;rw[Ar] at hj;simp only[↓zP,seval];apply hK;simp only[↓zP,zG,seval,hk 3 rfl];refine Rx ?_;have :l.find? (· ≠0)=none:=Io.2 fun x hx=>by simp[hj x hx]
 rw[orZ,this];rfl
def lK (q:aG.V×Int):List AV:=[.int .i64 q.1.x,.int .i64 q.1.y,.int .i64 q.1.z,.int .i64 q.2]
theorem CE (q:aG.V×Int):bU (lK q)=true:=by simp only[lK,sf]
theorem aAs {a b:Int} {B:Nat} (ha:a.natAbs<=B) (hb:b.natAbs<=B) (hB:B<2^62) (H:aA):Sg 229 [.int .i64 a,.int .i64 b] H (.ret (.int .i64 (Int.gcd a b))) H:=by
 refine So bAl (by simp only[sf]) ?_ H;unfold aPq;dsimp only;refine bS ?_;simp only[↓zP,zG,seval];refine bT ?_;refine aJ fun K hK=>?_;refine aH (fK [0,1] (fun m vs _=>∃x y:Int,vs=[.int .i64 x,.int .i64 y]/\x.natAbs<=B/\y.natAbs<=B/\m=y.natAbs/\Int.gcd x y=Int.gcd a b) b.natAbs (by rfl) ?_ ?_)
 · exact⟨a,b,by simp only[sm,zB,seval,dW],ha,hb,rfl,rfl⟩
 rintro m f H hk ⟨x,y,hv,hx,hy,rfl,hg⟩;simp only[zM] at hv;obtain⟨h0,h1⟩:=hv;by_cases SV:y=0
 · subst SV;have hw:IntKind.i64.wrap (0 -x)= -x:=(wrapN (B:=B) (by omega) (by omega)).trans (by omega);simp only[↓zP,zG,seval,h1,show((0:Int) != 0)=false from rfl];apply hK;simp only[↓zP,zG,seval,h0,hw];refine Rx ?_
   have VM:(Int.gcd a b:Int)=if -x>x then -x else x:=(by rw[<-hg,aHb]);rw[VM];rfl
 have tR:(y != 0)=true:=by simpa using SV
 simp only[↓zP,zG,seval,h1,tR];refine aH (Va (by decide) ?_);simp only[↓zP,zG,seval,zD,h0,h1];rw[if_neg SV]
 have eQ:(x.tmod y).natAbs<y.natAbs:=by rw[natAbs_tmod];exact De _ (by omega)
 simp only[zG,seval,zD];exact⟨_,eQ,y,x.tmod y,by simp only[sm,zB,seval],hy,by omega,rfl,by rw[WQ,hg]⟩
theorem WO {a b:Int} {B:Nat} (ha:a.natAbs<=B) (hb:b.natAbs<=B):Int.gcd a b<=B:=by
 unfold Int.gcd
 rcases Gi a.natAbs with h|h
 · rw[h,Nat.gcd_zero_left];exact hb
 exact Br (Nat.gcd_le_left _ h) ha
def KL (a b c:aG.V):aG.V×Int:=let n:=gB (aG.aT (aG.sub b a) (aG.sub c a));(n,aG.dot n a)
theorem cz {a b c:aG.V} {M:Nat} (ha:bM M a) (hb:bM M b) (hc:bM M c) (hM:M<=2^18) (H:aA):Sg 189 [.agg (bZ a),.agg (bZ b),.agg (bZ c)] H (.ret (.agg (lK (KL a b c)))) H:=by
 have hu:=fM hb ha;have hw:=fM hc ha;have hn:=jX hu hw;have hMM:(M+M)*(M+M)<=2^19*2^19:=Bv (by omega) (by omega);have aWd:2*((M+M)*(M+M))*M<=2^39*2^18:=Bv (by omega) (by omega);refine Sp aZn (by simp only[sf,cC]) (by simp only[sf,CE]) ?_ H;unfold aOt;dsimp only;refine bS ?_;simp only[↓zP,zJ,seval];refine fL ?_;refine nG 1 (by decide) (by simp only[nZ,seval,zI,Option.isNone_none,Ds]) fun H1 n1 e1=>?_;simp only[zI,seval] at n1 e1;simp only[↓zP,zJ,seval,zD,e1,oL (aM a),oL (aM b)];refine eT (KO hb ha (by omega) _) ?_;simp only[↓zP,zJ,seval,zD,e1,oL (aM a),oL (aM c)];refine eT (KO hc ha (by omega) _) ?_;simp only[seval];refine eT (SM hu hw (by omega) _) ?_;generalize hN:aG.aT (aG.sub b a) (aG.sub c a)=N at *;simp only[↓zP,zJ,seval,zD,n1,e1,oL (aM N)];refine bT ?_;generalize hB:2*((M+M)*(M+M))=B at *;generalize hX:(H1.set 4 _).set 4 _=H2;have g0:H2.get 0=some (.cells (bZ a) false):=by subst hX;simp only[seval,zI,e1]
 have g3:H2.get 3=some (.cells [.int .i64 0,.int .i64 0,.int .i64 0,.int .i64 0] false):=by subst hX;simp only[seval,zI,e1]
 have g4:H2.get 4=some (.cells (bZ N) false):=by subst hX;simp only[seval,zI]
 clear hX e1 n1
 have VI:(Int.gcd N.x N.y:Int).natAbs<=B:=by rw[Fk];exact WO hn.1 hn.2.1
 have hp:=tT hn;refine aJ fun K hK=>?_;refine bS ?_;refine Dz ?_;simp only[↓zP,zJ,seval,zD,g4,jI,bZ];refine eT (aAs hn.1 hn.2.1 (by omega) _) ?_;simp only[↓zP,zJ,seval,zD,g4,jI,bZ];refine eT (aAs VI hn.2.2 (by omega) _) ?_;simp only[↓zP,zJ,seval,zD,Qd];refine bT ?_
 have fin:∀(f:cU) (H3:aA),f 3=.ref 0 0->f 6=.ref 3 0->f 7=.ref 4 0->H3.get 0=some (.cells (bZ a) false)->H3.get 3=some (.cells [.int .i64 0,.int .i64 0,.int .i64 0,.int .i64 0] false)->H3.get 4=some (.cells (bZ (gB N)) false)->K f [] H3:=by intro f H3 f3 f6 f7 g0 g3 g4;apply hK;clear hK K;refine bS ?_;refine Dz ?_;simp only[↓zP,zJ,seval,zD,f3,f7,g0,g4,oL (aM a),oL (aM (gB N))];refine eT (IX hp ha (by omega) _) ?_;simp only[↓zP,zJ,seval,zD,f6,g3,bZ];refine bT ?_;simp only[↓zP,seval];refine⟨rfl,_,by simp only[↓zP,zR,seval,f6];rfl,?_⟩;simp only[KL,hN,lK];rfl
 simp only[↓zP,zG,seval];refine⟨fun hgt=>?_,fun hle=>?_⟩
 · have bN:¬((fX N:Nat):Int)=0:=by omega
   have ep:=Ss N;have q1:IntKind.i64.wrap (N.x.tdiv (fX N))=(gB N).x:=(by rw[wrapN (B:=B) (by have :=hp.1;rw[ep] at this;exact this) (by omega),ep]);have q2:IntKind.i64.wrap (N.y.tdiv (fX N))=(gB N).y:=(by rw[wrapN (B:=B) (by have :=hp.2.1;rw[ep] at this;exact this) (by omega),ep]);have q3:IntKind.i64.wrap (N.z.tdiv (fX N))=(gB N).z:=(by rw[wrapN (B:=B) (by have :=hp.2.2;rw[ep] at this;exact this) (by omega),ep]);refine Dz ?_;simp only[↓zP,zJ,seval,zD,g4,jI,bZ,bN,q1,q2,q3];apply fin<;>simp only[↓zP,zJ,seval,g0,g3,bZ]
 have e1:gB N=N:=aDk (by omega)
 apply fin<;>first|(simp only[↓zP,zG,seval];done)|(rw[e1];exact g4)|assumption
def bF (l:List aG.V):List (List AV):=l.map bZ
theorem aL (l:List aG.V):(bF l).length=l.length:=by simp[bF]
theorem bY {l:List aG.V} {i:Nat} (h:i<l.length):(bF l).getD i []=bZ l[i]:=dT h
theorem cE {tag:Nat} (ht:Nat.blt tag 2=true) (l:List aG.V):(AV.aV tag 3 (bF l)).free=true:=by simp only[AV.free,ht,Cq];exact dF cC l
def EH (l:List aG.V) (q:aG.V×Int):Bool:=l.all (fun v=>decide (aG.dot q.1 v<=q.2))&& !l.all (fun v=>aG.dot q.1 v==q.2)
theorem Zz {tag:Nat} (ht:Nat.blt tag 2=true) {l:List aG.V} {M B:Nat} (hl:∀v∈l,bM M v) (hlen:l.length<2^30) {q:aG.V×Int} (hq:bM B q.1) (hs:3*(B*M)<2^62) (H:aA):
 Sg 191 [.aV tag 3 (bF l),.agg (lK q)] H (.ret (.bool (EH l q))) H:=by
 refine So aZp (by simp only[sf,cE ht,CE]) ?_ H;unfold aOv;dsimp only;have p3:(lK q).length=4:=rfl;have p1:(lK q).take 3=bZ q.1:=rfl;have p2:(lK q).getD 3 aD=.int .i64 q.2:=rfl;refine bS ?_;simp only[↓zP,zJ,seval];refine fL ?_;simp only[↓zP,zG,seval];refine bT ?_;refine aJ fun K hK=>?_;refine bS ?_;simp only[↓zP,zJ,seval];refine bT ?_;refine bQ [5] (fun i vs H=>vs=[.bool ((l.take i).all (fun v=>aG.dot q.1 v==q.2))]/\(∀v∈l.take i,aG.dot q.1 v<=q.2)/\1<=H.next/\H.get 0=some (.cells (lK q) false)) l.length (by omega) (by decide) ?_ ?_ ?_ ?_ ?_
 · simp only[zB,seval]
 · simp only[zB,seval,aL]
 · refine⟨by simp only[sm,zB,seval];rfl,fun v hv=>by simp at hv,by simp only[zI,seval],by simp only[seval,zI]⟩
 · rintro i f H hi hk e1 ⟨hv,hle,hn,g0⟩;simp only[zM] at hv
   have hx:∀v,v∈l.take (i+1)->v∈l.take i\/v=l[i]:=fun v hv=>by
    rw[Ap,As] at hv
    rcases hv with h|h
    · exact .inl h
    simp[hi] at h;exact .inr h
   have dB:(l.take (i+1)).all (fun v=>aG.dot q.1 v==q.2)=((l.take i).all (fun v=>aG.dot q.1 v==q.2)&&(aG.dot q.1 l[i]==q.2)):=by rw[Ap,Hn];simp[hi]
   generalize hb:(l.take i).all (fun v=>aG.dot q.1 v==q.2)=b at *;have uG:=Ai hi;have hg:=bY hi;generalize wo:l[i]=x at *;have bN:¬(0=H.next):=(by omega);refine aH ?_;simp only[↓zP,zJ,seval,e1,hk 9 rfl,hk 3 rfl,aB,aL,hi,hg,oL (aM x),bN,g0,p3,p1];refine bK (IX hq (hl x uG) hs _) ?_;simp only[↓zP,zJ,seval,hk 3 rfl,bN,g0,p3,p2,hv];refine⟨fun h=>?_,fun h=>?_⟩
   · refine Rx ?_
     have :EH l q=false:=by simp only[EH,Kn];refine .inl ?_;rw[<-Gg,Ba];intro ha;have :=Ea (ha x uG);omega
     rw[this];rfl
   have ZT:∀v∈l.take (i+1),aG.dot q.1 v<=q.2:=fun v hv=>by
    rcases hx v hv with h1|rfl
    · exact hle v h1
    omega
   cases b
   · simp only[↓zP,zG,seval];exact⟨by rw[dB];rfl,ZT,trivial⟩
   simp only[↓zP,seval];exact⟨by rw[dB];rfl,ZT,trivial⟩
 rintro f H hk ⟨hv,hle,hn,g0⟩;simp only[zM] at hv;rw[Ar] at hv hle;simp only[↓zP,seval];apply hK;simp only[↓zP,zG,seval,hv];refine Rx ?_;have :l.all (fun v=>decide (aG.dot q.1 v<=q.2))=true:=Ba.2 fun v hv=>Al (hle v hv);simp only[EH,this,Cq];rfl
def XJ (p q:aG.V×Int):Int:=orZ [uX p.1.x q.1.x,uX p.1.y q.1.y,uX p.1.z q.1.z]
theorem XK (p q:aG.V×Int) (H:aA):Sg 193 [.agg (lK p),.agg (lK q)] H (.ret (.int .i64 (XJ p q))) H:=by
 refine So aZq (by simp only[sf,CE]) ?_ H;unfold aOw;dsimp only;refine bS ?_;simp only[↓zP,zJ,seval];refine fL ?_;refine Dz ?_;simp only[↓zP,zJ,seval,zD,lK,jI];refine eT (iQ p.1.x q.1.x _) ?_;simp only[↓zP,zJ,seval,zD,jI];refine eT (iQ p.1.y q.1.y _) ?_;simp only[↓zP,zJ,seval,zD,jI];refine eT (iQ p.1.z q.1.z _) ?_;simp only[↓zP,zJ,seval,zD];have SO:=ya [uX p.1.x q.1.x,uX p.1.y q.1.y,uX p.1.z q.1.z] (by simp);simp only[eA,sm] at SO;refine eT (SO _) ?_;simp only[↓zP,zJ,seval,zD];refine bT ?_;simp only[↓zP,seval]
 (refine Rx ?_;rfl)
theorem CF (p q:aG.V×Int):XJ p q<0↔gW p.1 q.1:=by
 unfold XJ orZ uX gW
 rcases Fp p.1.x q.1.x with h|h|h
 · simp[h]
 · rcases Fp p.1.y q.1.y with h2|h2|h2
   · simp[h,h2]
   · rcases Fp p.1.z q.1.z with h3|h3|h3
     · simp[h,h2,h3]
     · simp[h,h2,h3]
     simp[h,h2,h3,Kg h3]
   simp[h,h2,Kg h2,Jo h2]
 simp[h,Kg h,Jo h]
def plV (q:aG.V×Int):CX 4:=⟨[q.1.x,q.1.y,q.1.z,q.2],rfl⟩
def xi (x:CX 4):aG.V×Int:=(⟨x.1.getD 0 0,x.1.getD 1 0,x.1.getD 2 0⟩,x.1.getD 3 0)
theorem aKb (q:aG.V×Int):xi (plV q)=q:=rfl
theorem Ue (x:CX 4):plV (xi x)=x:=by
 obtain⟨l,hl⟩:=x
 match l,hl with
 |[a,b,c,d],_=>rfl
theorem WH (q:aG.V×Int):WG (plV q)=lK q:=rfl
theorem QL:∀S:List (aG.V×Int),(mG (S.map plV)).map (AV.int .i64)=(S.map lK).flatten
 |[]=>rfl
 |q::S=>by have :=QL S;simp only[mG,By,Cl,Ch,Bp] at this ⊢;rw[this];rfl
theorem bDf:Go.Sort.SWO (Go.Proofs.ltOf fun x y:CX 4=>XJ (xi x) (xi y)) where
 irrefl x:=by simp only[Go.Proofs.ltOf,CF,Cc];exact gW.qh _
 trans x y z h1 h2:=by simp only[Go.Proofs.ltOf,CF,Bh] at *;exact gW.trans h1 h2
 ntrans x y z h1 h2:=by simp only[Go.Proofs.ltOf,CF,Cc] at *;unfold gW at *;omega
def vK (K:List (aG.V×Int)):List (AV×AV):=K.map fun q=>(.agg (lK q),.bool true)
theorem np (p q:aG.V×Int):cP [.i,.i,.i,.i] (lK p) (lK q)=some (decide (p=q)):=by obtain⟨⟨a,b,c⟩,d⟩:=p;obtain⟨⟨a',b',c'⟩,d'⟩:=q;simp only[lK,cP,if_true,Bt,Aj,V.mk.injEq,Gd];congr 1;rw[Du];simp[and_assoc]
theorem qx {bs:List Nat} (h:bs.Nodup) {i j:Nat} (hi:i<bs.length) (hj:j<bs.length) (e:bs.getD i 0=bs.getD j 0):i=j:=by
 simp only[List.getD,Ab hi,Ab hj,Bc] at e;have hp:=Gn.1 h
 rcases It i j with h1|h1|h1
 · exact absurd e (hp i j hi hj h1)
 · exact h1
 exact absurd e.symm (hp j i hj hi h1)
theorem fk (q:aG.V×Int):∀(K:List (aG.V×Int)) (n:Nat),(q∈K->∃i,lZ (.f [.i,.i,.i,.i]) (.agg (lK q)) (vK K) n=some (some (i,.bool true)))/\(q∉K->lZ (.f [.i,.i,.i,.i]) (.agg (lK q)) (vK K) n=some none)
 |[],n=>⟨fun h=>(nomatch h),fun _=>rfl⟩
 |x::K,n=>by
  obtain⟨h1,h2⟩:=fk q K (n+1);simp only[vK,By,lZ,sameKey,np] at h1 h2 ⊢;by_cases e:q=x
  · subst e;simp
  simp only[e,Fm,Aq,false_or];exact⟨h1,h2⟩
theorem IG (v:aG.V):cP [.i,.i,.i] (bZ v) [.int .i64 0,.int .i64 0,.int .i64 0]=some (decide (v=V0)):=by obtain⟨a,b,c⟩:=v;simp only[bZ,cP,if_true,Bt,V0,V.mk.injEq,Gd];congr 1;rw[Du];simp
theorem JU {l:List aG.V} {q:aG.V×Int}:EH l q=true↔(∀k,k<l.length->aG.dot q.1 (l.getD k V0)<=q.2)/\∃k,k<l.length/\aG.dot q.1 (l.getD k V0)<q.2:=by
 have hg:∀k (h:k<l.length),l.getD k V0=l[k]:=fun k h=>by simp[List.getD,h]
 simp only[EH,Am,Ba,Bh,Ct,<-Gg,Dc];constructor
 · rintro⟨h1,h2⟩;refine⟨fun k hk=>by rw[hg k hk];exact h1 _ (Ai hk),?_⟩;refine Cp fun hc=>h2 fun v hv=>?_;obtain⟨k,hk,rfl⟩:=Cv hv;have a1:=h1 _ (Ai hk);have a2:¬aG.dot q.1 l[k]<q.2:=fun hh=>hc ⟨k,hk,by rw[hg k hk];exact hh⟩;omega
 rintro⟨h1,k,hk,h2⟩;refine⟨fun v hv=>?_,fun h=>?_⟩
 · obtain⟨k,hk,rfl⟩:=Cv hv;have :=h1 k hk
   rwa [hg k hk] at this
 have :=h _ (Ai hk);rw[hg k hk] at h2;omega
structure Found (l:List aG.V) (i j k:Nat) (K:List (aG.V×Int)) (H:aA):Prop where
 nd:K.Nodup
 is:∀q∈K,qD (fun i=>l.getD i V0) l.length q.1 q.2
 tr:sY (fun i=>l.getD i V0) l.length i j k K
 mp:H.get 0=some (.map (vK K))
 nx:1<=H.next
 fr:cN H
theorem Found.heap {l:List aG.V} {i j k:Nat} {K:List (aG.V×Int)} {H H':aA} (h:Found l i j k K H) (h0:H'.get 0=H.get 0) (hn:H.next<=H'.next) (hf:cN H'):Found l i j k K H':=
 ⟨h.nd,h.is,h.tr,h0.trans h.mp,Br h.nx hn,hf⟩
theorem Found.tQx {l:List aG.V} {i j k i' j' k':Nat} {K:List (aG.V×Int)} {H:aA} (h:Found l i j k K H) (ht:sY (fun i=>l.getD i V0) l.length i' j' k' K):Found l i' j' k' K H:=⟨h.nd,h.is,ht,h.mp,h.nx,h.fr⟩
theorem UU:tZ Tryz.prog 192:=⟨_,Tryz.func192,by kernel_rfl,by kernel_rfl⟩
theorem aEk (d:List (CX 4)) (hd:d.length<4611686018427387904):
 ∃d':List (CX 4),d'.Perm d/\(d'.Pairwise fun a b=>¬XJ (xi b) (xi a)<0)/\∀(H:aA) (id:Nat) (opn:Bool),H.get id=some (.cells ((mG d).map (AV.int .i64)) opn)->
  Sg 192 [.sl id 4 0 d.length d.length,.func (.func 193) [] []] H (.ret (.gP [])) (H.set id (.cells ((mG d').map (AV.int .i64)) opn)):=
 FM (fun _=>rfl) Tryz.aEj (by decide) Tryz.isAgg183 Tryz.sizeOf183 rfl UU (XK (V0,0) (V0,0) ⟨0,.nil⟩).1 bDf (fun x y=>by
  have :=XK (xi x) (xi y) ⟨0,.nil⟩
  rwa [<-WH,<-WH,Ue,Ue] at this) d hd
theorem Sr {tag:Nat} (ht:Nat.blt tag 2=true) {l:List aG.V} {M:Nat} (hl:∀v∈l,bM M v) (hM:M<=2^18) (hlen:l.length<=64) {S:List (aG.V×Int)} (hS:pD (fun i=>l.getD i V0) l.length S) (H:aA):
 Sg 145 [.aV tag 3 (bF l)] H (.ret (jQ 4 (S.map lK))) H:=by
 refine dH fit dQ aLs (Af rfl) (by simp only[sf,cE ht]) ?_ H;unfold aFo;dsimp only;have cG:∀k (h:k<l.length),l.getD k V0=l[k]:=fun k h=>by simp[List.getD,h]
 refine bS ?_;simp only[↓zP,zG,seval];refine fL ?_;simp only[↓zP,zJ,seval];refine bT ?_;refine aJ fun K hK=>?_;refine bS ?_;simp only[↓zP,zJ,seval];refine bT ?_;refine bQ [] (fun i _ H=>∃K,Found l i 0 0 K H) l.length (by omega) (by decide) ?_ ?_ ?_ ?_ ?_
 · simp only[zB,seval]
 · simp only[zB,seval,aL]
 · refine⟨[],Kw,fun q hq=>(nomatch hq),sY.zero,?_,Ak _,(cN.nil 0).alloc _⟩;rfl
 · rintro i f H hi hk e1 ⟨F,hF⟩;refine aH ?_;refine bS ?_;simp only[↓zP,zG,seval,e1];refine fL ?_;simp only[↓zP,zG,seval];refine bT ?_;refine bQ [] (fun j _ H=>∃K,Found l i j 0 K H) i (by omega) (by decide) ?_ ?_ ?_ ?_ ?_
   · simp only[zB,seval]
   · simp only[zB,seval]
   · exact⟨F,hF⟩
   · clear hF F;rintro j f2 H2 hj dA e2 ⟨F,hF⟩;refine aH ?_;refine bS ?_;simp only[↓zP,zG,seval,e2];refine fL ?_;simp only[↓zP,zG,seval];refine bT ?_;refine bQ [] (fun k _ H=>∃K,Found l i j k K H) j (by omega) (by decide) ?_ ?_ ?_ ?_ ?_
     · simp only[zB,seval]
     · simp only[zB,seval]
     · exact⟨F,hF⟩
     · clear hF F;rintro k f3 H3 hkk kR e3 ⟨F,hF⟩;have Mh:j<l.length:=(by omega);have yG:k<l.length:=(by omega);have gi:=bY hi;have gj:=bY Mh;have gk:=bY yG;have ni:=hl _ (Ai hi);have nj:=hl _ (Ai Mh);have nk:=hl _ (Ai yG)
       have nP:KL l[i] l[j] l[k]=eS (fun i=>l.getD i V0) i j k:=by simp only[KL,eS,vec,cG i hi,cG j Mh,cG k yG]
       refine aH ?_;refine bS ?_;simp only[↓zP,zG,seval,e3];refine fL ?_;refine nG 1 (by decide) hF.fr.at1 fun H1 n1 vu=>?_;have bN:¬(0=H3.next):=(by have :=hF.nx;omega);simp only[↓zP,zJ,seval,zD,kR 0 rfl,kR 4 rfl,kR 5 rfl,dA 0 rfl,dA 4 rfl,hk 0 rfl,aB,aL,hi,Mh,yG,gi,gj,gk,oL (aM l[i]),oL (aM l[j]),oL (aM l[k])];refine eT (cz ni nj nk hM _) ?_;rw[nP]
       have hq0:bM (2*((M+M)*(M+M))) (eS (fun i=>l.getD i V0) i j k).1:=by rw[<-nP];exact tT (jX (fM nj ni) (fM nk ni))
       have hT2:(eS (fun i=>l.getD i V0) i j k).2.natAbs<=3*(2*((M+M)*(M+M))*M):=by rw[<-nP];exact pO (tT (jX (fM nj ni) (fM nk ni))) ni
       have hcd:∀q∈iA (fun i=>l.getD i V0) i j k,EH l q=true->qD (fun i=>l.getD i V0) l.length q.1 q.2:=fun q hq ho=>yW hi Mh yG hq (JU.1 ho).1 (JU.1 ho).2;have hMM:(M+M)*(M+M)<=2^19*2^19:=Bv (by omega) (by omega);have aWd:2*((M+M)*(M+M))*M<=2^39*2^18:=Bv (by omega) (by omega);have hB0:2*((M+M)*(M+M))<=2^39:=by omega
       have Ou:iA (fun i=>l.getD i V0) i j k=if(eS (fun i=>l.getD i V0) i j k).1=V0 then [] else [eS (fun i=>l.getD i V0) i j k,(aG.neg (eS (fun i=>l.getD i V0) i j k).1,-(eS (fun i=>l.getD i V0) i j k).2)]:=rfl
       generalize eS (fun i=>l.getD i V0) i j k=T at *;generalize hBB:2*((M+M)*(M+M))=B at *;have p4:(lK T).length=4:=rfl;have p3:(lK T).take 3=bZ T.1:=rfl;have p1:(lK T).getD 3 aD=.int .i64 T.2:=rfl;simp only[↓zP,zJ,seval,zD,n1,oL p4];refine bT ?_;generalize hX:(H1.set H3.next _).set H3.next _=H4;have fr1:cN H1:=fun j hj=>by rw[vu];exact hF.fr j (by omega)
       have hF4:Found l i j k F H4:=hF.heap (by subst hX;rw[aA.aC,if_neg bN,aA.aC,if_neg bN,vu]) (by subst hX;simp only[aA.aX];omega)
        (by subst hX;exact(fr1.set (by omega) _).set (by simp only[aA.aX];omega) _)
       have g7:H4.get H3.next=some (.cells (lK T) false):=(by subst hX;simp only[seval,zI]);have wv:H3.next<H4.next:=(by subst hX;simp only[aA.aX];omega);clear hX vu n1 fr1;clear hF;generalize H3.next=r at *;refine aJ fun K2 cK=>?_;simp only[↓zP,zJ,seval,g7,oL p4,p3,IG];refine⟨fun hz=>?_,fun hz=>?_⟩
       · refine⟨F,hF4.tQx (hF4.tr.step (fun q h=>h) fun q hq=>?_)⟩;rw[Ou,if_pos hz] at hq;cases hq
       apply cK;clear cK K2;rw[if_neg hz] at Ou;have wn:IntKind.i64.wrap (0 -T.2)= -T.2:=(wrapN (B:=3*(B*M)) (by omega) (by omega)).trans (by omega);have aBh:[AV.int .i64 (aG.neg T.1).x,.int .i64 (aG.neg T.1).y,.int .i64 (aG.neg T.1).z,.int .i64 (-T.2)]=lK (aG.neg T.1,-T.2):=rfl;refine bS ?_;refine Dz ?_;simp only[↓zP,zJ,seval,zD,g7,oL p4,p3];refine eT (kb hq0 (by omega) _) ?_;simp only[↓zP,zJ,seval,zD,g7,oL p4,p1,wn,bZ,aBh,show(lK (aG.neg T.1,-T.2)).length=4 from rfl];refine bT ?_
       have hq1:∀q∈iA (fun i=>l.getD i V0) i j k,bM B q.1:=fun q hq=>by
        rw[Ou] at hq;simp only[Aq,Bx,Em] at hq
        rcases hq with rfl|rfl
        · exact hq0
        exact JQ hq0
       have Wa:[lK T,lK (aG.neg T.1,-T.2)]=(iA (fun i=>l.getD i V0) i j k).map lK:=(by rw[Ou];rfl);rw[Wa];have IW:(iA (fun i=>l.getD i V0) i j k).length=2:=(by rw[Ou];rfl);generalize KT:iA (fun i=>l.getD i V0) i j k=cs at *;refine bQ [] (fun s _ H=>∃K,Found l i j k K H/\∀q∈cs.take s,qD (fun i=>l.getD i V0) l.length q.1 q.2->q∈K) 2 (by decide) (by decide) ?_ ?_ ?_ ?_ ?_
       · simp only[zB,seval]
       · simp only[zB,seval]
       · exact⟨F,hF4,fun q hq=>(by simp at hq)⟩
       · clear hF4 F g7 wv H4;rintro s f4 H4 hs Qn e4 ⟨F,hF,We⟩;have Mk:s<cs.length:=(by omega);have hcg:(cs.map lK).getD s []=lK cs[s]:=dT Mk;have hqm:=Ai Mk;have aSf:(lK cs[s]).length=4:=rfl;have xG:=hF.nx;have bN:¬(0=H4.next):=(by omega);have tI:=Zz ht hl (by omega) (hq1 _ hqm) (by omega)
         have aRo:∀q,q∈cs.take (s+1)->q∈cs.take s\/q=cs[s]:=fun q hq=>by
          rw[Ap,As] at hq
          rcases hq with h|h
          · exact .inl h
          simp[Mk] at h;exact .inr h
         have bEk:=hcd _ hqm;generalize cs[s]=q at *;have Me:=fk q F 0;have hmp:=hF.mp;have hFa:∀H5:aA,H5.get 0=H4.get 0->H5.next=H4.next+1->cN H5->Found l i j k F H5:=fun H5 h1 h2 h3=>hF.heap h1 (by omega) h3;refine aH ?_;by_cases gD:q∈F
         · obtain⟨ix,hfi⟩:=Me.1 gD;simp only[↓zP,zJ,seval,e4,Qn 51 rfl,Qn 3 rfl,kR 3 rfl,dA 3 rfl,hk 3 rfl,aB,Ad,Mk,hcg,oL aSf,bN,PS,Gp,hmp,hfi];refine⟨F,hFa _ ?_ ?_ ?_,fun x hx VM=>?_⟩
           · rw[aA.aC,if_neg bN,aA.aF,if_neg bN]
           · simp only[aA.aX,aA.bJ]
           · exact(hF.fr.alloc _).set (by simp) _
           rcases aRo x hx with h|rfl
           · exact We x h VM
           exact gD
         have hfi:=Me.2 gD;simp only[↓zP,zJ,seval,e4,Qn 51 rfl,Qn 3 rfl,Qn 0 rfl,kR 3 rfl,kR 0 rfl,dA 3 rfl,dA 0 rfl,hk 3 rfl,hk 0 rfl,aB,Ad,Mk,hcg,oL aSf,bN,PS,Gp,hmp,hfi];refine bK (tI _) ?_
         cases hb:EH l q with
         |false=>
          simp only[↓zP,zG,seval];refine⟨F,hFa _ ?_ ?_ ?_,fun x hx VM=>?_⟩
          · rw[aA.aC,if_neg bN,aA.aF,if_neg bN]
          · simp only[aA.aX,aA.bJ]
          · exact(hF.fr.alloc _).set (by simp) _
          rcases aRo x hx with h|rfl
          · exact We x h VM
          rw[JU.2 ⟨VM.le,VM.lt⟩] at hb;cases hb
         |true=>
          simp only[↓zP,zJ,seval,Qn 3 rfl,kR 3 rfl,dA 3 rfl,hk 3 rfl,bN,oL aSf,Gp,hmp,hfi];have hks:vK (F++[q])=vK F++[(AV.agg (lK q),AV.bool true)]:=(by simp[vK]);refine⟨F++[q],⟨?_,fun x hx=>?_,fun a b c h1 h2 h3 h4 x hx VM=>List.mem_append_left _ (hF.tr a b c h1 h2 h3 h4 x hx VM),?_,?_,?_⟩,fun x hx VM=>?_⟩
          · rw[List.nodup_append];refine⟨hF.nd,by simp,fun a ha b wN=>?_⟩;simp only[Aq,Bx,Em] at wN;subst wN;rintro rfl;exact gD ha
          · rcases As.1 hx with h|h
            · exact hF.is x h
            simp only[Aq,Bx,Em] at h;subst h;exact bEk hb
          · rw[hks];simp only[seval,zI]
          · simp only[aA.aX,aA.bJ];omega
          · exact((hF.fr.alloc _).set (by simp) _).set (by simp only[aA.aX,aA.bJ];omega) _
          rcases aRo x hx with h|rfl
          · exact List.mem_append_left _ (We x h VM)
          exact List.mem_append_right _ (by simp)
       rintro f4 H4 Qn ⟨F,hF,We⟩;simp only[↓zP,seval];refine⟨F,hF.tQx (hF.tr.step (fun q h=>h) fun q hq hF'=>We q ?_ hF')⟩;rw[Bk (by omega),<-KT];exact hq
     rintro f3 H3 kR ⟨F,hF⟩;simp only[↓zP,seval];exact⟨F,hF.tQx hF.tr.down⟩
   rintro f2 H2 dA ⟨F,hF⟩;simp only[↓zP,seval];exact⟨F,hF.tQx hF.tr.next⟩
 rintro f H hk ⟨F,hF⟩;simp only[↓zP,seval];apply hK;clear hK K;have hFm:=hF.tr.all hF.is;have xG:=hF.nx;have hmp:=hF.mp;refine bS ?_;simp only[↓zP,zG,seval];refine bT ?_;refine aJ fun K hK=>?_;refine bS ?_;simp only[↓zP,zG,seval,hk 3 rfl];refine MI (by decide) (by simp only[↓zP,seval]) hmp fun bs c mb wD hbn=>?_;simp only[↓zP,seval];refine bT ?_;have hlF:(vK F).length=F.length:=by simp[vK]
 rw[hlF] at wD;generalize hit:H.next=it at *;have bJx:¬(0=it):=by omega
 refine aH ?_
 refine fK [10] (fun m vs H'=>∃js:List Nat,js.Nodup/\(∀j∈js,j<F.length)/\m+js.length=F.length/\H'.get it=some (.iter 0 mb c (js.map fun j=>bs.getD j 0))/\H'.get 0=some (.tK (vK F) bs c mb)/\it<H'.next/\
  ((js=[]/\vs=[.aS])\/∃nF,js≠[]/\vs=[.sl nF 4 0 js.length js.length]/\H'.get nF=some (.cells (js.map fun j=>lK (F.getD j (V0,0))).flatten true)/\nF<H'.next/\¬(0=nF)/\¬(it=nF))) F.length (by rfl) ?_ ?_
 · refine⟨[],Kw,fun j hj=>(nomatch hj),rfl,?_,?_,?_,.inl ⟨rfl,?_⟩⟩
   · simp only[seval,zI,hit]
   · simp only[seval,zI,hit];rw[if_neg (by omega)]
   · simp only[seval,zI,hit]
     try omega
   simp only[sm,zB,seval]
 rintro m f2 H2 dA ⟨js,j1,j2,j3,gi,g0,eQ,kY⟩
 have uG:∀j,j<F.length->bs.getD j 0∈(js.map fun j=>bs.getD j 0)->j∈js:=fun j hj hm=>by obtain⟨x,x1,x2⟩:=Bf.1 hm;have hx:=j2 x x1;rw[<-qx hbn (by omega) (by omega) x2];exact x1
 refine aJ fun K2 cK=>?_;simp only[↓zP,zG,seval];refine Nz (by decide) (by simp only[↓zP,seval,dA 73 rfl]) gi g0 (fun dB=>?_) fun j hj hnj=>?_
 · simp only[↓zP,zG,seval];apply cK;clear cK K2;simp only[↓zP,zG,seval];apply hK;clear hK K
   have hp0:(js.map fun j=>F.getD j (V0,0)).Perm F:=by
    have h1:=(ai j1 j2 fun j hj=>uG j hj (dB _ (by
     simp only[List.getD,Ab (show j<bs.length by omega),Bc]
     exact Ai _))).map fun j=>F.getD j (V0,0)
    rwa [Pc] at h1
   have wE:∀S1:List (aG.V×Int),S1.Perm F->(S1.Pairwise fun a b=>¬gW b.1 a.1)->S1=S:=fun S1 h1 h2=>(pD.jg hF.nd hFm h1 h2).uniq hS
   have hFl:F.length<=2^20:=by have h1:=DF hF.nd hF.is;have h2:l.length*(l.length*(l.length*2))<=64*(64*(64*2)):=Bv hlen (Bv hlen (Bv hlen (Ak _)));omega
   rcases kY with ⟨rfl,hv⟩|⟨nF,bN,hv,gr,hr1,Zb,Zc⟩
   · simp only[zM] at hv;simp only[↓zP,zG,seval,hv];refine bK (lR Tryz.aEj rfl UU 193 _) ?_;simp only[↓zP,zG,seval,hv];have hS0:[]=S:=wE [] hp0 List.Pairwise.nil;refine Rx ?_;rw[<-hS0];exact⟨_,0,rfl,fun nw=>rfl⟩
   simp only[zM] at hv;simp only[↓zP,zG,seval,hv];generalize hS0:(js.map fun j=>F.getD j (V0,0))=S0 at hp0;have Mh:(S0.map plV).length=js.length:=(by rw[<-hS0];simp);have bJs:=hp0.length_eq;obtain⟨d',q1,q2,q3⟩:=aEk (S0.map plV) (by simp only[Ad];omega)
   have hgr:H2.get nF=some (.cells ((mG (S0.map plV)).map (AV.int .i64)) true):=by rw[gr,QL,<-hS0,Dp];rfl
   have hc:=q3 H2 nF true hgr;rw[Mh] at hc;refine bK (hc) ?_;simp only[↓zP,zG,seval,hv];have rR:d'=(d'.map xi).map plV:=by rw[Dp];exact(Ef (g:=id) (fun x _=>Ue x)).trans (Hc d') |>.symm
   have hS1:d'.map xi=S:=wE _ (by
    have h1:=q1.map xi;rw[Dp,show(xi∘plV)=id from funext aKb,Hc] at h1
    exact h1.trans hp0) (by
     rw[Iv]
     exact q2.imp fun h h2=>h ((CF _ _).2 h2))
   rw[rR,hS1,QL];refine Rx ?_;have fu:(S.map lK).length=js.length:=(by rw[<-hS1,Ad,Ad,q1.length_eq,Mh]);have hSn:¬(S.map lK=[]):=fun h=>bN (Cs (by rw[<-fu,h];rfl));refine⟨_,0,rfl,fun nw=>?_⟩;rw[<-fu,jQ,if_neg hSn];refine KI (by rw[aA.aC,if_pos rfl]) (fun e he=>?_) (dF CE S) nw;obtain⟨q,_,rfl⟩:=Bf.1 he;rfl
 have hjF:j<F.length:=by omega
 have hkj:(vK F).getD j (aD,aD)=(.agg (lK (F.getD j (V0,0))),.bool true):=by simp[vK,List.getD,hjF]
 have hjs:j∉js:=fun h=>hnj (Bf.2 ⟨j,h,rfl⟩);have Mh:(js++[j]).length=js.length+1:=by simp
 have hm1:js.length+1<=F.length:=by
  have :=uK (js++[j]) (List.range F.length) (List.nodup_append.2 ⟨j1,by simp,fun a ha b hb=>by
   simp only[Aq,Bx,Em] at hb;rintro rfl
   exact hjs (hb▸ha)⟩) (fun x hx=>by
   rw[Bi]
   rcases As.1 hx with h|h
   · exact j2 x h
   simp only[Aq,Bx,Em] at h
   omega)
  rwa [Bs,Mh] at this
 rw[hkj];simp only[↓zP,zG,seval];apply cK;clear cK K2;have g2:(H2.set it (.iter 0 mb c ((js.map fun j=>bs.getD j 0)++[bs.getD j 0]))).get 0=some (.tK (vK F) bs c mb):=by rw[aA.aC,if_neg (by omega),g0]
 have g1:(H2.set it (.iter 0 mb c ((js.map fun j=>bs.getD j 0)++[bs.getD j 0]))).get it=some (.iter 0 mb c ((js.map fun j=>bs.getD j 0)++[bs.getD j 0])):=by rw[aA.aC,if_pos rfl]
 simp only[↓zP,zG,seval];refine aH ?_;refine bS ?_;simp only[↓zP,seval];refine Ve (by decide) (by simp only[↓zP,zG,seval,dA 73 rfl]) g1 g2 hj ?_;rw[hkj];have p4:(lK (F.getD j (V0,0))).length=4:=rfl;generalize hq:F.getD j (V0,0)=q at *;simp only[↓zP,zJ,seval,oL p4];refine bT ?_;generalize hH4:((H2.set it _).alloc _).set _ _=H4;have k1:H4.get H2.next=some (.cells (lK q) false):=by rw[<-hH4,aA.aC,if_pos rfl]
 have k2:H4.get it=some (.iter 0 mb c ((js++[j]).map fun j=>bs.getD j 0)):=by rw[<-hH4,aA.aC,if_neg (by omega),aA.aF,aA.aX,if_neg (by omega),g1,Ch];rfl
 have k3:H4.get 0=some (.tK (vK F) bs c mb):=by rw[<-hH4,aA.aC,if_neg (by omega),aA.aF,aA.aX,if_neg (by omega),g2]
 have k4:H4.next=H2.next+1:=by rw[<-hH4];simp only[aA.aX,aA.bJ]
 have k5:∀r,¬(r=it)->r<H2.next->H4.get r=H2.get r:=fun r h1 h2=>by rw[<-hH4,aA.aC,if_neg (by omega),aA.aF,aA.aX,if_neg (by omega),aA.aC,if_neg (by omega)]
 clear hH4 g1 g2
 have hjn:(js++[j]).Nodup:=List.nodup_append.2 ⟨j1,by simp,fun a ha b hb=>by
  simp only[Aq,Bx,Em] at hb;rintro rfl
  exact hjs (hb▸ha)⟩
 have hjb:∀x∈js++[j],x<F.length:=fun x hx=>by
  rcases As.1 hx with h|h
  · exact j2 x h
  simp only[Aq,Bx,Em] at h;omega
 have hje:¬(js++[j]=[]):=by simp
 have hFl:F.length<=2^20:=by have h1:=DF hF.nd hF.is;have h2:l.length*(l.length*(l.length*2))<=64*(64*(64*2)):=Bv hlen (Bv hlen (Bv hlen (Ak _)));omega
 rcases kY with ⟨rfl,hv⟩|⟨nF,bN,hv,gr,hr1,Zb,Zc⟩
 · simp only[zM] at hv;have ha:=vE (H:=H4) (sz:=4) (bytes:=32) (ys:=[lK q]) rfl (by simp only[Ah,Ay];omega);simp only[↓zP,zJ,seval,hv,k1,oL p4];rw[show dM H4 4 (.aV 1 4 [lK q])=some [lK q] from rfl];simp only[ha,bP];refine⟨m -1,?_,[]++[j],hjn,hjb,?_,?_,?_,?_,.inr ⟨H4.next,hje,rfl,?_,?_,?_,?_⟩⟩
   · simp only[Ay] at *;omega
   · simp only[Ay] at *;omega
   · rw[aA.aF,if_neg (by omega),k2]
   · rw[aA.aF,if_neg (by omega),k3]
   · simp only[aA.bJ];omega
   · rw[aA.aF,if_pos rfl];simp only[By,Iw,Dk,hq]
   · simp only[aA.bJ];omega
   · omega
   omega
 simp only[zM] at hv;have gr4:=(k5 nF (fun h=>Zc h.symm) hr1).trans gr
 have hl4:((js.map fun j=>lK (F.getD j (V0,0))).flatten).length=js.length*4:=by rw[oR (sz:=4) (fun e he=>?_),Ad];obtain⟨x,_,rfl⟩:=Bf.1 he;rfl
 have ha:=rL (H:=H4) (sz:=4) (bytes:=32) (ys:=[lK q]) gr4 hl4 rfl (by simp only[Ah,Ay];omega) (by decide);simp only[↓zP,zJ,seval,hv,k1,oL p4];rw[show dM H4 4 (.aV 1 4 [lK q])=some [lK q] from rfl];simp only[ha,bP];refine⟨m -1,?_,js++[j],hjn,hjb,?_,?_,?_,?_,.inr ⟨H4.next,hje,?_,?_,?_,?_,?_⟩⟩
 · omega
 · omega
 · rw[aA.aF,aA.aX,if_neg (by omega),aA.aC,if_neg (by omega),k2]
 · rw[aA.aF,aA.aX,if_neg (by omega),aA.aC,if_neg (by omega),k3]
 · simp only[aA.bJ,aA.aX];omega
 · rw[Mh];rfl
 · rw[aA.aF,aA.aX,if_pos rfl];simp only[Ch,By,Iw,Ez,hq]
 · simp only[aA.bJ,aA.aX];omega
 · omega
 omega
theorem aAv (b:Bool) (A B:Prop):iW aD b A B=B:=dV id id
theorem Vr (x:Int):uX x 0=vO x:=by unfold uX vO;split<;>(try split)<;>omega
theorem Ns (x:Int):(vO x).natAbs<=1:=by unfold vO;split<;>(try split)<;>decide
theorem j9 (n c:aG.V) {i:Nat} (hi:i<3) (h0:∀k,k<i->n.at k=0) (h:n.at i≠0):aG.sX n c=vO (c.at i)*vO (n.at i):=by
 unfold aG.sX
 match i,hi with
 |0,_=>rw[if_pos (show n.x≠0 from h)];rfl
 |1,_=>rw[if_neg (show ¬n.x≠0 from fun e=>e (h0 0 (by decide))),if_pos (show n.y≠0 from h)];rfl
 |2,_=>rw[if_neg (show ¬n.x≠0 from fun e=>e (h0 0 (by decide))),if_neg (show ¬n.y≠0 from fun e=>e (h0 1 (by decide))),if_pos (show n.z≠0 from h)];rfl
theorem TF (n c:aG.V) (h0:∀k,k<3->n.at k=0):aG.sX n c=0:=by unfold aG.sX;rw[if_neg (show ¬n.x≠0 from fun e=>e (h0 0 (by decide))),if_neg (show ¬n.y≠0 from fun e=>e (h0 1 (by decide))),if_neg (show ¬n.z≠0 from fun e=>e (h0 2 (by decide)))]
theorem aJz {a b:aG.V} {A B:Nat} (n:aG.V) (ha:bM A a) (hb:bM B b) (hs:A*B<2^61) (H:aA):
 Sg 196 [.agg (bZ n),.agg (bZ a),.agg (bZ b)] H (.ret (.int .i64 (aG.sX n (aG.aT a b)))) H:=by
 refine So aZt (by simp only[sf,cC]) ?_ H;unfold aOz;dsimp only;refine aJ fun K hK=>?_;simp only[↓zP,zG,seval,zI];apply hK;clear hK K;refine aJ fun K hK=>?_;simp only[↓zP,zG,seval,zI,oL (aM a),oL (aM b)];refine bK (SM ha hb hs _) ?_;generalize hc:aG.aT a b=c;simp only[↓zP,zG,seval,zI,oL (aM c)];apply hK;clear hK K;refine aJ fun K hK=>?_;refine aJ fun K2 cK=>?_;simp only[↓zP,zG,seval,zI,oL (aM n)];apply cK;clear cK K2;refine iR [] (fun i _ H=>(∀k,k<i->n.at k=0)/\H.get 3=some (.cells (bZ c) false)) 3 (by decide) rfl (by decide) ?_ ?_ ?_ ?_
 · simp only[zB,seval]
 · refine⟨fun k hk=>absurd hk (Ax _),?_⟩;simp only[zI,seval]
 · rintro i f H hi hk e1 ⟨h0,g3⟩;refine aH ?_;have o9:i<=2:=by omega
   have hi3:i+1<=3:=hi;by_cases hz:n.at i=0
   · have hb:(n.at i != 0)=false:=(by simp[hz]);simp only[↓zP,zG,seval,zI,e1,hk 13 rfl,aB,iM n hi,aM,g3,hi,hi3,hb];refine⟨fun k hk=>?_,trivial⟩;by_cases ZS:k=i
     · subst ZS;exact hz
     exact h0 k (by omega)
   have hb:(n.at i != 0)=true:=(by simp[hz]);simp only[↓zP,zG,seval,zI,e1,hk 13 rfl,hk 7 rfl,aB,iM n hi,aM,g3,hi,hi3,iM c hi,hb];refine bK (iQ (c.at i) 0 _) ?_;simp only[↓zP,zG,seval];refine bK (iQ (n.at i) 0 _) ?_;rw[Vr,Vr]
   have w:IntKind.i64.wrap (vO (c.at i)*vO (n.at i))=vO (c.at i)*vO (n.at i):=wrapN (B:=1*1) (by rw[Ha];exact Bv (Ns _) (Ns _)) (by decide)
   simp only[↓zP,zG,seval,w];refine Rx ?_;rw[hc,j9 n c hi h0 hz];rfl
 rintro f H hk ⟨h0,g3⟩;simp only[↓zP,seval];apply hK;simp only[↓zP,zG,seval];refine Rx ?_;rw[hc,TF n c h0];rfl
def zH (on:List Nat):List (List AV):=on.map fun(k:Nat)=>[AV.int .i64 (k:Int)]
theorem dP (on:List Nat):(zH on).length=on.length:=by simp[zH]
theorem uM {on:List Nat} {i:Nat} (h:i<on.length):(zH on).getD i []=[AV.int .i64 (on[i]:Int)]:=dT h
def bI:Option Nat->Int
 |none=> -1
 |some k=>k
structure aFj (H H':aA):Prop where
 free:cN H'
 le:H.next<=H'.next
 same:∀j,j<H.next->H'.get j=H.get j
theorem SD {n:aG.V} {p:Nat->aG.V} {a:Nat} {on:List Nat}:∀(l:List Nat) (yK:Option Nat) {b:Nat},l.foldl (gL n p a) yK=some b->(∀k∈l,k∈on)->(∀c,yK=some c->c∈on)->b∈on
 |[],yK,b,h,_,hb=>hb b h
 |k::l,yK,b,h,hl,hb=>by
  refine SD l _ h (fun x hx=>hl x (Aw _ hx)) fun c hc=>?_;have hk:=hl k Au;unfold gL at hc;split at hc
  · exact hb c hc
  split at hc
  · cases hc;exact hk
  split at hc
  · cases hc;exact hk
  cases hc;exact hb _ rfl
theorem aCo {n:aG.V} {p:Nat->aG.V} {a:Nat} {on l:List Nat} {b:Nat} (h:l.foldl (gL n p a) none=some b) (hl:∀k∈l,k∈on):b∈on:=
 SD l none h hl fun c hc=>by cases hc
theorem jd {tag t1:Nat} {o1 o2 o3:Bool} {l:List aG.V} {M:Nat} (hl:∀v∈l,bM M v) (hM:M<=2^18) (hlen:l.length<=64) {on:List Nat} (YF:∀k∈on,k<l.length) (hol:on.length<=64) {a:Nat} (ha:a<l.length) (q:aG.V×Int)
 {H:aA} (hf:cN H) {i1 i2 i3:Nat} (b1:i1<H.next) (b2:i2<H.next) (b3:i3<H.next) (g1:H.get i1=some (.cells [.aV t1 1 (zH on)] o1)) (g2:H.get i2=some (.cells [.aV tag 3 (bF l)] o2)) (g3:H.get i3=some (.cells (lK q) o3)):
 ∃H',aFj H H'/\Sg 195 [.int .i64 a,.ref i1 0,.ref i2 0,.ref i3 0] H (.ret (.int .i64 (bI (Mu q.1 (fun i=>l.getD i V0) on a)))) H':=by
 suffices h:∃out H',(out=.ret (.int .i64 (bI (Mu q.1 (fun i=>l.getD i V0) on a)))/\aFj H H')/\Sg 195 [.int .i64 a,.ref i1 0,.ref i2 0,.ref i3 0] H out H' by obtain⟨_,H',⟨rfl,hm⟩,hS⟩:=h;exact⟨H',hm,hS⟩
 refine gA fit aZs (Af rfl) ?_;unfold aOy;dsimp only;have cG:∀k (h:k<l.length),l.getD k V0=l[k]:=fun k h=>by simp[List.getD,h]
 refine aJ fun K hK=>?_;simp only[↓zP,zG,seval];apply hK;clear hK K;refine aJ fun K hK=>?_;simp only[↓zP,zG,seval];apply hK;clear hK K;refine aJ fun K hK=>?_;refine aJ fun K2 cK=>?_;simp only[↓zP,zG,seval,zI,g1];apply cK;clear cK K2;refine bQ [6] (fun i vs H'=>vs=[.int .i64 (bI ((on.take i).foldl (gL q.1 (fun i=>l.getD i V0) a) none))]/\aFj H H') on.length (by omega) (by decide) ?_ ?_ ?_ ?_ ?_
 · simp only[zB,seval]
 · simp only[zB,seval,dP]
 · exact⟨by simp only[sm,zB,seval];rfl,hf,Ak _,fun j hj=>rfl⟩
 · rintro i f H1 hi hk e1 ⟨hv,hm⟩;simp only[zM] at hv
   have eF:(on.take (i+1)).foldl (gL q.1 (fun i=>l.getD i V0) a) none=gL q.1 (fun i=>l.getD i V0) a ((on.take i).foldl (gL q.1 (fun i=>l.getD i V0) a) none) on[i]:=by rw[Ap,Gt];simp[hi]
   have aWf:∀b,(on.take i).foldl (gL q.1 (fun i=>l.getD i V0) a) none=some b->b<l.length:=fun b hb=>YF b (aCo hb (fun k hk=>Cx hk));have hg:=uM hi;have yG:=YF _ (Ai hi);generalize on[i]=k at *;generalize (on.take i).foldl (gL q.1 (fun i=>l.getD i V0) a) none=yK at *;refine aH ?_;refine aJ fun K2 cK=>?_;simp only[↓zP,zG,seval,zI,e1,hk 12 rfl,aB,dP,hi,hg];apply cK;clear cK K2;refine aJ fun K2 cK=>?_;simp only[↓zP,zG,seval,zI,hk 0 rfl];rw[eF];by_cases Mi:k=a
   · have hb:((k:Int)==(a:Int))=true:=(by simp[Mi]);have hn:gL q.1 (fun i=>l.getD i V0) a yK k=yK:=if_pos Mi;simp only[zG,seval,hb,hn,hv];exact⟨trivial,hm⟩
   have hb:((k:Int)==(a:Int))=false:=(by simp;omega);simp only[zG,seval,hb];apply cK;clear cK K2;refine aJ fun K2 cK=>?_
   cases yK with
   |none=>have hn:gL q.1 (fun i=>l.getD i V0) a none k=some k:=if_neg Mi;have hd:decide (bI none<0)=true:=rfl;simp only[↓zP,zG,seval,hv,hd];rw[eF,hn];exact⟨by simp only[sm,zB,seval];rfl,hm⟩
   |some b=>
    have hn:gL q.1 (fun i=>l.getD i V0) a (some b) k=if better q.1 (fun i=>l.getD i V0) a b k then some k else some b:=if_neg Mi
    have hd:decide (bI (some b)<0)=false:=Ae (show ¬((b:Int)<0) by omega);have wD:=aWf b rfl;have hbv:bI (some b)=(b:Int):=rfl;simp only[↓zP,zG,seval,hv,hd];apply cK;clear cK K2;have gk:=bY yG;have gb:=bY wD;have ga:=bY ha;refine aJ fun K2 cK=>?_;refine nG 2 (by decide) hm.free.at2 fun H2 n2 e2=>?_;have h2:=(e2 i2).trans ((hm.same _ b2).trans g2);have h3:=(e2 i3).trans ((hm.same _ b3).trans g3);simp only[↓zP,zG,seval,zD,zI,hk 2 rfl,hk 0 rfl,hbv,h2,aB,aL,yG,ha,gk,ga,oL (aM l[k]),oL (aM l[a])];have nk:=hl _ (Ai yG);have nb:=hl _ (Ai wD);have na:=hl _ (Ai ha);have vk:aG.sub l[k] l[a]=vec (fun i=>l.getD i V0) a k:=(by simp only[vec,cG k yG,cG a ha]);have vb:aG.sub l[b] l[a]=vec (fun i=>l.getD i V0) a b:=(by simp only[vec,cG b wD,cG a ha]);have nvk:=fM nk na;have nvb:=fM nb na;rw[vk] at nvk;rw[vb] at nvb;refine eT (KO nk na (by omega) _) ?_;rw[vk];simp only[↓zP,zG,seval,zD,zI,hk 2 rfl,hk 0 rfl,hv,hbv,h2,aB,aL,ha,wD,gb,ga,oL (aM l[a]),oL (aM l[b])];refine eT (KO nb na (by omega) _) ?_;rw[vb];have Ma:better q.1 (fun i=>l.getD i V0) a b k=(decide (aG.sX q.1 (aG.aT (vec (fun i=>l.getD i V0) a b) (vec (fun i=>l.getD i V0) a k))<0)||(decide (aG.sX q.1 (aG.aT (vec (fun i=>l.getD i V0) a b) (vec (fun i=>l.getD i V0) a k))=0)&&decide (aG.dot (vec (fun i=>l.getD i V0) a k) (vec (fun i=>l.getD i V0) a k)>aG.dot (vec (fun i=>l.getD i V0) a b) (vec (fun i=>l.getD i V0) a b)))):=rfl;generalize vec (fun i=>l.getD i V0) a k=tQx at *;generalize vec (fun i=>l.getD i V0) a b=wy at *;have hx1:¬(H1.next=H1.next+1):=(by omega);have hx2:¬(H1.next+1=H1.next):=(by omega);simp only[↓zP,zG,seval,zD,zI,oL (aM tQx),oL (aM wy),hx1,hx2,n2];apply cK;clear cK K2;generalize hX:(((H2.set H1.next _).set (H1.next+1) _).set H1.next _).set (H1.next+1) _=H3;have u1:H3.get H1.next=some (.cells (bZ tQx) false):=(by subst hX;simp only[zI,seval,hx1]);have u2:H3.get (H1.next+1)=some (.cells (bZ wy) false):=by subst hX;simp only[zI,seval]
    have hm3:aFj H H3:=by
     have xG:H3.next=H1.next+2:=(by subst hX;simp only[aA.aX,n2]);refine⟨fun j hj=>?_,by have :=hm.le;omega,fun j hj=>?_⟩
     · have :=hm.free j (by omega);subst hX;rw[aA.aC,if_neg (by omega),aA.aC,if_neg (by omega),aA.aC,if_neg (by omega),aA.aC,if_neg (by omega),e2];exact this
     have hle:=hm.le;have :=hm.same j hj;subst hX;rw[aA.aC,if_neg (by omega),aA.aC,if_neg (by omega),aA.aC,if_neg (by omega),aA.aC,if_neg (by omega),e2];exact this
    have u3:=(hm3.same _ b3).trans g3;generalize H1.next=r at *;clear hX h2 h3 e2 n2;have pl3:(lK q).take 3=bZ q.1:=rfl;have pl4:(lK q).length=4:=rfl;have hB:(M+M)*(M+M)<=2^19*2^19:=Bv (by omega) (by omega);refine aJ fun K2 cK=>?_;simp only[↓zP,zG,seval,zI,hk 3 rfl,u1,u2,u3,pl3,pl4,oL (aM tQx),oL (aM wy)];refine bK (aJz q.1 nvb nvk (by omega) _) ?_;generalize aG.sX q.1 (aG.aT wy tQx)=tn at *;simp only[↓zP,zG,seval];apply cK;clear cK K2;refine aJ fun K2 cK=>?_;refine Dz ?_;by_cases c1:tn<0
    · have d1:=Al c1;simp only[↓zP,zG,seval,zD,zI,d1,aAv];apply cK;clear cK K2;simp only[↓zP,zG,seval,zI];rw[eF,hn,if_pos (by rw[Ma,d1];rfl)];exact⟨rfl,hm3⟩
    have d1:=Ae c1;by_cases c2:tn=0
    · have d2:(tn==0)=true:=Dc.2 c2;simp only[↓zP,zG,seval,zD,zI,d1,d2,u1,oL (aM tQx)];refine eT (IX nvk nvk (by omega) _) ?_;simp only[↓zP,zG,seval,zD,zI,u2,oL (aM wy)];refine eT (IX nvb nvb (by omega) _) ?_;simp only[↓zP,zG,seval,zD,zI];apply cK;clear cK K2;have d3:decide (tn=0)=true:=Al c2;by_cases c3:aG.dot wy wy<aG.dot tQx tQx
      · have d4:decide (aG.dot tQx tQx>aG.dot wy wy)=true:=Al c3;simp only[↓zP,zG,seval,zI,d4];rw[eF,hn,if_pos (by rw[Ma,d1,d3,d4];rfl)];exact⟨rfl,hm3⟩
      have d4:decide (aG.dot tQx tQx>aG.dot wy wy)=false:=Ae c3;simp only[↓zP,zG,seval,zI,d4,hv];rw[eF,hn,if_neg (by rw[Ma,d1,d3,d4];decide)];exact⟨rfl,hm3⟩
    have d2:(tn==0)=false:=Ca.2 c2;have d3:decide (tn=0)=false:=Ae c2;simp only[↓zP,zG,seval,zD,zI,d1,d2];apply cK;clear cK K2;simp only[↓zP,zG,seval,zI,hv];rw[eF,hn,if_neg (by rw[Ma,d1,d3];simp)];exact⟨rfl,hm3⟩
 rintro f H1 hk ⟨hv,hm⟩;simp only[zM] at hv;rw[Ar] at hv;simp only[↓zP,seval];apply hK;simp only[↓zP,zG,seval,hv];refine Rx ?_;exact⟨rfl,hm⟩
end Go.Proofs.YtbndcmnnbiiobaaGreatDoor
