/-
  Parts of the proof of statement 4: KLay, KLayT, Ka, Kb
-/
import Derived.Test.YtjiignefffdelaaGreatDoorA25
import Derived.Test.YtjiignefffdelaaGreatDoorA21
import Derived.Test.YtjiignefffdelaaGreatDoorProg
import Derived.Shelf.SlSortCmp.NoneTotal
import Derived.Ground.SlsfProg
import Derived.Shelf.Strings.OnBuilder
import Derived.Shelf.Strings.Count
import Derived.Shelf.Strings.Search3
set_option linter.unusedVariables false
set_option maxRecDepth 100000
set_option maxHeartbeats 16000000
namespace Go.Proofs
open Go.Shelf
def Tryz.sortP_ren:Go.Shelf.Ren:=⟨fun |6=>156|15=>204|14=>203|28=>181|29=>237|20=>229|21=>230|22=>231|23=>232|24=>233|25=>234|26=>235|27=>236|46=>271|47=>272|48=>273|49=>274|50=>275|57=>291|n=>n,fun |22=>152|24=>156|25=>199|3=>3|39=>86|0=>0|53=>36|55=>84|4=>4|46=>258|45=>257|50=>130|5=>5|9=>9|66=>283|70=>287|76=>298|77=>299|n=>n,fun |n=>n⟩
theorem Tryz.aPx:Go.Proofs.SlLaysF0.n6 Tryz.prog Tryz.sortP_ren:={
 mixed:=by kernel_rfl
 f6:=⟨Tryz.f156.name,by decide,Tryz.func156.trans (congrArg some (by kernel_rfl))⟩
 f14:=⟨Tryz.f203.name,by decide,Tryz.func203.trans (congrArg some (by kernel_rfl))⟩
 f15:=Tryz.func204.trans (congrArg some (by kernel_rfl))
 f20:=⟨Tryz.f229.name,by decide,Tryz.func229.trans (congrArg some (by kernel_rfl))⟩
 f21:=⟨Tryz.f230.name,by decide,Tryz.func230.trans (congrArg some (by kernel_rfl))⟩
 f22:=⟨Tryz.f231.name,by decide,Tryz.func231.trans (congrArg some (by kernel_rfl))⟩
 f23:=⟨Tryz.f232.name,by decide,Tryz.func232.trans (congrArg some (by kernel_rfl))⟩
 f24:=⟨Tryz.f233.name,by decide,Tryz.func233.trans (congrArg some (by kernel_rfl))⟩
 f25:=⟨Tryz.f234.name,by decide,Tryz.func234.trans (congrArg some (by kernel_rfl))⟩
 f26:=⟨Tryz.f235.name,by decide,Tryz.func235.trans (congrArg some (by kernel_rfl))⟩
 f27:=⟨Tryz.f236.name,by decide,Tryz.func236.trans (congrArg some (by kernel_rfl))⟩
 f28:=Tryz.func181.trans (congrArg some (by kernel_rfl))
 f29:=Tryz.func237.trans (congrArg some (by kernel_rfl))
 f46:=⟨Tryz.f271.name,by decide,Tryz.func271.trans (congrArg some (by kernel_rfl))⟩
 f47:=Tryz.func272.trans (congrArg some (by kernel_rfl))
 f48:=Tryz.func273.trans (congrArg some (by kernel_rfl))
 f49:=⟨Tryz.f274.name,by decide,Tryz.func274.trans (congrArg some (by kernel_rfl))⟩
 f50:=⟨Tryz.f275.name,by decide,Tryz.func275.trans (congrArg some (by kernel_rfl))⟩
 f57:=⟨Tryz.f291.name,by decide,Tryz.func291.trans (congrArg some (by kernel_rfl))⟩
 t0:=Tryz.underlying0
 a0:=Tryz.isAgg0
 z0:=Tryz.sizeOf0
 v0:=Tryz.zeroValue0
 t3:=Tryz.underlying3
 a3:=Tryz.isAgg3
 z3:=Tryz.sizeOf3
 v3:=Tryz.zeroValue3
 t4:=Tryz.underlying4
 a4:=Tryz.isAgg4
 z4:=Tryz.sizeOf4
 v4:=Tryz.zeroValue4
 t5:=Tryz.underlying5
 a5:=Tryz.isAgg5
 z5:=Tryz.sizeOf5
 v5:=Tryz.zeroValue5
 t9:=Tryz.underlying9
 a9:=Tryz.isAgg9
 z9:=Tryz.sizeOf9
 v9:=Tryz.zeroValue9
 t22:=Tryz.underlying152
 a22:=Tryz.isAgg152
 z22:=Tryz.sizeOf152
 v22:=Tryz.zeroValue152
 t25:=Tryz.underlying199
 a25:=Tryz.isAgg199
 z25:=Tryz.sizeOf199
 v25:=Tryz.zeroValue199
 t39:=Tryz.underlying86
 a39:=Tryz.isAgg86
 z39:=Tryz.sizeOf86
 v39:=Tryz.zeroValue86
 t45:=Tryz.underlying257
 a45:=Tryz.isAgg257
 z45:=Tryz.sizeOf257
 v45:=Tryz.zeroValue257
 t46:=Tryz.underlying258
 a46:=Tryz.isAgg258
 z46:=Tryz.sizeOf258
 v46:=Tryz.zeroValue258
 t50:=Tryz.underlying130
 a50:=Tryz.isAgg130
 z50:=Tryz.sizeOf130
 v50:=Tryz.zeroValue130
 t53:=Tryz.underlying36
 a53:=Tryz.isAgg36
 z53:=Tryz.sizeOf36
 v53:=Tryz.zeroValue36
 t55:=Tryz.underlying84
 a55:=Tryz.isAgg84
 z55:=Tryz.sizeOf84
 v55:=Tryz.zeroValue84
 t66:=Tryz.underlying283
 a66:=Tryz.isAgg283
 z66:=Tryz.sizeOf283
 v66:=Tryz.zeroValue283
 t70:=Tryz.underlying287
 a70:=Tryz.isAgg287
 z70:=Tryz.sizeOf287
 v70:=Tryz.zeroValue287
 t76:=Tryz.underlying298
 a76:=Tryz.isAgg298
 z76:=Tryz.sizeOf298
 v76:=Tryz.zeroValue298
 t77:=Tryz.underlying299
 a77:=Tryz.isAgg299
 z77:=Tryz.sizeOf299
 v77:=Tryz.zeroValue299}
def Tryz.sortE_ren:Go.Shelf.Ren:=⟨fun |6=>195|15=>204|14=>226|28=>181|29=>237|20=>255|21=>256|22=>257|23=>258|24=>259|25=>260|26=>261|27=>262|46=>285|47=>272|48=>273|49=>286|50=>287|57=>295|n=>n,fun |22=>162|24=>23|25=>233|3=>3|39=>86|0=>0|53=>36|55=>84|4=>4|46=>258|45=>257|50=>130|5=>5|9=>9|66=>283|70=>287|76=>298|77=>299|n=>n,fun |n=>n⟩
theorem Tryz.aUl:Go.Proofs.SlLaysF0.n6 Tryz.prog Tryz.sortE_ren:={
 mixed:=by kernel_rfl
 f6:=⟨Tryz.f195.name,by decide,Tryz.func195.trans (congrArg some (by kernel_rfl))⟩
 f14:=⟨Tryz.f226.name,by decide,Tryz.func226.trans (congrArg some (by kernel_rfl))⟩
 f15:=Tryz.func204.trans (congrArg some (by kernel_rfl))
 f20:=⟨Tryz.f255.name,by decide,Tryz.func255.trans (congrArg some (by kernel_rfl))⟩
 f21:=⟨Tryz.f256.name,by decide,Tryz.func256.trans (congrArg some (by kernel_rfl))⟩
 f22:=⟨Tryz.f257.name,by decide,Tryz.func257.trans (congrArg some (by kernel_rfl))⟩
 f23:=⟨Tryz.f258.name,by decide,Tryz.func258.trans (congrArg some (by kernel_rfl))⟩
 f24:=⟨Tryz.f259.name,by decide,Tryz.func259.trans (congrArg some (by kernel_rfl))⟩
 f25:=⟨Tryz.f260.name,by decide,Tryz.func260.trans (congrArg some (by kernel_rfl))⟩
 f26:=⟨Tryz.f261.name,by decide,Tryz.func261.trans (congrArg some (by kernel_rfl))⟩
 f27:=⟨Tryz.f262.name,by decide,Tryz.func262.trans (congrArg some (by kernel_rfl))⟩
 f28:=Tryz.func181.trans (congrArg some (by kernel_rfl))
 f29:=Tryz.func237.trans (congrArg some (by kernel_rfl))
 f46:=⟨Tryz.f285.name,by decide,Tryz.func285.trans (congrArg some (by kernel_rfl))⟩
 f47:=Tryz.func272.trans (congrArg some (by kernel_rfl))
 f48:=Tryz.func273.trans (congrArg some (by kernel_rfl))
 f49:=⟨Tryz.f286.name,by decide,Tryz.func286.trans (congrArg some (by kernel_rfl))⟩
 f50:=⟨Tryz.f287.name,by decide,Tryz.func287.trans (congrArg some (by kernel_rfl))⟩
 f57:=⟨Tryz.f295.name,by decide,Tryz.func295.trans (congrArg some (by kernel_rfl))⟩
 t0:=Tryz.underlying0
 a0:=Tryz.isAgg0
 z0:=Tryz.sizeOf0
 v0:=Tryz.zeroValue0
 t3:=Tryz.underlying3
 a3:=Tryz.isAgg3
 z3:=Tryz.sizeOf3
 v3:=Tryz.zeroValue3
 t4:=Tryz.underlying4
 a4:=Tryz.isAgg4
 z4:=Tryz.sizeOf4
 v4:=Tryz.zeroValue4
 t5:=Tryz.underlying5
 a5:=Tryz.isAgg5
 z5:=Tryz.sizeOf5
 v5:=Tryz.zeroValue5
 t9:=Tryz.underlying9
 a9:=Tryz.isAgg9
 z9:=Tryz.sizeOf9
 v9:=Tryz.zeroValue9
 t22:=Tryz.underlying162
 a22:=Tryz.isAgg162
 z22:=Tryz.sizeOf162
 v22:=Tryz.zeroValue162
 t25:=Tryz.underlying233
 a25:=Tryz.isAgg233
 z25:=Tryz.sizeOf233
 v25:=Tryz.zeroValue233
 t39:=Tryz.underlying86
 a39:=Tryz.isAgg86
 z39:=Tryz.sizeOf86
 v39:=Tryz.zeroValue86
 t45:=Tryz.underlying257
 a45:=Tryz.isAgg257
 z45:=Tryz.sizeOf257
 v45:=Tryz.zeroValue257
 t46:=Tryz.underlying258
 a46:=Tryz.isAgg258
 z46:=Tryz.sizeOf258
 v46:=Tryz.zeroValue258
 t50:=Tryz.underlying130
 a50:=Tryz.isAgg130
 z50:=Tryz.sizeOf130
 v50:=Tryz.zeroValue130
 t53:=Tryz.underlying36
 a53:=Tryz.isAgg36
 z53:=Tryz.sizeOf36
 v53:=Tryz.zeroValue36
 t55:=Tryz.underlying84
 a55:=Tryz.isAgg84
 z55:=Tryz.sizeOf84
 v55:=Tryz.zeroValue84
 t66:=Tryz.underlying283
 a66:=Tryz.isAgg283
 z66:=Tryz.sizeOf283
 v66:=Tryz.zeroValue283
 t70:=Tryz.underlying287
 a70:=Tryz.isAgg287
 z70:=Tryz.sizeOf287
 v70:=Tryz.zeroValue287
 t76:=Tryz.underlying298
 a76:=Tryz.isAgg298
 z76:=Tryz.sizeOf298
 v76:=Tryz.zeroValue298
 t77:=Tryz.underlying299
 a77:=Tryz.isAgg299
 z77:=Tryz.sizeOf299
 v77:=Tryz.zeroValue299}
def Tryz.sortV_ren:Go.Shelf.Ren:=⟨fun |6=>199|15=>204|14=>228|28=>181|29=>237|20=>263|21=>264|22=>265|23=>266|24=>267|25=>268|26=>269|27=>270|46=>288|47=>272|48=>273|49=>289|50=>290|57=>296|n=>n,fun |22=>30|24=>35|25=>193|3=>3|39=>86|0=>0|53=>36|55=>84|4=>4|46=>258|45=>257|50=>130|5=>5|9=>9|66=>283|70=>287|76=>298|77=>299|n=>n,fun |n=>n⟩
theorem Tryz.aPz:Go.Proofs.SlLaysF0.n6 Tryz.prog Tryz.sortV_ren:={
 mixed:=by kernel_rfl
 f6:=⟨Tryz.f199.name,by decide,Tryz.func199.trans (congrArg some (by kernel_rfl))⟩
 f14:=⟨Tryz.f228.name,by decide,Tryz.func228.trans (congrArg some (by kernel_rfl))⟩
 f15:=Tryz.func204.trans (congrArg some (by kernel_rfl))
 f20:=⟨Tryz.f263.name,by decide,Tryz.func263.trans (congrArg some (by kernel_rfl))⟩
 f21:=⟨Tryz.f264.name,by decide,Tryz.func264.trans (congrArg some (by kernel_rfl))⟩
 f22:=⟨Tryz.f265.name,by decide,Tryz.func265.trans (congrArg some (by kernel_rfl))⟩
 f23:=⟨Tryz.f266.name,by decide,Tryz.func266.trans (congrArg some (by kernel_rfl))⟩
 f24:=⟨Tryz.f267.name,by decide,Tryz.func267.trans (congrArg some (by kernel_rfl))⟩
 f25:=⟨Tryz.f268.name,by decide,Tryz.func268.trans (congrArg some (by kernel_rfl))⟩
 f26:=⟨Tryz.f269.name,by decide,Tryz.func269.trans (congrArg some (by kernel_rfl))⟩
 f27:=⟨Tryz.f270.name,by decide,Tryz.func270.trans (congrArg some (by kernel_rfl))⟩
 f28:=Tryz.func181.trans (congrArg some (by kernel_rfl))
 f29:=Tryz.func237.trans (congrArg some (by kernel_rfl))
 f46:=⟨Tryz.f288.name,by decide,Tryz.func288.trans (congrArg some (by kernel_rfl))⟩
 f47:=Tryz.func272.trans (congrArg some (by kernel_rfl))
 f48:=Tryz.func273.trans (congrArg some (by kernel_rfl))
 f49:=⟨Tryz.f289.name,by decide,Tryz.func289.trans (congrArg some (by kernel_rfl))⟩
 f50:=⟨Tryz.f290.name,by decide,Tryz.func290.trans (congrArg some (by kernel_rfl))⟩
 f57:=⟨Tryz.f296.name,by decide,Tryz.func296.trans (congrArg some (by kernel_rfl))⟩
 t0:=Tryz.underlying0
 a0:=Tryz.isAgg0
 z0:=Tryz.sizeOf0
 v0:=Tryz.zeroValue0
 t3:=Tryz.underlying3
 a3:=Tryz.isAgg3
 z3:=Tryz.sizeOf3
 v3:=Tryz.zeroValue3
 t4:=Tryz.underlying4
 a4:=Tryz.isAgg4
 z4:=Tryz.sizeOf4
 v4:=Tryz.zeroValue4
 t5:=Tryz.underlying5
 a5:=Tryz.isAgg5
 z5:=Tryz.sizeOf5
 v5:=Tryz.zeroValue5
 t9:=Tryz.underlying9
 a9:=Tryz.isAgg9
 z9:=Tryz.sizeOf9
 v9:=Tryz.zeroValue9
 t22:=Tryz.underlying30
 a22:=Tryz.isAgg30
 z22:=Tryz.sizeOf30
 v22:=Tryz.zeroValue30
 t25:=Tryz.underlying193
 a25:=Tryz.isAgg193
 z25:=Tryz.sizeOf193
 v25:=Tryz.zeroValue193
 t39:=Tryz.underlying86
 a39:=Tryz.isAgg86
 z39:=Tryz.sizeOf86
 v39:=Tryz.zeroValue86
 t45:=Tryz.underlying257
 a45:=Tryz.isAgg257
 z45:=Tryz.sizeOf257
 v45:=Tryz.zeroValue257
 t46:=Tryz.underlying258
 a46:=Tryz.isAgg258
 z46:=Tryz.sizeOf258
 v46:=Tryz.zeroValue258
 t50:=Tryz.underlying130
 a50:=Tryz.isAgg130
 z50:=Tryz.sizeOf130
 v50:=Tryz.zeroValue130
 t53:=Tryz.underlying36
 a53:=Tryz.isAgg36
 z53:=Tryz.sizeOf36
 v53:=Tryz.zeroValue36
 t55:=Tryz.underlying84
 a55:=Tryz.isAgg84
 z55:=Tryz.sizeOf84
 v55:=Tryz.zeroValue84
 t66:=Tryz.underlying283
 a66:=Tryz.isAgg283
 z66:=Tryz.sizeOf283
 v66:=Tryz.zeroValue283
 t70:=Tryz.underlying287
 a70:=Tryz.isAgg287
 z70:=Tryz.sizeOf287
 v70:=Tryz.zeroValue287
 t76:=Tryz.underlying298
 a76:=Tryz.isAgg298
 z76:=Tryz.sizeOf298
 v76:=Tryz.zeroValue298
 t77:=Tryz.underlying299
 a77:=Tryz.isAgg299
 z77:=Tryz.sizeOf299
 v77:=Tryz.zeroValue299}
def Tryz.lays143_ren:Go.Shelf.Ren:=⟨fun |143=>128|219=>180|217=>218|225=>219|224=>220|267=>221|266=>249|314=>250|n=>n,fun |9=>9|3=>3|4=>4|5=>5|46=>86|146=>249|51=>36|n=>n,fun |1=>0|n=>n⟩
theorem Tryz.aRn:Go.Proofs.Lays.n143 Tryz.prog Tryz.lays143_ren:={
 mixed:=by kernel_rfl
 f143:=Tryz.func128.trans (congrArg some (by kernel_rfl))
 f217:=Tryz.func218.trans (congrArg some (by kernel_rfl))
 f219:=Tryz.func180.trans (congrArg some (by kernel_rfl))
 f224:=Tryz.func220.trans (congrArg some (by kernel_rfl))
 f225:=Tryz.func219.trans (congrArg some (by kernel_rfl))
 f266:=Tryz.func249.trans (congrArg some (by kernel_rfl))
 f267:=Tryz.func221.trans (congrArg some (by kernel_rfl))
 f314:=Tryz.func250.trans (congrArg some (by kernel_rfl))
 t3:=Tryz.underlying3
 a3:=Tryz.isAgg3
 z3:=Tryz.sizeOf3
 v3:=Tryz.zeroValue3
 t4:=Tryz.underlying4
 a4:=Tryz.isAgg4
 z4:=Tryz.sizeOf4
 v4:=Tryz.zeroValue4
 t5:=Tryz.underlying5
 a5:=Tryz.isAgg5
 z5:=Tryz.sizeOf5
 v5:=Tryz.zeroValue5
 t9:=Tryz.underlying9
 a9:=Tryz.isAgg9
 z9:=Tryz.sizeOf9
 v9:=Tryz.zeroValue9
 t46:=Tryz.underlying86
 a46:=Tryz.isAgg86
 z46:=Tryz.sizeOf86
 v46:=Tryz.zeroValue86
 t51:=Tryz.underlying36
 a51:=Tryz.isAgg36
 z51:=Tryz.sizeOf36
 v51:=Tryz.zeroValue36
 t146:=Tryz.underlying249
 a146:=Tryz.isAgg249
 z146:=Tryz.sizeOf249
 v146:=Tryz.zeroValue249
 g1:=by kernel_rfl}
def Tryz.lays138_ren:Go.Shelf.Ren:=⟨fun |138=>127|195=>177|218=>179|143=>128|219=>180|217=>218|225=>219|224=>220|267=>221|266=>249|314=>250|n=>n,fun |9=>9|3=>3|4=>4|5=>5|0=>0|46=>86|146=>249|51=>36|n=>n,fun |1=>0|n=>n⟩
theorem Tryz.aRm:Go.Proofs.Lays.n138 Tryz.prog Tryz.lays138_ren:={
 mixed:=by kernel_rfl
 f138:=Tryz.func127.trans (congrArg some (by kernel_rfl))
 f143:=Tryz.func128.trans (congrArg some (by kernel_rfl))
 f195:=Tryz.func177.trans (congrArg some (by kernel_rfl))
 f217:=Tryz.func218.trans (congrArg some (by kernel_rfl))
 f218:=Tryz.func179.trans (congrArg some (by kernel_rfl))
 f219:=Tryz.func180.trans (congrArg some (by kernel_rfl))
 f224:=Tryz.func220.trans (congrArg some (by kernel_rfl))
 f225:=Tryz.func219.trans (congrArg some (by kernel_rfl))
 f266:=Tryz.func249.trans (congrArg some (by kernel_rfl))
 f267:=Tryz.func221.trans (congrArg some (by kernel_rfl))
 f314:=Tryz.func250.trans (congrArg some (by kernel_rfl))
 t0:=Tryz.underlying0
 a0:=Tryz.isAgg0
 z0:=Tryz.sizeOf0
 v0:=Tryz.zeroValue0
 t3:=Tryz.underlying3
 a3:=Tryz.isAgg3
 z3:=Tryz.sizeOf3
 v3:=Tryz.zeroValue3
 t4:=Tryz.underlying4
 a4:=Tryz.isAgg4
 z4:=Tryz.sizeOf4
 v4:=Tryz.zeroValue4
 t5:=Tryz.underlying5
 a5:=Tryz.isAgg5
 z5:=Tryz.sizeOf5
 v5:=Tryz.zeroValue5
 t9:=Tryz.underlying9
 a9:=Tryz.isAgg9
 z9:=Tryz.sizeOf9
 v9:=Tryz.zeroValue9
 t46:=Tryz.underlying86
 a46:=Tryz.isAgg86
 z46:=Tryz.sizeOf86
 v46:=Tryz.zeroValue86
 t51:=Tryz.underlying36
 a51:=Tryz.isAgg36
 z51:=Tryz.sizeOf36
 v51:=Tryz.zeroValue36
 t146:=Tryz.underlying249
 a146:=Tryz.isAgg249
 z146:=Tryz.sizeOf249
 v146:=Tryz.zeroValue249
 g1:=by kernel_rfl}
def Tryz.lays156_ren:Go.Shelf.Ren:=⟨fun |156=>40|165=>84|166=>85|169=>86|240=>131|241=>132|276=>182|277=>183|n=>n,fun |31=>75|9=>9|3=>3|4=>4|0=>0|20=>20|72=>134|76=>138|70=>132|37=>100|75=>137|127=>178|164=>218|5=>5|80=>140|n=>n,fun |n=>n⟩
theorem Tryz.aRo:Go.Proofs.Lays.n156 Tryz.prog Tryz.lays156_ren:={
 mixed:=by kernel_rfl
 f156:=Tryz.func40.trans (congrArg some (by kernel_rfl))
 f165:=Tryz.func84.trans (congrArg some (by kernel_rfl))
 f166:=Tryz.func85.trans (congrArg some (by kernel_rfl))
 f169:=Tryz.func86.trans (congrArg some (by kernel_rfl))
 f240:=Tryz.func131.trans (congrArg some (by kernel_rfl))
 f241:=Tryz.func132.trans (congrArg some (by kernel_rfl))
 f276:=Tryz.func182.trans (congrArg some (by kernel_rfl))
 f277:=Tryz.func183.trans (congrArg some (by kernel_rfl))
 t0:=Tryz.underlying0
 a0:=Tryz.isAgg0
 z0:=Tryz.sizeOf0
 v0:=Tryz.zeroValue0
 t3:=Tryz.underlying3
 a3:=Tryz.isAgg3
 z3:=Tryz.sizeOf3
 v3:=Tryz.zeroValue3
 t4:=Tryz.underlying4
 a4:=Tryz.isAgg4
 z4:=Tryz.sizeOf4
 v4:=Tryz.zeroValue4
 t9:=Tryz.underlying9
 a9:=Tryz.isAgg9
 z9:=Tryz.sizeOf9
 v9:=Tryz.zeroValue9
 t20:=Tryz.underlying20
 a20:=Tryz.isAgg20
 z20:=Tryz.sizeOf20
 v20:=Tryz.zeroValue20
 t31:=Tryz.underlying75
 a31:=Tryz.isAgg75
 z31:=Tryz.sizeOf75
 v31:=Tryz.zeroValue75
 t37:=Tryz.underlying100
 a37:=Tryz.isAgg100
 z37:=Tryz.sizeOf100
 v37:=Tryz.zeroValue100
 t70:=Tryz.underlying132
 a70:=Tryz.isAgg132
 z70:=Tryz.sizeOf132
 v70:=Tryz.zeroValue132
 t72:=Tryz.underlying134
 a72:=Tryz.isAgg134
 z72:=Tryz.sizeOf134
 v72:=Tryz.zeroValue134
 t75:=Tryz.underlying137
 a75:=Tryz.isAgg137
 z75:=Tryz.sizeOf137
 v75:=Tryz.zeroValue137
 t76:=Tryz.underlying138
 a76:=Tryz.isAgg138
 z76:=Tryz.sizeOf138
 v76:=Tryz.zeroValue138
 t127:=Tryz.underlying178
 a127:=Tryz.isAgg178
 z127:=Tryz.sizeOf178
 v127:=Tryz.zeroValue178
 t164:=Tryz.underlying218
 a164:=Tryz.isAgg218
 z164:=Tryz.sizeOf218
 v164:=Tryz.zeroValue218}
theorem Tryz.oR:Builder.Extra Tryz.prog Tryz.lays156_ren:={
 sizeBuilder:=by kernel_rfl
 liesBuilder:=by kernel_rfl
 t5:=Tryz.underlying5
 a5:=Tryz.isAgg5
 z5:=Tryz.sizeOf5
 v5:=Tryz.zeroValue5
 infoByte:=by kernel_rfl
 cellsByte:=by kernel_rfl
 sizeByte:=by kernel_rfl
 neB5:=by decide}
end Go.Proofs
namespace Go.Proofs.YtjiignefffdelaaGreatDoor
open Go Go.Av Go.Num
attribute [local congr] aU aN aO aM aW aR aP aL
attribute [local irreducible] FC FOps FD2
theorem rN (neg:Bool) {l:List Nat} (hl:L16 l) (H:Heap):Sound Tryz.prog gv 44 [.bool neg,.agg (wC l)] H (.ret (.agg (.bool false::.bool (neg&& !decide (l=zs))::wC l))) H:=by
 refine Sp bBk (by simp only[sf]) (by simp only[sf]) ?_ H;unfold W44;dsimp only;cases neg<;>
 · simp only[↓zP,zG,Nat.reduceLT]
   refine aQ (by decide) ?_;simp only[↓zP,zG,Nat.reduceLT,Nat.reduceEqDiff,Nat.reduceAdd,zD,reduceCtorEq,zI,Nat.reduceLeDiff,iL hl];exact⟨rfl,_,by simp only[↓zP,zR,Nat.reduceEqDiff,Nat.reduceAdd,iL hl];rfl,rfl⟩
theorem nL (H:Heap):Sound Tryz.prog gv 89 [] H (.ret (.agg badC)) H:=by
 refine Sp bFc (by simp only[sf]) (by simp only[sf,sfI]) ?_ H;unfold W89;dsimp only;simp only[↓zP,zG,Nat.reduceLT,Nat.reduceEqDiff,Nat.reduceAdd,zI,Nat.reduceLeDiff];exact⟨rfl,_,by simp only[↓zP,zR,Nat.reduceEqDiff,Nat.reduceAdd];rfl,rfl⟩
theorem aBh (b n:Bool) {l:List Nat} (hl:L16 l) (H:Heap):Sound Tryz.prog gv 137 [.agg (.bool b::.bool n::wC l)] H (.ret (.bool (if b then decide (l=zs)&& !n else !decide (l=zs)|| !n))) H:=by
 refine Sp aYp (by simp only[sf]) (by simp only[sf]) ?_ H;unfold W137;dsimp only;by_cases hz:l=zs<;>cases b<;>
 · simp only[↓zP,zG,Nat.reduceLT,Nat.reduceEqDiff,Nat.reduceAdd,zI,Nat.reduceLeDiff,iL hl,hz,decide_true,decide_false]
   exact⟨rfl,_,by simp only[↓zP,zR];rfl,rfl⟩
theorem xY {u:Nat} (h:u<2^64):AV.int .u32 ((limb u 0:Nat):Int)::AV.int .u32 ((limb u 1:Nat):Int)::((wC zs).drop 1).drop 1=wC (limbs 16 u):=by
 have hk:∀k,2≤k→limb u k=0:=fun k hk=>xV (m:=2) (by simpa [W] using h) hk;simp[wC,zs,limbs,List.range,List.range.loop,hk,List.replicate]
theorem oW {z:Int} (h0: -2^63≤z) (h1:z<2^63) (H:Heap):Sound Tryz.prog gv 15 [.int .i64 z] H (.ret (.agg (cI z))) H:=by
 refine Sp bDe (by simp only[sf]) (by simp only[sf,sfI]) ?_ H;unfold W15;dsimp only
 have hu:z.natAbs<2^64:=by omega
 have l2:=xY hu;have hl:=L16.limbs z.natAbs
 have e0:((z.natAbs%W:Nat):Int)=(limb z.natAbs 0:Nat):=by simp[limb]
 have e1:((z.natAbs / W%W:Nat):Int)=(limb z.natAbs 1:Nat):=by simp[limb]
 have fin:decide (limbs 16 z.natAbs=zs)=decide (z=0):=by
  by_cases hz:z=0
  · subst hz;rfl
  · rw[decide_eq_false hz,decide_eq_false]
    intro e;have :=cU (m:=16) (n:=z.natAbs) (Nat.lt_trans hu (by decide));rw[e,aFr] at this;omega
 have fs:(decide (z<0)&& !decide (z=0))=decide (z<0):=by by_cases h:z<0<;>simp[h];omega
 simp only[↓zP,zG,Nat.reduceLT,Nat.reduceEqDiff,Nat.reduceAdd,zI,Nat.reduceLeDiff,Int.reduceLT];refine⟨fun hneg=>?_,fun hneg=>?_⟩
 · have w1:IntKind.u64.wrap z=((2^64 -z.natAbs:Nat):Int):=gH (by omega) (by omega)
   have w2:IntKind.u64.wrap (0 -((2^64 -z.natAbs:Nat):Int))=(z.natAbs:Int):=gH (by omega) (by omega);simp only[w1,w2,aHb,tY,e0,e1,l2];refine bF (rN (decide (z<0)) hl _) ?_;simp only[↓zP,zG,Nat.reduceEqDiff,Nat.reduceAdd,zI,iL hl,fin,fs];exact⟨rfl,_,by simp only[↓zP,zR,Nat.reduceEqDiff,Nat.reduceAdd,iL hl];rfl,rfl⟩
 · have w1:IntKind.u64.wrap z=(z.natAbs:Int):=gH (by omega) (by omega)
   simp only[w1,aHb,tY,e0,e1,l2];refine bF (rN (decide (z<0)) hl _) ?_;simp only[↓zP,zG,Nat.reduceEqDiff,Nat.reduceAdd,zI,iL hl,fin,fs];exact⟨rfl,_,by simp only[↓zP,zR,Nat.reduceEqDiff,Nat.reduceAdd,iL hl];rfl,rfl⟩
theorem aHw (rs:List RawI) (hlen:rs.length<2^30) (H:Heap):Sound Tryz.prog gv 88 [.aT 1 18 (rs.map RawI.cells)] H (.ret (.bool (rs.all RawI.good))) H:=by
 refine Sp bFb (by simp only[sf,bR aKr]) (by simp only[sf]) ?_ H;unfold W88;dsimp only;refine aA fun K hK=>?_;simp only[↓zP,zG,Nat.reduceLT];apply hK;clear hK K;refine aA fun K hK=>?_;refine aA fun K2 hK2=>?_;simp only[↓zP,zG,Nat.reduceLT,Nat.reduceEqDiff,zI];apply hK2;clear hK2 K2;refine bD [] (fun i _ H=>(rs.take i).all RawI.good=true) rs.length (by omega) (by decide) ?_ ?_ ?_ ?_ ?_
 · simp only[aC]
 · simp only[aC,ne_eq,Nat.reduceEqDiff,not_false_eq_true,List.length_map]
 · rfl
 · intro i f H hi hk e1 hj
   have hc:(rs.map RawI.cells).getD i []=rs[i].cells:=bU hi;have hg:=aQd hi hj
   have hf:rs[i].good=false→rs.all RawI.good=false:=fun h=>by
    rw[←Bool.not_eq_true,List.all_eq_true]
    exact fun ha=>by rw[ha _ (List.getElem_mem hi)] at h;cases h
   generalize rs[i]=r at hc hg hf;obtain⟨b,n,l,hl⟩:=r;simp only[RawI.cells,RawI.good,goodW] at hc hg hf;refine aI ?_;cases b
   · simp only[↓zP,zG,Nat.reduceLT,Nat.reduceEqDiff,Nat.reduceAdd,zI,Nat.reduceLeDiff,e1,hk 5 rfl,aD,List.length_map,hi,hc,iL hl]
     refine bF (aBh false n hl _) ?_;by_cases hz:l=zs<;>cases n<;>
     · simp only[hz,decide_true,decide_false,Bool.not_true,Bool.not_false,Bool.and_true,Bool.or_true,Bool.or_false,Bool.and_false] at hg
       simp only[↓zP,zG,Nat.reduceLT,Nat.reduceEqDiff,zI,hz,decide_true,decide_false,Bool.or_true,Bool.or_false,hg]
       try
        refine⟨rfl,_,by simp only[↓zP,zR];rfl,?_⟩;rw[hf (by simp[hz])];rfl
   · simp only[Bool.not_true,Bool.false_and] at hg hf
     simp only[↓zP,zG,Nat.reduceLT,Nat.reduceEqDiff,Nat.reduceAdd,zI,Nat.reduceLeDiff,e1,hk 5 rfl,aD,List.length_map,hi,hc,iL hl];refine⟨rfl,_,by simp only[↓zP,zR];rfl,?_⟩;rw[hf trivial];rfl
 · intro f H hk hj
   rw[List.take_length] at hj;simp only[↓zP];apply hK;simp only[↓zP,zG,Nat.reduceLT,hj];exact⟨rfl,_,by simp only[↓zP,zR];rfl,rfl⟩
theorem uG (a:Nat) (H:Heap):Sound Tryz.prog gv 188 [.int .u32 a] H (.ret (.bool false)) H:=by
 refine Sp aZy (by simp only[sf]) (by simp only[sf]) ?_ H;unfold W188;dsimp only;simp only[↓zP,zG,Nat.reduceLT,Nat.reduceEqDiff,zI,bne_self_eq_false];exact⟨rfl,_,by simp only[↓zP,zR];rfl,rfl⟩
theorem yT (a b:Nat) (H:Heap):Sound Tryz.prog gv 138 [.int .u32 a,.int .u32 b] H (.ret (.int .i64 (cmpN a b))) H:=by
 refine Sp aYq (by simp only[sf]) (by simp only[sf]) ?_ H;unfold W138;dsimp only;simp only[↓zP,zG,Nat.reduceLT,Nat.reduceEqDiff,zI];refine bF (uG a _) ?_;simp only[↓zP,zG,Nat.reduceLT,Nat.reduceEqDiff,zI];refine bF (uG b _) ?_;simp only[↓zP,zG,Nat.reduceLT,Nat.reduceEqDiff,zI];refine⟨fun h=>?_,fun h=>⟨fun h2=>?_,fun h2=>?_⟩⟩<;>refine⟨rfl,_,by simp only[↓zP,zR];rfl,?_⟩<;>unfold cmpN
 · rw[if_pos (by omega)];rfl
 · rw[if_neg (by omega),if_pos (by omega)];rfl
 · rw[if_neg (by omega),if_neg (by omega)];rfl
theorem uX {a b:Nat} (ha:a<W^16) (hb:b<W^16) (H:Heap):Sound Tryz.prog gv 91 [.agg (wC (limbs 16 a)),.agg (wC (limbs 16 b))] H (.ret (.int .i64 (cmpN a b))) H:=by
 refine Sp bFe (by simp only[sf]) (by simp only[sf]) ?_ H;unfold W91;dsimp only;have la:=iL (.limbs a);have lb:=iL (.limbs b);simp only[↓zP,zG,Nat.reduceLT,Nat.reduceEqDiff,zI];refine aI (dM [5] (fun m vs H'=>vs=[.int .i64 ((m:Int) -1)]∧m≤16∧a / W^m=b / W^m∧H'.get 0=some (.cells (wC (limbs 16 a)) false)∧H'.get 1=some (.cells (wC (limbs 16 b)) false)) 16 (by rfl) ?_ ?_)
 · refine⟨by simp only[sm,aC];rfl,by omega,by rw[Nat.div_eq_of_lt ha,Nat.div_eq_of_lt hb],by simp only[zI,Nat.reduceEqDiff],by simp only[zI,Nat.reduceEqDiff]⟩
 · rintro m f H hk ⟨hv,hm,hd,g0,g1⟩
   simp only[sm,List.cons.injEq,and_true] at hv;simp only[↓zP,zG,Nat.reduceLT,zI,hv];refine⟨fun h=>?_,fun h=>?_⟩
   · obtain⟨m,rfl⟩:∃k,m=k+1:=⟨m -1,by omega⟩
     have e:((m+1:Nat):Int) -1=(m:Nat):=by omega
     refine aI ?_;simp only[↓zP,e];refine aQ (by decide) ?_;simp only[↓zP,zG,Nat.reduceLT,Nat.reduceEqDiff,Nat.reduceAdd,zD,reduceCtorEq,zI,hv,e,hk 2 rfl,hk 3 rfl,aD,g0,g1,show m<16 by omega,show m+1≤16 by omega,la,lb,dS (show m<16 by omega)];by_cases hne:limb a m=limb b m
     · simp only[zG,hne,bne_self_eq_false]
       have w:IntKind.i64.wrap ((m:Int) -1)=(m:Int) -1:=wrap_i64 (by omega) (by omega);exact⟨m,by omega,by rw[w],by omega,xG hd hne⟩
     · have hb:(((limb a m:Nat):Int) != ((limb b m:Nat):Int))=true:=by simp;omega
       simp only[zG,hb];refine aQ (by decide) ?_;simp only[↓zP,zG,Nat.reduceLT,Nat.reduceEqDiff,Nat.reduceAdd,zD,reduceCtorEq,zI,hv,e,hk 2 rfl,hk 3 rfl,aD,g0,g1,show m<16 by omega,show m+1≤16 by omega,la,lb,dS (show m<16 by omega)];refine cE (yT (limb a m) (limb b m) _) ?_;simp only[↓zP,zG,Nat.reduceLT,Nat.reduceAdd,zD,reduceCtorEq,zI];refine⟨rfl,_,by simp only[↓zP,zR];rfl,?_⟩;rw[aRa hd hne];rfl
   · obtain rfl:m=0:=by omega
     simp only[Nat.pow_zero,Nat.div_one] at hd;refine⟨rfl,_,by simp only[↓zP,zR];rfl,?_⟩;simp[hd,cmpN,retA]
theorem aSp {a b:Nat} (ha:a<W^16) (hb:b<W^16) (H:Heap):Sound Tryz.prog gv 90 [.agg (wC (limbs 16 a)),.agg (wC (limbs 16 b))] H (.ret (.tup [.agg (wC (limbs 16 (a+b))),.bool (decide (a+b<W^16))])) H:=by
 refine Sp bFd (by simp only[sf]) (by simp only[sf]) ?_ H;unfold W90;dsimp only;have la:=iL (.limbs a);have lb:=iL (.limbs b);simp only[↓zP,zG,Nat.reduceLT,Nat.reduceEqDiff,Nat.reduceAdd,zI];refine dH [7] (fun i vs H'=>vs=[.int .u64 (cr a b i:Nat)]∧H'.get 0=some (.cells (wC (limbs 16 a)) false)∧H'.get 1=some (.cells (wC (limbs 16 b)) false)∧H'.get 2=some (.cells (wC zs) false)∧H'.get 3=some (.cells (wC (pfx i (limbs 16 (a+b)))) false)) 16 (by decide) rfl (by decide) ?_ ?_ ?_ ?_
 · simp only[aC]
 · refine⟨by simp only[sm,aC,Nat.reduceEqDiff,aRe];rfl,?_⟩
   rw[vB];simp only[zG,Nat.reduceEqDiff,Nat.reduceAdd,zI]
 · rintro i f H hi hk e1 ⟨hv,g0,g1,g2,g3⟩
   simp only[sm,List.cons.injEq,and_true] at hv;have c1:=aTs a b i;have c2:=dC a i;have c3:=dC b i;have hW:W=4294967296:=rfl;have w1:IntKind.u64.wrap ((limb a i:Nat):Int)=(limb a i:Nat):=gH (by omega) (.inl rfl);have w2:IntKind.u64.wrap ((limb b i:Nat):Int)=(limb b i:Nat):=gH (by omega) (.inl rfl);have w3:IntKind.u64.wrap (((limb a i:Nat):Int)+(limb b i:Nat))=((limb a i+limb b i:Nat):Int):=gH (by omega) (.inl (by omega));have w4:IntKind.u64.wrap (((cr a b i:Nat):Int)+((limb a i+limb b i:Nat):Int))=((cr a b i+limb a i+limb b i:Nat):Int):=gH (by omega) (.inl (by omega));refine aI ?_;simp only[↓zP,zG,Nat.reduceLT,Nat.reduceEqDiff,e1];refine aQ (by decide) ?_;simp only[↓zP,zG,Nat.reduceLT,Nat.reduceEqDiff,Nat.reduceAdd,zD,reduceCtorEq,zI,Int.reduceLT,hv,hk 2 rfl,hk 3 rfl,hk 6 rfl,aD,g0,g1,g3,hi,show i+1≤16 by omega,la,lb,dS hi,w1,w2,w3,w4,aHb,tY,qG,←aRd];exact⟨g2,by rw[vA hi (by rw[aOh])]⟩
 · rintro f H hk ⟨hv,g0,g1,g2,g3⟩
   simp only[sm,List.cons.injEq,and_true] at hv;simp only[↓zP,zG,Nat.reduceEqDiff,zI,hv,hk 6 rfl,hk 4 rfl,g2,g3,yC,(iL (.limbs (a+b)))]
   have hc:(((cr a b 16:Nat):Int)==0)=decide (a+b<W^16):=by
    rw[aUv ha hb];split<;>rename_i hl<;>simp[hl]
   refine⟨rfl,_,by simp only[↓zP,zR,Nat.reduceEqDiff,hk 4 rfl,iL (.limbs (a+b))];rfl,?_⟩;rw[hc];rfl
theorem aUx (u:Nat):(u:Int).fdiv (2^min (Int.toNat 63) IntKind.u64.bits)=((u / 2^63:Nat):Int):=by
 show(u:Int).fdiv (2^63)=_;rw[Int.fdiv_eq_ediv_of_nonneg _ (by decide)];rfl
theorem aCq {a b:Nat} (ha:a<W^16) (hb:b≤a) (H:Heap):Sound Tryz.prog gv 92 [.agg (wC (limbs 16 a)),.agg (wC (limbs 16 b))] H (.ret (.agg (wC (limbs 16 (a -b))))) H:=by
 refine Sp bFf (by simp only[sf]) (by simp only[sf]) ?_ H;unfold W92;dsimp only;have la:=iL (.limbs a);have lb:=iL (.limbs b);simp only[↓zP,zG,Nat.reduceLT,Nat.reduceEqDiff,Nat.reduceAdd,zI];refine dH [6] (fun i vs H'=>vs=[.int .u64 (bw a b i:Nat)]∧H'.get 0=some (.cells (wC (limbs 16 a)) false)∧H'.get 1=some (.cells (wC (limbs 16 b)) false)∧H'.get 2=some (.cells (wC zs) false)∧H'.get 3=some (.cells (wC (pfx i (limbs 16 (a -b)))) false)) 16 (by decide) rfl (by decide) ?_ ?_ ?_ ?_
 · simp only[aC]
 · refine⟨by simp only[sm,aC,Nat.reduceEqDiff,aQv];rfl,?_⟩
   rw[vB];simp only[zG,Nat.reduceEqDiff,Nat.reduceAdd,zI]
 · rintro i f H hi hk e1 ⟨hv,g0,g1,g2,g3⟩
   simp only[sm,List.cons.injEq,and_true] at hv
   have c1:bw a b i≤1:=by unfold bw;split<;>omega
   have c2:=dC a i;have c3:=dC b i;have c4:=aOi hb i;have c5:=aQu a b i;have hW:W=4294967296:=rfl;have w1:IntKind.u64.wrap ((limb a i:Nat):Int)=(limb a i:Nat):=gH (by omega) (.inl rfl);have w2:IntKind.u64.wrap ((limb b i:Nat):Int)=(limb b i:Nat):=gH (by omega) (.inl rfl);obtain⟨D,hD⟩:∃D:Nat,(D:Int)=(((limb a i:Nat):Int) -(limb b i:Nat) -(bw a b i:Nat))%2^64:=⟨((((limb a i:Nat):Int) -(limb b i:Nat) -(bw a b i:Nat))%2^64).toNat,Int.toNat_of_nonneg (by omega)⟩
   have w3:IntKind.u64.wrap (IntKind.u64.wrap (((limb a i:Nat):Int) -(limb b i:Nat)) -((bw a b i:Nat):Int))=(D:Int):=by
    simp only[IntKind.wrap,IntKind.bits,IntKind.signed,hD];simp
   have w4:D / 2^63=bw a b (i+1):=by rw[c5];split<;>omega
   refine aI ?_;simp only[↓zP,zG,Nat.reduceLT,Nat.reduceEqDiff,e1];refine aQ (by decide) ?_;simp only[↓zP,zG,Nat.reduceLT,Nat.reduceEqDiff,Nat.reduceAdd,zD,reduceCtorEq,zI,Int.reduceLT,hv,hk 2 rfl,hk 3 rfl,hk 5 rfl,aD,g0,g1,g3,hi,show i+1≤16 by omega,la,lb,dS hi,w1,w2,w3,aHb,aUx,qG,w4];exact⟨g2,by rw[vA hi (by rw[c4,hW];omega)]⟩
 · rintro f H hk ⟨hv,g0,g1,g2,g3⟩
   simp only[sm,List.cons.injEq,and_true] at hv;simp only[↓zP,zG,Nat.reduceEqDiff,zI,hk 5 rfl,hk 4 rfl,g2,g3,yC,(iL (.limbs (a -b)))];exact⟨rfl,_,by simp only[↓zP,zR,Nat.reduceEqDiff,hk 4 rfl,iL (.limbs (a -b))];rfl,rfl⟩
theorem gW {a:List AV} {x:Option Int} (ha:IsI a x) (H:Heap):Sound Tryz.prog gv 88 [.aT 1 18 [a]] H (.ret (.bool x.isSome)) H:=by
 obtain⟨r,rfl,-,hr⟩:=ha.raw;have :=aHw [r] (by simp) H;simpa [hr] using this
theorem lO {a b:List AV} {x y:Option Int} (ha:IsI a x) (hb:IsI b y) (H:Heap):Sound Tryz.prog gv 88 [.aT 1 18 [a,b]] H (.ret (.bool (x.isSome&&y.isSome))) H:=by
 obtain⟨r,rfl,-,hr⟩:=ha.raw;obtain⟨q,rfl,-,hq⟩:=hb.raw;have :=aHw [r,q] (by simp) H;simpa [hr,hq] using this
theorem eR {n:Bool} {m:Nat} (hm:m<W^16) {z:Int} (hz:z=sg n m) (H:Heap):Sound Tryz.prog gv 44 [.bool n,.agg (wC (limbs 16 m))] H (.ret (.agg (cI z))) H:=by
 have :=rN n (.limbs m) H
 have e:(n&& !decide (limbs 16 m=zs))=decide (z<0):=by
  have h0:limbs 16 m=zs↔m=0:=by rw[←lT (.limbs m),cU hm]
  subst hz
  cases n with
  |false=>simp[sg]
  |true=>
   by_cases hm0:m=0
   · subst hm0;simp[sg,oC]
   · have : -(m:Int)<0:=by omega
     simp only[sg,h0,hm0,this,if_true,Bool.true_and,decide_true,decide_false,Bool.not_false]
 have e2:z.natAbs=m:=by rw[hz,dR]
 rw[e] at this;unfold cI
 rwa [e2]
theorem aHc {a b:List AV} {x y:Option Int} (ha:IsI a x) (hb:IsI b y) (hxy:(x.isSome&&y.isSome)=false) (H:Heap):Sound Tryz.prog gv 42 [.agg a,.agg b] H (.ret (.agg badC)) H:=by
 have hg:=lO ha hb;rw[hxy] at hg;refine Sp bBj (by simp only[sf,ha.free,hb.free]) (by simp only[sf,sfI]) ?_ H;unfold W42;dsimp only;simp only[↓zP,zG,Nat.reduceLT,Nat.reduceEqDiff,Nat.reduceAdd,zI,oL ha.len,oL hb.len];refine bF (hg _) ?_;simp only[↓zP,zG,Nat.reduceLT,zI];refine bF (nL _) ?_;simp only[↓zP,zG,Nat.reduceEqDiff,Nat.reduceAdd,zI,badC];exact⟨rfl,_,by simp only[↓zP,zR,Nat.reduceEqDiff,Nat.reduceAdd];rfl,rfl⟩
theorem aMq {z w:Int} (hz:z.natAbs<W^16) (hw:w.natAbs<W^16) (H:Heap):Sound Tryz.prog gv 42 [.agg (cI z),.agg (cI w)] H (.ret (.agg (cO (norm (z+w))))) H:=by
 refine Sp bBj (by simp only[sf,sfI]) (by simp only[sf,sfI]) ?_ H;unfold W42;dsimp only;have la:=iL (.limbs z.natAbs);have lb:=iL (.limbs w.natAbs);simp only[↓zP,zG,Nat.reduceLT,Nat.reduceEqDiff,Nat.reduceAdd,zI];refine bF (lO (.enc hz) (.enc hw) _) ?_;simp only[↓zP,zG,Nat.reduceLT,Nat.reduceEqDiff,Nat.reduceAdd,zI,Nat.reduceLeDiff,Option.isSome_some,Bool.and_self,cI,la,lb];by_cases hs:decide (z<0)=decide (w<0)
 · simp only[zG,hs,beq_self_eq_true]
   refine bF (aSp hz hw _) ?_;have hl:=iL (.limbs (z.natAbs+w.natAbs))
   have e:z+w=sg (decide (w<0)) (z.natAbs+w.natAbs):=by
    by_cases h1:z<0<;>by_cases h2:w<0<;>simp[h1,h2,sg] at hs ⊢ <;>omega
   have e2:(z+w).natAbs=z.natAbs+w.natAbs:=by rw[e,dR]
   simp only[↓zP,zG,Nat.reduceLT,Nat.reduceEqDiff,Nat.reduceAdd,zI,Nat.reduceLeDiff,hl];refine⟨fun h=>?_,fun h=>?_⟩
   · refine bF (eR h e _) ?_
     have hr:norm (z+w)=some (z+w):=by unfold norm;rw[e2,if_pos h]
     have hl:=iL (.limbs (z+w).natAbs);simp only[↓zP,zG,Nat.reduceEqDiff,Nat.reduceAdd,zI,cI,hl];refine⟨rfl,_,by simp only[↓zP,zR,Nat.reduceEqDiff,Nat.reduceAdd,hl];rfl,?_⟩;rw[hr];rfl
   · refine bF (nL _) ?_
     simp only[↓zP,zG,Nat.reduceEqDiff,Nat.reduceAdd,zI,badC];refine⟨rfl,_,by simp only[↓zP,zR,Nat.reduceEqDiff,Nat.reduceAdd];rfl,?_⟩
     have hr:norm (z+w)=none:=by unfold norm;rw[e2,if_neg h]
     rw[hr];rfl
 · have hs':(decide (z<0)==decide (w<0))=false:=by simpa using hs
   have hb:(z+w).natAbs<W^16:=by
    generalize W^16=X at *;by_cases h1:z<0<;>by_cases h2:w<0<;>simp[h1,h2] at hs<;>omega
   have hr:norm (z+w)=some (z+w):=by unfold norm;rw[if_pos hb]
   have hl:=iL (.limbs (z+w).natAbs);simp only[zG,hs'];refine bF (uX hz hw _) ?_;simp only[↓zP,zG,Nat.reduceLT,zI];refine⟨fun h=>?_,fun h=>?_⟩
   · have hle:w.natAbs≤z.natAbs:=by
      unfold cmpN at h;split at h<;>omega
     have e:z+w=sg (decide (z<0)) (z.natAbs -w.natAbs):=by
      by_cases h1:z<0<;>by_cases h2:w<0<;>simp[h1,h2,sg] at hs ⊢ <;>omega
     refine aQ (by decide) ?_;simp only[↓zP,zG,Nat.reduceLT,Nat.reduceEqDiff,Nat.reduceAdd,zD,reduceCtorEq,zI,Nat.reduceLeDiff,la,lb];refine cE (aCq hz hle _) ?_;simp only[Nat.reduceAdd];refine cE (eR (Nat.lt_of_le_of_lt (Nat.sub_le _ _) hz) e _) ?_;simp only[↓zP,zG,Nat.reduceEqDiff,Nat.reduceAdd,zD,reduceCtorEq,zI,cI,hl];refine⟨rfl,_,by simp only[↓zP,zR,Nat.reduceEqDiff,Nat.reduceAdd,hl];rfl,?_⟩;rw[hr];rfl
   · have hle:z.natAbs≤w.natAbs:=by
      unfold cmpN at h;split at h<;>(try split at h)<;>omega
     have e:z+w=sg (decide (w<0)) (w.natAbs -z.natAbs):=by
      by_cases h1:z<0<;>by_cases h2:w<0<;>simp[h1,h2,sg] at hs ⊢ <;>omega
     refine aQ (by decide) ?_;simp only[↓zP,zG,Nat.reduceLT,Nat.reduceEqDiff,Nat.reduceAdd,zD,reduceCtorEq,zI,Nat.reduceLeDiff,la,lb];refine cE (aCq hw hle _) ?_;simp only[Nat.reduceAdd];refine cE (eR (Nat.lt_of_le_of_lt (Nat.sub_le _ _) hw) e _) ?_;simp only[↓zP,zG,Nat.reduceEqDiff,Nat.reduceAdd,zD,reduceCtorEq,zI,cI,hl];refine⟨rfl,_,by simp only[↓zP,zR,Nat.reduceEqDiff,Nat.reduceAdd,hl];rfl,?_⟩;rw[hr];rfl
theorem aEd {a b:List AV} {x y:Option Int} (ha:IsI a x) (hb:IsI b y) (H:Heap):Sound Tryz.prog gv 42 [.agg a,.agg b] H (.ret (.agg (cO (addO x y)))) H:=by
 cases x with
 |none=>exact aHc ha hb rfl H
 |some z=>cases y with
  |none=>exact aHc ha hb rfl H
  |some w=>
   obtain⟨rfl,hz⟩:=ha.some;obtain⟨rfl,hw⟩:=hb.some;exact aMq hz hw H
theorem aEh {a:List AV} {x:Option Int} (ha:IsI a x) (H:Heap):Sound Tryz.prog gv 70 [.agg a] H (.ret (.agg (cO (negO x)))) H:=by
 refine Sp bEr (by simp only[sf,ha.free]) (by simp only[sf,sfI]) ?_ H;unfold W70;dsimp only;simp only[↓zP,zG,Nat.reduceLT,Nat.reduceEqDiff,zI,oL ha.len];refine bF (gW ha _) ?_
 cases x with
 |none=>
  simp only[↓zP,zG,Nat.reduceLT,zI,Option.isSome_none];refine bF (nL _) ?_;simp only[↓zP,zG,Nat.reduceEqDiff,Nat.reduceAdd,zI,badC];exact⟨rfl,_,by simp only[↓zP,zR,Nat.reduceEqDiff,Nat.reduceAdd];rfl,rfl⟩
 |some z=>
  obtain⟨rfl,hz⟩:=ha.some;have la:=iL (.limbs z.natAbs);have hl:=iL (.limbs (-z).natAbs);simp only[↓zP,zG,Nat.reduceLT,Nat.reduceEqDiff,Nat.reduceAdd,zI,Nat.reduceLeDiff,Option.isSome_some,cI,la];refine bF (eR (n:= !decide (z<0)) hz (z:= -z) (by by_cases h:z<0<;>simp[sg,h]<;>omega) _) ?_;simp only[↓zP,zG,Nat.reduceEqDiff,Nat.reduceAdd,zI,cI,hl];exact⟨rfl,_,by simp only[↓zP,zR,Nat.reduceEqDiff,Nat.reduceAdd,hl];rfl,rfl⟩
theorem aNc {a b:List AV} {x y:Option Int} (ha:IsI a x) (hb:IsI b y) (H:Heap):Sound Tryz.prog gv 97 [.agg a,.agg b] H (.ret (.agg (cO (addO x (negO y))))) H:=by
 refine Sp bFk (by simp only[sf,ha.free,hb.free]) (by simp only[sf,sfI]) ?_ H;unfold W97;dsimp only;simp only[↓zP,zG,Nat.reduceLT,Nat.reduceEqDiff,Nat.reduceAdd,zI];refine aQ (by decide) ?_;simp only[↓zP,zG,Nat.reduceLT,Nat.reduceEqDiff,Nat.reduceAdd,zD,reduceCtorEq,zI,oL ha.len,oL hb.len];refine cE (aEh hb _) ?_;simp only[Nat.reduceAdd];refine cE (aEd ha hb.neg _) ?_;simp only[↓zP,zG,Nat.reduceEqDiff,Nat.reduceAdd,zD,reduceCtorEq,zI];exact⟨rfl,_,by simp only[↓zP,zR,Nat.reduceEqDiff,Nat.reduceAdd];rfl,rfl⟩
end Go.Proofs.YtjiignefffdelaaGreatDoor
