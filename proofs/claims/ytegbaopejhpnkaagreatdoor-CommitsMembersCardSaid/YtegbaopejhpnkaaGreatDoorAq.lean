/- Part of the proof that the law CommitsMembers holds. -/
import Derived.Lib.RowBridge
import Derived.Shelf.Sort.Plain
import Derived.Shelf.Slices.In.SortNone
import Derived.Shelf.SlSortCmp.WholeK
import Derived.Shelf.SlSortCmp.NoneTotal
import Derived.Shelf.SlicesG.Cmp
import Derived.Ground.SlsfProg
import Derived.Ground.SlgcProg
import Derived.Ground.NamesProg
import Derived.Test.YtegbaopejhpnkaaGreatDoorProg
import Derived.Test.YtegbaopejhpnkaaGreatDoorAa
import Derived.Test.YtegbaopejhpnkaaGreatDoorAg
import Derived.Test.YtegbaopejhpnkaaGreatDoorAh
import Derived.Test.YtegbaopejhpnkaaGreatDoorAk
import Derived.Test.YtegbaopejhpnkaaGreatDoorAp
namespace Go.Proofs
open Go.Shelf
def Tryz.lays189_ren:Go.Shelf.Ren:=⟨fun | 189=>185 | 125=>113 | 257=>234 | 128=>183 | 129=>184 | 294=>272 | 295=>273 | 296=>274 | 297=>275 | 298=>276 | 299=>277 | 216=>278 | 300=>279 | 301=>280 | 328=>291 | 329=>248 | 330=>249 | 331=>292 | 332=>293 | 215=>138 | 343=>295 | n=>n,fun | 28=>31 | 3=>3 | 46=>177 | 0=>0 | 51=>252 | 53=>205 | 4=>4 | 183=>268 | 182=>267 | 131=>78 | 5=>5 | 9=>9 | 218=>312 | 222=>315 | 228=>343 | 229=>344 | n=>n,fun | n=>n⟩
theorem Tryz.lays189:Go.Proofs.Lays.n189 Tryz.prog Tryz.lays189_ren:={
 mixed:=by kernel_rfl
 f125:=Tryz.func113.trans (congrArg some (by kernel_rfl))
 f128:=Tryz.func183.trans (congrArg some (by kernel_rfl))
 f129:=Tryz.func184.trans (congrArg some (by kernel_rfl))
 f189:=Tryz.func185.trans (congrArg some (by kernel_rfl))
 f215:=Tryz.func138.trans (congrArg some (by kernel_rfl))
 f216:=Tryz.func278.trans (congrArg some (by kernel_rfl))
 f257:=Tryz.func234.trans (congrArg some (by kernel_rfl))
 f294:=Tryz.func272.trans (congrArg some (by kernel_rfl))
 f295:=Tryz.func273.trans (congrArg some (by kernel_rfl))
 f296:=Tryz.func274.trans (congrArg some (by kernel_rfl))
 f297:=Tryz.func275.trans (congrArg some (by kernel_rfl))
 f298:=Tryz.func276.trans (congrArg some (by kernel_rfl))
 f299:=Tryz.func277.trans (congrArg some (by kernel_rfl))
 f300:=Tryz.func279.trans (congrArg some (by kernel_rfl))
 f301:=Tryz.func280.trans (congrArg some (by kernel_rfl))
 f328:=Tryz.func291.trans (congrArg some (by kernel_rfl))
 f329:=Tryz.func248.trans (congrArg some (by kernel_rfl))
 f330:=Tryz.func249.trans (congrArg some (by kernel_rfl))
 f331:=Tryz.func292.trans (congrArg some (by kernel_rfl))
 f332:=Tryz.func293.trans (congrArg some (by kernel_rfl))
 f343:=Tryz.func295.trans (congrArg some (by kernel_rfl))
 t0:=Tryz.underlying0
 a0:=Tryz.isAgg0
 z0:=Tryz.sizeOf0
 v0:=Tryz.zeroValue0
 t3:=Tryz.underlying3
 a3:=Tryz.isAgg3
 z3:=Tryz.sizeOf3
 v3:=Tryz.zeroValue3
 t4:=Tryz.underlying4
 a4:=Tryz.isAgg4
 z4:=Tryz.sizeOf4
 v4:=Tryz.zeroValue4
 t5:=Tryz.underlying5
 a5:=Tryz.isAgg5
 z5:=Tryz.sizeOf5
 v5:=Tryz.zeroValue5
 t9:=Tryz.underlying9
 a9:=Tryz.isAgg9
 z9:=Tryz.sizeOf9
 v9:=Tryz.zeroValue9
 t28:=Tryz.underlying31
 a28:=Tryz.isAgg31
 z28:=Tryz.sizeOf31
 v28:=Tryz.zeroValue31
 t46:=Tryz.underlying177
 a46:=Tryz.isAgg177
 z46:=Tryz.sizeOf177
 v46:=Tryz.zeroValue177
 t51:=Tryz.underlying252
 a51:=Tryz.isAgg252
 z51:=Tryz.sizeOf252
 v51:=Tryz.zeroValue252
 t53:=Tryz.underlying205
 a53:=Tryz.isAgg205
 z53:=Tryz.sizeOf205
 v53:=Tryz.zeroValue205
 t131:=Tryz.underlying78
 a131:=Tryz.isAgg78
 z131:=Tryz.sizeOf78
 v131:=Tryz.zeroValue78
 t182:=Tryz.underlying267
 a182:=Tryz.isAgg267
 z182:=Tryz.sizeOf267
 v182:=Tryz.zeroValue267
 t183:=Tryz.underlying268
 a183:=Tryz.isAgg268
 z183:=Tryz.sizeOf268
 v183:=Tryz.zeroValue268
 t218:=Tryz.underlying312
 a218:=Tryz.isAgg312
 z218:=Tryz.sizeOf312
 v218:=Tryz.zeroValue312
 t222:=Tryz.underlying315
 a222:=Tryz.isAgg315
 z222:=Tryz.sizeOf315
 v222:=Tryz.zeroValue315
 t228:=Tryz.underlying343
 a228:=Tryz.isAgg343
 z228:=Tryz.sizeOf343
 v228:=Tryz.zeroValue343
 t229:=Tryz.underlying344
 a229:=Tryz.isAgg344
 z229:=Tryz.sizeOf344
 v229:=Tryz.zeroValue344 }
def Tryz.sortMb_ren:Go.Shelf.Ren:=⟨fun | 6=>60 | 15=>113 | 14=>137 | 28=>183 | 29=>184 | 20=>196 | 21=>197 | 22=>198 | 23=>199 | 24=>200 | 25=>201 | 26=>202 | 27=>203 | 46=>247 | 47=>248 | 48=>249 | 49=>250 | 50=>251 | 57=>285 | n=>n,fun | 22=>24 | 24=>45 | 25=>120 | 3=>3 | 39=>177 | 0=>0 | 53=>252 | 55=>205 | 4=>4 | 46=>268 | 45=>267 | 50=>78 | 5=>5 | 9=>9 | 66=>312 | 70=>315 | 76=>343 | 77=>344 | n=>n,fun | n=>n⟩
theorem Tryz.sortMb:Go.Proofs.SlLaysF0.n6 Tryz.prog Tryz.sortMb_ren:={
 mixed:=by kernel_rfl
 f6:=⟨Tryz.f60.name,by decide,Tryz.func60.trans (congrArg some (by kernel_rfl))⟩
 f14:=⟨Tryz.f137.name,by decide,Tryz.func137.trans (congrArg some (by kernel_rfl))⟩
 f15:=Tryz.func113.trans (congrArg some (by kernel_rfl))
 f20:=⟨Tryz.f196.name,by decide,Tryz.func196.trans (congrArg some (by kernel_rfl))⟩
 f21:=⟨Tryz.f197.name,by decide,Tryz.func197.trans (congrArg some (by kernel_rfl))⟩
 f22:=⟨Tryz.f198.name,by decide,Tryz.func198.trans (congrArg some (by kernel_rfl))⟩
 f23:=⟨Tryz.f199.name,by decide,Tryz.func199.trans (congrArg some (by kernel_rfl))⟩
 f24:=⟨Tryz.f200.name,by decide,Tryz.func200.trans (congrArg some (by kernel_rfl))⟩
 f25:=⟨Tryz.f201.name,by decide,Tryz.func201.trans (congrArg some (by kernel_rfl))⟩
 f26:=⟨Tryz.f202.name,by decide,Tryz.func202.trans (congrArg some (by kernel_rfl))⟩
 f27:=⟨Tryz.f203.name,by decide,Tryz.func203.trans (congrArg some (by kernel_rfl))⟩
 f28:=Tryz.func183.trans (congrArg some (by kernel_rfl))
 f29:=Tryz.func184.trans (congrArg some (by kernel_rfl))
 f46:=⟨Tryz.f247.name,by decide,Tryz.func247.trans (congrArg some (by kernel_rfl))⟩
 f47:=Tryz.func248.trans (congrArg some (by kernel_rfl))
 f48:=Tryz.func249.trans (congrArg some (by kernel_rfl))
 f49:=⟨Tryz.f250.name,by decide,Tryz.func250.trans (congrArg some (by kernel_rfl))⟩
 f50:=⟨Tryz.f251.name,by decide,Tryz.func251.trans (congrArg some (by kernel_rfl))⟩
 f57:=⟨Tryz.f285.name,by decide,Tryz.func285.trans (congrArg some (by kernel_rfl))⟩
 t0:=Tryz.underlying0
 a0:=Tryz.isAgg0
 z0:=Tryz.sizeOf0
 v0:=Tryz.zeroValue0
 t3:=Tryz.underlying3
 a3:=Tryz.isAgg3
 z3:=Tryz.sizeOf3
 v3:=Tryz.zeroValue3
 t4:=Tryz.underlying4
 a4:=Tryz.isAgg4
 z4:=Tryz.sizeOf4
 v4:=Tryz.zeroValue4
 t5:=Tryz.underlying5
 a5:=Tryz.isAgg5
 z5:=Tryz.sizeOf5
 v5:=Tryz.zeroValue5
 t9:=Tryz.underlying9
 a9:=Tryz.isAgg9
 z9:=Tryz.sizeOf9
 v9:=Tryz.zeroValue9
 t22:=Tryz.underlying24
 a22:=Tryz.isAgg24
 z22:=Tryz.sizeOf24
 v22:=Tryz.zeroValue24
 t25:=Tryz.underlying120
 a25:=Tryz.isAgg120
 z25:=Tryz.sizeOf120
 v25:=Tryz.zeroValue120
 t39:=Tryz.underlying177
 a39:=Tryz.isAgg177
 z39:=Tryz.sizeOf177
 v39:=Tryz.zeroValue177
 t45:=Tryz.underlying267
 a45:=Tryz.isAgg267
 z45:=Tryz.sizeOf267
 v45:=Tryz.zeroValue267
 t46:=Tryz.underlying268
 a46:=Tryz.isAgg268
 z46:=Tryz.sizeOf268
 v46:=Tryz.zeroValue268
 t50:=Tryz.underlying78
 a50:=Tryz.isAgg78
 z50:=Tryz.sizeOf78
 v50:=Tryz.zeroValue78
 t53:=Tryz.underlying252
 a53:=Tryz.isAgg252
 z53:=Tryz.sizeOf252
 v53:=Tryz.zeroValue252
 t55:=Tryz.underlying205
 a55:=Tryz.isAgg205
 z55:=Tryz.sizeOf205
 v55:=Tryz.zeroValue205
 t66:=Tryz.underlying312
 a66:=Tryz.isAgg312
 z66:=Tryz.sizeOf312
 v66:=Tryz.zeroValue312
 t70:=Tryz.underlying315
 a70:=Tryz.isAgg315
 z70:=Tryz.sizeOf315
 v70:=Tryz.zeroValue315
 t76:=Tryz.underlying343
 a76:=Tryz.isAgg343
 z76:=Tryz.sizeOf343
 v76:=Tryz.zeroValue343
 t77:=Tryz.underlying344
 a77:=Tryz.isAgg344
 z77:=Tryz.sizeOf344
 v77:=Tryz.zeroValue344 }
def Tryz.sortChg_ren:Go.Shelf.Ren:=⟨fun | 6=>122 | 15=>113 | 14=>187 | 28=>183 | 29=>184 | 20=>235 | 21=>236 | 22=>237 | 23=>238 | 24=>239 | 25=>240 | 26=>241 | 27=>242 | 46=>281 | 47=>248 | 48=>249 | 49=>282 | 50=>283 | 57=>294 | n=>n,fun | 22=>30 | 24=>49 | 25=>183 | 3=>3 | 39=>177 | 0=>0 | 53=>252 | 55=>205 | 4=>4 | 46=>268 | 45=>267 | 50=>78 | 5=>5 | 9=>9 | 66=>312 | 70=>315 | 76=>343 | 77=>344 | n=>n,fun | n=>n⟩
theorem Tryz.sortChg:Go.Proofs.SlLaysF0.n6 Tryz.prog Tryz.sortChg_ren:={
 mixed:=by kernel_rfl
 f6:=⟨Tryz.f122.name,by decide,Tryz.func122.trans (congrArg some (by kernel_rfl))⟩
 f14:=⟨Tryz.f187.name,by decide,Tryz.func187.trans (congrArg some (by kernel_rfl))⟩
 f15:=Tryz.func113.trans (congrArg some (by kernel_rfl))
 f20:=⟨Tryz.f235.name,by decide,Tryz.func235.trans (congrArg some (by kernel_rfl))⟩
 f21:=⟨Tryz.f236.name,by decide,Tryz.func236.trans (congrArg some (by kernel_rfl))⟩
 f22:=⟨Tryz.f237.name,by decide,Tryz.func237.trans (congrArg some (by kernel_rfl))⟩
 f23:=⟨Tryz.f238.name,by decide,Tryz.func238.trans (congrArg some (by kernel_rfl))⟩
 f24:=⟨Tryz.f239.name,by decide,Tryz.func239.trans (congrArg some (by kernel_rfl))⟩
 f25:=⟨Tryz.f240.name,by decide,Tryz.func240.trans (congrArg some (by kernel_rfl))⟩
 f26:=⟨Tryz.f241.name,by decide,Tryz.func241.trans (congrArg some (by kernel_rfl))⟩
 f27:=⟨Tryz.f242.name,by decide,Tryz.func242.trans (congrArg some (by kernel_rfl))⟩
 f28:=Tryz.func183.trans (congrArg some (by kernel_rfl))
 f29:=Tryz.func184.trans (congrArg some (by kernel_rfl))
 f46:=⟨Tryz.f281.name,by decide,Tryz.func281.trans (congrArg some (by kernel_rfl))⟩
 f47:=Tryz.func248.trans (congrArg some (by kernel_rfl))
 f48:=Tryz.func249.trans (congrArg some (by kernel_rfl))
 f49:=⟨Tryz.f282.name,by decide,Tryz.func282.trans (congrArg some (by kernel_rfl))⟩
 f50:=⟨Tryz.f283.name,by decide,Tryz.func283.trans (congrArg some (by kernel_rfl))⟩
 f57:=⟨Tryz.f294.name,by decide,Tryz.func294.trans (congrArg some (by kernel_rfl))⟩
 t0:=Tryz.underlying0
 a0:=Tryz.isAgg0
 z0:=Tryz.sizeOf0
 v0:=Tryz.zeroValue0
 t3:=Tryz.underlying3
 a3:=Tryz.isAgg3
 z3:=Tryz.sizeOf3
 v3:=Tryz.zeroValue3
 t4:=Tryz.underlying4
 a4:=Tryz.isAgg4
 z4:=Tryz.sizeOf4
 v4:=Tryz.zeroValue4
 t5:=Tryz.underlying5
 a5:=Tryz.isAgg5
 z5:=Tryz.sizeOf5
 v5:=Tryz.zeroValue5
 t9:=Tryz.underlying9
 a9:=Tryz.isAgg9
 z9:=Tryz.sizeOf9
 v9:=Tryz.zeroValue9
 t22:=Tryz.underlying30
 a22:=Tryz.isAgg30
 z22:=Tryz.sizeOf30
 v22:=Tryz.zeroValue30
 t25:=Tryz.underlying183
 a25:=Tryz.isAgg183
 z25:=Tryz.sizeOf183
 v25:=Tryz.zeroValue183
 t39:=Tryz.underlying177
 a39:=Tryz.isAgg177
 z39:=Tryz.sizeOf177
 v39:=Tryz.zeroValue177
 t45:=Tryz.underlying267
 a45:=Tryz.isAgg267
 z45:=Tryz.sizeOf267
 v45:=Tryz.zeroValue267
 t46:=Tryz.underlying268
 a46:=Tryz.isAgg268
 z46:=Tryz.sizeOf268
 v46:=Tryz.zeroValue268
 t50:=Tryz.underlying78
 a50:=Tryz.isAgg78
 z50:=Tryz.sizeOf78
 v50:=Tryz.zeroValue78
 t53:=Tryz.underlying252
 a53:=Tryz.isAgg252
 z53:=Tryz.sizeOf252
 v53:=Tryz.zeroValue252
 t55:=Tryz.underlying205
 a55:=Tryz.isAgg205
 z55:=Tryz.sizeOf205
 v55:=Tryz.zeroValue205
 t66:=Tryz.underlying312
 a66:=Tryz.isAgg312
 z66:=Tryz.sizeOf312
 v66:=Tryz.zeroValue312
 t70:=Tryz.underlying315
 a70:=Tryz.isAgg315
 z70:=Tryz.sizeOf315
 v70:=Tryz.zeroValue315
 t76:=Tryz.underlying343
 a76:=Tryz.isAgg343
 z76:=Tryz.sizeOf343
 v76:=Tryz.zeroValue343
 t77:=Tryz.underlying344
 a77:=Tryz.isAgg344
 z77:=Tryz.sizeOf344
 v77:=Tryz.zeroValue344 }
def Tryz.cmpInt_ren:Go.Shelf.Ren:=⟨fun | 5=>62 | 7=>138 | n=>n,fun | 22=>3 | 3=>3 | 4=>4 | n=>n,fun | n=>n⟩
theorem Tryz.cmpInt:Go.Proofs.SlLaysC2.n5 Tryz.prog Tryz.cmpInt_ren:={
 mixed:=by kernel_rfl
 f5:=⟨Tryz.f62.name,by decide,Tryz.func62.trans (congrArg some (by kernel_rfl))⟩
 f7:=⟨Tryz.f138.name,by decide,Tryz.func138.trans (congrArg some (by kernel_rfl))⟩
 t3:=Tryz.underlying3
 a3:=Tryz.isAgg3
 z3:=Tryz.sizeOf3
 v3:=Tryz.zeroValue3
 t4:=Tryz.underlying4
 a4:=Tryz.isAgg4
 z4:=Tryz.sizeOf4
 v4:=Tryz.zeroValue4
 t22:=Tryz.underlying3
 a22:=Tryz.isAgg3
 z22:=Tryz.sizeOf3
 v22:=Tryz.zeroValue3 }
end Go.Proofs
namespace Go.Chx
open Go Go.Proofs Go.Sort
theorem own_cells {e:TypeId} {n:Nat} {v:Value} {zs:List Int} {en:A9} (h:Own e 1 v n (zs.flatMap fun x=>[Value.int .i64 x]) en) (hz:zs.length=n) :
  (v=.slice none 0 0∧n=0∧en=none)∨∃ (r cap:Nat) (cur:List Value),v=.slice (some ⟨r,0,none⟩) n cap∧n≤cap∧cap≤maxLen∧cur.length=cap∧cur.take n=zs.map (Value.int .i64)∧en=some (r,.cells cur.toArray e (0,0)):=by
 have hm:(zs.flatMap fun x=>[Value.int .i64 x])=zs.map (Value.int .i64):=by
  clear h hz
  induction zs with
  | nil=>rfl
  | cons z zs ih=>simp [List.flatMap_cons,ih]
 generalize hxs:(zs.flatMap fun x=>[Value.int .i64 x])=xs at h hm
 cases h with
 | nil=>exact .inl ⟨rfl,rfl,rfl⟩
 | @row g n cap cur xs hc hm' hl hx=>exact .inr ⟨g,cap,cur,rfl,hc,hm',by simpa using hl,by rw [← hm,← hx,Nat.mul_one],rfl⟩
theorem own_of {e:TypeId} {n r cap:Nat} {zs:List Int} {cur:List Value} (hc:n≤cap) (hm':cap≤maxLen) (hl:cur.length=cap) (hx:cur.take n=zs.map (Value.int .i64)):Own e 1 (.slice (some ⟨r,0,none⟩) n cap) n (zs.flatMap fun x=>[Value.int .i64 x]) (some (r,.cells cur.toArray e (0,0))):=by
 have hm:(zs.flatMap fun x=>[Value.int .i64 x])=zs.map (Value.int .i64):=by
  clear hx
  induction zs with
  | nil=>rfl
  | cons z zs ih=>simp [List.flatMap_cons,ih]
 exact .row hc hm' (by simpa using hl) (by rw [Nat.mul_one,hm,hx])
theorem holds_of {w:World} {r n cap:Nat} {e:TypeId} {zs:List Int} {cur:List Value} (hw:w.heap[r]? = some (.cells cur.toArray e (0,0))) (hl:cur.length=cap) (hc:n≤cap) (hz:zs.length=n) (hx:cur.take n=zs.map (Value.int .i64)):Holds (Value.int .i64) w r 0 zs.toArray:=by
 intro j hj
 have hj':j < zs.length:=by simpa using hj
 constructor
 ·rw [Nat.zero_add]
  refine E0 hw ?_
  have:(cur.take n)[j]? = some (Value.int .i64 zs[j]):=by rw [hx]; simp [hj']
  rw [List.getElem?_take] at this
  split at this
  ·rw [this]; simp [hj']
  ·cases this
 ·simp [World.frozen?,hw]
theorem WSat.grow {X M:Nat→Prop} {w0:World} {l:List A9} {I:World→Prop} {w:World} (h:WSat X M w0 l I w):∀ os:List Obj,WSat X M w0 l I (Sort.grow w os.toArray):=by
 intro os
 induction os generalizing w with
 | nil=>simpa using h
 | cons o os ih =>
  have h1:=(h.push (w':=w.alloc o) (o:=o) rfl rfl rfl rfl).sub (l':=l) (.cons _ (.refl _))
  have:=ih h1
  have e:Sort.grow w (o::os).toArray=Sort.grow (w.alloc o) os.toArray:=by
   rw [alloc_eq_grow,grow_grow]
   congr 1
   simp
  rw [e]; exact this
theorem WSat.putRow {X M:Nat→Prop} {w0:World} {I:World→Prop} {w:World} {r cap:Nat} {e:TypeId} {ds:List Int} {cur:List Value} (h:WSat X M w0 [some (r,.cells cur.toArray e (0,0))] I w) (hl:cur.length=cap) (hc:ds.length≤cap) (q:Nat) (os:Array Obj) :
  WSat X M w0 [some (r,.cells (ds.map (Value.int .i64)++cur.drop ds.length).toArray e (0,0))] I (Sort.grow (Sort.putRow (Value.int .i64) (Sort.ahead w q) r 0 ds.toArray) os):=by
 have hr:=h.own r _ (.head _)
 have hlt:=Du hr
 have:=WSat.grow (w:=Sort.putRow (Value.int .i64) (Sort.ahead w q) r 0 ds.toArray) (l:=[some (r,.cells (ds.map (Value.int .i64)++cur.drop ds.length).toArray e (0,0))]) (I:=I) (X:=X) (M:=M) (w0:=w0) ?_ os.toList
 ·simpa using this
 ·have hp:putCells (Value.int .i64) 0 ds.toArray cur.toArray=(ds.map (Value.int .i64)++cur.drop ds.length).toArray:=by
   apply Array.ext_getElem?
   intro k
   unfold putCells
   rw [Array.getElem?_mapIdx]
   simp only [List.getElem?_toArray,List.size_toArray,Nat.zero_le,true_and,Nat.zero_add,Nat.sub_zero]
   by_cases hk:k < ds.length
   ·rw [List.getElem?_append_left (by simpa using hk)]
    have hk2:k < cur.length:=by omega
    simp [hk,hk2]
   ·rw [List.getElem?_append_right (by simpa using Nat.le_of_not_lt hk)]
    simp only [List.length_map,List.getElem?_drop,if_neg hk]
    have:ds.length+(k-ds.length)=k:=by omega
    rw [this]; simp
  refine h.upd .head ?_ ?_ ?_ rfl rfl rfl
  ·simp [Sort.putRow,mapBlock,Sort.ahead]
  ·simp only [Sort.putRow,mapBlock,Sort.ahead,Array.getElem?_modify,if_true,hr,Option.map_some,onCells,hp]
  ·intro b hb
   simp only [Sort.putRow,mapBlock,Sort.ahead,Array.getElem?_modify]
   rw [if_neg (fun e=>hb e.symm)]
end Go.Chx
namespace Go.Chx
open Go Go.Proofs Go.Sort
theorem sort_spec (v:Value) (n:Nat) (zs:List Int) (en:A9) (ho:Own 3 1 v n (zs.flatMap fun x=>[Value.int .i64 x]) en) (hz:zs.length=n) (hn:n≤1000000) :
  Ay Tryz.prog 185 [v] [en] (fun _=>True) (fun en':A9=>⟨Own 3 1 v n ((zs.mergeSort fun x y=>decide (x≤y)).flatMap fun x=>[Value.int .i64 x]) en',.tuple #[],[en'],fun _=>True⟩):=by
 rcases own_cells ho hz with ⟨rfl,rfl,rfl⟩ | ⟨r,cap,cur,rfl,hc,hm,hl,hx,rfl⟩
 ·have h0:zs=[]:=List.eq_nil_of_length_eq_zero hz
  subst h0
  intro X w hw
  have h:Calls Tryz.prog 185 #[.slice none 0 0] w fun e w'=>e=.returned (.tuple #[])∧w'=w:=Any.slices_Sort_int_none Tryz.lays189 none 0 w
  refine h.mono ?_
  rintro e w' ⟨rfl,rfl⟩
  exact ⟨none,by simpa using Own.nil,rfl,hw⟩
 ·subst hz
  intro X w hw
  have hr:=hw.own r _ (.head _)
  have h:Calls Tryz.prog 185 #[.slice (some ⟨r,0,none⟩) zs.length cap] w fun e w'=>e=.returned (.tuple #[])∧∃ n os,w'=Sort.grow (Sort.putRow (Value.int .i64) (Sort.ahead w n) r 0 (zs.mergeSort fun x y=>decide (x≤y)).toArray) os :=
   Any.slices_Sort_int Tryz.lays189 r 0 cap zs w (holds_of hr hl hc rfl hx) (Du hr) (by omega)
  refine h.mono ?_
  rintro e w' ⟨rfl,q,os,rfl⟩
  have hsl:(zs.mergeSort fun x y=>decide (x≤y)).length=zs.length:=List.length_mergeSort _
  generalize (zs.mergeSort fun x y=>decide (x≤y))=ds at hsl ⊢
  refine ⟨some (r,.cells (ds.map (Value.int .i64)++cur.drop ds.length).toArray 3 (0,0)),own_of hc hm (by simp; omega) ?_,rfl,?_⟩
  ·rw [← hsl,List.take_left' (by simp)]
  ·exact WSat.putRow hw hl (by omega) q os
theorem compact_spec (v:Value) (n:Nat) (zs:List Int) (en:A9) (ho:Own 3 1 v n (zs.flatMap fun x=>[Value.int .i64 x]) en) (hz:zs.length=n) (hn:n≤1000000) :
  Ay Tryz.prog 186 [v] [en] (fun _=>True) (fun x:Value × A9=>⟨Own 3 1 x.1 (Lib.compact zs).length ((Lib.compact zs).flatMap fun x=>[Value.int .i64 x]) x.2,x.1,[x.2],fun _=>True⟩):=by
 rcases own_cells ho hz with ⟨rfl,rfl,rfl⟩ | ⟨r,cap,cur,rfl,hc,hm,hl,hx,rfl⟩
 ·have h0:zs=[]:=List.eq_nil_of_length_eq_zero hz
  subst h0
  intro X w hw
  have h:=Tryz.slices_Compact_int_empty none 0 w
  refine h.mono ?_
  rintro e w' ⟨rfl,rfl⟩
  exact ⟨(.slice none 0 0,none),Own.nil,rfl,hw⟩
 ·subst hz
  intro X w hw
  have hr:=hw.own r _ (.head _)
  have h:=Tryz.slices_Compact_int r 0 cap zs w (holds_of hr hl hc rfl hx) (by omega) hc
  refine h.mono ?_
  rintro e w' ⟨rfl,q,rfl⟩
  have hle:(Lib.compact zs).length≤zs.length:=Lib.compact_length_le zs
  generalize Lib.compact zs=ds at hle ⊢
  refine ⟨(.slice (some ⟨r,0,none⟩) ds.length cap,some (r,.cells ((ds++List.replicate (zs.length-ds.length) 0).map (Value.int .i64)++cur.drop (ds++List.replicate (zs.length-ds.length) 0).length).toArray 3 (0,0))),own_of (by omega) hm (by simp; omega) ?_,rfl,?_⟩
  ·rw [List.map_append,List.append_assoc,List.take_left' (by simp)]
  ·have:=WSat.putRow hw hl (ds:=ds++List.replicate (zs.length-ds.length) 0) (by simp; omega) q #[]
   simpa using this
end Go.Chx
namespace Go.Chx
open Go Go.Proofs
set_option maxHeartbeats 1000000
set_option maxRecDepth 4000
theorem members_spec (t:Tr) (hl:t.l.length≤1000000):Ay Tryz.prog 118 [t.v] [] (fun w=>t.F w∧True) (fun x:Option Addr × Nat=>⟨(Ga t.l).length≤x.2,.slice x.1 (Ga t.l).length x.2,[],fun w=>Sl 1 (Ga t.l).length ((Ga t.l).flatMap fun x=>[iv x]) (.slice x.1 (Ga t.l).length x.2) w∧True⟩):=by
 refine Aj Tryz.func118 Z Z fun X w0=>(Cx (Ab (Aa (oj (C6 Z Z (fun r1=>(Al (Am 0 _ _ Z) ?_)))))))
 try dsimp only [List.eraseIdx]
 refine oj (Ak Z Z (on (qn (Ab (Ab (Aa (oj (A2 (o':=0) Z Z Jk Ju Z (oj (A4 Z Z Ju (fun w h=>Bc.at1 h.1.1 Z) (oj (Bn Z Z Tryz.underlying25 Z (oj (mv Z Z (on (qn (Ag (Aw (fun (sT:(Nat) × (Value) × (A9))=>(⟨sT.1≤t.l.length∧Own 3 1 sT.2.1 (memA (t.l.take sT.1)).length ((memA (t.l.take sT.1)).flatMap fun x=>[iv x]) sT.2.2,[(2,sT.2.1),(6,.slice t.a t.l.length t.c),(7,iv t.l.length),(8,iv (sT.1:Int))],[sT.2.2],fun w=>t.F w∧True,t.l.length-sT.1⟩:Hd)) (0,_,_) (⟨Nat.zero_le _,.nil⟩) (⟨Z,Z,Z,Z,tR⟩) (.refl _) (fun w h=>⟨(h.2.1),tR⟩) ?_))))))))))))))))))
 rintro ⟨i,v,en⟩ ⟨hi,ho⟩
 try dsimp only
 try dsimp only at hi ho
 refine Ab (Aa (oj (Dd Z Z Z (on (qn (Ab ?_))))))
 refine A8 Z (fun ht=>?_) (fun hf=>?_)
 ·obtain ⟨q,hq⟩:∃ x,t.l[i]? = some x:=⟨_,List.getElem?_eq_getElem (by omega)⟩
  have hml:=memA_len (t.l.take i)
  rw [List.length_take] at hml
  refine Ah (qn (Ab (Ag (Ab (Aa (oj (Fc Z Z Z Tryz.underlying25 Jd (by omega) (fun w h=>Sl.some (h.1) (by omega)) (oj (D4 Z Z Jd Z (fun w h=>Cv (h.1) (by decide) (fun _=>Z) hq) (Ac (d:=11) (v:=av [S1 (iv q.1),S1 (iv q.2)]) Z Z (oj (C7 Z zok_234 (fun r4=>(oj (C0 Z Z Jd Z Z .head (on (qn (Ab (Aa (oj (A2 (o':=0) Z Z E5 Ai Z ?_)))))))))))))))))))))
  refine oj (Bh Z Z Ai (.head _) (Z) (oj (gei Z Z Z (oj (mv Z Z ?_)))))
  refine B5 (d:=15) Z (fun ht=>?_) (fun hf=>?_)
  ·refine oj (gt Z Z Z ((A2 (o':=0) Z Z E5 Ai Z (oj (gt Z Z Z ((Bh Z Z Ai (.head _) (Z) (oj (gt Z Z Z ((lei Z Z Z (oj (Cl Z Z Z (on (qn ?_)))))))))))))))
   refine A8 Z (fun ht=>?_) (fun hf=>?_)
   ·refine Aa (oj (mv Z Z (oj (A2 (o':=0) Z Z E5 Ai Z (oj (Bh Z Z Ai (.head _) (Z) (oj (sub Z Z Z (by omega) (oj (F7 Z Tryz.underlying31 Ai Gd (C3 Z Z .nil) (by repeat (first | exact List.forall_mem_nil _ | refine List.forall_mem_cons.2 ⟨rfl,?_⟩)) Z (by decide) Z (fun r24=>?_)))))))))))
    refine Al (Am 0 _ _ Z) ?_
    try dsimp only [List.eraseIdx]
    refine oj (Ku Z Z Z el_31 (by kernel_rfl) ho (i:=1) Z (fun w ho h=>Bc.src (h.1.1) Z) (by omega) (by simp only [maxLen]; omega) (fun v25 e25 ho25=>?_))
    try dsimp only [List.set]
    exact oj (Ak Z Z (on (bn (qn (Aa (oj (add Z Z Z (by omega) (oj (mv Z Z (on (qn (Ar (i+1,v25,e25) (by dsimp only; omega) (⟨by (try dsimp only); omega,by rw [A7 hq,memA_snoc,if_pos (by simp [isLf]; omega),List.length_append,Dj]; exact ho25⟩) (⟨Z,Z,Z,Z,tR⟩) (.cons _ (.refl _)) (fun w h=>⟨(h.2.1),tR⟩)))))))))))))
   ·exact Ah (bn (qn (Aa (oj (add Z Z Z (by omega) (oj (mv Z Z (on (qn (Ar (i+1,v,en) (by dsimp only; omega) (⟨by (try dsimp only); omega,by rw [A7 hq,memA_snoc,if_neg (by simp [isLf]; omega),List.append_nil]; exact ho⟩) (⟨Z,Z,Z,Z,tR⟩) (.cons _ (.refl _)) (fun w h=>⟨(h.1),tR⟩)))))))))))
  ·exact oj (gf Z Z Z Z Z Z (oj (gf Z Z Z Z Z Z (oj (gf Z Z Z Z Z Z (oj (Df Z Z Z (on (qn (Ap Z (fun h=>by cases h) (fun _=>(Ah (bn (qn (Aa (oj (add Z Z Z (by omega) (oj (mv Z Z (on (qn (Ar (i+1,v,en) (by dsimp only; omega) (⟨by (try dsimp only); omega,by rw [A7 hq,memA_snoc,if_neg (by simp [isLf]; omega),List.append_nil]; exact ho⟩) (⟨Z,Z,Z,Z,tR⟩) (.cons _ (.refl _)) (fun w h=>⟨(h.1),tR⟩)))))))))))))))))))))))
 ·have h4:i=t.l.length:=by omega
  subst h4
  rw [List.take_length] at ho
  refine A1 (qe (qe (be (qn (Ab (Aa (oj (mv Z Z (oj (Ce Z Z (.cons Z .nil) fb_185 (sort_spec v _ (memA t.l) en ho Z (by have:=memA_len t.l; omega)) (fun _=>.head) (fun _=>Z) (fun w h=>tR) ?_))))))))))
  rintro e28 ho28
  try dsimp only
  refine on (qn (Ab (Aa (oj (mv Z Z (oj (Ce Z Z (.cons Z .nil) fb_186 (compact_spec v _ _ e28 ho28 (by simp) (by have:=memA_len t.l; omega)) (fun _=>.head) (fun _=>Z) (fun w h=>tR) ?_)))))))
  rintro ⟨v30,e30⟩ ho30
  try dsimp only at ho30
  try dsimp only
  refine oj (Ak Z Z (on (qn (Af ?_))))
  obtain ⟨av,cv,rfl,hcv⟩:=ho30.shape'
  refine By (i:=0) Z ho30 (fi_one _) ?_
  try dsimp only [List.eraseIdx]
  exact As (av,cv) Z (.tmp Z .nil) Z hcv .slnil (fun w h=>⟨(h.1.1),tR⟩) (.inl Z)
def upK (d:Int):List Int:=(512+d)::Dz d C8
def usK (l:List (Int × Int)):List Int:=(Ga l).flatMap upK
def NdOk (l:List (Int × Int)) (i:Nat):Prop:=∃ q,l[i]? = some q∧1≤q.1∧q.1≤1023∧(∀ p,0 < i→l[i-1]? = some p→p.1 < q.1)∧el q.2=true∧q.1∈usK l
def Fu (l:List (Int × Int)):Prop:=∀ i,i < l.length→NdOk l i
open Classical in
noncomputable def tkE (l:List (Int × Int)):Int:=if Fu l then 0 else 210
theorem tkE_ok {l:List (Int × Int)} (h:Fu l):tkE l=0:=by unfold tkE; rw [if_pos h]
theorem Hs {l:List (Int × Int)} (h : ¬ Fu l):tkE l=210:=by unfold tkE; rw [if_neg h]
theorem tkE_iff {l:List (Int × Int)}:tkE l=0↔Fu l:=by
 by_cases h:Fu l
 ·simp [tkE_ok h,h]
 ·simp [Hs h,h]
theorem memL_mem {l:List (Int × Int)} {d:Int} (h:d∈Ga l):0≤d∧d < 512∧∃ p,(512+d,p)∈l:=by
 have h1:=mem_compact h
 have h2:=(List.mergeSort_perm (memA l) (fun x y=>decide (x≤y))).mem_iff.1 h1
 unfold memA at h2
 obtain ⟨q,hq,rfl⟩:=List.mem_map.1 h2
 obtain ⟨h3,h4⟩:=List.mem_filter.1 hq
 simp [isLf] at h4
 refine ⟨by omega,by omega,q.2,?_⟩
 rw [show 512+(q.1-512)=q.1 from by omega]
 exact h3
theorem Gz (t:Tr) (hl:t.l.length≤1000000):Ay Tryz.prog 114 [t.v] [] (fun w=>t.F w∧True) (fun _:Unit=>⟨True,iv (tkE t.l),[],fun _=>True⟩):=by
 refine Aj Tryz.func114 Z Z fun X w0=>(Ab (Aa (oj (C6 Z Z (fun r1=>(Al (Am 0 _ _ Z) ?_))))))
 try dsimp only [List.eraseIdx]
 refine oj (Ak Z Z (on (qn (Ab (Aa (oj (mkm Z (fun r12=>?_))))))))
 have hm_r12:=MapI.nil
 rw [← kF_nil] at hm_r12
 refine oj (Ak Z Z (on (qn (Ab (Ab (Aa (oj (Bx Z Z B1 (fun w h=>h.1.1) Z (oj (call Z Z (.cons Z .nil) fb_118 (members_spec t hl)  (fun w h=>⟨(h.2.1),tR⟩) ?_))))))))))
 rintro ⟨ma,mc⟩ hmc
 try dsimp only at hmc
 try dsimp only
 have hml:(Ga t.l).length≤1000000:=Nat.le_trans (Lib.compact_length_le _) (by rw [List.length_mergeSort]; exact Nat.le_trans (memA_len _) hl)
 refine oj (Bn Z Z Tryz.underlying31 Z (oj (mv Z Z (on (qn (Ag (Aw (fun (sT:(Nat) × (Array MapEntry) × (Nat))=>(⟨sT.1≤(Ga t.l).length∧MapI sT.2.1 sT.2.2 (kF (((Ga t.l).take sT.1).flatMap upK)),[(1,Bg r1 0),(3,mpV r12),(14,.slice ma (Ga t.l).length mc),(15,iv (Ga t.l).length),(16,iv (sT.1:Int))],[mpE r12 sT.2.1 sT.2.2],fun w=>Sl 1 (Ga t.l).length ((Ga t.l).flatMap fun x=>[iv x]) (.slice ma (Ga t.l).length mc) w∧t.F w∧Bc r1 [S1 (.slice t.a t.l.length t.c)] 27 w∧True,(Ga t.l).length-sT.1⟩:Hd)) (0,_,_) (⟨Nat.zero_le _,hm_r12⟩) (⟨Z,Z,Z,Z,Z,tR⟩) (.refl _) (fun w h=>⟨(h.1.1),(h.2.2.1),(h.2.1.1),tR⟩) ?_)))))))
 rintro ⟨k,es_r12,cl_r12⟩ ⟨hk,hm_r12⟩
 try dsimp only
 try dsimp only at hk hm_r12
 refine Ab (Aa (oj (Dd Z Z Z (on (qn (Ab ?_))))))
 refine A8 Z (fun ht=>?_) (fun hf=>?_)
 ·obtain ⟨d,hd⟩:∃ x,(Ga t.l)[k]? = some x:=⟨_,List.getElem?_eq_getElem (by omega)⟩
  have hdb:=memL_mem (List.mem_of_getElem? hd)
  refine Ah (qn (Ab (Ag (Ab (Aa (oj (Fc Z Z Z Tryz.underlying31 Ai (by omega) (fun w h=>Sl.some (h.1) (by omega)) (oj (A4 Z Z Ai (fun w h=>Sl.elem1 (h.1) (Dh hd)) (oj (Ak Z Z (on (qn (Ab (Aa (oj (mv Z Z (oj (call Z Z (.cons Z .nil) fb_24 (path_spec d)  (fun w h=>tR) ?_)))))))))))))))))))
  rintro ⟨pa,pc⟩ hpc
  try dsimp only at hpc
  try dsimp only
  refine oj (mv Z Z (oj (ext Z Z Z (oj (ext Z Z Z (oj (Ak Z Z (oj (Ak Z Z (on (qn (Ab (Aa (oj (mv Z Z (oj (mv Z Z (oj (add Z Z Z (by omega) (oj (mup Z Z Z Tryz.underlying204 Tryz.underlying3 (fun _ _=>.head) hm_r12 (fun es_r12 cl_r12 hm_r12=>(on (qn (Ab ?_)))))))))))))))))))))))))
  refine Aa (oj (mv Z Z (oj (Bn Z Z Tryz.underlying31 Z (oj (mv Z Z (on (qn (Ag ?_)))))))))
  rw [kF_put] at hm_r12
  refine Aw (fun (sT:(Nat) × (Array MapEntry) × (Nat))=>(⟨sT.1≤(Dz d C8).length∧MapI sT.2.1 sT.2.2 (kF (((Ga t.l).take k).flatMap upK++(512+d)::(Dz d C8).take sT.1)),[(1,Bg r1 0),(3,mpV r12),(14,.slice ma (Ga t.l).length mc),(15,iv (Ga t.l).length),(16,iv (k:Int)),(28,.slice pa (Dz d C8).length pc),(29,iv (Dz d C8).length),(30,iv (sT.1:Int))],[mpE r12 sT.2.1 sT.2.2],fun w=>Sl 1 (Dz d C8).length ((Dz d C8).flatMap fun x=>[iv x]) (.slice pa (Dz d C8).length pc) w∧Sl 1 (Ga t.l).length ((Ga t.l).flatMap fun x=>[iv x]) (.slice ma (Ga t.l).length mc) w∧t.F w∧Bc r1 [S1 (.slice t.a t.l.length t.c)] 27 w∧True,(Dz d C8).length-sT.1⟩:Hd)) (0,_,_) (⟨Nat.zero_le _,hm_r12⟩) (⟨Z,Z,Z,Z,Z,Z,Z,Z,tR⟩) (.refl _) (fun w h=>⟨(h.1.1),(h.2.1),(h.2.2.1),(Cu h),tR⟩) ?_
  rintro ⟨j,es_r12,cl_r12⟩ ⟨hj,hm_r12⟩
  try dsimp only
  try dsimp only at hj hm_r12
  refine Ab (Aa (oj (Dd Z Z Z (on (qn (Ab ?_))))))
  refine A8 Z (fun ht=>?_) (fun hf=>?_)
  ·obtain ⟨x,hx⟩:∃ x,(Dz d C8)[j]? = some x:=⟨_,List.getElem?_eq_getElem (by omega)⟩
   have hal:=alL_len d C8
   refine Ah (qn (Ab (Ag (Ab (Aa (oj (Fc Z Z Z Tryz.underlying31 Ai (by omega) (fun w h=>Sl.some (h.1) (by omega)) (oj (A4 Z Z Ai (fun w h=>Sl.elem1 (h.1) (Dh hx)) (oj (Ak Z Z (on (qn (Aa (oj (mv Z Z (oj (mv Z Z (oj (mup Z Z Z Tryz.underlying204 Tryz.underlying3 (fun _ _=>.head) hm_r12 (fun es_r12 cl_r12 hm_r12=>(on ?_))))))))))))))))))))))
   refine bn (qn (Aa (oj (add Z Z Z (by omega) (oj (mv Z Z (on (qn ?_))))))))
   rw [kF_put] at hm_r12
   exact Ar (j+1,es_r12,cl_r12) (by dsimp only; omega) (⟨by (try dsimp only); omega,by rw [A7 hx]; simpa using hm_r12⟩) (⟨Z,Z,Z,Z,Z,Z,Z,Z,tR⟩) (.refl _) (fun w h=>⟨(h.1),(h.2.1),(h.2.2.1),(Cu h),tR⟩)
  ·have h4:j=(Dz d C8).length:=by omega
   subst h4
   rw [List.take_length] at hm_r12
   have hal:=alL_len d C8
   exact A1 (qe (qe (be (bn (qn (Aa (oj (add Z Z Z (by omega) (oj (mv Z Z (on (qn (Ar (k+1,es_r12,cl_r12) (by dsimp only; omega) (⟨by (try dsimp only); omega,by rw [A7 hd,List.flatMap_append]; simpa [upK] using hm_r12⟩) (⟨Z,Z,Z,Z,Z,tR⟩) (.refl _) (fun w h=>⟨(h.2.1),(h.2.2.1),(Cu h),tR⟩))))))))))))))
 ·have h4:k=(Ga t.l).length:=by omega
  subst h4
  rw [List.take_length] at hm_r12
  refine A1 (qe (qe (be (qn (Ab (Ab (Aa (oj (A2 (o':=0) Z Z Jk Ju Z (oj (A4 Z Z Ju (fun w h=>Bc.at1 h.2.2.1 Z) (oj (Bn Z Z Tryz.underlying25 Z (oj (mv Z Z (on (qn (Ag (Aw (fun (sT:(Nat))=>(⟨sT≤t.l.length∧∀ j,j < sT→NdOk t.l j,[(1,Bg r1 0),(3,mpV r12),(39,.slice t.a t.l.length t.c),(40,iv t.l.length),(41,iv (sT:Int))],[mpE r12 es_r12 cl_r12],fun w=>t.F w∧Bc r1 [S1 (.slice t.a t.l.length t.c)] 27 w∧True,t.l.length-sT⟩:Hd)) (0) (⟨Nat.zero_le _,fun j h=>absurd h (Nat.not_lt_zero _)⟩) (⟨Z,Z,Z,Z,Z,tR⟩) (.refl _) (fun w h=>⟨(h.2.1),(h.2.2.1),tR⟩) ?_)))))))))))))))))))
  rintro i ⟨hi,hok⟩
  try dsimp only
  refine Ab (Aa (oj (Dd Z Z Z (on (qn (Ab ?_))))))
  refine A8 Z (fun ht=>?_) (fun hf=>?_)
  ·obtain ⟨q,hq⟩:∃ x,t.l[i]? = some x:=⟨_,List.getElem?_eq_getElem (by omega)⟩
   refine Ah (qn (Ab (Ag (Ab (Aa (oj (mv Z Z (oj (Fc Z Z Z Tryz.underlying25 Jd (by omega) (fun w h=>Sl.some (h.1) (by omega)) (oj (D4 Z Z Jd Z (fun w h=>Cv (h.1) (by decide) (fun _=>Z) hq) (Ac (d:=45) (v:=av [S1 (iv q.1),S1 (iv q.2)]) Z Z (oj (C7 Z zok_234 (fun r11=>(oj (Ak Z Z (oj (C0 Z Z Jd Z Z .head (on (qn (Ab ?_))))))))))))))))))))))
   refine A5 mo (Ad 0 ((A2 (o':=0) Z Z E5 Ai Z (Ad 1 ((Bh Z Z Ai (.head _) (Z) (Ad 2 ((Dd Z Z Z (Ad 3 ((mv Z Z ?_))))))))))))
   refine B5 (d:=49) Z (fun g1=>?_) (fun g1=>?_)
   ·refine Ad 4 ((gf Z Z Z Z Z Z (Ad 5 ((gf Z Z Z Z Z Z (Ad 6 ((gf Z Z Z Z Z Z (Ad 7 ((Cl Z Z Z (Ad 8 ((mv Z Z (Ad 9 ((gf Z Z Z Z Z Z (Ad 10 ((gf Z Z Z Z Z Z (Ad 11 ((gf Z Z Z Z Z Z ?_)))))))))))))))))))))))
    refine A3 [12,13,14,15,16,17,18,19,20] (fun _=>false) (by kernel_rfl) Z Z (.det _ (fun Q K R m k=>(Gl Z Z Z Z Z k)) (.det _ (fun Q K R m k=>(Gl Z Z Z Z Z k)) (.det _ (fun Q K R m k=>(Gl Z Z Z Z Z k)) (.det _ (fun Q K R m k=>(Gl Z Z Z Z Z k)) (.det _ (fun Q K R m k=>(Gl Z Z Z Z Z k)) (.det _ (fun Q K R m k=>(Gl Z Z Z Z Z k)) (.det _ (fun Q K R m k=>(Gl Z Z Z Z Z k)) (.det _ (fun Q K R m k=>(Gl Z Z Z Z Z k)) (.det _ (fun Q K R m k=>(Gl Z Z Z Z Z k)) (.nil (Ad 21 ((Gl Z Z Z Z Z (Ad 22 ((gf Z Z Z Z Z Z (Ad 23 ?_)))))))))))))))))
    refine (Cl Z Z Z (Ad 24 ((mv Z Z (Ad 25 ((gf Z Z Z Z Z Z (Ad 26 ((gf Z Z Z Z Z Z (Ad 27 ((gf Z Z Z Z Z Z (Ad 28 ((gf Z Z Z Z Z Z (Ad 29 ((Cl Z Z Z (Ad 30 ((mv Z Z (A3 [31,32,33] (fun _=>false) (by kernel_rfl) Z Z ?_)))))))))))))))))))))))
    refine .det _ (fun Q K R m k=>(gf Z Z Z Z Z Z k)) (.det _ (fun Q K R m k=>(gf Z Z Z Z Z Z k)) (.det _ (fun Q K R m k=>(gf Z Z Z Z Z Z k)) (.nil (Ad 34 ((gf Z Z Z Z Z Z (Ad 35 ((gf Z Z Z Z Z Z (Ad 36 ((Cl Z Z Z (A6 (qn (Ap Z (fun _=>(Ab (Aa (oj (Ak Z Z ?_))))) (fun h=>by cases h))))))))))))))))
    refine on (qn (Af (br (qr (qr (br (qr ?_)))))))
    have hbad : ¬ Fu t.l:=fun h=>by
     obtain ⟨q1,hq1,h1,h2,h3,h4,h5⟩:=h i (by omega)
     rw [hq] at hq1
     cases hq1
     omega
    exact Ac (d:=2) (v:=iv (tkE t.l)) Z (by rw [Hs hbad]) (As () Z (.tmp Z .nil) Z tR (Bl _) (fun w h=>tR) (.inl Z))
   ·refine Ad 4 ((gt Z Z Z (A2 (o':=0) Z Z E5 Ai Z (Ad 5 ((gt Z Z Z (Bh Z Z Ai (.head _) (Z) (Ad 6 ((gt Z Z Z (gti Z Z Z (Ad 7 ((Df Z Z Z (Ad 8 ((mv Z Z ?_)))))))))))))))))
    refine B5 (d:=54) Z (fun g2=>?_) (fun g2=>?_)
    ·refine Ad 9 ((gf Z Z Z Z Z Z (Ad 10 ((gf Z Z Z Z Z Z (Ad 11 ((gf Z Z Z Z Z Z (A3 [12,13,14,15,16,17,18,19,20] (fun _=>false) (by kernel_rfl) Z Z (.det _ (fun Q K R m k=>(Gl Z Z Z Z Z k)) (.det _ (fun Q K R m k=>(Gl Z Z Z Z Z k)) (.det _ (fun Q K R m k=>(Gl Z Z Z Z Z k)) (.det _ (fun Q K R m k=>(Gl Z Z Z Z Z k)) (.det _ (fun Q K R m k=>(Gl Z Z Z Z Z k)) (.det _ (fun Q K R m k=>(Gl Z Z Z Z Z k)) (.det _ (fun Q K R m k=>(Gl Z Z Z Z Z k)) (.det _ (fun Q K R m k=>(Gl Z Z Z Z Z k)) (.det _ (fun Q K R m k=>(Gl Z Z Z Z Z k)) ?_))))))))))))))))))
     refine .nil (Ad 21 ((Gl Z Z Z Z Z (Ad 22 ((gf Z Z Z Z Z Z (Ad 23 ((Cl Z Z Z (Ad 24 ((mv Z Z (Ad 25 ((gf Z Z Z Z Z Z (Ad 26 ((gf Z Z Z Z Z Z (Ad 27 ((gf Z Z Z Z Z Z (Ad 28 ?_))))))))))))))))))))))
     refine (gf Z Z Z Z Z Z (Ad 29 ((Cl Z Z Z (Ad 30 ((mv Z Z (A3 [31,32,33] (fun _=>false) (by kernel_rfl) Z Z (.det _ (fun Q K R m k=>(gf Z Z Z Z Z Z k)) (.det _ (fun Q K R m k=>(gf Z Z Z Z Z Z k)) (.det _ (fun Q K R m k=>(gf Z Z Z Z Z Z k)) (.nil (Ad 34 ((gf Z Z Z Z Z Z (Ad 35 ((gf Z Z Z Z Z Z (Ad 36 ((Cl Z Z Z ?_)))))))))))))))))))))
     refine A6 (qn (Ap Z (fun _=>(Ab (Aa (oj (Ak Z Z (on (qn (Af (br (qr (qr (br (qr ?_))))))))))))) (fun h=>by cases h)))
     have hbad : ¬ Fu t.l:=fun h=>by
      obtain ⟨q1,hq1,h1,h2,h3,h4,h5⟩:=h i (by omega)
      rw [hq] at hq1
      cases hq1
      omega
     exact Ac (d:=2) (v:=iv (tkE t.l)) Z (by rw [Hs hbad]) (As () Z (.tmp Z .nil) Z tR (Bl _) (fun w h=>tR) (.inl Z))
    ·refine Ad 9 ((gt Z Z Z (mv Z Z (Ad 10 ((gt Z Z Z (gti Z Z Z (Ad 11 ((gt Z Z Z (mv Z Z ?_)))))))))))
     refine B5 (d:=57) Z (fun g0=>?_) (fun g0=>?_)
     ·obtain ⟨pp,hpp⟩:∃ x,t.l[i-1]? = some x:=⟨_,List.getElem?_eq_getElem (by omega)⟩
      refine A3 [12,13,14,15,16,17,18,19,20] (fun _=>false) (by kernel_rfl) Z Z (.det _ (fun Q K R m k=>(gt Z Z Z (A2 (o':=0) Z Z E5 Ai Z k))) (.det _ (fun Q K R m k=>(gt Z Z Z (Bh Z Z Ai (.head _) (Z) k))) (.det _ (fun Q K R m k=>(gt Z Z Z (A2 (o':=0) Z Z Jk Ju Z k))) (.det _ (fun Q K R m k=>(gt Z Z Z (A4 Z Z Ju (fun w h=>Bc.at1 h.1.2.1 Z) k))) (.det _ (fun Q K R m k=>(gt Z Z Z (mv Z Z k))) (.det (iv ((i-1:Nat):Int)) (fun Q K R m k=>(gt Z Z Z (sub Z Z Z (by omega) (B8 (by congr 1; omega) k)))) (.det _ (fun Q K R m k=>(gt Z Z Z (Fc Z Z Z Tryz.underlying25 Jd (by omega) (fun w h=>Sl.some (h.1.1) (by omega)) k))) (.det _ (fun Q K R m k=>(gt Z Z Z (fadO Z Z E5 Ai (fun w h=>by obtain ⟨b,hb⟩:=Sl.some (h.1.1) (by omega); exact ⟨_,by rw [hb]; rfl⟩) k))) (.det _ (fun Q K R m k=>(gt Z Z Z (A4 Z Z Ai (fun w h=>(Cv (h.1.1) (by decide) (fun _=>Z) hpp).fld Z) k))) (.nil (Ad 21 ((gt Z Z Z (lei Z Z Z (Ad 22 ((gt Z Z Z (Cl Z Z Z (Ad 23 ?_)))))))))))))))))))
      refine (Df Z Z Z (Ad 24 ((mv Z Z ?_))))
      refine B5 (d:=70) Z (fun g3=>?_) (fun g3=>?_)
      ·refine Ad 25 ((gf Z Z Z Z Z Z (Ad 26 ((gf Z Z Z Z Z Z (Ad 27 ((gf Z Z Z Z Z Z (Ad 28 ((gf Z Z Z Z Z Z (Ad 29 ((Cl Z Z Z (Ad 30 ((mv Z Z (A3 [31,32,33] (fun _=>false) (by kernel_rfl) Z Z (.det _ (fun Q K R m k=>(gf Z Z Z Z Z Z k)) (.det _ (fun Q K R m k=>(gf Z Z Z Z Z Z k)) (.det _ (fun Q K R m k=>(gf Z Z Z Z Z Z k)) ?_)))))))))))))))))))))
       refine .nil (Ad 34 ((gf Z Z Z Z Z Z (Ad 35 ((gf Z Z Z Z Z Z (Ad 36 ((Cl Z Z Z (A6 (qn (Ap Z (fun _=>(Ab (Aa (oj (Ak Z Z (on (qn (Af ?_)))))))) (fun h=>by cases h)))))))))))))
       refine br (qr (qr (br (qr ?_))))
       have hbad : ¬ Fu t.l:=fun h=>by
        obtain ⟨q1,hq1,h1,h2,h3,h4,h5⟩:=h i (by omega)
        rw [hq] at hq1
        cases hq1
        have:=h3 pp (by omega) hpp; omega
       exact Ac (d:=2) (v:=iv (tkE t.l)) Z (by rw [Hs hbad]) (As () Z (.tmp Z .nil) Z tR (Bl _) (fun w h=>tR) (.inl Z))
      ·refine Ad 25 ((gt Z Z Z (A2 (o':=1) Z Z fld_234_1 Ai Z (Ad 26 ((gt Z Z Z (Bh Z Z Ai (.head _) (Z) (Ad 27 ((gt Z Z Z (Ao Z Z (.cons Z .nil) J2 (Dq q.2)  (fun w h=>tR) Z (fun _=>(Ae (fun w h=>h.2) (Ad 28 ((gt Z Z Z (G2 Z Z Z (Ad 29 ((Df Z Z Z (Ad 30 ((mv Z Z ?_)))))))))))))))))))))))
       refine kj_ne (d:=76) Z (fun g4=>?_) (fun g4=>?_)
       ·refine A3 [31,32,33] (fun _=>false) (by kernel_rfl) Z Z (.det _ (fun Q K R m k=>(gf Z Z Z Z Z Z k)) (.det _ (fun Q K R m k=>(gf Z Z Z Z Z Z k)) (.det _ (fun Q K R m k=>(gf Z Z Z Z Z Z k)) (.nil (Ad 34 ((gf Z Z Z Z Z Z (Ad 35 ((gf Z Z Z Z Z Z (Ad 36 ((Cl Z Z Z (A6 (qn (Ap Z (fun _=>(Ab (Aa ?_))) (fun h=>by cases h)))))))))))))))))
        refine oj (Ak Z Z (on (qn (Af (br (qr (qr (br (qr ?_)))))))))
        have hbad : ¬ Fu t.l:=fun h=>by
         obtain ⟨q1,hq1,h1,h2,h3,h4,h5⟩:=h i (by omega)
         rw [hq] at hq1
         cases hq1
         exact g4 (Ed.2 h4)
        exact Ac (d:=2) (v:=iv (tkE t.l)) Z (by rw [Hs hbad]) (As () Z (.tmp Z .nil) Z tR (Bl _) (fun w h=>tR) (.inl Z))
       ·refine A3 [31,32,33] (fun _=>false) (by kernel_rfl) Z Z (.det _ (fun Q K R m k=>(gt Z Z Z (mv Z Z k))) (.det _ (fun Q K R m k=>(gt Z Z Z (A2 (o':=0) Z Z E5 Ai Z k))) (.det _ (fun Q K R m k=>(gt Z Z Z (Bh Z Z Ai (.head _) (Z) k))) (.nil (Ad 34 ((gt Z Z Z (mlk Z Z Z Tryz.underlying204 Tryz.underlying3 zb_4 (fun w ho h=>⟨_,_,ho _ _ (.tail _ (.head _)),hm_r12⟩) (Ac (d:=80) (v:=.bool (decide (q.1∈usK t.l))) Z (by rw [kF_get]; rfl) (Ad 35 ((gt Z Z Z (not Z Z (Ad 36 ((Df Z Z Z (A6 (qn ?_))))))))))))))))))
        refine Ap Z (fun g5=>?_) (fun g5=>?_)
        ·refine Ab (Aa (oj (Ak Z Z (on (qn (Af (br (qr (qr (br (qr ?_)))))))))))
         have hbad : ¬ Fu t.l:=fun h=>by
          obtain ⟨q1,hq1,h1,h2,h3,h4,h5⟩:=h i (by omega)
          rw [hq] at hq1
          cases hq1
          rw [usK] at h5; simp [usK,h5] at g5
         exact Ac (d:=2) (v:=iv (tkE t.l)) Z (by rw [Hs hbad]) (As () Z (.tmp Z .nil) Z tR (Bl _) (fun w h=>tR) (.inl Z))
        ·refine Ah (bn (qn (Aa (oj (add Z Z Z (by omega) (oj (mv Z Z (on (qn ?_)))))))))
         exact Ar (i+1) (by dsimp only; omega) (⟨by (try dsimp only); omega,fun j hj=>by
           by_cases hji:j < i
           ·exact hok j hji
           ·have:j=i:=by (try dsimp only at hj); omega
            subst this
            exact ⟨q,hq,by omega,by omega,fun p1 _ hp1=>by rw [hpp] at hp1; cases hp1; omega,Ed.1 g4,by simpa [usK] using g5⟩⟩) (⟨Z,Z,Z,Z,Z,tR⟩) (.cons _ (.refl _)) (fun w h=>⟨(h.1),(h.2.1),tR⟩)
     ·refine A3 [12,13,14,15,16,17,18,19,20] (fun _=>false) (by kernel_rfl) Z Z (.det _ (fun Q K R m k=>(gf Z Z Z Z Z Z k)) (.det _ (fun Q K R m k=>(gf Z Z Z Z Z Z k)) (.det _ (fun Q K R m k=>(gf Z Z Z Z Z Z k)) (.det _ (fun Q K R m k=>(gf Z Z Z Z Z Z k)) (.det _ (fun Q K R m k=>(gf Z Z Z Z Z Z k)) (.det _ (fun Q K R m k=>(gf Z Z Z Z Z Z k)) (.det _ (fun Q K R m k=>(gf Z Z Z Z Z Z k)) (.det _ (fun Q K R m k=>(gf Z Z Z Z Z Z k)) (.det _ (fun Q K R m k=>(gf Z Z Z Z Z Z k)) (.nil (Ad 21 ((gf Z Z Z Z Z Z (Ad 22 ((gt Z Z Z (Df Z Z Z (Ad 23 ?_))))))))))))))))))
      refine (Df Z Z Z (Ad 24 ((mv Z Z (Ad 25 ((gt Z Z Z (A2 (o':=1) Z Z fld_234_1 Ai Z (Ad 26 ((gt Z Z Z (Bh Z Z Ai (.head _) (Z) (Ad 27 ((gt Z Z Z (Ao Z Z (.cons Z .nil) J2 (Dq q.2)  (fun w h=>tR) Z (fun _=>(Ae (fun w h=>h.2) (Ad 28 ((gt Z Z Z (G2 Z Z Z (Ad 29 ((Df Z Z Z (Ad 30 ((mv Z Z ?_))))))))))))))))))))))))))))
      refine kj_ne (d:=76) Z (fun g4=>?_) (fun g4=>?_)
      ·refine A3 [31,32,33] (fun _=>false) (by kernel_rfl) Z Z (.det _ (fun Q K R m k=>(gf Z Z Z Z Z Z k)) (.det _ (fun Q K R m k=>(gf Z Z Z Z Z Z k)) (.det _ (fun Q K R m k=>(gf Z Z Z Z Z Z k)) (.nil (Ad 34 ((gf Z Z Z Z Z Z (Ad 35 ((gf Z Z Z Z Z Z (Ad 36 ((Cl Z Z Z (A6 (qn (Ap Z (fun _=>(Ab (Aa ?_))) (fun h=>by cases h)))))))))))))))))
       refine oj (Ak Z Z (on (qn (Af (br (qr (qr (br (qr ?_)))))))))
       have hbad : ¬ Fu t.l:=fun h=>by
        obtain ⟨q1,hq1,h1,h2,h3,h4,h5⟩:=h i (by omega)
        rw [hq] at hq1
        cases hq1
        exact g4 (Ed.2 h4)
       exact Ac (d:=2) (v:=iv (tkE t.l)) Z (by rw [Hs hbad]) (As () Z (.tmp Z .nil) Z tR (Bl _) (fun w h=>tR) (.inl Z))
      ·refine A3 [31,32,33] (fun _=>false) (by kernel_rfl) Z Z (.det _ (fun Q K R m k=>(gt Z Z Z (mv Z Z k))) (.det _ (fun Q K R m k=>(gt Z Z Z (A2 (o':=0) Z Z E5 Ai Z k))) (.det _ (fun Q K R m k=>(gt Z Z Z (Bh Z Z Ai (.head _) (Z) k))) (.nil (Ad 34 ((gt Z Z Z (mlk Z Z Z Tryz.underlying204 Tryz.underlying3 zb_4 (fun w ho h=>⟨_,_,ho _ _ (.tail _ (.head _)),hm_r12⟩) (Ac (d:=80) (v:=.bool (decide (q.1∈usK t.l))) Z (by rw [kF_get]; rfl) (Ad 35 ((gt Z Z Z (not Z Z (Ad 36 ((Df Z Z Z (A6 (qn ?_))))))))))))))))))
       refine Ap Z (fun g5=>?_) (fun g5=>?_)
       ·refine Ab (Aa (oj (Ak Z Z (on (qn (Af (br (qr (qr (br (qr ?_)))))))))))
        have hbad : ¬ Fu t.l:=fun h=>by
         obtain ⟨q1,hq1,h1,h2,h3,h4,h5⟩:=h i (by omega)
         rw [hq] at hq1
         cases hq1
         rw [usK] at h5; simp [usK,h5] at g5
        exact Ac (d:=2) (v:=iv (tkE t.l)) Z (by rw [Hs hbad]) (As () Z (.tmp Z .nil) Z tR (Bl _) (fun w h=>tR) (.inl Z))
       ·refine Ah (bn (qn (Aa (oj (add Z Z Z (by omega) (oj (mv Z Z (on (qn ?_)))))))))
        exact Ar (i+1) (by dsimp only; omega) (⟨by (try dsimp only); omega,fun j hj=>by
          by_cases hji:j < i
          ·exact hok j hji
          ·have:j=i:=by (try dsimp only at hj); omega
           subst this
           exact ⟨q,hq,by omega,by omega,fun p1 h0 _=>absurd h0 (by omega),Ed.1 g4,by simpa [usK] using g5⟩⟩) (⟨Z,Z,Z,Z,Z,tR⟩) (.cons _ (.refl _)) (fun w h=>⟨(h.1),(h.2.1),tR⟩)
  ·have h4:i=t.l.length:=by omega
   subst h4
   exact A1 (qe (qe (be (qn (Ab (Aa (oj (Ak Z Z (on (qn (Af (Ac (d:=2) (v:=iv (tkE t.l)) Z (by rw [tkE_ok (fun j hj=>hok j hj)]) (As () Z (.tmp Z .nil) Z tR (Bl _) (fun w h=>tR) (.inl Z))))))))))))))
end Go.Chx
