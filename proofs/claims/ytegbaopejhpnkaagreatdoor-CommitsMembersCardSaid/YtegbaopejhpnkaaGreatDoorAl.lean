/- Part of the proof that the law CommitsMembers holds. -/
import Derived.Test.YtegbaopejhpnkaaGreatDoorAa
import Derived.Test.YtegbaopejhpnkaaGreatDoorAh
import Derived.Test.YtegbaopejhpnkaaGreatDoorAi
import Derived.Test.YtegbaopejhpnkaaGreatDoorAj
import Derived.Test.YtegbaopejhpnkaaGreatDoorAk
namespace Go.Chx
open Go Go.Proofs
set_option maxHeartbeats 1000000
set_option maxRecDepth 4000
abbrev vA (v:RV):Value:=av [S1 (iv v.kd),S1 (iv v.nn),S1 (.string (Iq v.ss)),S1 (.slice v.ad v.ll.length v.cp)]
theorem cells4 (v:RV):v.cells.length=4:=rfl
theorem formed_int (n:Int) (a:Option Addr) (cap:Nat):Ay Tryz.prog 204 [vA (.int n a cap)] [] (fun _=>True) (fun _:Unit=>⟨True,.tuple #[iv (0),.bool true],[],fun _=>True⟩):=by
 refine Aj Tryz.func204 Z Z fun X w0=>(Ab (Aa (oj (C6 Z Z (fun r1=>(oj (Ak Z Z (oj (Ak Z Z (on (qn (Ab (Aa (oj (A2 (o':=2) Z Z Eq G4 Z (oj (Bh Z Z G4 (.head _) (Z) (oj (eqs Z Z Z (Ac (d:=11) (v:=.bool true) Z ((by show Value.bool ((Iq _).toList == (Iq []).toList)=_; rw [bst_eq]; rfl)) (oj (mv Z Z (oj (gt Z Z Z ?_))))))))))))))))))))))))
 refine (A2 (o':=3) Z Z Cd B3 Z (oj (gt Z Z Z ((Bh Z Z B3 (.head _) (Z) (oj (gt Z Z Z ((Bn Z Z Tryz.underlying59 Z (oj (gt Z Z Z ((Eu Z Z Z (Ac (d:=16) (v:=.bool true) Z (Z) (oj (Cl Z Z Z (oj (A2 (o':=1) Z Z Er Ai Z (oj (Bh Z Z Ai (.head _) (Z) (oj (Eu Z Z Z (oj (mv Z Z ?_))))))))))))))))))))))))
 refine Kh (d:=21) Z (fun ht=>?_) (fun hf=>?_)
 ·refine oj (gt Z Z Z ((A2 (o':=3) Z Z Cd B3 Z (oj (gt Z Z Z ((Bh Z Z B3 (.head _) (Z) (oj (gt Z Z Z ((Bn Z Z Tryz.underlying59 Z (oj (gt Z Z Z ((Eu Z Z Z (Ac (d:=25) (v:=.bool true) Z (Z) (oj (Cl Z Z Z (oj (A2 (o':=1) Z Z Er Ai Z (oj (Bh Z Z Ai (.head _) (Z) (oj (Eu Z Z Z (oj (mv Z Z ?_))))))))))))))))))))))))))
  refine Kh (d:=30) Z (fun ht=>?_) (fun hf=>?_)
  ·refine oj (gt Z Z Z ((A2 (o':=2) Z Z Eq G4 Z (oj (gt Z Z Z ((Bh Z Z G4 (.head _) (Z) (oj (gt Z Z Z ((eqs Z Z Z (Ac (d:=33) (v:=.bool true) Z ((by show Value.bool ((Iq _).toList == (Iq []).toList)=_; rw [bst_eq]; rfl)) (oj (Cl Z Z Z (oj (bldA Z Tryz.underlying317 Is El Z (Ch Z Z (.tail (.head Z)) (Ch Z Z (.tail (.tail (.head Z))) (Ch Z Z (.tail (.tail (.tail (.head Z)))) .nil))) (oj (C7 Z El (fun r4=>(oj (C0 Z Z ty_317 Z Z .head (on (qn (Ab (Ab (Aa ?_))))))))))))))))))))))))))
   refine oj (A2 (o':=0) Z Z Bq Ai Z (oj (Bh Z Z Ai (.tail _ (.head _)) (Z) (oj (Dd Z Z Z (Ac (d:=38) (v:=.bool false) Z (Z) (oj (mv Z Z (oj (gt Z Z Z ((A2 (o':=0) Z Z Bq Ai Z (oj (gt Z Z Z ((Bh Z Z Ai (.tail _ (.head _)) (Z) (oj (gt Z Z Z ((gti Z Z Z (Ac (d:=42) (v:=.bool false) Z (Z) (oj (Df Z Z Z (oj (mv Z Z (oj (gt Z Z Z ((A2 (o':=0) Z Z Bq Ai Z ?_)))))))))))))))))))))))))))))
   refine oj (gt Z Z Z ((Bh Z Z Ai (.tail _ (.head _)) (Z) (oj (gt Z Z Z ((Gj (n':=1) Z Z Z Tryz.underlying317 Is (by simp only [RV.kd]; omega) (Z) (oj (gt Z Z Z ((Bh Z Z Is (.head _) (Z) (oj (gt Z Z Z ((not Z Z (Ac (d:=49) (v:=.bool false) Z (Z) (oj (Df Z Z Z (on (qn (Ap Z (fun h=>by cases h) (fun _=>(Ah (qn (Ab ?_)))))))))))))))))))))))))
   refine Ab (Aa (oj (A2 (o':=0) Z Z Bq Ai Z (oj (Bh Z Z Ai (.tail _ (.head _)) (Z) (oj (Dd Z Z Z (Ac (d:=53) (v:=.bool true) Z (Z) (on (qn (Ap Z (fun _=>(Ab (Aa (oj (Ak Z Z (oj (Ak Z Z (on (qn (Af ?_)))))))))) (fun h=>by cases h))))))))))))
   exact qr (As () Z (.tmp Z (.tmp Z .nil)) Z tR (Bl _) (fun w h=>tR) (.inl Z))
  ·refine oj (gf Z Z Z Z Z Z (oj (gf Z Z Z Z Z Z (oj (gf Z Z Z Z Z Z (oj (Df Z Z Z (oj (bldA Z Tryz.underlying317 Is El Z (Ch Z Z (.tail (.head Z)) (Ch Z Z (.tail (.tail (.head Z))) (Ch Z Z (.tail (.tail (.tail (.head Z)))) .nil))) (oj (C7 Z El (fun r4=>(oj (C0 Z Z ty_317 Z Z .head (on (qn (Ab (Ab (Aa (oj (A2 (o':=0) Z Z Bq Ai Z (oj (Bh Z Z Ai (.tail _ (.head _)) (Z) (oj (Dd Z Z Z (Ac (d:=38) (v:=.bool false) Z (Z) ?_))))))))))))))))))))))))))
   refine oj (mv Z Z (oj (gt Z Z Z ((A2 (o':=0) Z Z Bq Ai Z (oj (gt Z Z Z ((Bh Z Z Ai (.tail _ (.head _)) (Z) (oj (gt Z Z Z ((gti Z Z Z (Ac (d:=42) (v:=.bool false) Z (Z) (oj (Df Z Z Z (oj (mv Z Z (oj (gt Z Z Z ((A2 (o':=0) Z Z Bq Ai Z (oj (gt Z Z Z ((Bh Z Z Ai (.tail _ (.head _)) (Z) (oj (gt Z Z Z ((Gj (n':=1) Z Z Z Tryz.underlying317 Is (by simp only [RV.kd]; omega) (Z) ?_))))))))))))))))))))))))))))))
   refine oj (gt Z Z Z ((Bh Z Z Is (.head _) (Z) (oj (gt Z Z Z ((not Z Z (Ac (d:=49) (v:=.bool false) Z (Z) (oj (Df Z Z Z (on (qn (Ap Z (fun h=>by cases h) (fun _=>(Ah (qn (Ab (Ab (Aa (oj (A2 (o':=0) Z Z Bq Ai Z (oj (Bh Z Z Ai (.tail _ (.head _)) (Z) ?_)))))))))))))))))))))))
   exact oj (Dd Z Z Z (Ac (d:=53) (v:=.bool true) Z (Z) (on (qn (Ap Z (fun _=>(Ab (Aa (oj (Ak Z Z (oj (Ak Z Z (on (qn (Af (qr (As () Z (.tmp Z (.tmp Z .nil)) Z tR (Bl _) (fun w h=>tR) (.inl Z))))))))))))) (fun h=>by cases h))))))
 ·refine oj (gf Z Z Z Z Z Z (oj (gf Z Z Z Z Z Z (oj (gf Z Z Z Z Z Z (oj (gf Z Z Z Z Z Z (oj (Df Z Z Z (oj (A2 (o':=1) Z Z Er Ai Z (oj (Bh Z Z Ai (.head _) (Z) (oj (Eu Z Z Z (oj (mv Z Z ?_)))))))))))))))))
  refine Kh (d:=30) Z (fun ht=>?_) (fun hf=>?_)
  ·refine oj (gt Z Z Z ((A2 (o':=2) Z Z Eq G4 Z (oj (gt Z Z Z ((Bh Z Z G4 (.head _) (Z) (oj (gt Z Z Z ((eqs Z Z Z (Ac (d:=33) (v:=.bool true) Z ((by show Value.bool ((Iq _).toList == (Iq []).toList)=_; rw [bst_eq]; rfl)) (oj (Cl Z Z Z (oj (bldA Z Tryz.underlying317 Is El Z (Ch Z Z (.tail (.head Z)) (Ch Z Z (.tail (.tail (.head Z))) (Ch Z Z (.tail (.tail (.tail (.head Z)))) .nil))) (oj (C7 Z El (fun r4=>(oj (C0 Z Z ty_317 Z Z .head (on (qn (Ab (Ab (Aa ?_))))))))))))))))))))))))))
   refine oj (A2 (o':=0) Z Z Bq Ai Z (oj (Bh Z Z Ai (.tail _ (.head _)) (Z) (oj (Dd Z Z Z (Ac (d:=38) (v:=.bool false) Z (Z) (oj (mv Z Z (oj (gt Z Z Z ((A2 (o':=0) Z Z Bq Ai Z (oj (gt Z Z Z ((Bh Z Z Ai (.tail _ (.head _)) (Z) (oj (gt Z Z Z ((gti Z Z Z (Ac (d:=42) (v:=.bool false) Z (Z) (oj (Df Z Z Z (oj (mv Z Z (oj (gt Z Z Z ((A2 (o':=0) Z Z Bq Ai Z ?_)))))))))))))))))))))))))))))
   refine oj (gt Z Z Z ((Bh Z Z Ai (.tail _ (.head _)) (Z) (oj (gt Z Z Z ((Gj (n':=1) Z Z Z Tryz.underlying317 Is (by simp only [RV.kd]; omega) (Z) (oj (gt Z Z Z ((Bh Z Z Is (.head _) (Z) (oj (gt Z Z Z ((not Z Z (Ac (d:=49) (v:=.bool false) Z (Z) (oj (Df Z Z Z (on (qn (Ap Z (fun h=>by cases h) (fun _=>(Ah (qn (Ab ?_)))))))))))))))))))))))))
   refine Ab (Aa (oj (A2 (o':=0) Z Z Bq Ai Z (oj (Bh Z Z Ai (.tail _ (.head _)) (Z) (oj (Dd Z Z Z (Ac (d:=53) (v:=.bool true) Z (Z) (on (qn (Ap Z (fun _=>(Ab (Aa (oj (Ak Z Z (oj (Ak Z Z (on (qn (Af ?_)))))))))) (fun h=>by cases h))))))))))))
   exact qr (As () Z (.tmp Z (.tmp Z .nil)) Z tR (Bl _) (fun w h=>tR) (.inl Z))
  ·refine oj (gf Z Z Z Z Z Z (oj (gf Z Z Z Z Z Z (oj (gf Z Z Z Z Z Z (oj (Df Z Z Z (oj (bldA Z Tryz.underlying317 Is El Z (Ch Z Z (.tail (.head Z)) (Ch Z Z (.tail (.tail (.head Z))) (Ch Z Z (.tail (.tail (.tail (.head Z)))) .nil))) (oj (C7 Z El (fun r4=>(oj (C0 Z Z ty_317 Z Z .head (on (qn (Ab (Ab (Aa (oj (A2 (o':=0) Z Z Bq Ai Z (oj (Bh Z Z Ai (.tail _ (.head _)) (Z) (oj (Dd Z Z Z (Ac (d:=38) (v:=.bool false) Z (Z) ?_))))))))))))))))))))))))))
   refine oj (mv Z Z (oj (gt Z Z Z ((A2 (o':=0) Z Z Bq Ai Z (oj (gt Z Z Z ((Bh Z Z Ai (.tail _ (.head _)) (Z) (oj (gt Z Z Z ((gti Z Z Z (Ac (d:=42) (v:=.bool false) Z (Z) (oj (Df Z Z Z (oj (mv Z Z (oj (gt Z Z Z ((A2 (o':=0) Z Z Bq Ai Z (oj (gt Z Z Z ((Bh Z Z Ai (.tail _ (.head _)) (Z) (oj (gt Z Z Z ((Gj (n':=1) Z Z Z Tryz.underlying317 Is (by simp only [RV.kd]; omega) (Z) ?_))))))))))))))))))))))))))))))
   refine oj (gt Z Z Z ((Bh Z Z Is (.head _) (Z) (oj (gt Z Z Z ((not Z Z (Ac (d:=49) (v:=.bool false) Z (Z) (oj (Df Z Z Z (on (qn (Ap Z (fun h=>by cases h) (fun _=>(Ah (qn (Ab (Ab (Aa (oj (A2 (o':=0) Z Z Bq Ai Z (oj (Bh Z Z Ai (.tail _ (.head _)) (Z) ?_)))))))))))))))))))))))
   exact oj (Dd Z Z Z (Ac (d:=53) (v:=.bool true) Z (Z) (on (qn (Ap Z (fun _=>(Ab (Aa (oj (Ak Z Z (oj (Ak Z Z (on (qn (Af (qr (As () Z (.tmp Z (.tmp Z .nil)) Z tR (Bl _) (fun w h=>tR) (.inl Z))))))))))))) (fun h=>by cases h))))))
theorem formed_text (s:List UInt8) (a:Option Addr) (cap:Nat):Ay Tryz.prog 204 [vA (.text s a cap)] [] (fun _=>True) (fun _:Unit=>⟨True,.tuple #[iv (0),.bool true],[],fun _=>True⟩):=by
 refine Aj Tryz.func204 Z Z fun X w0=>(Ab (Aa (oj (C6 Z Z (fun r1=>(oj (Ak Z Z (oj (Ak Z Z (on (qn (Ab (Aa (oj (A2 (o':=2) Z Z Eq G4 Z (oj (Bh Z Z G4 (.head _) (Z) (oj (eqs Z Z Z (oj (mv Z Z ?_)))))))))))))))))))))
 refine Dn (d:=12) Z (fun ht=>?_) (fun hf=>?_)
 ·refine oj (gt Z Z Z ((A2 (o':=3) Z Z Cd B3 Z (oj (gt Z Z Z ((Bh Z Z B3 (.head _) (Z) (oj (gt Z Z Z ((Bn Z Z Tryz.underlying59 Z (oj (gt Z Z Z ((Eu Z Z Z (oj (Cl Z Z Z (oj (A2 (o':=1) Z Z Er Ai Z (oj (Bh Z Z Ai (.head _) (Z) (oj (Eu Z Z Z (Ac (d:=20) (v:=.bool true) Z (Z) (oj (mv Z Z (oj (gt Z Z Z ((A2 (o':=3) Z Z Cd B3 Z ?_))))))))))))))))))))))))))))))
  refine oj (gt Z Z Z ((Bh Z Z B3 (.head _) (Z) (oj (gt Z Z Z ((Bn Z Z Tryz.underlying59 Z (oj (gt Z Z Z ((Eu Z Z Z (Ac (d:=25) (v:=.bool true) Z (Z) (oj (Cl Z Z Z (oj (A2 (o':=1) Z Z Er Ai Z (oj (Bh Z Z Ai (.head _) (Z) (oj (Eu Z Z Z (Ac (d:=29) (v:=.bool true) Z (Z) (oj (mv Z Z (oj (gt Z Z Z ((A2 (o':=2) Z Z Eq G4 Z (oj (gt Z Z Z ?_)))))))))))))))))))))))))))))
  refine (Bh Z Z G4 (.head _) (Z) (oj (gt Z Z Z ((eqs Z Z Z (oj (Cl Z Z Z (oj (bldA Z Tryz.underlying317 Is El Z (Ch Z Z (.tail (.head Z)) (Ch Z Z (.tail (.tail (.head Z))) (Ch Z Z (.tail (.tail (.tail (.head Z)))) .nil))) (oj (C7 Z El (fun r4=>(oj (C0 Z Z ty_317 Z Z .head (on (qn (Ab (Ab (Aa (oj (A2 (o':=0) Z Z Bq Ai Z (oj (Bh Z Z Ai (.tail _ (.head _)) (Z) (oj (Dd Z Z Z (Ac (d:=38) (v:=.bool false) Z (Z) ?_))))))))))))))))))))))))))
  refine oj (mv Z Z (oj (gt Z Z Z ((A2 (o':=0) Z Z Bq Ai Z (oj (gt Z Z Z ((Bh Z Z Ai (.tail _ (.head _)) (Z) (oj (gt Z Z Z ((gti Z Z Z (Ac (d:=42) (v:=.bool false) Z (Z) (oj (Df Z Z Z (oj (mv Z Z (oj (gt Z Z Z ((A2 (o':=0) Z Z Bq Ai Z (oj (gt Z Z Z ((Bh Z Z Ai (.tail _ (.head _)) (Z) (oj (gt Z Z Z ((Gj (n':=2) Z Z Z Tryz.underlying317 Is (by simp only [RV.kd]; omega) (Z) ?_))))))))))))))))))))))))))))))
  refine oj (gt Z Z Z ((Bh Z Z Is (.head _) (Z) (oj (gt Z Z Z ((not Z Z (Ac (d:=49) (v:=.bool false) Z (Z) (oj (Df Z Z Z (on (qn (Ap Z (fun h=>by cases h) (fun _=>(Ah (qn (Ab (Ab (Aa (oj (A2 (o':=0) Z Z Bq Ai Z (oj (Bh Z Z Ai (.tail _ (.head _)) (Z) ?_)))))))))))))))))))))))
  exact oj (Dd Z Z Z (Ac (d:=53) (v:=.bool true) Z (Z) (on (qn (Ap Z (fun _=>(Ab (Aa (oj (Ak Z Z (oj (Ak Z Z (on (qn (Af (qr (As () Z (.tmp Z (.tmp Z .nil)) Z tR (Bl _) (fun w h=>tR) (.inl Z))))))))))))) (fun h=>by cases h))))))
 ·refine oj (gf Z Z Z Z Z Z (oj (gf Z Z Z Z Z Z (oj (gf Z Z Z Z Z Z (oj (gf Z Z Z Z Z Z (oj (Df Z Z Z (oj (A2 (o':=1) Z Z Er Ai Z (oj (Bh Z Z Ai (.head _) (Z) (oj (Eu Z Z Z (Ac (d:=20) (v:=.bool true) Z (Z) (oj (mv Z Z (oj (gt Z Z Z ((A2 (o':=3) Z Z Cd B3 Z (oj (gt Z Z Z ((Bh Z Z B3 (.head _) (Z) (oj (gt Z Z Z ((Bn Z Z Tryz.underlying59 Z ?_))))))))))))))))))))))))))))))
  refine oj (gt Z Z Z ((Eu Z Z Z (Ac (d:=25) (v:=.bool true) Z (Z) (oj (Cl Z Z Z (oj (A2 (o':=1) Z Z Er Ai Z (oj (Bh Z Z Ai (.head _) (Z) (oj (Eu Z Z Z (Ac (d:=29) (v:=.bool true) Z (Z) (oj (mv Z Z (oj (gt Z Z Z ((A2 (o':=2) Z Z Eq G4 Z (oj (gt Z Z Z ((Bh Z Z G4 (.head _) (Z) (oj (gt Z Z Z ((eqs Z Z Z (oj (Cl Z Z Z ?_)))))))))))))))))))))))))))))
  refine oj (bldA Z Tryz.underlying317 Is El Z (Ch Z Z (.tail (.head Z)) (Ch Z Z (.tail (.tail (.head Z))) (Ch Z Z (.tail (.tail (.tail (.head Z)))) .nil))) (oj (C7 Z El (fun r4=>(oj (C0 Z Z ty_317 Z Z .head (on (qn (Ab (Ab (Aa (oj (A2 (o':=0) Z Z Bq Ai Z (oj (Bh Z Z Ai (.tail _ (.head _)) (Z) (oj (Dd Z Z Z (Ac (d:=38) (v:=.bool false) Z (Z) (oj (mv Z Z (oj (gt Z Z Z ((A2 (o':=0) Z Z Bq Ai Z (oj (gt Z Z Z ?_))))))))))))))))))))))))))
  refine (Bh Z Z Ai (.tail _ (.head _)) (Z) (oj (gt Z Z Z ((gti Z Z Z (Ac (d:=42) (v:=.bool false) Z (Z) (oj (Df Z Z Z (oj (mv Z Z (oj (gt Z Z Z ((A2 (o':=0) Z Z Bq Ai Z (oj (gt Z Z Z ((Bh Z Z Ai (.tail _ (.head _)) (Z) (oj (gt Z Z Z ((Gj (n':=2) Z Z Z Tryz.underlying317 Is (by simp only [RV.kd]; omega) (Z) (oj (gt Z Z Z ((Bh Z Z Is (.head _) (Z) (oj (gt Z Z Z ((not Z Z ?_))))))))))))))))))))))))))))))
  refine Ac (d:=49) (v:=.bool false) Z (Z) (oj (Df Z Z Z (on (qn (Ap Z (fun h=>by cases h) (fun _=>(Ah (qn (Ab (Ab (Aa (oj (A2 (o':=0) Z Z Bq Ai Z (oj (Bh Z Z Ai (.tail _ (.head _)) (Z) (oj (Dd Z Z Z (Ac (d:=53) (v:=.bool true) Z (Z) (on (qn ?_))))))))))))))))))))
  exact Ap Z (fun _=>(Ab (Aa (oj (Ak Z Z (oj (Ak Z Z (on (qn (Af (qr (As () Z (.tmp Z (.tmp Z .nil)) Z tR (Bl _) (fun w h=>tR) (.inl Z))))))))))))) (fun h=>by cases h)
theorem formed_list (l:List RV) (a:Option Addr) (cap:Nat) (hl:l.length≤140737488355328) (hdp:Gc (vals l) < 1000000) (ih:∀ x∈l,Ay Tryz.prog 204 [vA x] [] (fun w=>Cw x w∧True) (fun _:Unit=>⟨True,.tuple #[iv (x.val.dep:Int),.bool true],[],fun _=>True⟩)):Ay Tryz.prog 204 [vA (.list l a cap)] [] (fun w=>Sl 4 l.length (l.flatMap RV.cells) (.slice a l.length cap) w∧Bo l w∧True) (fun _:Unit=>⟨True,.tuple #[iv ((Val.list (vals l)).dep),.bool true],[],fun _=>True⟩):=by
 refine Aj Tryz.func204 Z Z fun X w0=>(Ab (Aa (oj (C6 Z Z (fun r1=>(oj (Ak Z Z (oj (Ak Z Z (on (qn (Ab (Aa (oj (A2 (o':=2) Z Z Eq G4 Z (oj (Bh Z Z G4 (.head _) (Z) (oj (eqs Z Z Z (Ac (d:=11) (v:=.bool true) Z ((by show Value.bool ((Iq _).toList == (Iq []).toList)=_; rw [bst_eq]; rfl)) (oj (mv Z Z (oj (gt Z Z Z ?_))))))))))))))))))))))))
 refine (A2 (o':=3) Z Z Cd B3 Z (oj (gt Z Z Z ((Bh Z Z B3 (.head _) (Z) (oj (gt Z Z Z ((Bn Z Z Tryz.underlying59 Z (oj (gt Z Z Z ((Eu Z Z Z (oj (Cl Z Z Z (oj (A2 (o':=1) Z Z Er Ai Z (oj (Bh Z Z Ai (.head _) (Z) (oj (Eu Z Z Z (Ac (d:=20) (v:=.bool true) Z (Z) (oj (mv Z Z (oj (gt Z Z Z ((A2 (o':=3) Z Z Cd B3 Z (oj (gt Z Z Z ?_))))))))))))))))))))))))))))))
 refine (Bh Z Z B3 (.head _) (Z) (oj (gt Z Z Z ((Bn Z Z Tryz.underlying59 Z (oj (gt Z Z Z ((Eu Z Z Z (oj (Cl Z Z Z (oj (A2 (o':=1) Z Z Er Ai Z (oj (Bh Z Z Ai (.head _) (Z) (oj (Eu Z Z Z (Ac (d:=29) (v:=.bool true) Z (Z) (oj (mv Z Z (oj (gt Z Z Z ((A2 (o':=2) Z Z Eq G4 Z (oj (gt Z Z Z ((Bh Z Z G4 (.head _) (Z) (oj (gt Z Z Z ?_))))))))))))))))))))))))))))))
 refine (eqs Z Z Z (Ac (d:=33) (v:=.bool true) Z ((by show Value.bool ((Iq _).toList == (Iq []).toList)=_; rw [bst_eq]; rfl)) (oj (Cl Z Z Z (oj (bldA Z Tryz.underlying317 Is El Z (Ch Z Z (.tail (.head Z)) (Ch Z Z (.tail (.tail (.head Z))) (Ch Z Z (.tail (.tail (.tail (.head Z)))) .nil))) (oj (C7 Z El (fun r4=>(oj (C0 Z Z ty_317 Z Z .head (on (qn (Ab (Ab (Aa (oj (A2 (o':=0) Z Z Bq Ai Z (oj (Bh Z Z Ai (.tail _ (.head _)) (Z) (oj (Dd Z Z Z (Ac (d:=38) (v:=.bool false) Z (Z) (oj (mv Z Z ?_)))))))))))))))))))))))))
 refine oj (gt Z Z Z ((A2 (o':=0) Z Z Bq Ai Z (oj (gt Z Z Z ((Bh Z Z Ai (.tail _ (.head _)) (Z) (oj (gt Z Z Z ((gti Z Z Z (Ac (d:=42) (v:=.bool false) Z (Z) (oj (Df Z Z Z (oj (mv Z Z (oj (gt Z Z Z ((A2 (o':=0) Z Z Bq Ai Z (oj (gt Z Z Z ((Bh Z Z Ai (.tail _ (.head _)) (Z) (oj (gt Z Z Z ((Gj (n':=3) Z Z Z Tryz.underlying317 Is (by simp only [RV.kd]; omega) (Z) (oj (gt Z Z Z ?_))))))))))))))))))))))))))))))
 refine (Bh Z Z Is (.head _) (Z) (oj (gt Z Z Z ((not Z Z (Ac (d:=49) (v:=.bool false) Z (Z) (oj (Df Z Z Z (on (qn (Ap Z (fun h=>by cases h) (fun _=>(Ah (qn (Ab (Ab (Aa (oj (A2 (o':=0) Z Z Bq Ai Z (oj (Bh Z Z Ai (.tail _ (.head _)) (Z) (oj (Dd Z Z Z ?_)))))))))))))))))))))))
 refine Ac (d:=53) (v:=.bool false) Z (Z) (on (qn (Ap Z (fun h=>by cases h) (fun _=>(Ah (qn (Ab (Ab (Aa (oj (A2 (o':=3) Z Z Cd B3 Z (oj (Bh Z Z B3 (.tail _ (.head _)) (Z) (oj (Bn Z Z Tryz.underlying59 Z (oj (mv Z Z (on (qn (Ag ?_))))))))))))))))))))
 refine Aw (fun (sT:(Nat))=>(⟨sT≤l.length,[(2,iv (Gc (vals (l.take sT)):Int)),(55,.slice a l.length cap),(56,iv l.length),(57,iv (sT:Int))],[],fun w=>Sl 4 l.length (l.flatMap RV.cells) (.slice a l.length cap) w∧Bo l w∧True,l.length-sT⟩:Hd)) (0) (Nat.zero_le _) (⟨Z,Z,Z,Z,tR⟩) (Bl _) (fun w h=>⟨(h.1),(h.2.1),tR⟩) ?_
 rintro i hi
 try dsimp only
 refine Ab (Aa (oj (Dd Z Z Z (on (qn (Ab ?_))))))
 refine A8 Z (fun ht=>?_) (fun hf=>?_)
 ·obtain ⟨x,hx⟩:∃ x,l[i]? = some x:=⟨_,List.getElem?_eq_getElem (by omega)⟩
  refine Ah (qn (Ab (Ag (Ab (Aa (oj (Fc Z Z Z Tryz.underlying59 Bi (by omega) (fun w h=>Sl.some (h.1) (by omega)) (oj (D4 Z Z Bi Z (fun w h=>Cv (h.1) (by decide) cells4 hx) (Ac (d:=60) (v:=vA x) Z Z (oj (C7 Z Cc (fun r6=>(oj (C0 Z Z Bi Z Z .head (on (qn (Ab (Aa (oj (Eb Z Z Bi (.head _) Z ?_)))))))))))))))))))))
  refine oj (Ao Z Z (.cons Z .nil) fb_204 (ih x (List.mem_of_getElem? hx))  (fun w h=>⟨Bo.get (h.2.1) hx,tR⟩) Z (fun _=>(Ae (fun w h=>h.2) (oj (mv Z Z (oj (ext Z Z Z (oj (ext Z Z Z (oj (Ak Z Z (oj (Ak Z Z (on (qn (Ab (Ab (Aa (oj (mv Z Z (oj (not Z Z (on (qn ?_))))))))))))))))))))))))
  refine Ap Z (fun h=>by cases h) (fun _=>(Ah (qn (Aa (oj (mv Z Z (oj (mv Z Z (oj (max2i Z Z Z ?_))))))))))
  exact Ac (d:=70) (v:=iv (Gc (vals (l.take (i+1))):Int)) Z (by rw [take_vals hx,depL_snoc]; congr 1; split <;> omega) (oj (Ak Z Z (on (bn (qn (Aa (oj (add Z Z Z (by omega) (oj (mv Z Z (on (qn (Ar (i+1) (by dsimp only; omega) (by (try dsimp only); omega) (⟨Z,Z,Z,Z,tR⟩) (Bl _) (fun w h=>⟨(h.1),(h.2.1),tR⟩))))))))))))))
 ·have h4:i=l.length:=by omega
  subst h4
  rw [List.take_length]
  exact A1 (qe (qe (be (qn (Ab (Aa (oj (mv Z Z (oj (add Z Z Z (by omega) (oj (Ak Z Z (oj (Ak Z Z (on (qn (Af (As () Z (.tmp Z (.tmp Z .nil)) Z tR .slnil (fun w h=>tR) (.inl Z)))))))))))))))))))
theorem formed_spec:∀ (v:RV),v.val.ok→v.val.dep≤1000000→Ay Tryz.prog 204 [vA v] [] (fun w=>Cw v w∧True) (fun _:Unit=>⟨True,.tuple #[iv (v.val.dep:Int),.bool true],[],fun _=>True⟩):=by
 refine RV.rec' ?_ ?_ ?_
 ·intro n a c _ _; exact G5 (formed_int n a c) (fun _ _=>trivial)
 ·intro s a c _ _; exact G5 (formed_text s a c) (fun _ _=>trivial)
 ·intro l a c ih hok hd
  simp only [RV.val,Val.ok,Val.dep,vals_len] at hok hd
  have hmem:∀ x∈l,x.val∈vals l:=fun x hx=>by rw [Cz]; exact List.mem_map.2 ⟨x,hx,rfl⟩
  refine G5 (formed_list l a c hok.1 (by omega) (fun x hx=>ih x hx (okL_mem hok.2 _ (hmem x hx)) (by have:=depL_mem _ (hmem x hx); omega))) (fun w h=>?_)
  have:=h.1
  simp only [Cw] at this
  exact ⟨this.1,this.2,tR⟩
theorem ccheck_spec (v:RV) (hok:v.val.ok) (hd:v.val.dep≤16):Ay Tryz.prog 139 [vA v] [] (fun w=>Cw v w∧True) (fun _:Unit=>⟨True,iv 0,[],fun _=>True⟩):=by
 refine Aj Tryz.func139 Z Z fun X w0=>(Ab (Aa (oj (C6 Z Z (fun r1=>(oj (Ak Z Z (on (qn (Ab (Aa (oj (Eb Z Z Bi (.head _) Z (oj (Ao Z Z (.cons Z .nil) fb_204 (formed_spec v hok (by omega))  (fun w h=>⟨(h.1),tR⟩) Z (fun _=>(Ae (fun w h=>h.2) (oj (mv Z Z (oj (ext Z Z Z (oj (ext Z Z Z (oj (Ak Z Z ?_)))))))))))))))))))))))))
 refine oj (Ak Z Z (on (qn (Ab (Ag (Ab (Aa (oj (mv Z Z (oj (not Z Z (oj (Ak Z Z (on (qn (Ap Z (fun h=>by cases h) (fun _=>(Ab (Aa (oj (mv Z Z ?_)))))))))))))))))))))
 exact oj (gti Z Z Z (oj (Ak Z Z (on (qn (A8 Z (fun ht=>absurd ht (by omega)) (fun hf=>(Ah (bn (qn (Ab (Aa (oj (Ak Z Z (on (qn (Af (As () Z (.tmp Z .nil) Z tR (Bl _) (fun w h=>tR) (.inl Z)))))))))))))))))))
theorem numB_lt {u:Nat} (h:u < 128):Dx u=[UInt8.ofNat u]:=by rw [Dx,if_pos h]
theorem numB_ge {u:Nat} (h : ¬ u < 128):Dx u=UInt8.ofNat (u % 128+128)::Dx (u / 128):=by rw [Dx,if_neg h]
theorem u8_mod (u:Nat):IntKind.wrap .u8 (u:Int)=((u % 256:Nat):Int):=by rw [H0]; rfl
theorem u8_or (u:Nat):bits .or .u8 (IntKind.wrap .u8 (u:Int)) 128=((UInt8.ofNat (u % 128+128)).toNat:Int):=by
 rw [u8_mod,or128 (Nat.mod_lt _ (by decide)),UInt8.toNat_ofNat']
 congr 1
 omega
theorem u8_low {u:Nat}:IntKind.wrap .u8 (u:Int)=((UInt8.ofNat u).toNat:Int):=by rw [u8_mod,UInt8.toNat_ofNat']
theorem numB_len {u:Nat} (h:u < 18446744073709551616):(Dx u).length≤10:=by
 have:∀ (k u:Nat),u < 128 ^ (k+1)→(Dx u).length≤k+1:=by
  intro k
  induction k with
  | zero=>intro u h; rw [numB_lt (by simpa using h)]; simp
  | succ k ih =>
   intro u h
   by_cases h1:u < 128
   ·rw [numB_lt h1]; simp
   ·rw [numB_ge h1,List.length_cons]
    have:=ih (u / 128) (by rw [Nat.div_lt_iff_lt_mul (by decide)]; rw [Nat.pow_succ] at h; exact h)
    omega
 exact this 9 u (Nat.lt_trans h (by decide))
theorem bcells1 (b:UInt8):An [b]=[.int .u8 (b.toNat:Int)]:=rfl
theorem unsigned_spec (n:Int) (hn : -9223372036854775808≤n∧n≤9223372036854775807):Ay Tryz.prog 207 [iv n] [] (fun _=>True) (fun _:Unit=>⟨True,nv (zz n),[],fun _=>True⟩):=by
 refine Aj Tryz.func207 Z Z fun X w0=>(Ab (Aa (oj (Ak Z Z (on (qn (Ab (Aa (oj (mv Z Z (oj (Ig Z Tryz.underlying3 Tryz.underlying205 Z (oj (shl Z Z Z (by decide) (oj (mv Z Z (oj (shr Z Z Z (by decide) (oj (Ig Z Tryz.underlying3 Tryz.underlying205 Z (oj (bxor Z Z Z (Ac (d:=9) (v:=nv (zz n)) Z (by rw [xor_zz hn]) ?_)))))))))))))))))))))))
 exact oj (Ak Z Z (on (qn (Af (As () Z (.tmp Z .nil) Z tR .slnil (fun w h=>tR) (.inl Z))))))
theorem numeral_spec (v:Value) (bs:List UInt8) (en:A9) (u:Nat) (hu:u < 18446744073709551616) (hlen:bs.length≤140737488300000) (hown:Own 5 1 v bs.length (An bs) en):Ay Tryz.prog 206 [v,nv u] [en] (fun _=>True) (fun x:Value × A9=>⟨Own 5 1 x.1 (bs++Dx u).length (An (bs++Dx u)) x.2,x.1,[x.2],fun _=>True⟩):=by
 refine Aj Tryz.func206 Z Z fun X w0=>?_
 have hnl:=numB_len hu
 refine Ab (Aa (oj (Ak Z Z (on (qn (Ab (Ag (Aw (fun (sT:(Nat) × (Value) × (A9) × (List UInt8))=>(⟨sT.1 < 18446744073709551616∧Own 5 1 sT.2.1 sT.2.2.2.length (An sT.2.2.2) sT.2.2.1∧sT.2.2.2++Dx sT.1=bs++Dx u,[(0,sT.2.1),(1,nv sT.1)],[sT.2.2.1],fun _=>True,sT.1⟩:Hd)) (u,v,en,bs) (⟨hu,hown,Z⟩) (⟨Z,Z,tR⟩) (.refl _) (fun w h=>tR) ?_))))))))
 rintro ⟨u1,v1,e1,bs1⟩ ⟨hu1,ho,he⟩
 try dsimp only
 try dsimp only at hu1 ho he
 have hl:=congrArg List.length he
 simp only [List.length_append] at hl
 refine Ab (Ab (Aa (oj (mv Z Z (oj (gei Z Z Z (on (qn ?_))))))))
 refine A8 Z (fun ht=>?_) (fun hf=>?_)
 ·refine Ah (qn (Ab (Ag (Aa (oj (mv Z Z (oj (mv Z Z (oj (Ig Z Tryz.underlying205 Tryz.underlying5 Z (oj (bor Z Z Z (Ac (d:=12) (v:=.int .u8 ((UInt8.ofNat (u1 % 128+128)).toNat:Int)) Z (by rw [u8_or]) (oj (F7 Z Tryz.underlying53 Bv zok_5 (C3 Z Z .nil) (by repeat (first | exact List.forall_mem_nil _ | refine List.forall_mem_cons.2 ⟨rfl,?_⟩)) Z (by decide) Z (fun r13=>?_))))))))))))))))
  refine oj (Ku Z Z Z Hj (by kernel_rfl) ho (i:=1) Z (fun w ho h=>Src.slice (Bc.at (r:=r13) (te:=5) (ho _ _ (.head _)) (fun j v hv=>by rw [Nat.zero_add]; exact hv)) Z Z) (by omega) (by simp only [maxLen]; omega) (fun v14 e14 ho14=>?_))
  try dsimp only [List.set]
  exact oj (Ak Z Z (on (bn (qn (Aa (oj (mv Z Z (oj (shrN (b:=7) Z Z Z Z Z (by omega) (oj (Ak Z Z (on (qn (Ar (u1 / 2 ^ 7,v14,e14,bs1++[UInt8.ofNat (u1 % 128+128)]) (by dsimp only; omega) (⟨by (try dsimp only); omega,by rw [List.length_append,Cs,bcells1]; exact ho14,by rw [numB_ge (by omega)] at he; rw [← he]; simp⟩) (⟨Z,Z,tR⟩) (.cons _ (.refl _)) (fun w h=>tR)))))))))))))))
 ·refine A1 (qe (qe (be (qn (Ab (Aa (oj (mv Z Z (oj (mv Z Z (oj (Ig Z Tryz.underlying205 Tryz.underlying5 Z (Ac (d:=17) (v:=.int .u8 ((UInt8.ofNat u1).toNat:Int)) Z (by rw [u8_low]) (oj (F7 Z Tryz.underlying53 Bv zok_5 (C3 Z Z .nil) (by repeat (first | exact List.forall_mem_nil _ | refine List.forall_mem_cons.2 ⟨rfl,?_⟩)) Z (by decide) Z (fun r18=>?_))))))))))))))))
  refine oj (Ku Z Z Z Hj (by kernel_rfl) ho (i:=1) Z (fun w ho h=>Src.slice (Bc.at (r:=r18) (te:=5) (ho _ _ (.head _)) (fun j v hv=>by rw [Nat.zero_add]; exact hv)) Z Z) (by omega) (by simp only [maxLen]; omega) (fun v19 e19 ho19=>?_))
  try dsimp only [List.set]
  refine oj (Ak Z Z (on (qn (Af ?_))))
  rw [numB_lt (by omega)] at he
  exact As (v19,e19) Z (.tmp Z .nil) Z (by rw [← he,List.length_append,Cs,bcells1]; exact ho19) (.cons _ (.refl _)) (fun w h=>tR) (.inl Z)
def wid (v:RV):Nat:=match v with | .int ..=>205 | .text ..=>208 | .list ..=>209
def wcap (r:Nat) (v:RV):List Value:=match v with | .list ..=>[Bg r 0] | _=>[]
abbrev wfn (r:Nat) (v:RV):Value:=.func (.func (wid v)) #[] (wcap r v).toArray
theorem wid_b (v:RV):Aq Tryz.prog (wid v)=true:=by cases v <;> kernel_rfl
abbrev wtab (r1:Nat):List Seg:=[S1 .nilFunc,S1 (.func (.func 205) #[] #[]),S1 (.func (.func 208) #[] #[]),S1 (.func (.func 209) #[] #[Bg r1 0])]
theorem wtab_at {r1:Nat} (v:RV):Hg (wtab r1) v.kd.toNat=some (wfn r1 v):=by cases v <;> rfl
theorem kd_lt (v:RV):0≤v.kd∧v.kd < 4:=by cases v <;> (simp only [RV.kd]; omega)
def WF (r1 r3:Nat) (w:World):Prop:=Bc r1 [S1 (Bg r3 0)] 200 w∧Bc r3 (wtab r1) 275 w
theorem wtab_row {r1 r3:Nat} {w:World} (h:WF r1 r3 w) (v:RV):At w ((some ((⟨r3,0,none⟩:Addr).add (v.kd.toNat*1))).map (·.add 0)) [wfn r1 v]:=by
 simp only [Option.map_some,Fk,Nat.mul_one,Nat.zero_add,Nat.add_zero]
 exact h.2.at1 (wtab_at v)
theorem w1_spec (n:Int) (a:Option Addr) (cap:Nat) (hn : -9223372036854775808≤n∧n≤9223372036854775807) (v:Value) (bs:List UInt8) (en:A9) (hlen:bs.length+(enc (.int n)).length≤140737488300000) (hown:Own 5 1 v bs.length (An bs) en):Ay Tryz.prog 205 [v,vA (.int n a cap)] [en] (fun _=>True) (fun x:Value × A9=>⟨Own 5 1 x.1 (bs++enc (.int n)).length (An (bs++enc (.int n))) x.2,x.1,[x.2],fun _=>True⟩):=by
 refine Aj Tryz.func205 Z Z fun X w0=>?_
 simp only [enc,List.length_cons] at hlen
 refine Ab (Aa (oj (C6 Z Z (fun r3=>(oj (Ak Z Z (on (qn (Ab (A5 mo (Cn (Am 1 _ _ Z).symm ?_)))))))))))
 try dsimp only [List.eraseIdx]
 refine Fp (dj_upd [0,3,4,1,2] (fun j=>Nat.beq j 1 || Nat.beq j 2) (by kernel_rfl) Z Z (.det _ (fun Q K R m k=>(mv Z Z k)) (.det _ (fun Q K R m k=>(A2 (o':=1) Z Z Er Ai Z k)) (.det _ (fun Q K R m k=>(Bh Z Z Ai (.head _) (Z) k)) (.up (γ:=Nat) (fun _=>True) _ (fun _=>_) _ Z (fun Q K R k=>(F7 Z Tryz.underlying53 Bv zok_5 (C3 (v:=.int .u8 1) Z Z .nil) (by repeat (first | exact List.forall_mem_nil _ | refine List.forall_mem_cons.2 ⟨rfl,?_⟩)) Z (by decide) Z (fun r6=>Al (.refl _) (Ae (fun w h=>⟨⟨h.1,h.2.1⟩,h.2.2⟩) (k r6 tR))))) ?_)))))
 rintro r6 _
 try dsimp only [List.nil_append,List.cons_append]
 refine .up (γ:=Value × A9) _ (fun x=>x.1) (fun x=>[x.2]) (fun _ _=>True) Z (fun Q K R k=>apdE Z Z Z Hj (by kernel_rfl) hown (fun w ho h=>Src.slice (Bc.at (r:=r6) (te:=5) (h.1.1.1) (fun j v hv=>by rw [Nat.zero_add]; exact hv)) Z Z) (by omega) (by simp only [maxLen]; omega) (fun x hx=>Ae (fun w h=>⟨⟨tR,h.1⟩,h.2⟩) (k x hx))) ?_
 rintro ⟨v7,e7⟩ ho7
 try dsimp only
 refine .nil (J1 1 ?_)
 dsimp only [List.take,List.drop,List.nil_append,List.cons_append]
 refine Ad 5 ((Ao Z Z (.cons Z .nil) fb_207 (unsigned_spec n hn)  (fun w h=>tR) Z (fun _=>(Ae (fun w h=>h.2) (Ad 6 ((Ce Z Z (.cons Z (.cons Z .nil)) fb_206 (numeral_spec v7 (bs++[1]) e7 (zz n) (zz_lt hn) (by simp only [List.length_append,List.length_singleton]; omega) (by rw [List.length_append,Cs]; exact ho7)) (fun _=>(.tail .head)) (fun _=>Z) (fun w h=>tR) ?_)))))))
 rintro ⟨v11,e11⟩ ho11
 try dsimp only at ho11
 try dsimp only
 exact Ad 7 ((Ak Z Z (A6 (qn (Af (As (v11,e11) Z (.tmp Z .nil) Z (by simpa [enc] using ho11) (.cons _ (.refl _)) (fun w h=>tR) (.inl Z)))))))
theorem w2_spec (s:List UInt8) (a:Option Addr) (cap:Nat) (hs:s.length≤140737488355328) (v:Value) (bs:List UInt8) (en:A9) (hlen:bs.length+(enc (.text s)).length≤140737488300000) (hown:Own 5 1 v bs.length (An bs) en):Ay Tryz.prog 208 [v,vA (.text s a cap)] [en] (fun _=>True) (fun x:Value × A9=>⟨Own 5 1 x.1 (bs++enc (.text s)).length (An (bs++enc (.text s))) x.2,x.1,[x.2],fun _=>True⟩):=by
 refine Aj Tryz.func208 Z Z fun X w0=>?_
 simp only [enc,List.length_cons,List.length_append] at hlen
 refine Ab (Aa (oj (C6 Z Z (fun r3=>(oj (Ak Z Z (on (qn (Ab (A5 mo (Cn (Am 1 _ _ Z).symm ?_)))))))))))
 try dsimp only [List.eraseIdx]
 refine Fp (dj_upd [0,3,4,5,6,8,9,1,2,7] (fun j=>Nat.beq j 1 || Nat.beq j 2 || Nat.beq j 7) (by kernel_rfl) Z Z (.det _ (fun Q K R m k=>(mv Z Z k)) (.det _ (fun Q K R m k=>(A2 (o':=2) Z Z Eq G4 Z k)) (.det _ (fun Q K R m k=>(Bh Z Z G4 (.head _) (Z) k)) (.det _ (fun Q K R m k=>(lenstr Z Z Tryz.underlying9 Z k)) (.det (nv s.length) (fun Q K R m k=>(Ig Z Tryz.underlying3 Tryz.underlying205 Z (B8 (by show Value.int .u64 (IntKind.wrap .u64 ((Iq s).size:Int))=_; rw [bst_size,C4 (by omega)]) k))) (.det _ (fun Q K R m k=>(A2 (o':=2) Z Z Eq G4 Z k)) (.det _ (fun Q K R m k=>(Bh Z Z G4 (.head _) (Z) k)) (.up (γ:=Nat) (fun _=>True) _ (fun _=>_) _ Z (fun Q K R k=>(F7 Z Tryz.underlying53 Bv zok_5 (C3 (v:=.int .u8 2) Z Z .nil) (by repeat (first | exact List.forall_mem_nil _ | refine List.forall_mem_cons.2 ⟨rfl,?_⟩)) Z (by decide) Z (fun r6=>Al (.refl _) (Ae (fun w h=>⟨⟨h.1,h.2.1⟩,h.2.2⟩) (k r6 tR))))) ?_)))))))))
 rintro r6 _
 try dsimp only [List.nil_append,List.cons_append]
 refine .up (γ:=Value × A9) _ (fun x=>x.1) (fun x=>[x.2]) (fun _ _=>True) Z (fun Q K R k=>apdE Z Z Z Hj (by kernel_rfl) hown (fun w ho h=>Src.slice (Bc.at (r:=r6) (te:=5) (h.1.1.1) (fun j v hv=>by rw [Nat.zero_add]; exact hv)) Z Z) (by omega) (by simp only [maxLen]; omega) (fun x hx=>Ae (fun w h=>⟨⟨tR,h.1⟩,h.2⟩) (k x hx))) ?_
 rintro ⟨v7,e7⟩ ho7
 try dsimp only
 refine .up _ _ _ _ Z (fun Q K R k=>Ks Z Z (.cons Z (.cons Z .nil)) fb_206 (numeral_spec v7 (bs++[2]) e7 s.length (by omega) (by simp only [List.length_append,List.length_singleton]; omega) (by rw [List.length_append,Cs]; exact ho7)) (fun _=>Z) (fun w h=>tR) (fun x hx=>Ae (fun w h=>⟨⟨h.1,h.2.1⟩,h.2.2⟩) (k x hx))) ?_
 rintro ⟨v12,e12⟩ ho12
 try dsimp only
 refine .nil (J1 1 ?_)
 dsimp only [List.take,List.drop,List.nil_append,List.cons_append]
 refine Ad 10 ((Ku Z Z Z Hj (by kernel_rfl) ho12 (i:=1) Z (fun w ho h=>Src.str) (by simp only [bst_size,List.length_append,List.length_singleton,RV.ss]; omega) (by simp only [maxLen,bst_size,List.length_append,List.length_singleton,RV.ss]; omega) (fun v15 e15 ho15=>?_)))
 try dsimp only [List.set]
 exact Ad 11 ((Ak Z Z (A6 (qn (Af (As (v15,e15) Z (.tmp Z .nil) Z (by rw [show bs++enc (.text s)=(bs++[2]++Dx s.length)++s from by simp [enc],List.length_append,Cs]; have h:=ho15; rw [bst_size] at h; exact h) (.cons _ (.refl _)) (fun w h=>tR) (.inl Z)))))))
def WSpec (r1 r3:Nat) (x:RV):Prop:=∀ (v:Value) (bs:List UInt8) (en:A9),bs.length+(enc x.val).length≤140737488300000→Own 5 1 v bs.length (An bs) en →
 Ay Tryz.prog (wid x) ([v,vA x]++wcap r1 x) [en] (fun w=>Cw x w∧WF r1 r3 w∧True) (fun x':Value × A9=>⟨Own 5 1 x'.1 (bs++enc x.val).length (An (bs++enc x.val)) x'.2,x'.1,[x'.2],fun _=>True⟩)
theorem encL_snoc {l:List RV} {i:Nat} {x:RV} (h:l[i]? = some x):E8 (vals (l.take (i+1)))=E8 (vals (l.take i))++enc x.val:=by rw [take_vals h,encL_app]; simp [E8]
theorem encL_take_le (l:List RV) (i:Nat):(E8 (vals (l.take i))).length≤(E8 (vals l)).length:=by
 have:vals l=vals (l.take i)++vals (l.drop i):=by rw [Cz,Cz,Cz,← List.map_append,List.take_append_drop]
 rw [this,encL_app,List.length_append]; omega
theorem w3_spec (r1 r3:Nat) (l:List RV) (a:Option Addr) (cap:Nat) (hl:l.length≤140737488355328) (ih:∀ x∈l,WSpec r1 r3 x) (v:Value) (bs:List UInt8) (en:A9) (hlen:bs.length+(enc (.list (vals l))).length≤140737488300000) (hown:Own 5 1 v bs.length (An bs) en):Ay Tryz.prog 209 [v,vA (.list l a cap),Bg r1 0] [en] (fun w=>Sl 4 l.length (l.flatMap RV.cells) (.slice a l.length cap) w∧Bo l w∧WF r1 r3 w∧True) (fun x:Value × A9=>⟨Own 5 1 x.1 (bs++enc (.list (vals l))).length (An (bs++enc (.list (vals l)))) x.2,x.1,[x.2],fun _=>True⟩):=by
 refine Aj Tryz.func209 Z Z fun X w0=>?_
 have henc:enc (.list (vals l))=3::(Dx l.length++E8 (vals l)):=by simp only [enc,vals_len]
 rw [henc] at hlen
 simp only [List.length_cons,List.length_append] at hlen
 refine Ab (Aa (oj (C6 Z Z (fun r4=>(oj (Ak Z Z (on (qn (Ab (A5 mo (Cn (Am 1 _ _ Z).symm ?_)))))))))))
 try dsimp only [List.eraseIdx]
 refine Fp (dj_upd [0,3,4,5,6,1,2] (fun j=>Nat.beq j 1 || Nat.beq j 2) (by kernel_rfl) Z Z (.det _ (fun Q K R m k=>(mv Z Z k)) (.det _ (fun Q K R m k=>(A2 (o':=3) Z Z Cd B3 Z k)) (.det _ (fun Q K R m k=>(Bh Z Z B3 (.head _) (Z) k)) (.det _ (fun Q K R m k=>(Bn Z Z Tryz.underlying59 Z k)) (.det (nv l.length) (fun Q K R m k=>(Ig Z Tryz.underlying3 Tryz.underlying205 Z (B8 (by show Value.int .u64 (IntKind.wrap .u64 (l.length:Int))=_; rw [C4 (by omega)]) k))) (.up (γ:=Nat) (fun _=>True) _ (fun _=>_) _ Z (fun Q K R k=>(F7 Z Tryz.underlying53 Bv zok_5 (C3 (v:=.int .u8 3) Z Z .nil) (by repeat (first | exact List.forall_mem_nil _ | refine List.forall_mem_cons.2 ⟨rfl,?_⟩)) Z (by decide) Z (fun r9=>Al (.refl _) (Ae (fun w h=>⟨⟨h.1,h.2.1⟩,h.2.2⟩) (k r9 tR))))) ?_)))))))
 rintro r9 _
 try dsimp only [List.nil_append,List.cons_append]
 refine .up (γ:=Value × A9) _ (fun x=>x.1) (fun x=>[x.2]) (fun _ _=>True) Z (fun Q K R k=>apdE Z Z Z Hj (by kernel_rfl) hown (fun w ho h=>Src.slice (Bc.at (r:=r9) (te:=5) (h.1.1.1) (fun j v hv=>by rw [Nat.zero_add]; exact hv)) Z Z) (by omega) (by simp only [maxLen]; omega) (fun x hx=>Ae (fun w h=>⟨⟨tR,h.1⟩,h.2⟩) (k x hx))) ?_
 rintro ⟨v10,e10⟩ ho10
 try dsimp only
 refine .nil (J1 1 ?_)
 dsimp only [List.take,List.drop,List.nil_append,List.cons_append]
 refine Ad 7 ((Ce Z Z (.cons Z (.cons Z .nil)) fb_206 (numeral_spec v10 (bs++[3]) e10 l.length (by omega) (by simp only [List.length_append,List.length_singleton]; omega) (by rw [List.length_append,Cs]; exact ho10)) (fun _=>(.tail .head)) (fun _=>Z) (fun w h=>tR) ?_))
 rintro ⟨v15,e15⟩ ho15
 try dsimp only at ho15
 try dsimp only
 refine Ad 8 ((Ak Z Z (A6 (qn (Ab (Ab (Aa (oj (A2 (o':=3) Z Z Cd B3 Z (oj (Bh Z Z B3 (.head _) (Z) (oj (Bn Z Z Tryz.underlying59 Z (oj (mv Z Z (on (qn (Ag (Aw (fun (sT:(Nat) × (Value) × (A9))=>(⟨sT.1≤l.length∧Own 5 1 sT.2.1 (bs++[3]++Dx l.length++E8 (vals (l.take sT.1))).length (An (bs++[3]++Dx l.length++E8 (vals (l.take sT.1)))) sT.2.2,[(0,sT.2.1),(2,Bg r1 0),(17,.slice a l.length cap),(18,iv l.length),(19,iv (sT.1:Int))],[sT.2.2],fun w=>Sl 4 l.length (l.flatMap RV.cells) (.slice a l.length cap) w∧Bo l w∧WF r1 r3 w∧True,l.length-sT.1⟩:Hd)) (0,v15,e15) (⟨Nat.zero_le _,by simpa [vals,E8] using ho15⟩) (⟨Z,Z,Z,Z,Z,tR⟩) (.cons _ (.refl _)) (fun w h=>⟨(Cu h),(Dw h),(Ez h),tR⟩) ?_)))))))))))))))))))
 rintro ⟨i,v1,e1⟩ ⟨hi,ho⟩
 try dsimp only
 try dsimp only at hi ho
 refine Ab (Aa (oj (Dd Z Z Z (on (qn (Ab ?_))))))
 refine A8 Z (fun ht=>?_) (fun hf=>?_)
 ·obtain ⟨x,hx⟩:∃ x,l[i]? = some x:=⟨_,List.getElem?_eq_getElem (by omega)⟩
  have hle:=encL_take_le l (i+1)
  rw [encL_snoc hx,List.length_append] at hle
  refine Ah (qn (Ab (Ag (Ab (Aa (oj (Fc Z Z Z Tryz.underlying59 Bi (by omega) (fun w h=>Sl.some (h.1) (by omega)) (oj (D4 Z Z Bi Z (fun w h=>Cv (h.1) (by decide) cells4 hx) (Ac (d:=22) (v:=vA x) Z Z (oj (C7 Z Cc (fun r7=>(oj (C0 Z Z Bi Z Z .head (on (qn (A5 mo (A3 [0,1,2,3,4,5,6,7,8] (fun _=>false) (by kernel_rfl) Z Z (.det _ (fun Q K R m k=>(A4 Z Z ty_200 (fun w h=>Bc.at1 (h.1.2.2.1).1 Z) k)) ?_))))))))))))))))))))
  refine .det _ (fun Q K R m k=>(A2 (o':=0) Z Z Bq Ai Z k)) (.det _ (fun Q K R m k=>(Bh Z Z Ai (.head _) (Z) k)) (.det _ (fun Q K R m k=>(Cq Z Z k)) (.det _ (fun Q K R m k=>(iaO Z Z Z Tryz.underlying275 ty_199 ((kd_lt x)) k)) (.det _ (fun Q K R m k=>(fadO Z Z Ko J6 (fun w h=>⟨_,Z⟩) k)) (.det _ (fun Q K R m k=>(A4 Z Z J6 (fun w h=>wtab_row (h.1.2.2.1) x) k)) (.det _ (fun Q K R m k=>(mv Z Z k)) (.det _ (fun Q K R m k=>(Eb Z Z Bi (.head _) Z k)) (.nil (Ad 9 ((Ce Z Z (.cons Z (.cons Z .nil)) (wid_b x) (ih x (List.mem_of_getElem? hx) v1 _ e1 (by simp only [List.length_append,List.length_singleton]; omega) ho) (fun _=>(.tail .head)) (fun _=>Z) (fun w h=>⟨Bo.get (h.2.1) hx,(h.2.2.1),tR⟩) ?_)))))))))))
  rintro ⟨v32,e32⟩ ho32
  try dsimp only at ho32
  try dsimp only
  exact Ad 10 ((Ak Z Z (A6 (bn (qn (Aa (oj (add Z Z Z (by omega) (oj (mv Z Z (on (qn (Ar (i+1,v32,e32) (by dsimp only; omega) (⟨by (try dsimp only); omega,by rw [encL_snoc hx,← List.append_assoc]; exact ho32⟩) (⟨Z,Z,Z,Z,Z,tR⟩) (.cons _ (.refl _)) (fun w h=>⟨(h.2.1),(h.2.2.1),(Cu h),tR⟩))))))))))))))
 ·have h4:i=l.length:=by omega
  subst h4
  rw [List.take_length] at ho
  exact A1 (qe (qe (be (qn (Ab (Aa (oj (mv Z Z (oj (Ak Z Z (on (qn (Af (As (v1,e1) Z (.tmp Z .nil) Z (by rw [henc]; simpa using ho) (.refl _) (fun w h=>tR) (.inl Z)))))))))))))))
theorem wspec_all (r1 r3:Nat):∀ v:RV,v.val.ok→WSpec r1 r3 v:=by
 refine RV.rec' ?_ ?_ ?_
 ·intro n a c hok v bs en hl ho; exact G5 (w1_spec n a c hok v bs en hl ho) (fun _ _=>trivial)
 ·intro s a c hok v bs en hl ho; exact G5 (w2_spec s a c hok v bs en hl ho) (fun _ _=>trivial)
 ·intro l a c ih hok v bs en hl ho
  simp only [RV.val,Val.ok,vals_len] at hok
  have hmem:∀ x∈l,x.val∈vals l:=fun x hx=>by rw [Cz]; exact List.mem_map.2 ⟨x,hx,rfl⟩
  refine G5 (w3_spec r1 r3 l a c hok.1 (fun x hx=>ih x hx (okL_mem hok.2 _ (hmem x hx))) v bs en hl ho) (fun w h=>?_)
  have:=h.1
  simp only [Cw] at this
  exact ⟨this.1,this.2,h.2.1,tR⟩
theorem newWriter_spec  : Ay Tryz.prog 140 [] [] (fun _=>True) (fun r:Nat × Nat=>⟨True,Bg r.2 0,[],fun w=>WF r.1 r.2 w∧True⟩):=by
 refine Aj Tryz.func140 Z Z fun X w0=>(Ab (Aa (oj (Ak Z Z (on (qn (Ab (Aa (oj (bdzA Z Tryz.underlying275 ty_199 zaok_275 (oj (C6 Z Z (fun r3=>(oj (C7 Z zok_200 (fun r1=>(oj (Cr Z Z ty_200 Z .head (.head Z) Z (on (qn (Ab (Aa ?_))))))))))))))))))))))
 refine oj (Bh Z Z ty_200 (.head _) (Z) (oj (Cq Z Z (oj (Gj (n':=1) Z Z Z Tryz.underlying275 ty_199 (by decide) Z (oj (A2 (o':=1) Z Z Ko J6 Z (oj (Cr Z Z J6 Z (.tail .head) (.tail (.head Z)) Z (on (qn (Ab (Aa (oj (Bh Z Z ty_200 (.head _) (Z) (oj (Cq Z Z (oj (Gj (n':=2) Z Z Z Tryz.underlying275 ty_199 (by decide) Z (oj (A2 (o':=2) Z Z Ko J6 Z (oj (Cr Z Z J6 Z (.tail .head) (.tail (.tail (.head Z))) Z (on (qn ?_)))))))))))))))))))))))))
 refine Ab (Aa (oj (Bh Z Z ty_200 (.head _) (Z) (oj (mkF Z .nil (.cons Z .nil) (oj (Cq Z Z (oj (Gj (n':=3) Z Z Z Tryz.underlying275 ty_199 (by decide) Z (oj (A2 (o':=3) Z Z Ko J6 Z (oj (Cr Z Z J6 Z (.tail .head) (.tail (.tail (.tail (.head Z)))) Z (on (qn (Ab (Aa (oj (Bh Z Z ty_200 (.head _) (Z) (oj (Ak Z Z (on (qn ?_)))))))))))))))))))))))
 refine Af (Al (Am 0 _ _ Z) ?_)
 try dsimp only [List.eraseIdx]
 refine Al (Am 0 _ _ Z) ?_
 try dsimp only [List.eraseIdx]
 exact As (r1,r3) Z (.tmp Z .nil) Z tR .slnil (fun w h=>⟨⟨(h.2.1.1),(h.1.1)⟩,tR⟩) (.inl Z)
theorem encode_spec (v:RV) (hok:v.val.ok) (hd:v.val.dep≤16) (hlen:(enc v.val).length≤140737488300000):Ay Tryz.prog 63 [vA v] [] (fun w=>Cw v w∧True) (fun x:Option Addr × Nat=>⟨(enc v.val).length≤x.2,.tuple #[.slice x.1 (enc v.val).length x.2,iv 0],[],fun w=>Sl 1 (enc v.val).length (An (enc v.val)) (.slice x.1 (enc v.val).length x.2) w∧True⟩):=by
 refine Aj Tryz.func63 Z Z fun X w0=>(Cx (Ab (Aa (oj (C6 Z Z (fun r1=>(oj (Ak Z Z (oj (Ak Z Z (on (qn (Ab (Ab (Aa (oj (Eb Z Z Bi (.head _) Z (oj (Ao Z Z (.cons Z .nil) fb_139 (ccheck_spec v hok hd)  (fun w h=>⟨(h.1),tR⟩) Z (fun _=>(Ae (fun w h=>h.2) (oj (Ak Z Z ?_)))))))))))))))))))))))
 refine on (qn (Ab (Aa (oj (mv Z Z (oj (G2 Z Z Z (on (qn (C5 Z (fun ht=>absurd ht (by omega)) (fun hf=>(Ah (qn (Ab (A5 mo (A3 [1,2,7,0,3,4,5,6] (fun j=>Nat.beq j 0) (by kernel_rfl) Z Z (.det _ (fun Q K R m k=>(A2 (o':=0) Z Z Bq Ai Z k)) (.det _ (fun Q K R m k=>(Bh Z Z Ai (.head _) (Z) k)) ?_))))))))))))))))))
 refine .det _ (fun Q K R m k=>(Eb Z Z Bi (.head _) Z k)) (.gh _ _ _ _ Z (fun Q K R k=>call Z Z .nil fb_140 (newWriter_spec )  (fun w h=>tR) (fun x hx=>Ae (fun w h=>⟨⟨h.1,h.2.1⟩,h.2.2⟩) (k x hx))) (fun _=>by exact ⟨[],by simp⟩) ?_)
 rintro ⟨q1,q3⟩ _
 try dsimp only [List.nil_append,List.cons_append]
 refine .det _ (fun Q K R m k=>(Cq Z Z k)) (.det _ (fun Q K R m k=>(iaO Z Z Z Tryz.underlying275 ty_199 ((kd_lt v)) k)) (.det _ (fun Q K R m k=>(fadO Z Z Ko J6 (fun w h=>⟨_,Z⟩) k)) (.det _ (fun Q K R m k=>(A4 Z Z J6 (fun w h=>wtab_row (h.1.1.1) v) k)) (.nil (Ad 8 ((Ce Z Z (.cons Z (.cons Z .nil)) (wid_b v) (wspec_all q1 q3 v hok (.slice none 0 0) [] none (by simpa using hlen) .nil) (fun _=>(.tail .head)) (fun _=>Z) (fun w h=>⟨(h.2.1),(h.1.1),tR⟩) ?_)))))))
 rintro ⟨v18,e18⟩ ho18
 try dsimp only at ho18
 try dsimp only
 refine Ad 9 ((Ak Z Z (Ad 10 ((Ak Z Z (A6 (qn (Af ?_))))))))
 rw [List.nil_append] at ho18
 obtain ⟨av,cv,rfl,hcv⟩:=ho18.shape'
 refine By (i:=1) Z ho18 (Co _) ?_
 try dsimp only [List.eraseIdx]
 exact As (av,cv) Z (.tmp Z (.tmp Z .nil)) Z hcv (Bl _) (fun w h=>⟨(h.1.1),tR⟩) (.inl Z)
abbrev D6 (n:Int):RV:=.int n none 0
abbrev rvT (s:List UInt8):RV:=.text s none 0
abbrev vS (v:RV):Seg:=Fr 4 v.cells
theorem Jp (v:RV):v.cells.all (·.oneCell')=true:=rfl
theorem vals_int (xs:List Int):vals (xs.map D6)=xs.map Val.int:=by rw [Cz,List.map_map]; rfl
theorem isFolder_spec (n:Int):Ay Tryz.prog 66 [iv n] [] (fun _=>True) (fun _:Unit=>⟨True,.bool (decide (0≤n) && decide (n < 16)),[],fun _=>True⟩):=by
 refine Aj Tryz.func66 Z Z fun X w0=>(Ab (Aa (oj (Ak Z Z (on (qn (Ab (Aa (oj (mv Z Z (oj (gei Z Z Z (oj (mv Z Z ?_))))))))))))))
 refine B5 (d:=5) Z (fun ht=>?_) (fun hf=>?_)
 ·exact oj (gt Z Z Z ((mv Z Z (oj (gt Z Z Z ((Dd Z Z Z (oj (Cl Z Z Z (oj (Ak Z Z (on (qn (Af (Ac (d:=2) (v:=.bool (decide (0≤n) && decide (n < 16))) Z (by simp only [*]; simp_all) (As () Z (.tmp Z .nil) Z tR .slnil (fun w h=>tR) (.inl Z)))))))))))))))))
 ·exact oj (gf Z Z Z Z Z Z (oj (gf Z Z Z Z Z Z (oj (Df Z Z Z (oj (Ak Z Z (on (qn (Af (Ac (d:=2) (v:=.bool (decide (0≤n) && decide (n < 16))) Z (by simp only [*]; simp_all) (As () Z (.tmp Z .nil) Z tR .slnil (fun w h=>tR) (.inl Z)))))))))))))
theorem J8 (n:Int):Ay Tryz.prog 67 [iv n] [] (fun _=>True) (fun _:Unit=>⟨True,.bool (decide (0≤n) && decide (n < 512)),[],fun _=>True⟩):=by
 refine Aj Tryz.func67 Z Z fun X w0=>(Ab (Aa (oj (Ak Z Z (on (qn (Ab (Aa (oj (mv Z Z (oj (gei Z Z Z (oj (mv Z Z ?_))))))))))))))
 refine B5 (d:=5) Z (fun ht=>?_) (fun hf=>?_)
 ·exact oj (gt Z Z Z ((mv Z Z (oj (gt Z Z Z ((Dd Z Z Z (oj (Cl Z Z Z (oj (Ak Z Z (on (qn (Af (Ac (d:=2) (v:=.bool (decide (0≤n) && decide (n < 512))) Z (by simp only [*]; simp_all) (As () Z (.tmp Z .nil) Z tR .slnil (fun w h=>tR) (.inl Z)))))))))))))))))
 ·exact oj (gf Z Z Z Z Z Z (oj (gf Z Z Z Z Z Z (oj (Df Z Z Z (oj (Ak Z Z (on (qn (Af (Ac (d:=2) (v:=.bool (decide (0≤n) && decide (n < 512))) Z (by simp only [*]; simp_all) (As () Z (.tmp Z .nil) Z tR .slnil (fun w h=>tR) (.inl Z)))))))))))))
theorem Gb (l:List RV) (a:Option Addr) (n cap:Nat) (hn:l.length=n):Ay Tryz.prog 64 [.slice a n cap] [] (fun _=>True) (fun _:Unit=>⟨True,vA (.list l a cap),[],fun _=>True⟩):=by
 refine Aj Tryz.func64 Z Z fun X w0=>?_
 subst hn
 exact Ab (Aa (oj (C7 Z Cc (fun r2=>(on (qn (Ab (Aa (oj (mv Z Z (oj (bld Z J7 (Ch Z Z (.head Z) (Ch Z Z (.tail (.tail (.tail (.head Z)))) .nil)) (oj (C0 Z Z Bi Z Z .head (on (qn (Af (As () Z (.cellW Z Bi (.head _) Z .nil) Z tR (Bl _) (fun w h=>tR) (.inl Z)))))))))))))))))))
theorem D0 (n:Int):Ay Tryz.prog 142 [iv n] [] (fun _=>True) (fun _:Unit=>⟨True,vA (D6 n),[],fun _=>True⟩):=by
 exact Aj Tryz.func142 Z Z fun X w0=>(Ab (Aa (oj (C7 Z Cc (fun r2=>(on (qn (Ab (Aa (oj (mv Z Z (oj (bld Z J7 (Ch Z Z (.head Z) (Ch Z Z (.tail (.head Z)) .nil)) (oj (C0 Z Z Bi Z Z .head (on (qn (Af (As () Z (.cellW Z Bi (.head _) Z .nil) Z tR (Bl _) (fun w h=>tR) (.inl Z))))))))))))))))))))
theorem text_spec (bs:List UInt8) (a:Option Addr) (cap:Nat):Ay Tryz.prog 143 [.slice a bs.length cap] [] (fun w=>Sl 1 bs.length (An bs) (.slice a bs.length cap) w∧True) (fun _:Unit=>⟨True,vA (rvT bs),[],fun _=>True⟩):=by
 exact Aj Tryz.func143 Z Z fun X w0=>(Ab (Aa (oj (C7 Z Cc (fun r2=>(on (qn (Ab (Aa (oj (mv Z Z (oj (cvbs Z Z Tryz.underlying53 Tryz.underlying9 Tryz.underlying5 (fun w ho h=>(h.1)) (oj (bld Z J7 (Ch Z Z (.head Z) (Ch Z Z (.tail (.tail (.head Z))) .nil)) (oj (C0 Z Z Bi Z Z .head (on (qn (Af (As () Z (.cellW Z Bi (.head _) Z .nil) Z tR (Bl _) (fun w h=>tR) (.inl Z))))))))))))))))))))))
theorem numbers_spec (a:Option Addr) (n cap:Nat) (xs:List Int) (hn:xs.length=n) (hn2:n≤1000000):Ay Tryz.prog 141 [.slice a n cap] [] (fun w=>Sl 1 n (xs.flatMap (fun x=>[iv x])) (.slice a n cap) w∧True) (fun x:Option Addr × Nat=>⟨n≤x.2,.slice x.1 n x.2,[],fun w=>Sl 4 n ((xs.map D6).flatMap RV.cells) (.slice x.1 n x.2) w∧True⟩):=by
 refine Aj Tryz.func141 Z Z fun X w0=>(Cx (Ab (Aa (oj (Ak Z Z (on (qn (Ab (Aa (oj (Ak Z Z (on (qn (Ab (Ab (Aa (oj (mv Z Z ?_))))))))))))))))))
 refine oj (Bn Z Z Tryz.underlying31 Z (oj (mv Z Z (on (qn (Ag (Aw (fun (sT:(Nat) × (Value) × (A9))=>(⟨sT.1≤n∧Own 61 4 sT.2.1 sT.1 (((xs.take sT.1).map D6).flatMap RV.cells) sT.2.2,[(3,sT.2.1),(6,.slice a n cap),(7,iv n),(8,iv (sT.1:Int))],[sT.2.2],fun w=>Sl 1 n (xs.flatMap (fun x=>[iv x])) (.slice a n cap) w∧True,n-sT.1⟩:Hd)) (0,.slice none 0 0,none) (⟨Nat.zero_le _,.nil⟩) (⟨Z,Z,Z,Z,tR⟩) (.refl _) (fun w h=>⟨(h.1),tR⟩) ?_)))))))
 rintro ⟨i,v,en⟩ ⟨hi,ho⟩
 try dsimp only
 try dsimp only at hi ho
 refine Ab (Aa (oj (Dd Z Z Z (on (qn (Ab ?_))))))
 refine A8 Z (fun ht=>?_) (fun hf=>?_)
 ·obtain ⟨x,hx⟩:∃ x,xs[i]? = some x:=⟨_,List.getElem?_eq_getElem (by omega)⟩
  refine Ah (qn (Ab (Ag (Ab (Aa (oj (Fc Z Z Z Tryz.underlying31 Ai (by omega) (fun w h=>Sl.some (h.1) (by omega)) (oj (A4 Z Z Ai (fun w h=>Sl.elem1 (h.1) (Dh hx)) (oj (Ak Z Z (on (qn (Aa (oj (mv Z Z (oj (mv Z Z (oj (Ao Z Z (.cons Z .nil) Jm (D0 x)  (fun w h=>tR) Z (fun _=>(Ae (fun w h=>h.2) ?_))))))))))))))))))))))
  refine oj (F7 Z Tryz.underlying59 Bi Cc (.agg (s:=vS (D6 x)) Z .nil) (by repeat (first | exact List.forall_mem_nil _ | refine List.forall_mem_cons.2 ⟨rfl,?_⟩)) Z (by decide) Z (fun r15=>?_))
  refine Al (Am 0 _ _ Z) ?_
  try dsimp only [List.eraseIdx]
  refine oj (Ku Z Z Z el_59 (by kernel_rfl) ho (i:=0) Z (fun w ho h=>Bc.src (h.1.1) Z) (by omega) (by simp only [maxLen]; omega) (fun v16 e16 ho16=>?_))
  try dsimp only [List.set]
  exact oj (Ak Z Z (on (bn (qn (Aa (oj (add Z Z Z (by omega) (oj (mv Z Z (on (qn (Ar (i+1,v16,e16) (by dsimp only; omega) (⟨by (try dsimp only); omega,by rw [A7 hx,List.map_append,List.map_singleton,Dj]; exact ho16⟩) (⟨Z,Z,Z,Z,tR⟩) (.refl _) (fun w h=>⟨(h.2.1),tR⟩)))))))))))))
 ·have h4:i=n:=by omega
  subst h4
  rw [List.take_of_length_le (by omega)] at ho
  refine A1 (qe (qe (be (qn (Ab (Aa (oj (mv Z Z (oj (Ak Z Z (on (qn (Af ?_)))))))))))))
  obtain ⟨av,cv,rfl,hcv⟩:=ho.shape'
  refine By (i:=0) Z ho (Do Jp _) ?_
  try dsimp only [List.eraseIdx]
  exact As (av,cv) Z (.tmp Z .nil) Z hcv .slnil (fun w h=>⟨(h.1.1),tR⟩) (.inl Z)
end Go.Chx
