/- Part of the proof that the law CommitsMembers holds. -/
import Derived.Test.YtegbaopejhpnkaaGreatDoorAa
import Derived.Test.YtegbaopejhpnkaaGreatDoorAg
import Derived.Test.YtegbaopejhpnkaaGreatDoorAh
import Derived.Test.YtegbaopejhpnkaaGreatDoorAj
import Derived.Test.YtegbaopejhpnkaaGreatDoorAk
import Derived.Test.YtegbaopejhpnkaaGreatDoorAl
namespace Go.Chx
open Go Go.Proofs
set_option maxHeartbeats 1000000
set_option maxRecDepth 4000
structure Chg where
 (k d p v c:Int)
abbrev Chg.ints (x:Chg):List Int:=[x.k,x.d,x.p,x.v,x.c]
abbrev Chg.cells (x:Chg):List Value:=[iv x.k,iv x.d,iv x.p,iv x.v,iv x.c]
def chgV (x:Chg):Val:=.list (x.ints.map .int)
structure Bxx where
 (n lv u:Int)
 b:List UInt8
 a:Option Addr
 c:Nat
abbrev Bxx.cells (x:Bxx):List Value:=[iv x.n,iv x.lv,iv x.u,.slice x.a x.b.length x.c]
def bxxV (x:Bxx):Val:=.list [.int x.n,.int x.lv,.int x.u,.text x.b]
structure Wlc where
 (d u:Int)
 b:List UInt8
 a:Option Addr
 c:Nat
abbrev Wlc.cells (x:Wlc):List Value:=[iv x.d,iv x.u,.slice x.a x.b.length x.c]
def J5 (x:Wlc):Val:=.list [.int x.d,.int x.u,.text x.b]
structure Cm where
 (folder epoch author sr ss:Int)
 (parent confirm:Dig)
 ch:List Chg
 path:List Int
 bx:List Bxx
 wl:List Wlc
 (cA pA bA wA:Option Addr)
 (cC pC bC wC:Nat)
abbrev sgS (r s:Int):Seg:=Fr 2 [iv r,iv s]
abbrev Cm.segs (c:Cm):List Seg:=[S1 (iv c.folder),S1 (iv c.epoch),sd c.parent,S1 (iv c.author),S1 (.slice c.cA c.ch.length c.cC),S1 (.slice c.pA c.path.length c.pC),S1 (.slice c.bA c.bx.length c.bC),S1 (.slice c.wA c.wl.length c.wC),sd c.confirm,sgS c.sr c.ss]
def Cb (c:Cm):List Val:=[.int c.folder,.int c.epoch,.text c.parent.b,.int c.author,.list (c.ch.map chgV),.list (c.path.map .int),.list (c.bx.map bxxV),.list (c.wl.map J5),.text c.confirm.b,.int c.sr,.int c.ss]
abbrev CF1 (c:Cm):World→Prop:=Sl 5 c.ch.length (c.ch.flatMap Chg.cells) (.slice c.cA c.ch.length c.cC)
abbrev CF2 (c:Cm):World→Prop:=Sl 1 c.path.length (c.path.flatMap (fun x=>[iv x])) (.slice c.pA c.path.length c.pC)
abbrev CF3 (c:Cm):World→Prop:=Sl 4 c.bx.length (c.bx.flatMap Bxx.cells) (.slice c.bA c.bx.length c.bC)
def CF4 (c:Cm) (w:World):Prop:=∀ b∈c.bx,Sl 1 b.b.length (An b.b) (.slice b.a b.b.length b.c) w
abbrev CF5 (c:Cm):World→Prop:=Sl 3 c.wl.length (c.wl.flatMap Wlc.cells) (.slice c.wA c.wl.length c.wC)
def CF6 (c:Cm) (w:World):Prop:=∀ b∈c.wl,Sl 1 b.b.length (An b.b) (.slice b.a b.b.length b.c) w
structure CmB (c:Cm):Prop where
 h1:c.ch.length≤1000
 h2:c.path.length≤1000
 h3:c.bx.length≤100000
 h4:c.wl.length≤1000
abbrev lsegs (a:Option Addr) (n c:Nat):List Seg:=[S1 (iv 3),S1 (iv 0),S1 (.string (Iq [])),S1 (.slice a n c)]
theorem Hn (l:List RV) (x:RV):vals (l++[x])=vals l++[x.val]:=by rw [Cz,Cz,List.map_append]; rfl
theorem Gr (c:Cm) (hb:CmB c):Ay Tryz.prog 65 [av c.segs] [] (fun w=>CF1 c w∧CF2 c w∧CF3 c w∧CF4 c w∧CF5 c w∧CF6 c w∧True) (fun x:List RV × Option Addr × Nat=>⟨vals x.1=Cb c∧x.1.length=11∧11≤x.2.2,.slice x.2.1 11 x.2.2,[],fun w=>Sl 4 11 (x.1.flatMap RV.cells) (.slice x.2.1 11 x.2.2) w∧Bo x.1 w∧True⟩):=by
 refine Aj Tryz.func65 Z Z fun X w0=>(Cx ?_)
 obtain ⟨hb1,hb2,hb3,hb4⟩:=hb
 refine Ab (Aa (oj (C6 Z Z (fun r1=>(Al (Am 0 _ _ Z) ?_)))))
 try dsimp only [List.eraseIdx]
 refine oj (Ak Z Z (on (qn (Ab (Aa (oj (Ao Z Z (.cons Z .nil) fb_64 (Gb [] none 0 0 Z)  (fun w h=>tR) Z (fun _=>(Ae (fun w h=>h.2) (oj (Ao Z Z (.cons Z .nil) fb_64 (Gb [] none 0 0 Z)  (fun w h=>tR) Z (fun _=>(Ae (fun w h=>h.2) (oj (Ao Z Z (.cons Z .nil) fb_64 (Gb [] none 0 0 Z)  (fun w h=>tR) Z (fun _=>(Ae (fun w h=>h.2) (oj (C7 Z Cc (fun r3=>(oj (C7 Z Cc (fun r4=>(oj (C7 Z Cc (fun r5=>(oj (C0 Z Z Bi Z Z (.tail (.tail .head)) (oj (C0 Z Z Bi Z Z (.tail .head) ?_))))))))))))))))))))))))))))))
 refine oj (C0 Z Z Bi Z Z .head (on (qn (Ab (Ab (Aa (oj (A2 (o':=35) Z Z Es Et Z (oj (A4 Z Z Et (fun w h=>Bc.at1 h.1.1 Z) (oj (Bn Z Z Tryz.underlying30 Z (oj (mv Z Z (on (qn (Ag (Aw (fun (sT:(Nat) × (Option Addr) × (Nat) × (A9) × (List RV))=>(⟨sT.1≤c.ch.length∧Own 61 4 (.slice sT.2.1 sT.1 sT.2.2.1) sT.1 (sT.2.2.2.2.flatMap RV.cells) sT.2.2.2.1∧vals sT.2.2.2.2=(c.ch.take sT.1).map chgV∧sT.2.2.2.2.length=sT.1,[(1,Bg r1 0),(3,Bg r3 0),(4,Bg r4 0),(5,Bg r5 0),(16,.slice c.cA c.ch.length c.cC),(17,iv c.ch.length),(18,iv (sT.1:Int))],[bx r5 (lsegs none 0 0) 61,bx r4 (lsegs none 0 0) 61,bx r3 (lsegs sT.2.1 sT.1 sT.2.2.1) 61,sT.2.2.2.1],fun w=>CF1 c w∧CF2 c w∧CF3 c w∧CF4 c w∧CF5 c w∧CF6 c w∧Bc r1 c.segs 37 w∧Bo sT.2.2.2.2 w∧True,c.ch.length-sT.1⟩:Hd)) (0,none,0,none,[]) (⟨Nat.zero_le _,.nil,Z,Z⟩) (⟨Z,Z,Z,Z,Z,Z,Z,tR⟩) (.refl _) (fun w h=>⟨(h.2.1),(h.2.2.1),(Cu h),(Dw h),(Ez h),(Ec h),(h.1.1),tR,tR⟩) ?_))))))))))))))))))
 rintro ⟨i1,va1,vc1,e1,rs1⟩ ⟨hi1,ho1,hv1,hl1⟩
 try dsimp only
 try dsimp only at hi1 ho1 hv1 hl1
 refine Ab (Aa (oj (Dd Z Z Z (on (qn (Ab ?_))))))
 refine A8 Z (fun ht=>?_) (fun hf=>?_)
 ·obtain ⟨x,hx⟩:∃ x,c.ch[i1]? = some x:=⟨_,List.getElem?_eq_getElem (by omega)⟩
  refine Ah (qn (Ab (Ag (Ab (Aa (oj (Fc Z Z Z Tryz.underlying30 Cp (by omega) (fun w h=>Sl.some (h.1) (by omega)) (oj (D4 Z Z Cp Z (fun w h=>Cv (h.1) (by decide) (fun _=>Z) hx) (Ac (d:=21) (v:=av [S1 (iv x.k),S1 (iv x.d),S1 (iv x.p),S1 (iv x.v),S1 (iv x.c)]) Z Z (oj (C7 Z Fv (fun r7=>(oj (C0 Z Z Cp Z Z .head (on (qn (A5 mo (A3 [0,1,2,3,4,5,6,7,8,9,10,11,12,13,14,15] (fun j=>Nat.beq j 12 || Nat.beq j 13 || Nat.beq j 15) (by kernel_rfl) Z Z (.det _ (fun Q K R m k=>(A2 (o':=3) Z Z Cd B3 Z k)) ?_))))))))))))))))))))
  refine .det _ (fun Q K R m k=>(Bh Z Z B3 (.tail _ (.tail _ (.tail _ (.head _)))) (Z) k)) (.det _ (fun Q K R m k=>(A2 (o':=0) Z Z F0 Ai Z k)) (.det _ (fun Q K R m k=>(Bh Z Z Ai (.head _) (Z) k)) (.det _ (fun Q K R m k=>(A2 (o':=1) Z Z Ds Ai Z k)) (.det _ (fun Q K R m k=>(Bh Z Z Ai (.head _) (Z) k)) (.det _ (fun Q K R m k=>(A2 (o':=2) Z Z Kk Ai Z k)) (.det _ (fun Q K R m k=>(Bh Z Z Ai (.head _) (Z) k)) (.det _ (fun Q K R m k=>(A2 (o':=3) Z Z H6 Ai Z k)) (.det _ (fun Q K R m k=>(Bh Z Z Ai (.head _) (Z) k)) (.det _ (fun Q K R m k=>(A2 (o':=4) Z Z fld_49_4 Ai Z k)) (.det _ (fun Q K R m k=>(Bh Z Z Ai (.head _) (Z) k)) (.gh (γ:=Nat) (fun _=>True) _ _ _ Z (fun Q K R k=>(F7 Z Tryz.underlying31 Ai Gd (C3 (v:=iv x.k) Z Z (C3 (v:=iv x.d) Z Z (C3 (v:=iv x.p) Z Z (C3 (v:=iv x.v) Z Z (C3 (v:=iv x.c) Z Z .nil))))) (by repeat (first | exact List.forall_mem_nil _ | refine List.forall_mem_cons.2 ⟨rfl,?_⟩)) Z (by decide) Z (fun r34=>Al (.refl _) (Ae (fun w h=>⟨⟨h.1,h.2.1⟩,h.2.2⟩) (k r34 tR))))) (fun _=>by exact ⟨[],by simp⟩) ?_)))))))))))
  rintro r34 _
  try dsimp only [List.nil_append,List.cons_append]
  refine .gh _ _ _ _ Z (fun Q K R k=>call Z Z (.cons Z .nil) fb_141 (numbers_spec (some ⟨r34,0,none⟩) 5 5 x.ints Z (by decide))  (fun w h=>⟨Bc.rows (h.1.1.1) Z Z,tR⟩) (fun x hx=>Ae (fun w h=>⟨⟨h.1,h.2.1⟩,h.2.2⟩) (k x hx))) (fun _=>by exact ⟨[],by simp⟩) ?_
  rintro ⟨a35,c35⟩ hc35
  try dsimp only at hc35
  try dsimp only [List.nil_append,List.cons_append]
  refine .det _ (fun Q K R m k=>(Ao Z Z (.cons Z .nil) fb_64 (Gb (x.ints.map D6) a35 5 c35 Z)  (fun w h=>tR) Z (fun _=>Ae (fun w h=>h.2) k))) (.gh (γ:=Nat) (fun _=>True) _ _ _ Z (fun Q K R k=>(F7 Z Tryz.underlying59 Bi Cc (.agg (s:=vS (.list (x.ints.map D6) a35 c35)) Z .nil) (by repeat (first | exact List.forall_mem_nil _ | refine List.forall_mem_cons.2 ⟨rfl,?_⟩)) Z (by decide) Z (fun r37=>Al (.refl _) (Ae (fun w h=>⟨⟨h.1,h.2.1⟩,h.2.2⟩) (k r37 tR))))) (fun _=>by exact ⟨[],by simp⟩) ?_)
  rintro r37 _
  try dsimp only [List.nil_append,List.cons_append]
  refine .nil (Ad 16 ((Ku Z Z Z el_59 (by kernel_rfl) ho1 (i:=4) Z (fun w ho h=>Bc.src (h.1.1) Z) (by omega) (by simp only [maxLen]; omega) (fun v38 e38 ho38=>?_))))
  try dsimp only [List.set]
  obtain ⟨va38,vc38,rfl,hc38⟩:=ho38.shape'
  exact Ad 17 ((A2 (o':=3) Z Z Cd B3 Z (Ad 18 ((Cr Z Z B3 Z (.tail (.tail (.tail .head))) (.tail (.tail (.tail (.head Z)))) Z (A6 (bn (qn (Aa (oj (add Z Z Z (by omega) (oj (mv Z Z (on (qn (Ar (i1+1,va38,vc38,e38,rs1++[.list (x.ints.map D6) a35 c35]) (by dsimp only; omega) (⟨by (try dsimp only); omega,by rw [Dj]; exact ho38,by rw [Hn,hv1,A7 hx,List.map_append]; rfl,by simp [hl1]⟩) (⟨Z,Z,Z,Z,Z,Z,Z,tR⟩) (.cons _ (.refl _)) (fun w h=>⟨(Cu h),(Dw h),(Ez h),(Ec h),(Fg h),(Gg h),(Io h),Bo.app (Ew h) (Bo.one (by simp only [Cw]; exact ⟨by simpa using (h.2.1.1),Bo.of (by simp [Cw])⟩)),tR⟩)))))))))))))))))
 ·have h4:i1=c.ch.length:=by omega
  subst h4
  rw [List.take_length] at hv1
  refine A1 (qe (qe (be (qn (Ab (Ab (Aa (oj (A2 (o':=37) Z Z D7 Db Z (oj (A4 Z Z Db (fun w h=>Bc.at1 (Ec h) Z) (oj (Bn Z Z Tryz.underlying32 Z (oj (mv Z Z (on (qn (Ag (By (i:=3) Z ho1 (Do Jp _) ?_)))))))))))))))))))
  try dsimp only [List.eraseIdx]
  refine Cx (Aw (fun (sT:(Nat) × (Option Addr) × (Nat) × (A9) × (List RV))=>(⟨sT.1≤c.bx.length∧Own 61 4 (.slice sT.2.1 sT.1 sT.2.2.1) sT.1 (sT.2.2.2.2.flatMap RV.cells) sT.2.2.2.1∧vals sT.2.2.2.2=(c.bx.take sT.1).map bxxV∧sT.2.2.2.2.length=sT.1,[(1,Bg r1 0),(3,Bg r3 0),(4,Bg r4 0),(5,Bg r5 0),(42,.slice c.bA c.bx.length c.bC),(43,iv c.bx.length),(44,iv (sT.1:Int))],[sT.2.2.2.1,bx r5 (lsegs none 0 0) 61,bx r4 (lsegs sT.2.1 sT.1 sT.2.2.1) 61,bx r3 (lsegs va1 c.ch.length vc1) 61],fun w=>CF1 c w∧CF2 c w∧CF3 c w∧CF4 c w∧CF5 c w∧CF6 c w∧Bc r1 c.segs 37 w∧Sl 4 c.ch.length (rs1.flatMap RV.cells) (.slice va1 c.ch.length vc1) w∧Bo rs1 w∧Bo sT.2.2.2.2 w∧True,c.bx.length-sT.1⟩:Hd)) (0,none,0,none,[]) (⟨Nat.zero_le _,.nil,Z,Z⟩) (⟨Z,Z,Z,Z,Z,Z,Z,tR⟩) (.refl _) (fun w h=>⟨(h.2.1),(h.2.2.1),(Cu h),(Dw h),(Ez h),(Ec h),(Fg h),(h.1.1),(Gg h),tR,tR⟩) ?_)
  rintro ⟨i2,va2,vc2,e2,rs2⟩ ⟨hi2,ho2,hv2,hl2⟩
  try dsimp only
  try dsimp only at hi2 ho2 hv2 hl2
  refine Ab (Aa (oj (Dd Z Z Z (on (qn (Ab ?_))))))
  refine A8 Z (fun ht=>?_) (fun hf=>?_)
  ·obtain ⟨x,hx⟩:∃ x,c.bx[i2]? = some x:=⟨_,List.getElem?_eq_getElem (by omega)⟩
   refine Ah (qn (Ab (Ag (Ab (Aa (oj (Fc Z Z Z Tryz.underlying32 E1 (by omega) (fun w h=>Sl.some (h.2.2.1) (by omega)) (oj (D4 Z Z E1 Z (fun w h=>Cv (h.2.2.1) (by decide) (fun _=>Z) hx) (Ac (d:=47) (v:=av [S1 (iv x.n),S1 (iv x.lv),Fr 2 [iv x.u,.slice x.a x.b.length x.c]]) Z Z (oj (C7 Z I9 (fun r9=>(oj (C0 Z Z E1 Z Z .head (on (qn (A5 mo (A3 [0,1,2,3,4,5,6,7,8,9,10,11,12,13,14,15,16,17,18] (fun j=>Nat.beq j 16 || Nat.beq j 18) (by kernel_rfl) Z Z (.det _ (fun Q K R m k=>(A2 (o':=3) Z Z Cd B3 Z k)) ?_))))))))))))))))))))
   refine .det _ (fun Q K R m k=>(Bh Z Z B3 (.tail _ (.tail _ (.tail _ (.head _)))) (Z) k)) (.det _ (fun Q K R m k=>(A2 (o':=0) Z Z Hc Ai Z k)) (.det _ (fun Q K R m k=>(Bh Z Z Ai (.head _) (Z) k)) (.det _ (fun Q K R m k=>(Ao Z Z (.cons Z .nil) Jm (D0 x.n)  (fun w h=>tR) Z (fun _=>Ae (fun w h=>h.2) k))) (.det _ (fun Q K R m k=>(A2 (o':=1) Z Z Hb Ai Z k)) (.det _ (fun Q K R m k=>(Bh Z Z Ai (.head _) (Z) k)) (.det _ (fun Q K R m k=>(Ao Z Z (.cons Z .nil) Jm (D0 x.lv)  (fun w h=>tR) Z (fun _=>Ae (fun w h=>h.2) k))) (.det _ (fun Q K R m k=>(A2 (o':=2) Z Z Fi Ct Z k)) (.det _ (fun Q K R m k=>(A2 (o':=2) Z Z Kj Ai Z k)) (.det _ (fun Q K R m k=>(Bh Z Z Ai (.head _) (Z) k)) (.det _ (fun Q K R m k=>(Ao Z Z (.cons Z .nil) Jm (D0 x.u)  (fun w h=>tR) Z (fun _=>Ae (fun w h=>h.2) k))) (.det _ (fun Q K R m k=>(A2 (o':=2) Z Z Fi Ct Z k)) (.det _ (fun Q K R m k=>(A2 (o':=3) Z Z H5 Bt Z k)) (.det _ (fun Q K R m k=>(Bh Z Z Bt (.head _) (Z) k)) (.det _ (fun Q K R m k=>(Ao Z Z (.cons Z .nil) fb_143 (text_spec x.b x.a x.c)  (fun w h=>⟨(Cu h.1) x (List.mem_of_getElem? hx),tR⟩) Z (fun _=>Ae (fun w h=>h.2) k))) (.gh (γ:=Nat) (fun _=>True) _ _ _ Z (fun Q K R k=>(F7 Z Tryz.underlying59 Bi Cc (.agg (s:=vS (D6 x.n)) Z (.agg (s:=vS (D6 x.lv)) Z (.agg (s:=vS (D6 x.u)) Z (.agg (s:=vS (rvT x.b)) Z .nil)))) (by repeat (first | exact List.forall_mem_nil _ | refine List.forall_mem_cons.2 ⟨rfl,?_⟩)) Z (by decide) Z (fun r64=>Al (.refl _) (Ae (fun w h=>⟨⟨h.1,h.2.1⟩,h.2.2⟩) (k r64 tR))))) (fun _=>by exact ⟨[],by simp⟩) ?_)))))))))))))))
   rintro r64 _
   try dsimp only [List.nil_append,List.cons_append]
   refine .det _ (fun Q K R m k=>(Ao Z Z (.cons Z .nil) fb_64 (Gb [D6 x.n,D6 x.lv,D6 x.u,rvT x.b] (some ⟨r64,0,none⟩) 4 4 Z)  (fun w h=>tR) Z (fun _=>Ae (fun w h=>h.2) k))) (.gh (γ:=Nat) (fun _=>True) _ _ _ Z (fun Q K R k=>(F7 Z Tryz.underlying59 Bi Cc (.agg (s:=vS (.list [D6 x.n,D6 x.lv,D6 x.u,rvT x.b] (some ⟨r64,0,none⟩) 4)) Z .nil) (by repeat (first | exact List.forall_mem_nil _ | refine List.forall_mem_cons.2 ⟨rfl,?_⟩)) Z (by decide) Z (fun r66=>Al (.refl _) (Ae (fun w h=>⟨⟨h.1,h.2.1⟩,h.2.2⟩) (k r66 tR))))) (fun _=>by exact ⟨[],by simp⟩) ?_)
   rintro r66 _
   try dsimp only [List.nil_append,List.cons_append]
   refine .nil (Ad 19 ((Ku Z Z Z el_59 (by kernel_rfl) ho2 (i:=1) Z (fun w ho h=>Bc.src (h.1.1) Z) (by omega) (by simp only [maxLen]; omega) (fun v67 e67 ho67=>?_))))
   try dsimp only [List.set]
   obtain ⟨va67,vc67,rfl,hc67⟩:=ho67.shape'
   exact Ad 20 ((A2 (o':=3) Z Z Cd B3 Z (Ad 21 ((Cr Z Z B3 Z (.tail (.tail (.tail .head))) (.tail (.tail (.tail (.head Z)))) Z (A6 (bn (qn (Aa (oj (add Z Z Z (by omega) (oj (mv Z Z (on (qn (Ar (i2+1,va67,vc67,e67,rs2++[.list [D6 x.n,D6 x.lv,D6 x.u,rvT x.b] (some ⟨r64,0,none⟩) 4]) (by dsimp only; omega) (⟨by (try dsimp only); omega,by rw [Dj]; exact ho67,by rw [Hn,hv2,A7 hx,List.map_append]; rfl,by simp [hl2]⟩) (⟨Z,Z,Z,Z,Z,Z,Z,tR⟩) (.cons _ (.refl _)) (fun w h=>⟨(h.2.2.1),(Cu h),(Dw h),(Ez h),(Ec h),(Fg h),(Gg h),(Io h),(Ew h),Bo.app (Fh h) (Bo.one (by simp only [Cw]; exact ⟨Bc.rows (h.2.1.1) rfl rfl,Bo.of (by simp [Cw])⟩)),tR⟩)))))))))))))))))
  ·have h4:i2=c.bx.length:=by omega
   subst h4
   rw [List.take_length] at hv2
   refine A1 (qe (qe (be (qn (Ab (Ab (Aa (oj (A2 (o':=38) Z Z D2 D5 Z (oj (A4 Z Z D5 (fun w h=>Bc.at1 (Ec h) Z) (oj (Bn Z Z Tryz.underlying33 Z (oj (mv Z Z (on (qn (Ag (By (i:=0) Z ho2 (Do Jp _) ?_)))))))))))))))))))
   try dsimp only [List.eraseIdx]
   refine Cx (Aw (fun (sT:(Nat) × (Option Addr) × (Nat) × (A9) × (List RV))=>(⟨sT.1≤c.wl.length∧Own 61 4 (.slice sT.2.1 sT.1 sT.2.2.1) sT.1 (sT.2.2.2.2.flatMap RV.cells) sT.2.2.2.1∧vals sT.2.2.2.2=(c.wl.take sT.1).map J5∧sT.2.2.2.2.length=sT.1,[(1,Bg r1 0),(3,Bg r3 0),(4,Bg r4 0),(5,Bg r5 0),(71,.slice c.wA c.wl.length c.wC),(72,iv c.wl.length),(73,iv (sT.1:Int))],[sT.2.2.2.1,bx r5 (lsegs sT.2.1 sT.1 sT.2.2.1) 61,bx r4 (lsegs va2 c.bx.length vc2) 61,bx r3 (lsegs va1 c.ch.length vc1) 61],fun w=>CF1 c w∧CF2 c w∧CF3 c w∧CF4 c w∧CF5 c w∧CF6 c w∧Bc r1 c.segs 37 w∧Sl 4 c.ch.length (rs1.flatMap RV.cells) (.slice va1 c.ch.length vc1) w∧Bo rs1 w∧Sl 4 c.bx.length (rs2.flatMap RV.cells) (.slice va2 c.bx.length vc2) w∧Bo rs2 w∧Bo sT.2.2.2.2 w∧True,c.wl.length-sT.1⟩:Hd)) (0,none,0,none,[]) (⟨Nat.zero_le _,.nil,Z,Z⟩) (⟨Z,Z,Z,Z,Z,Z,Z,tR⟩) (.refl _) (fun w h=>⟨(h.2.1),(h.2.2.1),(Cu h),(Dw h),(Ez h),(Ec h),(Fg h),(Gg h),(Io h),(h.1.1),(Ew h),tR,tR⟩) ?_)
   rintro ⟨i3,va3,vc3,e3,rs3⟩ ⟨hi3,ho3,hv3,hl3⟩
   try dsimp only
   try dsimp only at hi3 ho3 hv3 hl3
   refine Ab (Aa (oj (Dd Z Z Z (on (qn (Ab ?_))))))
   refine A8 Z (fun ht=>?_) (fun hf=>?_)
   ·obtain ⟨x,hx⟩:∃ x,c.wl[i3]? = some x:=⟨_,List.getElem?_eq_getElem (by omega)⟩
    refine Ah (qn (Ab (Ag (Ab (Aa (oj (Fc Z Z Z Tryz.underlying33 Gk (by omega) (fun w h=>Sl.some (Dw h) (by omega)) (oj (D4 Z Z Gk Z (fun w h=>Cv (Dw h) (by decide) (fun _=>Z) hx) (Ac (d:=76) (v:=av [S1 (iv x.d),Fr 2 [iv x.u,.slice x.a x.b.length x.c]]) Z Z (oj (C7 Z zok_87 (fun r11=>(oj (C0 Z Z Gk Z Z .head (on (qn (A5 mo (A3 [0,1,2,3,4,5,6,7,8,9,10,11,12,13,14,15] (fun j=>Nat.beq j 13 || Nat.beq j 15) (by kernel_rfl) Z Z (.det _ (fun Q K R m k=>(A2 (o':=3) Z Z Cd B3 Z k)) ?_))))))))))))))))))))
    refine .det _ (fun Q K R m k=>(Bh Z Z B3 (.tail _ (.tail _ (.head _))) (Z) k)) (.det _ (fun Q K R m k=>(A2 (o':=0) Z Z Ki Ai Z k)) (.det _ (fun Q K R m k=>(Bh Z Z Ai (.head _) (Z) k)) (.det _ (fun Q K R m k=>(Ao Z Z (.cons Z .nil) Jm (D0 x.d)  (fun w h=>tR) Z (fun _=>Ae (fun w h=>h.2) k))) (.det _ (fun Q K R m k=>(A2 (o':=1) Z Z E4 Ct Z k)) (.det _ (fun Q K R m k=>(A2 (o':=1) Z Z Kj Ai Z k)) (.det _ (fun Q K R m k=>(Bh Z Z Ai (.head _) (Z) k)) (.det _ (fun Q K R m k=>(Ao Z Z (.cons Z .nil) Jm (D0 x.u)  (fun w h=>tR) Z (fun _=>Ae (fun w h=>h.2) k))) (.det _ (fun Q K R m k=>(A2 (o':=1) Z Z E4 Ct Z k)) (.det _ (fun Q K R m k=>(A2 (o':=2) Z Z H5 Bt Z k)) (.det _ (fun Q K R m k=>(Bh Z Z Bt (.head _) (Z) k)) (.det _ (fun Q K R m k=>(Ao Z Z (.cons Z .nil) fb_143 (text_spec x.b x.a x.c)  (fun w h=>⟨(Ez h.1) x (List.mem_of_getElem? hx),tR⟩) Z (fun _=>Ae (fun w h=>h.2) k))) (.gh (γ:=Nat) (fun _=>True) _ _ _ Z (fun Q K R k=>(F7 Z Tryz.underlying59 Bi Cc (.agg (s:=vS (D6 x.d)) Z (.agg (s:=vS (D6 x.u)) Z (.agg (s:=vS (rvT x.b)) Z .nil))) (by repeat (first | exact List.forall_mem_nil _ | refine List.forall_mem_cons.2 ⟨rfl,?_⟩)) Z (by decide) Z (fun r90=>Al (.refl _) (Ae (fun w h=>⟨⟨h.1,h.2.1⟩,h.2.2⟩) (k r90 tR))))) (fun _=>by exact ⟨[],by simp⟩) ?_))))))))))))
    rintro r90 _
    try dsimp only [List.nil_append,List.cons_append]
    refine .det _ (fun Q K R m k=>(Ao Z Z (.cons Z .nil) fb_64 (Gb [D6 x.d,D6 x.u,rvT x.b] (some ⟨r90,0,none⟩) 3 3 Z)  (fun w h=>tR) Z (fun _=>Ae (fun w h=>h.2) k))) (.gh (γ:=Nat) (fun _=>True) _ _ _ Z (fun Q K R k=>(F7 Z Tryz.underlying59 Bi Cc (.agg (s:=vS (.list [D6 x.d,D6 x.u,rvT x.b] (some ⟨r90,0,none⟩) 3)) Z .nil) (by repeat (first | exact List.forall_mem_nil _ | refine List.forall_mem_cons.2 ⟨rfl,?_⟩)) Z (by decide) Z (fun r92=>Al (.refl _) (Ae (fun w h=>⟨⟨h.1,h.2.1⟩,h.2.2⟩) (k r92 tR))))) (fun _=>by exact ⟨[],by simp⟩) ?_)
    rintro r92 _
    try dsimp only [List.nil_append,List.cons_append]
    refine .nil (Ad 16 ((Ku Z Z Z el_59 (by kernel_rfl) ho3 (i:=1) Z (fun w ho h=>Bc.src (h.1.1) Z) (by omega) (by simp only [maxLen]; omega) (fun v93 e93 ho93=>?_))))
    try dsimp only [List.set]
    obtain ⟨va93,vc93,rfl,hc93⟩:=ho93.shape'
    exact Ad 17 ((A2 (o':=3) Z Z Cd B3 Z (Ad 18 ((Cr Z Z B3 Z (.tail (.tail .head)) (.tail (.tail (.tail (.head Z)))) Z (A6 (bn (qn (Aa (oj (add Z Z Z (by omega) (oj (mv Z Z (on (qn (Ar (i3+1,va93,vc93,e93,rs3++[.list [D6 x.d,D6 x.u,rvT x.b] (some ⟨r90,0,none⟩) 3]) (by dsimp only; omega) (⟨by (try dsimp only); omega,by rw [Dj]; exact ho93,by rw [Hn,hv3,A7 hx,List.map_append]; rfl,by simp [hl3]⟩) (⟨Z,Z,Z,Z,Z,Z,Z,tR⟩) (.cons _ (.refl _)) (fun w h=>⟨(h.2.2.1),(Cu h),(Dw h),(Ez h),(Ec h),(Fg h),(Gg h),(Io h),(Ew h),(Fh h),(Ev h),Bo.app (Jr h) (Bo.one (by simp only [Cw]; exact ⟨Bc.rows (h.2.1.1) rfl rfl,Bo.of (by simp [Cw])⟩)),tR⟩)))))))))))))))))
   ·have h4:i3=c.wl.length:=by omega
    subst h4
    rw [List.take_length] at hv3
    refine A1 (qe (qe (be (qn (Ab (A5 mo (A3 [0,1,2,3,4,5,6,7,8,9,10,11,12,13,14,17,18,19,20,22,23,24,26,27,28,15,16,21,25,29] (fun j=>Nat.beq j 15) (by kernel_rfl) Z Z (.det _ (fun Q K R m k=>(A2 (o':=0) Z Z Jj Ai Z k)) (.det _ (fun Q K R m k=>(A4 Z Z Ai (fun w h=>Bc.at1 (Ec h.1) Z) k)) (.det _ (fun Q K R m k=>(Ao Z Z (.cons Z .nil) Jm (D0 c.folder)  (fun w h=>tR) Z (fun _=>Ae (fun w h=>h.2) k))) (.det _ (fun Q K R m k=>(A2 (o':=1) Z Z Fj Ai Z k)) (.det _ (fun Q K R m k=>(A4 Z Z Ai (fun w h=>Bc.at1 (Ec h.1) Z) k)) (.det _ (fun Q K R m k=>(Ao Z Z (.cons Z .nil) Jm (D0 c.epoch)  (fun w h=>tR) Z (fun _=>Ae (fun w h=>h.2) k))) (.det _ (fun Q K R m k=>(A2 (o':=2) Z Z Kl Dc Z k)) (.det (.slice (some ⟨r1,2,none⟩) c.parent.b.length c.parent.b.length) (fun Q K R m k=>(slp Z Z Tryz.underlying23 Bv Z Z (.inl Z) Z (B8 (by simp [Addr.add,c.parent.h]) k))) ?_)))))))))))))))
    refine .det _ (fun Q K R m k=>(Ao Z Z (.cons Z .nil) fb_143 (text_spec c.parent.b (some ⟨r1,2,none⟩) c.parent.b.length)  (fun w h=>⟨Bc.dig (Ec h.1) Z,tR⟩) Z (fun _=>Ae (fun w h=>h.2) k))) (.det _ (fun Q K R m k=>(A2 (o':=34) Z Z H8 Ai Z k)) (.det _ (fun Q K R m k=>(A4 Z Z Ai (fun w h=>Bc.at1 (Ec h.1) Z) k)) (.det _ (fun Q K R m k=>(Ao Z Z (.cons Z .nil) Jm (D0 c.author)  (fun w h=>tR) Z (fun _=>Ae (fun w h=>h.2) k))) (.det (vA (.list rs1 va1 vc1)) (fun Q K R m k=>(Eb Z Z Bi (.tail _ (.tail _ (.tail _ (.head _)))) Z (B8 (by show av (lsegs va1 c.ch.length vc1)=_; rw [← hl1]; rfl) k))) (.det _ (fun Q K R m k=>(A2 (o':=36) Z Z Gn Eg Z k)) (.det _ (fun Q K R m k=>(A4 Z Z Eg (fun w h=>Bc.at1 (Ec h.1) Z) k)) (.det (vA (.list rs2 va2 vc2)) (fun Q K R m k=>(Eb Z Z Bi (.tail _ (.tail _ (.head _))) Z (B8 (by show av (lsegs va2 c.bx.length vc2)=_; rw [← hl2]; rfl) k))) (.det (vA (.list rs3 va3 vc3)) (fun Q K R m k=>(Eb Z Z Bi (.tail _ (.head _)) Z (B8 (by show av (lsegs va3 c.wl.length vc3)=_; rw [← hl3]; rfl) k))) (.det _ (fun Q K R m k=>(A2 (o':=39) Z Z fld_37_8 Dc Z k)) (.det (.slice (some ⟨r1,39,none⟩) c.confirm.b.length c.confirm.b.length) (fun Q K R m k=>(slp Z Z Tryz.underlying23 Bv Z Z (.inl Z) Z (B8 (by simp [Addr.add,c.confirm.h]) k))) (.det _ (fun Q K R m k=>(A2 (o':=71) Z Z H7 In Z k)) (.det _ (fun Q K R m k=>(A2 (o':=71) Z Z H9 Ai Z k)) (.det _ (fun Q K R m k=>(A4 Z Z Ai (fun w h=>Bc.at1 (Ec h.1) Z) k)) (.det _ (fun Q K R m k=>(A2 (o':=71) Z Z H7 In Z k)) (.det _ (fun Q K R m k=>(A2 (o':=72) Z Z Km Ai Z k)) ?_)))))))))))))))
    refine .det _ (fun Q K R m k=>(A4 Z Z Ai (fun w h=>Bc.at1 (Ec h.1) Z) k)) (.gh _ _ _ _ Z (fun Q K R k=>call Z Z (.cons Z .nil) fb_141 (numbers_spec c.pA c.path.length c.pC c.path Z (by omega))  (fun w h=>⟨(h.1.2.1),tR⟩) (fun x hx=>Ae (fun w h=>⟨⟨h.1,h.2.1⟩,h.2.2⟩) (k x hx))) (fun _=>by exact ⟨[],by simp⟩) ?_)
    rintro ⟨a111,c111⟩ hc111
    try dsimp only at hc111
    try dsimp only [List.nil_append,List.cons_append]
    refine .det _ (fun Q K R m k=>(Ao Z Z (.cons Z .nil) fb_64 (Gb (c.path.map D6) a111 c.path.length c111 (by simp))  (fun w h=>tR) Z (fun _=>Ae (fun w h=>h.2) k))) (.det _ (fun Q K R m k=>(Ao Z Z (.cons Z .nil) fb_143 (text_spec c.confirm.b (some ⟨r1,39,none⟩) c.confirm.b.length)  (fun w h=>⟨Bc.dig (Fg h.1) Z,tR⟩) Z (fun _=>Ae (fun w h=>h.2) k))) (.det _ (fun Q K R m k=>(Ao Z Z (.cons Z .nil) Jm (D0 c.sr)  (fun w h=>tR) Z (fun _=>Ae (fun w h=>h.2) k))) (.det _ (fun Q K R m k=>(Ao Z Z (.cons Z .nil) Jm (D0 c.ss)  (fun w h=>tR) Z (fun _=>Ae (fun w h=>h.2) k))) (.nil (Ad 30 ((F7 Z Tryz.underlying59 Bi Cc (.agg (s:=vS (D6 c.folder)) Z (.agg (s:=vS (D6 c.epoch)) Z (.agg (s:=vS (rvT c.parent.b)) Z (.agg (s:=vS (D6 c.author)) Z (.agg (s:=vS (.list rs1 va1 vc1)) Z (.agg (s:=vS (.list (c.path.map D6) a111 c111)) Z (.agg (s:=vS (.list rs2 va2 vc2)) Z (.agg (s:=vS (.list rs3 va3 vc3)) Z (.agg (s:=vS (rvT c.confirm.b)) Z (.agg (s:=vS (D6 c.sr)) Z (.agg (s:=vS (D6 c.ss)) Z .nil))))))))))) (by repeat (first | exact List.forall_mem_nil _ | refine List.forall_mem_cons.2 ⟨rfl,?_⟩)) Z (by decide) Z (fun r126=>?_))))))))
    refine Ad 31 ((Ak Z Z (A6 (qn (Af (Al (Am 0 _ _ Z) ?_))))))
    try dsimp only [List.eraseIdx]
    refine By (i:=0) Z ho3 (Do Jp _) ?_
    try dsimp only [List.eraseIdx]
    exact As ([D6 c.folder,D6 c.epoch,rvT c.parent.b,D6 c.author,.list rs1 va1 vc1,.list (c.path.map D6) a111 c111,.list rs2 va2 vc2,.list rs3 va3 vc3,rvT c.confirm.b,D6 c.sr,D6 c.ss],some ⟨r126,0,none⟩,11) Z (.tmp Z .nil) Z ⟨by simp only [vals,RV.val,vals_int,hv1,hv2,hv3]; rfl,Z,Nat.le_refl _⟩ (Bl _) (fun w h=>⟨Bc.rows (h.2.1.1) Z Z,Bo.of (by simp only [List.forall_mem_cons,Cw]; exact ⟨trivial,trivial,trivial,trivial,⟨hl1 ▸ (Ew h),(Fh h)⟩,⟨by simpa using (h.2.2.1.1),Bo.of (by simp [Cw])⟩,⟨hl2 ▸ (Ev h),(Jr h)⟩,⟨hl3 ▸ (h.1.1),(Ij h)⟩,trivial,trivial,trivial,by simp⟩),tR⟩) (.inl Z)
def PartsV (rss:List (List RV)) (vs:List Value) (w:World):Prop:=vs.length=rss.length∧∀ (i:Nat) (v:Value) (rs:List RV),vs[i]? = some v→rss[i]? = some rs→Sl 4 rs.length (rs.flatMap RV.cells) v w
theorem flat_takeV {rss:List (List RV)} {i:Nat} {b:List RV} (h:rss[i]? = some b):(rss.take (i+1)).flatten=(rss.take i).flatten++b:=by
 have:=List.take_add_one (l:=rss) (i:=i)
 rw [h] at this
 rw [this]; simp
theorem flat_take_leV (rss:List (List RV)) (i:Nat):(rss.take i).flatten.length≤rss.flatten.length:=by
 have:=List.take_append_drop i rss
 have h2:rss.flatten=(rss.take i).flatten++(rss.drop i).flatten:=by rw [← List.flatten_append,this]
 rw [h2,List.length_append]; omega
theorem fm_append {α:Type} {f:α→List Value} (xs ys:List α):(xs++ys).flatMap f=xs.flatMap f++ys.flatMap f:=by simp
theorem fm_take {α:Type} {f:α→List Value} {n:Nat} (hf:∀ x,(f x).length=n):∀ (xs:List α) (k:Nat),(xs.flatMap f).take (k*n)=(xs.take k).flatMap f:=by
 intro xs
 induction xs with
 | nil=>intro k; simp
 | cons x xs ih =>
  intro k
  cases k with
  | zero=>simp
  | succ k =>
   rw [List.flatMap_cons,List.take_succ_cons,List.flatMap_cons,← ih k]
   have:(k+1)*n=(f x).length+k*n:=by rw [hf,Nat.succ_mul,Nat.add_comm]
   rw [this,List.take_length_add_append]
theorem sl_take {α:Type} {f:α→List Value} {sz n cap k m:Nat} {a:Option Addr} {xs:List α} {w:World} (h:Sl sz n (xs.flatMap f) (.slice a n cap) w) (hf:∀ x,(f x).length=sz) (hk:k≤n) (hm:k≤m):Sl sz k ((xs.take k).flatMap f) (.slice (if m=0 then a else a.map (·.add (0*sz))) (k-0) (m-0)) w:=by
 have:=h.part (l':=0) (h:=k) (m:=m) (Nat.zero_le _) hk hm
 have e:((xs.flatMap f).drop (0*sz)).take ((k-0)*sz)=(xs.take k).flatMap f:=by rw [Nat.zero_mul,List.drop_zero,Nat.sub_zero,fm_take hf]
 rw [e] at this
 exact this
theorem growV_spec (n:Nat) (hn:n≤1000000):Ay Tryz.prog 216 [.slice none 0 0,.int .i64 (n:Int)] [] (fun _=>True) (fun x:Value × A9=>⟨Own 61 4 x.1 0 [] x.2,x.1,[x.2],fun _=>True⟩):=by
 refine Aj Tryz.func216 Z Z fun X w0=>(Cx (Ab (Aa (oj (Ak Z Z (on (qn (Ab (Ab (Aa (oj (mv Z Z (oj (Dd Z Z Z (on (qn (A8 Z (fun ht=>absurd ht (by omega)) (fun hf=>(Ah ?_)))))))))))))))))))
 refine qn (Ab ?_)
 refine Jo (fun (sT:(Value) × (A9))=>(⟨Own 61 4 sT.1 0 [] sT.2,[(0,sT.1)],[sT.2],fun _=>True,0⟩:Hd)) ?_ ?_
 ·refine Ab (Aa (oj (mv Z Z (oj (mv Z Z (oj (caps Z Z Tryz.underlying59 Z (oj (mv Z Z (oj (Bn Z Z Tryz.underlying59 Z (oj (sub Z Z Z (by omega) (oj (sub Z Z Z (by omega) (Ac (d:=14) (v:=.int .i64 (n:Int)) Z (by first | rfl | (congr 1; omega)) (oj (Ak Z Z (on (qn (Ab (Aa (oj (mv Z Z ?_))))))))))))))))))))))))
  refine oj (gti Z Z Z (on (qn ?_)))
  refine A8 Z (fun ht=>?_) (fun hf=>?_)
  ·refine Aa (oj (mv Z Z (oj (mv Z Z (oj (caps Z Z Tryz.underlying59 Z (oj (slc Z Z Tryz.underlying59 Bi Z ⟨_,Z,by omega⟩ (.inl Z) Z (Ac (d:=20) (v:=.slice none 0 0) Z (by simp [Addr.add]) (oj (mv Z Z (oj (apz (i:=0) Z Z Z el_59 Tryz.underlying3 Z (by omega) (by omega) (by simp only [maxLen]; omega) ?_)))))))))))))
   rintro a cap xs en hown
   dsimp only [List.set]
   exact oj (mv Z Z (oj (Bn Z Z Tryz.underlying59 Z (oj (slc Z Z Tryz.underlying59 Bi Z ⟨_,Z,by omega⟩ (.inl Z) Z (Ac (d:=25) (v:=.slice (some a) 0 cap) Z (by simp [Addr.add]) (oj (Ak Z Z (on (qn (Dm (.slice (some a) 0 cap,en) (by simpa using hown.cut (Nat.zero_le n)) (⟨Z,tR⟩) (.refl _) (fun w h=>tR))))))))))))
  ·exact Ah (qn (Dm (.slice none 0 0,none) (.nil) (⟨Z,tR⟩) (.refl _) (fun w h=>tR)))
 rintro ⟨v,en⟩ ho
 try dsimp only
 try dsimp only at ho
 exact Ab (Aa (oj (mv Z Z (oj (Ak Z Z (on (qn (Af (As (v,en) Z (.tmp Z .nil) Z ho (.refl _) (fun w h=>tR) (.inl Z))))))))))
theorem concatV_spec (a:Option Addr) (n cap:Nat) (vs:List Value) (rss:List (List RV)) (hn:n≤1000000) (hl:vs.length=n) (hs:rss.length=n) (hb:rss.flatten.length≤1000000):Ay Tryz.prog 162 [.slice a n cap] [] (fun w=>Sl 1 n vs (.slice a n cap) w∧PartsV rss vs w∧True) (fun x:Option Addr × Nat=>⟨rss.flatten.length≤x.2,.slice x.1 rss.flatten.length x.2,[],fun w=>Sl 4 rss.flatten.length (rss.flatten.flatMap RV.cells) (.slice x.1 rss.flatten.length x.2) w∧True⟩):=by
 refine Aj Tryz.func162 Z Z fun X w0=>(Ab (Aa (oj (Ak Z Z (on (qn (Ab (Aa (oj (Ak Z Z (on (qn (Ab (Ab (Aa (oj (mv Z Z (oj (Bn Z Z Tryz.underlying287 Z ?_)))))))))))))))))))
 refine oj (mv Z Z (on (qn (Ag (Aw (fun (sT:(Nat))=>(⟨sT≤n,[(0,.slice a n cap),(3,.int .i64 ((rss.take sT).flatten.length:Int)),(9,.slice a n cap),(10,.int .i64 (n:Int)),(11,.int .i64 (sT:Int))],[],fun w=>Sl 1 n vs (.slice a n cap) w∧PartsV rss vs w∧True,n-sT⟩:Hd)) (0) (by dsimp only; omega) (⟨Z,Z,Z,Z,Z,tR⟩) .slnil (fun w h=>⟨(h.1),(h.2.1),tR⟩) ?_)))))
 rintro i hi
 try dsimp only
 refine Ab (Aa (oj (Dd Z Z Z (on (qn (Ab ?_))))))
 refine A8 Z (fun ht=>?_) (fun hf=>?_)
 ·obtain ⟨bi,hbi⟩:∃ x,rss[i]? = some x:=⟨_,List.getElem?_eq_getElem (by omega)⟩
  obtain ⟨vi,hvi⟩:∃ x,vs[i]? = some x:=⟨_,List.getElem?_eq_getElem (by omega)⟩
  refine Iv (fun w h=>((h.2.1).2 i vi bi hvi hbi).shape) ?_
  rintro ⟨ai,ci,rfl,hci,hli⟩
  have hft:=flat_takeV hbi
  have hfl:=flat_take_leV rss (i+1)
  rw [hft,List.length_append] at hfl
  refine Ah (qn (Ab (Ag (Ab (Aa (oj (Fc Z Z Z Tryz.underlying287 B3 (by omega) (fun w h=>Sl.some (h.1) (by omega)) (oj (A4 Z Z B3 (fun w h=>Sl.elem1 (h.1) hvi) (oj (Ak Z Z (on (qn (Ab (Aa (oj (mv Z Z (oj (mv Z Z (oj (Bn Z Z Tryz.underlying59 Z ?_)))))))))))))))))))))
  refine oj (add Z Z Z (by omega) (Ac (d:=18) (v:=.int .i64 ((rss.take (i+1)).flatten.length:Int)) Z (by rw [hft,List.length_append]; first | rfl | (congr 1; omega)) (oj (Ak Z Z (on (qn (Ab (Aa (oj (mv Z Z (oj (Dd Z Z Z (on (qn (A8 Z (fun ht=>absurd ht (by omega)) (fun hf=>(Ah (bn (qn (Aa ?_))))))))))))))))))))
  exact oj (add Z Z Z (by omega) (oj (mv Z Z (on (qn (Ar (i+1) (by dsimp only; omega) (by dsimp only; omega) (⟨Z,Z,Z,Z,Z,tR⟩) .slnil (fun w h=>⟨(h.1),(h.2.1),tR⟩)))))))
 ·have h4:i=n:=by omega
  have hall:rss.take i=rss:=List.take_of_length_le (by omega)
  rw [hall]
  refine A1 (qe (qe (be (qn (Ab (Aa (oj (mv Z Z (oj (call Z Z (.cons Z (.cons Z .nil)) fb_216 (growV_spec rss.flatten.length hb)  (fun w h=>tR) ?_))))))))))
  rintro ⟨v,en⟩ ho
  try dsimp only at ho
  try dsimp only
  refine oj (Ak Z Z (on (qn (Ab (Ab (Aa (oj (mv Z Z (oj (Bn Z Z Tryz.underlying287 Z (oj (mv Z Z (on (qn (Ag (Aw (fun (sT:(Nat) × (Value) × (A9))=>(⟨sT.1≤n∧Own 61 4 sT.2.1 (rss.take sT.1).flatten.length ((rss.take sT.1).flatten.flatMap RV.cells) sT.2.2,[(6,sT.2.1),(25,.slice a n cap),(26,.int .i64 (n:Int)),(27,.int .i64 (sT.1:Int))],[sT.2.2],fun w=>Sl 1 n vs (.slice a n cap) w∧PartsV rss vs w∧True,n-sT.1⟩:Hd)) (0,v,en) (⟨Nat.zero_le _,ho⟩) (⟨Z,Z,Z,Z,tR⟩) (.refl _) (fun w h=>⟨(h.2.1),(h.2.2.1),tR⟩) ?_))))))))))))))))
  rintro ⟨i,v,en⟩ ⟨hi,ho⟩
  try dsimp only
  try dsimp only at hi ho
  refine Ab (Aa (oj (Dd Z Z Z (on (qn (Ab ?_))))))
  refine A8 Z (fun ht=>?_) (fun hf=>?_)
  ·obtain ⟨bi,hbi⟩:∃ x,rss[i]? = some x:=⟨_,List.getElem?_eq_getElem (by omega)⟩
   obtain ⟨vi,hvi⟩:∃ x,vs[i]? = some x:=⟨_,List.getElem?_eq_getElem (by omega)⟩
   refine Iv (fun w h=>((h.2.1).2 i vi bi hvi hbi).shape) ?_
   rintro ⟨ai,ci,rfl,hci,hli⟩
   have hft:=flat_takeV hbi
   have hfl:=flat_take_leV rss (i+1)
   rw [hft,List.length_append] at hfl
   refine Ah (qn (Ab (Ag (Ab (Aa (oj (Fc Z Z Z Tryz.underlying287 B3 (by omega) (fun w h=>Sl.some (h.1) (by omega)) (oj (A4 Z Z B3 (fun w h=>Sl.elem1 (h.1) hvi) (oj (Ak Z Z (on (qn (Aa (oj (mv Z Z (oj (mv Z Z (oj (Ku Z Z Z el_59 (by kernel_rfl) ho (i:=0) Z (fun w ho h=>((h.2.1).2 i _ bi hvi hbi).src) (by omega) (by simp only [maxLen]; omega) (fun v33 e33 ho33=>?_)))))))))))))))))))))
   try dsimp only [List.set]
   exact oj (Ak Z Z (on (bn (qn (Aa (oj (add Z Z Z (by omega) (oj (mv Z Z (on (qn (Ar (i+1,v33,e33) (by dsimp only; omega) (⟨by dsimp only; omega,by rw [hft,List.length_append,fm_append]; exact ho33⟩) (⟨Z,Z,Z,Z,tR⟩) (.refl _) (fun w h=>⟨(h.1),(h.2.1),tR⟩)))))))))))))
  ·have h4:i=n:=by omega
   have hall:rss.take i=rss:=List.take_of_length_le (by omega)
   rw [hall] at ho
   refine A1 (qe (qe (be (qn (Ab (Aa (oj (mv Z Z (oj (Ak Z Z (on (qn (Af ?_)))))))))))))
   obtain ⟨av,cv,rfl,hcv⟩:=ho.shape'
   refine By (i:=0) Z ho (Do Jp _) ?_
   try dsimp only [List.eraseIdx]
   exact As (av,cv) Z (.tmp Z .nil) Z hcv .slnil (fun w h=>⟨(h.1.1),tR⟩) (.inl Z)
theorem chash_spec (tag:ByteArray) (ht:tag.data.toList.length≤1000000) (rvs:List RV) (a:Option Addr) (n cap:Nat) (hn:rvs.length=n) (hn2:n≤1000000) (hok:okL (vals rvs)) (hd:Gc (vals rvs)≤15) (hlen:(enc (.list (vals rvs))).length≤100000000000):Ay Tryz.prog 80 [.string tag,.slice a n cap] [] (fun w=>Sl 4 n (rvs.flatMap RV.cells) (.slice a n cap) w∧Bo rvs w∧De 1 (Av .u32 B9) w∧De 3 (Av .u32 D1) w∧True) (fun _:Unit=>⟨True,dv (E2 tag.data.toList (enc (.list (vals rvs)))),[],fun _=>True⟩):=by
 refine Aj Tryz.func80 Z Z fun X w0=>(Ab (Aa (oj (C7 Z Jb (fun r4=>(on (qn (Ab (Aa (oj (mv Z Z (oj (Ao Z Z (.cons Z .nil) fb_64 (Gb rvs a n cap hn)  (fun w h=>tR) Z (fun _=>(Ae (fun w h=>h.2) (oj (call Z Z (.cons Z .nil) fb_63 (encode_spec (.list rvs a cap) (by simp only [RV.val,Val.ok,vals_len]; exact ⟨by omega,hok⟩) (by simp only [RV.val,Val.dep]; omega) (by simp only [RV.val]; omega))  (fun w h=>⟨(by simp only [Cw]; exact ⟨hn ▸ (h.1),(h.2.1)⟩),tR⟩) ?_)))))))))))))))))
 rintro ⟨ae,ce⟩ hce
 try dsimp only at hce
 try dsimp only
 refine oj (mv Z Z (oj (ext Z Z Z (oj (ext Z Z Z (oj (Ak Z Z (oj (Ak Z Z (on (qn (Ab (Aa (oj (mv Z Z (oj (mv Z Z (oj (Ao Z Z (.cons Z (.cons Z .nil)) fb_99 (G0 tag ht (enc (.list (vals rvs))) ae ce hce (by omega))  (fun w h=>⟨(h.1.1),(Cu h),(Dw h),tR⟩) Z (fun _=>(Ae (fun w h=>h.2) (oj (Cf Z Z Dc Z .head (.head Z) Z (on (qn ?_)))))))))))))))))))))))))
 exact Af (As () Z (Hk Z Dc (.head _) Z .nil) Z tR (Bl _) (fun w h=>tR) (.inl Z))
def tagCommit:List UInt8:=[99,111,109,109,105,116]
def tagCommitSign:List UInt8:=[99,111,109,109,105,116,32,115,105,103,110]
structure CmOk (c:Cm):Prop where
 b:CmB c
 ok:okL (Cb c)
 len:(enc (.list (Cb c))).length≤100000000000
noncomputable def cid (c:Cm):Dig:=E2 tagCommit (enc (.list (Cb c)))
noncomputable def Hq (c:Cm):Dig:=E2 tagCommitSign (enc (.list ((Cb c).take 9)))
theorem depL_le {k:Nat}:∀ {l:List Val},(∀ v∈l,v.dep≤k)→Gc l≤k:=by
 intro l
 induction l with
 | nil=>intro _; simp [Gc]
 | cons v l ih=>intro h; simp only [Gc]; have:=h v (.head _); have:=ih fun v hv=>h v (.tail _ hv); omega
theorem dep_ints (xs:List Int):Gc (xs.map Val.int)≤0:=depL_le fun v hv=>by
 obtain ⟨x,_,rfl⟩:=List.mem_map.1 hv
 simp [Val.dep]
theorem I7 (c:Cm):Gc (Cb c)≤2:=by
 refine depL_le fun v hv=>?_
 simp only [Cb,List.mem_cons,List.not_mem_nil,or_false] at hv
 rcases hv with rfl | rfl | rfl | rfl | rfl | rfl | rfl | rfl | rfl | rfl | rfl
 all_goals simp only [Val.dep]
 all_goals try omega
 ·have:Gc (c.ch.map chgV)≤1:=depL_le fun v hv=>by
   obtain ⟨x,_,rfl⟩:=List.mem_map.1 hv
   have:=dep_ints x.ints
   simp only [chgV,Val.dep]; omega
  omega
 ·have:=dep_ints c.path; omega
 ·have:Gc (c.bx.map bxxV)≤1:=depL_le fun v hv=>by
   obtain ⟨x,_,rfl⟩:=List.mem_map.1 hv
   simp [bxxV,Val.dep,Gc]
  omega
 ·have:Gc (c.wl.map J5)≤1:=depL_le fun v hv=>by
   obtain ⟨x,_,rfl⟩:=List.mem_map.1 hv
   simp [J5,Val.dep,Gc]
  omega
theorem depL_take (l:List Val) (k:Nat):Gc (l.take k)≤Gc l:=depL_le fun v hv=>depL_mem v (List.mem_of_mem_take hv)
theorem okL_take {l:List Val} (h:okL l) (k:Nat):okL (l.take k):=by
 have:∀ {l:List Val},(∀ v∈l,v.ok)→okL l:=by
  intro l
  induction l with
  | nil=>intro _; trivial
  | cons v l ih=>intro h; exact ⟨h v (.head _),ih fun v hv=>h v (.tail _ hv)⟩
 exact this fun v hv=>okL_mem h v (List.mem_of_mem_take hv)
theorem numB_mono {a b:Nat} (h:a≤b):(Dx a).length≤(Dx b).length:=by
 induction a using Nat.strongRecOn generalizing b with
 | _ a ih =>
  by_cases h1:a < 128
  ·rw [numB_lt h1]
   by_cases h2:b < 128
   ·rw [numB_lt h2]; simp
   ·rw [numB_ge h2]; simp
  ·rw [numB_ge h1,numB_ge (u:=b) (by omega),List.length_cons,List.length_cons]
   have:=ih (a / 128) (by omega) (b:=b / 128) (by omega)
   omega
theorem enc_take (l:List Val) (k:Nat):(enc (.list (l.take k))).length≤(enc (.list l)).length:=by
 simp only [enc,List.length_cons,List.length_append]
 have h1:=numB_mono (show (l.take k).length≤l.length by rw [List.length_take]; omega)
 have h2:(E8 (l.take k)).length≤(E8 l).length:=by
  have:E8 l=E8 (l.take k)++E8 (l.drop k):=by rw [← encL_app,List.take_append_drop]
  rw [this,List.length_append]; omega
 omega
theorem F9 (l:List RV) (k:Nat):vals (l.take k)=(vals l).take k:=by rw [Cz,Cz,List.map_take]
theorem cid_spec (c:Cm) (hc:CmOk c):Ay Tryz.prog 19 [av c.segs] [] (fun w=>CF1 c w∧CF2 c w∧CF3 c w∧CF4 c w∧CF5 c w∧CF6 c w∧De 1 (Av .u32 B9) w∧De 3 (Av .u32 D1) w∧True) (fun _:Unit=>⟨True,dv (cid c),[],fun _=>True⟩):=by
 refine Aj Tryz.func19 Z Z fun X w0=>?_
 have hdep:=I7 c
 refine Ab (Aa (oj (C6 Z Z (fun r1=>(Al (Am 0 _ _ Z) ?_)))))
 try dsimp only [List.eraseIdx]
 refine oj (C7 Z Jb (fun r2=>(on (qn (Ab (Aa (oj (Bx Z Z Bk (fun w h=>h.1.1) Z (oj (call Z Z (.cons Z .nil) fb_65 (Gr c hc.b)  (fun w h=>⟨(h.2.1),(h.2.2.1),(Cu h),(Dw h),(Ez h),(Ec h),tR⟩) ?_))))))))))
 rintro ⟨rv,av4,cv4⟩ ⟨h1,h2,h3⟩
 try dsimp only at h1 h2 h3
 try dsimp only
 exact oj (Ao Z Z (.cons Z (.cons Z .nil)) fb_80 (chash_spec _ (by decide) rv av4 11 cv4 h2 (by decide) (h1 ▸ hc.ok) (by rw [h1]; omega) (by rw [h1]; exact hc.len))  (fun w h=>⟨(h.1.1),(h.1.2.1),(Gg h),(Io h),tR⟩) Z (fun _=>(Ae (fun w h=>h.2) (Ac (d:=5) (v:=dv (cid c)) Z (by rw [cid,← h1]; rfl) (oj (Cf Z Z Dc Z .head (.head Z) Z (on (qn (Af (As () Z (Hk Z Dc (.head _) Z .nil) Z tR (Bl _) (fun w h=>tR) (.inl Z)))))))))))
theorem cmsg_spec (c:Cm) (hc:CmOk c):Ay Tryz.prog 52 [av c.segs] [] (fun w=>CF1 c w∧CF2 c w∧CF3 c w∧CF4 c w∧CF5 c w∧CF6 c w∧De 1 (Av .u32 B9) w∧De 3 (Av .u32 D1) w∧True) (fun r:Nat=>⟨True,.slice (some ⟨r,0,none⟩) 32 32,[],fun w=>Sl 1 32 (An (Hq c).b) (.slice (some ⟨r,0,none⟩) 32 32) w∧True⟩):=by
 refine Aj Tryz.func52 Z Z fun X w0=>?_
 have hdep:=I7 c
 refine Ab (Aa (oj (C6 Z Z (fun r1=>(Al (Am 0 _ _ Z) ?_)))))
 try dsimp only [List.eraseIdx]
 refine oj (Ak Z Z (on (qn (Ab (Aa (oj (Bx Z Z Bk (fun w h=>h.1.1) Z (oj (call Z Z (.cons Z .nil) fb_65 (Gr c hc.b)  (fun w h=>⟨(h.2.1),(h.2.2.1),(Cu h),(Dw h),(Ez h),(Ec h),tR⟩) ?_)))))))))
 rintro ⟨rv,av4,cv4⟩ ⟨h1,h2,h3⟩
 try dsimp only at h1 h2 h3
 try dsimp only
 refine oj (slc (h:=9) Z Z Tryz.underlying59 Bi Z ⟨_,Z,by omega⟩ (.inl Z) Z (oj (Ao Z Z (.cons Z (.cons Z .nil)) fb_80 (chash_spec _ (by decide) (rv.take 9) _ 9 _ (by rw [List.length_take]; omega) (by decide) (by rw [F9,h1]; exact okL_take hc.ok 9) (by rw [F9,h1]; have:=depL_take (Cb c) 9; omega) (by rw [F9,h1]; exact Nat.le_trans (enc_take _ _) hc.len))  (fun w h=>⟨sl_take (h.1.1) (fun _=>Z) (by decide) (by (try dsimp only at h3); omega),Bo.of (fun v hv=>Bo.mem (h.1.2.1) v (List.mem_of_mem_take hv)),(Gg h),(Io h),tR⟩) Z (fun _=>(Ae (fun w h=>h.2) (Ac (d:=7) (v:=dv (Hq c)) Z (by rw [Hq,← h1,← F9]; rfl) (oj (C7 Z Jb (fun r3=>(oj (Cf Z Z Dc Z .head (.head Z) Z (on (qn (Ab (Aa (Al (Am 0 _ _ Z) ?_))))))))))))))))
 try dsimp only [List.eraseIdx]
 exact oj (slp Z Z Tryz.underlying23 Bv Z Z (.inl Z) Z (Ac (d:=8) (v:=.slice (some ⟨r3,0,none⟩) 32 32) Z (by simp [Addr.add]) (oj (Ak Z Z (on (qn (Af (As r3 Z (.tmp Z .nil) Z tR .slnil (fun w h=>⟨dig_sl (h.1.1),tR⟩) (.inl Z)))))))))
end Go.Chx
namespace Go.Chx
open Go
def lbDerive:List UInt8:=[100,101,114,105,118,101]
def lbMix:List UInt8:=[109,105,120]
def lbScalar:List UInt8:=[115,99,97,108,97,114]
def lbPath:List UInt8:=[112,97,116,104]
def lbNode:List UInt8:=[110,111,100,101]
def lbInit:List UInt8:=[105,110,105,116]
def lbCommit:List UInt8:=[99,111,109,109,105,116]
def lbChild:List UInt8:=[99,104,105,108,100]
def lbEpoch:List UInt8:=[101,112,111,99,104]
def lbWrap:List UInt8:=[119,114,97,112]
def Bz:List UInt8:=[98,111,120]
def A0:List UInt8:=[119,101,108,99,111,109,101]
def lbConfirm:List UInt8:=[99,111,110,102,105,114,109]
def lbBody:List UInt8:=[99,111,109,109,105,116,32,98,111,100,121]
def lbTag:List UInt8:=[116,97,103]
noncomputable def Eh (k:Dig) (lb:List UInt8) (ns:List Int):Dig:=E2 lbDerive (k.b++enc (.list (.text lb::ns.map .int)))
noncomputable def mixK (lb:List UInt8) (a b:Dig):Dig:=E2 lbMix ((sha lb).b++a.b++b.b)
noncomputable def scK (k:Dig) (lb:List UInt8):Nat:=scal lbScalar (Eh k lb []).b
noncomputable def D8 (leaf:Dig):Nat→Dig
 | 0=>leaf
 | i+1=>Eh (D8 leaf i) lbPath []
noncomputable def Ef (leaf:Dig):List Dig:=(List.range 10).map (D8 leaf)
theorem Ji (leaf:Dig):(Ef leaf).length=10:=by simp [Ef]
theorem ladL_at {leaf:Dig} {i:Nat} (h:i < 10):(Ef leaf)[i]? = some (D8 leaf i):=by unfold Ef; rw [List.getElem?_map,List.getElem?_range h]; rfl
noncomputable def Fm (s:Dig):Int:=(scK s lbNode:Nat)
noncomputable def epoK (ini root:Dig):Dig:=mixK lbEpoch ini (Eh root lbCommit [])
noncomputable def iniK (s:Dig):Dig:=Eh s lbInit []
noncomputable def confK (s body:Dig):Dig:=E2 lbConfirm (s.b++body.b)
theorem kv_scal (tag bs:List UInt8):kv ((scal tag bs:Nat):Int)=true:=by
 have:=scal_lt tag bs
 exact kv_iff.2 ⟨by omega,by omega⟩
mutual
def vsz:Val→Nat
 | .int _=>11
 | .text s=>11+s.length
 | .list l=>11+Ih l
def Ih:List Val→Nat
 | []=>0
 | v::l=>vsz v+Ih l
end
mutual
theorem enc_size:∀ v:Val,v.ok→(enc v).length≤vsz v
 | .int n,h=>by
  simp only [Val.ok] at h
  have:=numB_len (zz_lt h)
  simp only [enc,vsz,List.length_cons]; omega
 | .text s,h=>by
  simp only [Val.ok] at h
  have:=numB_len (u:=s.length) (by omega)
  simp only [enc,vsz,List.length_cons,List.length_append]; omega
 | .list l,h=>by
  simp only [Val.ok] at h
  have h1:=numB_len (u:=l.length) (by omega)
  have h2:=encL_size l h.2
  simp only [enc,vsz,List.length_cons,List.length_append]; omega
theorem encL_size:∀ l:List Val,okL l→(E8 l).length≤Ih l
 | [],_=>by simp [E8,Ih]
 | v::l,h=>by
  simp only [okL] at h
  have h1:=enc_size v h.1
  have h2:=encL_size l h.2
  simp only [E8,Ih,List.length_append]; omega
end
theorem Jc {α:Type} {f:α→Val} {k:Nat}:∀ {xs:List α},(∀ x∈xs,vsz (f x)≤k)→Ih (xs.map f)≤xs.length*k
 | [],_=>by simp [Ih]
 | x::xs,h=>by
  have h1:=h x (.head _)
  have h2:=Jc (xs:=xs) fun y hy=>h y (.tail _ hy)
  simp only [List.map_cons,Ih,List.length_cons,Nat.succ_mul]; omega
theorem okL_of {l:List Val} (h:∀ v∈l,v.ok):okL l:=by
 induction l with
 | nil=>simp only [okL]
 | cons v l ih=>simp only [okL]; exact ⟨h v (.head _),ih fun u hu=>h u (.tail _ hu)⟩
abbrev i64 (n:Int):Prop:=-9223372036854775808≤n∧n≤9223372036854775807
theorem ex_ok {lb:List UInt8} {ns:List Int} (hl:lb.length≤1000) (hn:ns.length≤1000) (h:∀ n∈ns,i64 n):(Val.list (.text lb::ns.map .int)).ok:=by
 simp only [Val.ok,List.length_cons,List.length_map,okL]
 refine ⟨by omega,by omega,okL_of fun v hv=>?_⟩
 obtain ⟨x,hx,rfl⟩:=List.mem_map.1 hv
 simp only [Val.ok]; exact h x hx
theorem ex_dep (lb:List UInt8) (ns:List Int):(Val.list (.text lb::ns.map .int)).dep≤16:=by
 have:=dep_ints ns
 simp only [Val.dep,Gc]; omega
theorem ex_len {lb:List UInt8} {ns:List Int} (hl:lb.length≤1000) (hn:ns.length≤1000) (h:∀ n∈ns,i64 n):0 < (enc (.list (.text lb::ns.map .int))).length∧(enc (.list (.text lb::ns.map .int))).length≤20000:=by
 have h1:=enc_size _ (ex_ok hl hn h)
 have h2:=Jc (f:=Val.int) (k:=11) (xs:=ns) fun x _=>by simp [vsz]
 simp only [vsz,Ih] at h1
 refine ⟨?_,by omega⟩
 simp only [enc,List.length_cons]; omega
end Go.Chx
namespace Go.Chx
open Go
variable {C:Ctx} {δ:List Deferred} {ρ:Da} {l:List A9} {I:World→Prop} {K:Act→World→Prop} {Q:Exit→Act→World→Prop} {ops:Array Oper}
theorem Cj {i j fuel:Nat} {listed:Array Bool} (hr:Region.ready .any ops listed=[i,j]) (hi:(ops[i]?).isSome=true) (hj:(ops[j]?).isSome=true)
  (k:KJ C (Ax C ops (Bf ops i) (aw C ops Q fuel (listed.setIfInBounds i true)) Q) δ ρ l I) (k2:KJ C (Ax C ops (Bf ops j) (aw C ops Q fuel (listed.setIfInBounds j true)) Q) δ ρ l I) :
  KJ C (aw C ops Q (fuel+1) listed) δ ρ l I:=by
 intro a w ha hw
 refine ⟨fun h0=>absurd (hr.symm.trans h0) (by simp),fun m hm=>?_⟩
 rw [hr] at hm
 rcases List.mem_cons.1 hm with rfl | hm
 ·have h:=k a w ha hw
  obtain ⟨o,ho⟩:=Option.isSome_iff_exists.1 hi
  simp only [wpOpIn,ho]
  simpa [Bf,ho,Ax] using h
 ·obtain rfl:m=j:=by simpa using hm
  have h:=k2 a w ha hw
  obtain ⟨o,ho⟩:=Option.isSome_iff_exists.1 hj
  simp only [wpOpIn,ho]
  simpa [Bf,ho,Ax] using h
theorem Hz {A B:Prop} (h:B→A) (k:B):A:=h k
theorem lk_app (p τ:Da) (t:Nat):lk (p++τ) t=match lk p t with | some v=>some v | none=>lk τ t:=by
 induction p with
 | nil=>rfl
 | cons q p ih =>
  obtain ⟨k,v⟩:=q
  simp only [List.cons_append,lk]
  cases h:Nat.beq k t with
  | true=>rfl
  | false=>exact ih
theorem lk_none_iff {p:Da} {t:Nat}:lk p t=none↔t∉p.map (·.1):=by
 induction p with
 | nil=>simp [lk]
 | cons q p ih =>
  obtain ⟨k,v⟩:=q
  simp only [lk,List.map_cons,List.mem_cons,not_or]
  cases h:Nat.beq k t with
  | true=>have:=Nat.eq_of_beq_eq_true h; subst this; simp
  | false =>
   have:t≠k:=fun e=>by subst e; rw [Nat.beq_refl] at h; cases h
   simp [this,ih]
theorem B2 (n:Nat) {fuel:Nat} {listed listed':Array Bool} {ρ':Da} (h:listed=listed') (hr:incl (ρ'.take n) (ρ.take n)) (hk:((ρ.take n).map (·.1)).all (fun k=>((ρ'.take n).map (·.1)).contains k)=true) (hd:ρ'.drop n=ρ.drop n) (k:KJ C (aw C ops Q fuel listed') δ ρ' l I):KJ C (aw C ops Q fuel listed) δ ρ l I:=by
 subst h
 refine fun a w ha hw=>k a w (ha.sub fun t v hv=>?_) hw
 rw [← List.take_append_drop n ρ',lk_app] at hv
 rw [← List.take_append_drop n ρ,lk_app]
 cases e:lk (ρ'.take n) t with
 | some u =>
  rw [e] at hv
  rw [incl_lk hr t u e]
  exact hv
 | none =>
  rw [e] at hv
  have h1:lk (ρ.take n) t=none:=by
   rw [lk_none_iff]
   intro hm
   have:=List.all_eq_true.1 hk t hm
   rw [List.contains_iff_mem] at this
   exact lk_none_iff.1 e this
  rw [h1,← hd]
  exact hv
variable {t:TypeId} {p:String} {af:Array Edge}
theorem nes {d:Nat} {x y:Operand} {m n:ByteArray} {tt u:TypeId} (hd:Nat.blt d C.N=true) (hx:Bw ρ x=some (.string m)) (hy:Bw ρ y=some (.string n)) (kk:KJ C K δ ((d,.bool (!(m.toList == n.toList)))::ρ) l I) :
  KJ C (Ax C ops ⟨some d,.binOp .neq tt x y u,t,p,af,none⟩ K Q) δ ρ l I :=
 Bm rfl rfl (by simp) hd (fun a w ha _=>by simp [execOp,eqGuard,binOp,Op.stringOp,ha.ev hx,ha.ev hy,bne]) kk
end Go.Chx
