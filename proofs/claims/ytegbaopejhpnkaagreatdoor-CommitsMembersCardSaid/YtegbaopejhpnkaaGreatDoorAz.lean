/- Part of the proof that the law CommitsMembers holds. -/
import Derived.Test.YtegbaopejhpnkaaGreatDoorAa
import Derived.Test.YtegbaopejhpnkaaGreatDoorAh
import Derived.Test.YtegbaopejhpnkaaGreatDoorAy
namespace Go.Chx
open Go Go.Proofs
set_option maxHeartbeats 1000000
set_option maxRecDepth 4000
theorem list_it (r1:Nat) (a:Option Addr) (c:Nat) (rs:List RV) (hk:∀ x∈rs,x.kd=3) (hl:rs.length≤1000000000):ItSpecE Tryz.prog 212 [] [Bg r1 0] [] (fun w=>Bc r1 [S1 (.slice a rs.length c)] 59 w∧vrF a c rs w∧True) (fun x:RV × Nat=>[Bg x.2 0]) (fun x:RV × Nat=>[bx x.2 [S1 (.slice x.1.ad x.1.ll.length x.1.cp)] 207]) ((fun ys=>ys.map (·.1)=rs)):=by
 intro y σ Ps L J T s0 hs0 hY
 refine Aj Tryz.func212 Z Z fun X w0=>Ae (fun w h=>(h:J s0 w∧(fun w=>Bc r1 [S1 (.slice a rs.length c)] 59 w∧vrF a c rs w∧True) w)) (Ab (Aa (oj (A4 Z Z B3 (fun w h=>Bc.at1 (h.2.1) Z) (oj (Bn Z Z Tryz.underlying59 Z (oj (mv Z Z (on (qn (Ag (Aw (fun (sT:(Nat) × (List (RV × Nat)) × (σ))=>(⟨Ps sT.2.2∧sT.1≤rs.length∧sT.2.1.map (·.1)=rs.take sT.1∧Run T sT.2.1 s0 sT.2.2,[(0,.func (.yield y) #[] #[]),(6,.slice a rs.length c),(7,iv rs.length),(8,iv (sT.1:Int))],L sT.2.2,fun w=>J sT.2.2 w∧vrF a c rs w∧True,rs.length-sT.1⟩:Hd)) (0,[],s0) (⟨hs0,Nat.zero_le _,Z,.nil⟩) (⟨Z,Z,Z,Z,tR⟩) (.refl _) (fun w h=>⟨(h.1),(h.2.2.1),tR⟩) ?_))))))))))))
 rintro ⟨i,ys,s⟩ ⟨hs,hi,hy,hr⟩
 try dsimp only
 try dsimp only at hs hi hy hr
 refine Ab (Aa (oj (Dd Z Z Z (on (qn (Ab ?_))))))
 refine A8 Z (fun ht=>?_) (fun hf=>?_)
 ·obtain ⟨x,hx⟩:∃ x,rs[i]? = some x:=⟨_,List.getElem?_eq_getElem (by omega)⟩
  have hx3:=hk x (List.mem_of_getElem? hx)
  refine Ah (qn (Ab (Ag (Ab (Aa (oj (Fc Z Z Z Tryz.underlying59 Bi (by omega) (fun w h=>Sl.some (h.2.1) (by omega)) (oj (D4 Z Z Bi Z (fun w h=>Cv (h.2.1) (by decide) (fun _=>Z) hx) (Ac (d:=11) (v:=vA x) Z Z (oj (C7 Z Cc (fun r4=>(oj (C0 Z Z Bi Z Z .head (on (qn (Ab (Ab (Aa ?_))))))))))))))))))))
  refine oj (A2 (o':=0) Z Z Bq Ai Z (oj (Bh Z Z Ai (.head _) (Z) (oj (G2 Z Z Z (on (qn (C5 Z (fun ht=>absurd ht (by rw [hx3]; simp)) (fun hf=>(Ah (qn (Ab (Aa (oj (A2 (o':=3) Z Z Cd B3 Z (oj (Bh Z Z B3 (.head _) (Z) (oj (C7 Z zok_207 (fun r5=>(oj (Cr Z Z ty_207 Z .head (.head Z) Z (on (qn ?_))))))))))))))))))))))))
  refine Ab (Aa (oj (mv Z Z (oj (yldE (own:=[_]) hY (x:=(x,r5)) ⟨ys,(rs.drop (i+1)).map (fun z=>(z,0)),hr,by show List.map _ _=rs; rw [List.map_append,hy,List.map_cons,List.map_map]; have:=tk_split hx; simpa [Function.comp_def] using this⟩ hs Z Z (.cons Z .nil) Z (fun w h=>(h.1)) (fun s2 hP hT=>?_))))))
  try dsimp only [List.cons_append,List.nil_append]
  exact kj_J (oj (not Z Z (on (qn (Ap Z (fun h=>by cases h) (fun _=>(Ah (bn (qn (Aa (oj (add Z Z Z (by omega) (oj (mv Z Z (on (qn (Ar (i+1,ys++[(x,r5)],s2) (by dsimp only; omega) (⟨hP,by (try dsimp only); omega,by (try dsimp only); rw [List.map_append,hy,A7 hx]; rfl,hr.snoc hT⟩) (⟨Z,Z,Z,Z,tR⟩) (.cons _ (.refl _)) (fun w h=>⟨(h.1.1),(h.2.2.1),tR⟩))))))))))))))))))
 ·have h4:i=rs.length:=by omega
  subst h4
  rw [List.take_length] at hy
  exact A1 (qe (qe (be (As s Z .nil Z ⟨hs,ys,hy,hr⟩ (.refl _) (fun w h=>(h.1)) (.inr Z)))))
theorem Ex {x:RV} {n:Int} (h:x.val=.int n):∃ a c,x=.int n a c:=by
 cases x with
 | int m a c=>simp only [RV.val,Val.int.injEq] at h; subst h; exact ⟨a,c,rfl⟩
 | text s a c=>simp [RV.val] at h
 | list l a c=>simp [RV.val] at h
theorem val_text {x:RV} {s:List UInt8} (h:x.val=.text s):∃ a c,x=.text s a c:=by
 cases x with
 | int m a c=>simp [RV.val] at h
 | text s a c=>simp only [RV.val,Val.text.injEq] at h; subst h; exact ⟨a,c,rfl⟩
 | list l a c=>simp [RV.val] at h
theorem G3 {x:RV} {l:List Val} (h:x.val=.list l):∃ rs a c,x=.list rs a c∧vals rs=l:=by
 cases x with
 | int m a c=>simp [RV.val] at h
 | text s a c=>simp [RV.val] at h
 | list l a c=>simp only [RV.val,Val.list.injEq] at h; exact ⟨l,a,c,rfl,h⟩
theorem Cg {rs:List RV} {v:Val} {l:List Val} (h:vals rs=v::l):∃ x xs,rs=x::xs∧x.val=v∧vals xs=l:=by
 cases rs with
 | nil=>simp [vals] at h
 | cons x xs=>simp only [vals,List.cons.injEq] at h; exact ⟨x,xs,rfl,h.1,h.2⟩
theorem vals_nil {rs:List RV} (h:vals rs=[]):rs=[]:=by
 cases rs with
 | nil=>rfl
 | cons x xs=>simp [vals] at h
theorem vals_x {α:Type} {L ds zs:List RV} {x:RV} {l:List α} {f:α→Val} (h:vals L=l.map f) (e:ds++x::zs=L):∃ y,l[ds.length]? = some y∧x.val=f y:=by
 have h1:(vals L)[ds.length]? = some x.val:=by rw [Cz,List.getElem?_map,← e]; simp
 rw [h,List.getElem?_map] at h1
 obtain ⟨y,hy,h2⟩:=Option.map_eq_some_iff.1 h1
 exact ⟨y,hy,h2.symm⟩
theorem vals_lists {α:Type} {L:List RV} {l:List α} {f:α→List Val} (h:vals L=l.map fun x=>.list (f x)):∀ x∈L,x.kd=3:=by
 intro x hx
 obtain ⟨i,hi⟩:=List.mem_iff_getElem?.1 hx
 have h1:(vals L)[i]? = some x.val:=by rw [Cz,List.getElem?_map,hi]; rfl
 rw [h,List.getElem?_map] at h1
 obtain ⟨y,hy,h2⟩:=Option.map_eq_some_iff.1 h1
 obtain ⟨rs,a,c,rfl,_⟩:=G3 h2.symm
 rfl
structure SmC (c c':Cm):Prop where
 fo:c'.folder=c.folder
 ep:c'.epoch=c.epoch
 au:c'.author=c.author
 sr:c'.sr=c.sr
 ss:c'.ss=c.ss
 pa:c'.parent=c.parent
 co:c'.confirm=c.confirm
 ch:c'.ch=c.ch
 path:c'.path=c.path
 bx:c'.bx.map bxxV=c.bx.map bxxV
 wl:c'.wl.map J5=c.wl.map J5
theorem SmC.vals {c c':Cm} (h:SmC c c'):Cb c'=Cb c:=by
 unfold Cb
 rw [h.fo,h.ep,h.au,h.sr,h.ss,h.pa,h.co,h.ch,h.path,h.bx,h.wl]
abbrev rsegs (f e:Int) (d:Dig) (au:Int) (a1:Option Addr) (n1 c1:Nat) (a2:Option Addr) (n2 c2:Nat) (a3:Option Addr) (n3 c3:Nat) (a4:Option Addr) (n4 c4:Nat) (cd:Dig) (sr ss:Int):List Seg :=
 [S1 (iv f),S1 (iv e),sd d,S1 (iv au),S1 (.slice a1 n1 c1),S1 (.slice a2 n2 c2),S1 (.slice a3 n3 c3),S1 (.slice a4 n4 c4),sd cd,S1 (iv sr),S1 (iv ss)]
def BxF (l:List Bxx) (w:World):Prop:=∀ b∈l,Sl 1 b.b.length (An b.b) (.slice b.a b.b.length b.c) w
def WlF (l:List Wlc) (w:World):Prop:=∀ b∈l,Sl 1 b.b.length (An b.b) (.slice b.a b.b.length b.c) w
theorem BxF.snoc {l:List Bxx} {x:Bxx} {w:World} (h:BxF l w) (k:Sl 1 x.b.length (An x.b) (.slice x.a x.b.length x.c) w):BxF (l++[x]) w:=fun b hb=>by
 rcases List.mem_append.1 hb with hb | hb
 ·exact h b hb
 ·rw [List.mem_singleton.1 hb]; exact k
theorem WlF.snoc {l:List Wlc} {x:Wlc} {w:World} (h:WlF l w) (k:Sl 1 x.b.length (An x.b) (.slice x.a x.b.length x.c) w):WlF (l++[x]) w:=fun b hb=>by
 rcases List.mem_append.1 hb with hb | hb
 ·exact h b hb
 ·rw [List.mem_singleton.1 hb]; exact k
theorem Gy {α:Type} {L:List RV} {l:List α} {f:α→Val} (h:vals L=l.map f):L.length=l.length:=by
 have:=congrArg List.length h
 rw [Cz,List.length_map,List.length_map] at this
 exact this
theorem read0_spec (c:Cm) (hb:CmB c) (p0:Option Addr) (q0:Nat) (p1:Option Addr) (q1:Nat) (p2:Option Addr) (q2:Nat) (p3:Option Addr) (q3:Nat) (p4:Option Addr) (q4:Nat) (p5:Option Addr) (q5:Nat) (p6:Option Addr) (q6:Nat) (p7:Option Addr) (q7:Nat) (p8:Option Addr) (q8:Nat) (p9:Option Addr) (q9:Nat) (p10:Option Addr) (q10:Nat) (L4 L5 L6 L7:List RV) (hL4:vals L4=c.ch.map chgV) (hL5:vals L5=c.path.map .int) (hL6:vals L6=c.bx.map bxxV) (hL7:vals L7=c.wl.map J5) (pa:Option Addr) (pac:Nat):Ay Tryz.prog 72 [vA (.list [.int c.folder p0 q0,.int c.epoch p1 q1,.text c.parent.b p2 q2,.int c.author p3 q3,.list L4 p4 q4,.list L5 p5 q5,.list L6 p6 q6,.list L7 p7 q7,.text c.confirm.b p8 q8,.int c.sr p9 q9,.int c.ss p10 q10] pa pac)] [] (fun w=>vrF pa pac [.int c.folder p0 q0,.int c.epoch p1 q1,.text c.parent.b p2 q2,.int c.author p3 q3,.list L4 p4 q4,.list L5 p5 q5,.list L6 p6 q6,.list L7 p7 q7,.text c.confirm.b p8 q8,.int c.sr p9 q9,.int c.ss p10 q10] w∧Cw (.list L4 p4 q4) w∧Cw (.list L5 p5 q5) w∧Cw (.list L6 p6 q6) w∧Cw (.list L7 p7 q7) w∧True) (fun x:Cm=>⟨SmC c x,av x.segs,[],fun w=>CF1 x w∧CF2 x w∧CF3 x w∧CF4 x w∧CF5 x w∧CF6 x w∧True⟩):=by
 refine Dv Tryz.func72 Z Z fun X w0=>?_
 have hb1:=hb.h1
 have hb2:=hb.h2
 have hb3:=hb.h3
 have hb4:=hb.h4
 refine Cx (Cx (Cx (Cx (Ab (Aa (oj (C6 Z Z (fun r1=>(oj (C7 Z zok_37 (fun r2=>(on (qn (Ab (Aa (oj (A2 (o':=3) Z Z Cd B3 Z (oj (Bh Z Z B3 (.tail _ (.head _)) (Z) (oj (C7 Z zok_207 (fun r3=>(oj (Cr Z Z ty_207 Z .head (.head Z) Z ?_))))))))))))))))))))))))
 refine on (qn (Ab (Aa (oj (Ce Z Z (.cons Z .nil) Gw (Dt r3 pa pac (.int c.folder p0 q0) [.int c.epoch p1 q1,.text c.parent.b p2 q2,.int c.author p3 q3,.list L4 p4 q4,.list L5 p5 q5,.list L6 p6 q6,.list L7 p7 q7,.text c.confirm.b p8 q8,.int c.sr p9 q9,.int c.ss p10 q10] (by simp) Z) (fun _=>.head) (fun _=>Z) (fun w h=>⟨(h.1),tR⟩) ?_)))))
 rintro ⟨u0,u0c⟩ _
 try dsimp only
 refine oj (Ce Z Z (.cons Z .nil) Gw (Dt r3 u0 u0c (.int c.epoch p1 q1) [.text c.parent.b p2 q2,.int c.author p3 q3,.list L4 p4 q4,.list L5 p5 q5,.list L6 p6 q6,.list L7 p7 q7,.text c.confirm.b p8 q8,.int c.sr p9 q9,.int c.ss p10 q10] (by simp) Z) (fun _=>.head) (fun _=>Z) (fun w h=>⟨(h.1.1),tR⟩) ?_)
 rintro ⟨u1,u1c⟩ _
 try dsimp only
 refine oj (Ce Z Z (.cons Z .nil) fb_146 (rdigest_spec r3 u1 u1c (.text c.parent.b p2 q2) [.int c.author p3 q3,.list L4 p4 q4,.list L5 p5 q5,.list L6 p6 q6,.list L7 p7 q7,.text c.confirm.b p8 q8,.int c.sr p9 q9,.int c.ss p10 q10] (by simp) Z c.parent Z) (fun _=>.head) (fun _=>Z) (fun w h=>⟨(h.1.1),tR⟩) ?_)
 rintro ⟨u2,u2c⟩ _
 try dsimp only
 refine oj (Ce Z Z (.cons Z .nil) Gw (Dt r3 u2 u2c (.int c.author p3 q3) [.list L4 p4 q4,.list L5 p5 q5,.list L6 p6 q6,.list L7 p7 q7,.text c.confirm.b p8 q8,.int c.sr p9 q9,.int c.ss p10 q10] (by simp) Z) (fun _=>.head) (fun _=>Z) (fun w h=>⟨(h.1.1),tR⟩) ?_)
 rintro ⟨u3,u3c⟩ _
 try dsimp only
 refine oj (A2 (o':=0) Z Z Jj Ai Z (oj (Cr Z Z Ai Z (.tail .head) (.head Z) Z (oj (A2 (o':=1) Z Z Fj Ai Z (oj (Cr Z Z Ai Z (.tail .head) (.tail (.head Z)) Z (oj (A2 (o':=2) Z Z Kl Dc Z (oj (Cf Z Z Dc Z (.tail .head) (.tail (.tail (.head Z))) Z (oj (A2 (o':=34) Z Z H8 Ai Z (oj (Cr Z Z Ai Z (.tail .head) (.tail (.tail (.tail (.head Z)))) Z (on (qn (Ab (Ab (Aa (oj (Ce Z Z (.cons Z .nil) fb_147 (rlist_spec r3 u3 u3c (.list L4 p4 q4) [.list L5 p5 q5,.list L6 p6 q6,.list L7 p7 q7,.text c.confirm.b p8 q8,.int c.sr p9 q9,.int c.ss p10 q10] (by simp) Z) (fun _=>.head) (fun _=>Z) (fun w h=>⟨(h.1.1),tR⟩) ?_))))))))))))))))))))))
 rintro ⟨⟨u4,u4c⟩,u4q⟩ _
 try dsimp only
 refine on (qn (Ag ?_))
 refine cj_rangeE Z Z fb_212 (list_it u4q p4 q4 L4 (vals_lists hL4) (by rw [Gy hL4]; omega)) (fun (sT:(List RV) × (Nat) × (Option Addr) × (Nat) × (A9))=>(⟨Own 49 5 (.slice sT.2.2.1 sT.2.1 sT.2.2.2.1) sT.2.1 ((c.ch.take sT.2.1).flatMap Chg.cells) sT.2.2.2.2∧sT.2.1=sT.1.length∧sT.2.1≤c.ch.length,[],[vrE r3 u4 ([.list L5 p5 q5,.list L6 p6 q6,.list L7 p7 q7,.text c.confirm.b p8 q8,.int c.sr p9 q9,.int c.ss p10 q10]).length u4c,bx r2 (rsegs c.folder c.epoch c.parent c.author sT.2.2.1 sT.2.1 sT.2.2.2.1 none 0 0 none 0 0 none 0 0 Dig.zero 0 0) 37,sT.2.2.2.2,none,none,none],fun w=>vrF u4 u4c [.list L5 p5 q5,.list L6 p6 q6,.list L7 p7 q7,.text c.confirm.b p8 q8,.int c.sr p9 q9,.int c.ss p10 q10] w∧Cw (.list L4 p4 q4) w∧Cw (.list L5 p5 q5) w∧Cw (.list L6 p6 q6) w∧Cw (.list L7 p7 q7) w∧True,0⟩:Hd)) (fun s x s'=>s'.1=s.1++[x.1]) (([],0,none,0,none)) (⟨.nil,Z,Nat.zero_le _⟩) (.cons_cons _ (.cons_cons _ (.cons _ (.refl _)))) (fun w h=>⟨(h.1.2.1),(Ec h).1,tR⟩) (fun w h=>⟨(h.1.1),(Ec h),(Fg h),(Gg h),(Io h),tR⟩) (fun _=>⟨Z,Z⟩) ?_ ?_
 ·rintro ⟨ds,n,va1,vc1,en1⟩ ⟨x,xr⟩ ⟨ho1,hn,hnl⟩ ⟨ys,zs,hrn,hG⟩ rl rd fn tm X1 w1
  try dsimp only [List.cons_append,List.nil_append]
  try dsimp only at ho1 hn hnl ys zs hrn hG
  have hxs:=run_map (g:=fun s:List RV × Nat × Option Addr × Nat × A9=>s.1) (f:=fun z:RV × Nat=>z.1) (fun _ _ _ h=>h) hrn
  dsimp only at hxs hG
  rw [List.nil_append] at hxs
  have hG2:ds++x::zs.map (·.1)=L4:=by rw [hxs,← hG]; simp
  obtain ⟨y,hy,hxv⟩:=vals_x hL4 hG2
  have hmem:x∈L4:=by rw [← hG2]; simp
  rw [← hn] at hy
  have hnlt:=(List.getElem?_eq_some_iff.1 hy).1
  obtain ⟨xs1,xa,xac,rfl,g0⟩:=G3 hxv
  obtain ⟨z1,w1,rfl,m1,g1⟩:=Cg g0
  obtain ⟨i1,j1,rfl⟩:=Ex m1
  obtain ⟨z2,w2,rfl,m2,g2⟩:=Cg g1
  obtain ⟨i2,j2,rfl⟩:=Ex m2
  obtain ⟨z3,w3,rfl,m3,g3⟩:=Cg g2
  obtain ⟨i3,j3,rfl⟩:=Ex m3
  obtain ⟨z4,w4,rfl,m4,g4⟩:=Cg g3
  obtain ⟨i4,j4,rfl⟩:=Ex m4
  obtain ⟨z5,w5,rfl,m5,g5⟩:=Cg g4
  obtain ⟨i5,j5,rfl⟩:=Ex m5
  obtain rfl:=vals_nil g5
  refine Aa (oj (Ak Z Z (on (qn (Fy (.tail (.tail (.tail (.tail (.tail (.tail (.tail .head))))))) (Ag (A5 mo (Cn (Am 0 _ _ Z).symm ?_))))))))
  try dsimp only [List.eraseIdx]
  refine Fp (dj_upd [0,1,2,4,6,8,10,3,5,7,9,11,12,13] (fun j=>Nat.beq j 3 || Nat.beq j 5 || Nat.beq j 7 || Nat.beq j 9 || Nat.beq j 11 || Nat.beq j 13) (by kernel_rfl) Z Z (.det _ (fun Q K R m k=>(A2 (o':=35) Z Z Es Et Z k)) (.det _ (fun Q K R m k=>(Bh Z Z Et (.tail _ (.head _)) (Z) k)) (.det _ (fun Q K R m k=>(mv Z Z k)) (.det _ (fun Q K R m k=>(mv Z Z k)) (.det _ (fun Q K R m k=>(mv Z Z k)) (.det _ (fun Q K R m k=>(mv Z Z k)) (.det _ (fun Q K R m k=>(mv Z Z k)) (.up _ _ _ _ Z (fun Q K R k=>Ks Z Z (.cons Z .nil) Gw (Dt xr xa xac (.int y.k i1 j1) [.int y.d i2 j2,.int y.p i3 j3,.int y.v i4 j4,.int y.c i5 j5] (by simp) Z) (fun _=>Z) (fun w h=>⟨(Bo.mem (h.1.2.1).2 _ hmem).1,tR⟩) (fun x hx=>Ae (fun w h=>⟨⟨h.1,h.2.1⟩,h.2.2⟩) (k x hx))) ?_)))))))))
  rintro ⟨e1,e1c⟩ _
  try dsimp only
  refine .up _ _ _ _ Z (fun Q K R k=>Ks Z Z (.cons Z .nil) Gw (Dt xr e1 e1c (.int y.d i2 j2) [.int y.p i3 j3,.int y.v i4 j4,.int y.c i5 j5] (by simp) Z) (fun _=>Z) (fun w h=>⟨(h.1.1.1),tR⟩) (fun x hx=>Ae (fun w h=>⟨⟨h.1,h.2.1⟩,h.2.2⟩) (k x hx))) ?_
  rintro ⟨e2,e2c⟩ _
  try dsimp only
  refine .up _ _ _ _ Z (fun Q K R k=>Ks Z Z (.cons Z .nil) Gw (Dt xr e2 e2c (.int y.p i3 j3) [.int y.v i4 j4,.int y.c i5 j5] (by simp) Z) (fun _=>Z) (fun w h=>⟨(h.1.1.1),tR⟩) (fun x hx=>Ae (fun w h=>⟨⟨h.1,h.2.1⟩,h.2.2⟩) (k x hx))) ?_
  rintro ⟨e3,e3c⟩ _
  try dsimp only
  refine .up _ _ _ _ Z (fun Q K R k=>Ks Z Z (.cons Z .nil) Gw (Dt xr e3 e3c (.int y.v i4 j4) [.int y.c i5 j5] (by simp) Z) (fun _=>Z) (fun w h=>⟨(h.1.1.1),tR⟩) (fun x hx=>Ae (fun w h=>⟨⟨h.1,h.2.1⟩,h.2.2⟩) (k x hx))) ?_
  rintro ⟨e4,e4c⟩ _
  try dsimp only
  refine .up _ _ _ _ Z (fun Q K R k=>Ks Z Z (.cons Z .nil) Gw (Dt xr e4 e4c (.int y.c i5 j5) [] (by simp) Z) (fun _=>Z) (fun w h=>⟨(h.1.1.1),tR⟩) (fun x hx=>Ae (fun w h=>⟨⟨h.1,h.2.1⟩,h.2.2⟩) (k x hx))) ?_
  rintro ⟨e5,e5c⟩ _
  try dsimp only
  refine .det _ (fun Q K R m k=>(bld Z lay_49 (Ch Z Z (.head Z) (Ch Z Z (.tail (.head Z)) (Ch Z Z (.tail (.tail (.head Z))) (Ch Z Z (.tail (.tail (.tail (.head Z)))) (Ch Z Z (.tail (.tail (.tail (.tail (.head Z))))) .nil))))) k)) (.up (γ:=Nat) (fun _=>True) _ (fun _=>_) _ Z (fun Q K R k=>(F7 Z Tryz.underlying30 Cp Fv (.agg (s:=Fr 5 y.cells) Z .nil) (by repeat (first | exact List.forall_mem_nil _ | refine List.forall_mem_cons.2 ⟨rfl,?_⟩)) Z (by decide) Z (fun r33=>Al (.refl _) (Ae (fun w h=>⟨⟨h.1,h.2.1⟩,h.2.2⟩) (k r33 tR))))) ?_)
  rintro r33 _
  try dsimp only [List.nil_append,List.cons_append]
  refine .nil (J1 0 ?_)
  dsimp only [List.take,List.drop,List.nil_append,List.cons_append]
  refine Ad 14 ((Ku Z Z Z el_30 (by kernel_rfl) ho1 (i:=3) Z (fun w ho h=>Bc.src (h.1.1) Z) (by omega) (by simp only [maxLen]; omega) (fun v34 e34 ho34=>?_)))
  try dsimp only [List.set]
  obtain ⟨va34,vc34,hv34,hc34⟩:=ho34.shape'
  subst hv34
  exact Ad 15 ((A2 (o':=35) Z Z Es Et Z (Ad 16 ((Cr Z Z Et Z (.tail (.tail .head)) (.tail (.tail (.tail (.tail (.head Z))))) Z (A6 (bn (Ik ((_,n+1,va34,vc34,e34)) (.tail (.tail (.tail (.tail (.tail (.tail (.tail .head))))))) Z (⟨⟨by rw [A7 hy,Dj]; exact ho34,by simp [hn],hnlt⟩,Z⟩) (.cons _ (.refl _)) (fun w h=>⟨(Ec h),(Fg h),(Gg h),(Io h),(Ew h),tR⟩)))))))))
 ·rintro ⟨ds,n,va1,vc1,en1⟩ rd4 ⟨ho1,hn,hnl⟩ ⟨xs,hG,hrun⟩
  try dsimp only [List.cons_append,List.nil_append]
  try dsimp only at ho1 hn hnl hG hrun
  have hxs:=run_map (g:=fun s:List RV × Nat × Option Addr × Nat × A9=>s.1) (f:=fun z:RV × Nat=>z.1) (fun _ _ _ h=>h) hrun
  dsimp only at hxs
  rw [hG,List.nil_append] at hxs
  have hn2:=Gy hL4
  rw [← hxs,← hn] at hn2
  clear hnl
  subst hn2
  rw [List.take_length] at ho1
  refine bn (qn (Ab (Aa (By (i:=3) Z ho1 (Do (fun _=>Z) _) ?_))))
  try dsimp only [List.eraseIdx]
  refine oj (Ce Z Z (.cons Z (.cons Z .nil)) fb_148 (rnext_spec r3 u4 u4c (.list L5 p5 q5) [.list L6 p6 q6,.list L7 p7 q7,.text c.confirm.b p8 q8,.int c.sr p9 q9,.int c.ss p10 q10] (by simp)) (fun _=>(.tail .head)) (fun _=>Z) (fun w h=>⟨(h.2.1.1),tR⟩) ?_)
  rintro ⟨u5,u5c⟩ _
  try dsimp only
  refine oj (fld1 Z Z Cd B3 Z (oj (C7 Z zok_207 (fun r5=>(oj (Cr Z Z ty_207 Z .head (.head Z) Z (on (qn (Ab (Ag (Aw (fun (sT:(Nat) × (List RV) × (Option Addr) × (Nat) × (Option Addr) × (Nat) × (A9))=>(⟨Own 3 1 (.slice sT.2.2.2.2.1 sT.1 sT.2.2.2.2.2.1) sT.1 ((c.path.take sT.1).flatMap fun x=>[iv x]) sT.2.2.2.2.2.2∧vals sT.2.1=(c.path.drop sT.1).map .int∧sT.1≤c.path.length,[(2,Bg r2 0),(3,Bg r3 0),(5,Bg r5 0)],[vrE r5 sT.2.2.1 sT.2.1.length sT.2.2.2.1,mkE rd4,vrE r3 u5 ([.list L6 p6 q6,.list L7 p7 q7,.text c.confirm.b p8 q8,.int c.sr p9 q9,.int c.ss p10 q10]).length u5c,bx r2 (rsegs c.folder c.epoch c.parent c.author va1 c.ch.length vc1 sT.2.2.2.2.1 sT.1 sT.2.2.2.2.2.1 none 0 0 none 0 0 Dig.zero 0 0) 37,sT.2.2.2.2.2.2,none,none],fun w=>vrF u5 u5c [.list L6 p6 q6,.list L7 p7 q7,.text c.confirm.b p8 q8,.int c.sr p9 q9,.int c.ss p10 q10] w∧vrF sT.2.2.1 sT.2.2.2.1 sT.2.1 w∧Cw (.list L4 p4 q4) w∧Cw (.list L5 p5 q5) w∧Cw (.list L6 p6 q6) w∧Cw (.list L7 p7 q7) w∧Sl 5 c.ch.length (c.ch.flatMap Chg.cells) (.slice va1 c.ch.length vc1) w∧True,sT.2.1.length⟩:Hd)) (0,L5,p5,q5,none,0,none) (⟨.nil,hL5,Nat.zero_le _⟩) (⟨Z,Z,Z,tR⟩) (.refl _) (fun w h=>⟨(h.1.1),(h.2.2.1.2.2.1).1,(h.2.2.1.2.1),(h.2.2.1.2.2.1),(h.2.2.1.2.2.2.1),(h.2.2.1.2.2.2.2.1),(h.2.1.1),tR⟩) ?_)))))))))))
  rintro ⟨n,rs,ea,eac,va2,vc2,en2⟩ ⟨ho2,hv,hnl⟩
  try dsimp only
  try dsimp only at ho2 hv hnl
  refine Ab (Ab (Aa (oj (Bh Z Z ty_207 (.head _) (Z) (oj (Bn Z Z Tryz.underlying207 Z (oj (gti Z Z Z (on (qn ?_))))))))))
  refine A8 Z (fun ht=>?_) (fun hf=>?_)
  ·have hrl:rs.length=c.path.length-n:=by
    have:=congrArg List.length hv
    rw [Cz,List.length_map,List.length_map,List.length_drop] at this
    exact this
   obtain ⟨pv,hpv⟩:∃ p,c.path[n]? = some p:=⟨_,List.getElem?_eq_getElem (by omega)⟩
   have hdr:c.path.drop n=pv::c.path.drop (n+1):=by
    obtain ⟨hi,e⟩:=List.getElem?_eq_some_iff.1 hpv
    rw [← e,← List.drop_eq_getElem_cons hi]
   rw [hdr] at hv
   obtain ⟨z1,t1,rfl,m1,g1⟩:=Cg hv
   obtain ⟨i1,j1,rfl⟩:=Ex m1
   refine Ah (qn (Ag (A5 mo (Cn (Am 0 _ _ Z).symm ?_))))
   try dsimp only [List.eraseIdx]
   refine Fp (dj_upd [0,1,2,3] (fun j=>Nat.beq j 2 || Nat.beq j 3) (by kernel_rfl) Z Z (.det _ (fun Q K R m k=>(A2 (o':=36) Z Z Gn Eg Z k)) (.det _ (fun Q K R m k=>(Bh Z Z Eg (.tail _ (.tail _ (.head _))) (Z) k)) (.up _ _ _ _ Z (fun Q K R k=>Ks Z Z (.cons Z .nil) Gw (Dt r5 ea eac (.int pv i1 j1) t1 (by simp at hrl ⊢; omega) Z) (fun _=>Z) (fun w h=>⟨(h.1.2.1),tR⟩) (fun x hx=>Ae (fun w h=>⟨⟨h.1,h.2.1⟩,h.2.2⟩) (k x hx))) ?_))))
   rintro ⟨ea2,ea2c⟩ _
   try dsimp only
   refine .up (γ:=Nat) (fun _=>True) _ (fun _=>_) _ Z (fun Q K R k=>(F7 Z Tryz.underlying31 Ai Gd (C3 (v:=iv pv) Z Z .nil) (by repeat (first | exact List.forall_mem_nil _ | refine List.forall_mem_cons.2 ⟨rfl,?_⟩)) Z (by decide) Z (fun r44=>Al (.refl _) (Ae (fun w h=>⟨⟨h.1,h.2.1⟩,h.2.2⟩) (k r44 tR))))) ?_
   rintro r44 _
   try dsimp only [List.nil_append,List.cons_append]
   refine .nil (J1 0 ?_)
   dsimp only [List.take,List.drop,List.nil_append,List.cons_append]
   refine Ad 4 ((Ku Z Z Z el_31 (by kernel_rfl) ho2 (i:=4) Z (fun w ho h=>Bc.src (h.1.1) Z) (by omega) (by simp only [maxLen]; omega) (fun v45 e45 ho45=>?_)))
   try dsimp only [List.set]
   obtain ⟨va45,vc45,hv45,hc45⟩:=ho45.shape'
   subst hv45
   exact Ad 5 ((A2 (o':=36) Z Z Gn Eg Z (Ad 6 ((Cr Z Z Eg Z (.tail (.tail (.tail .head))) (.tail (.tail (.tail (.tail (.tail (.head Z)))))) Z (A6 (bn (qn (Ar (n+1,t1,ea2,ea2c,va45,vc45,e45) (by (try dsimp only); simp) (⟨by rw [A7 hpv,Dj]; exact ho45,g1,by (try dsimp only); omega⟩) (⟨Z,Z,Z,tR⟩) (.refl _) (fun w h=>⟨(h.2.2.1),(h.2.1.1),(Dw h),(Ez h),(Ec h),(Fg h),(Gg h),tR⟩))))))))))
  ·have hrl:rs.length=c.path.length-n:=by
    have:=congrArg List.length hv
    rw [Cz,List.length_map,List.length_map,List.length_drop] at this
    exact this
   have h4:n=c.path.length:=by omega
   clear hnl hv hrl
   subst h4
   rw [List.take_length] at ho2
   refine A1 (qe (qe (be (qn (Ab (Ab (Aa (By (i:=4) Z ho2 (fi_one _) ?_))))))))
   try dsimp only [List.eraseIdx]
   refine oj (Ce Z Z (.cons Z .nil) fb_147 (rlist_spec r3 u5 u5c (.list L6 p6 q6) [.list L7 p7 q7,.text c.confirm.b p8 q8,.int c.sr p9 q9,.int c.ss p10 q10] (by simp) Z) (fun _=>(.tail (.tail .head))) (fun _=>Z) (fun w h=>⟨(h.2.1),tR⟩) ?_)
   rintro ⟨⟨u6,u6c⟩,u6q⟩ _
   try dsimp only
   refine on (qn (Ag ?_))
   refine cj_rangeE Z Z fb_212 (list_it u6q p6 q6 L6 (vals_lists hL6) (by rw [Gy hL6]; omega)) (fun (sT:(List RV) × (List Bxx) × (Nat) × (Option Addr) × (Nat) × (A9))=>(⟨Own 91 4 (.slice sT.2.2.2.1 sT.2.2.1 sT.2.2.2.2.1) sT.2.2.1 (sT.2.1.flatMap Bxx.cells) sT.2.2.2.2.2∧sT.2.2.1=sT.1.length∧sT.2.2.1≤c.bx.length∧sT.2.1.map bxxV=(c.bx.take sT.2.2.1).map bxxV,[],[mkE rd4,vrE r3 u6 ([.list L7 p7 q7,.text c.confirm.b p8 q8,.int c.sr p9 q9,.int c.ss p10 q10]).length u6c,bx r2 (rsegs c.folder c.epoch c.parent c.author va1 c.ch.length vc1 va2 c.path.length vc2 sT.2.2.2.1 sT.2.2.1 sT.2.2.2.2.1 none 0 0 Dig.zero 0 0) 37,sT.2.2.2.2.2,none],fun w=>vrF u6 u6c [.list L7 p7 q7,.text c.confirm.b p8 q8,.int c.sr p9 q9,.int c.ss p10 q10] w∧Cw (.list L4 p4 q4) w∧Cw (.list L5 p5 q5) w∧Cw (.list L6 p6 q6) w∧Cw (.list L7 p7 q7) w∧Sl 5 c.ch.length (c.ch.flatMap Chg.cells) (.slice va1 c.ch.length vc1) w∧Sl 1 c.path.length (c.path.flatMap fun x=>[iv x]) (.slice va2 c.path.length vc2) w∧BxF sT.2.1 w∧True,0⟩:Hd)) (fun s x s'=>s'.1=s.1++[x.1]) (([],[],0,none,0,none)) (⟨.nil,Z,Nat.zero_le _,Z⟩) (.cons _ (.refl _)) (fun w h=>⟨(h.1.2.1),(Ec h).1,tR⟩) (fun w h=>⟨(h.1.1),(Dw h),(Ez h),(Ec h),(Fg h),(Gg h),(h.2.1.1),(fun b hb=>by cases hb),tR⟩) (fun _=>⟨Z,Z⟩) ?_ ?_
   ·rintro ⟨ds,bs,n,va3,vc3,en3⟩ ⟨x,xr⟩ ⟨ho3,hn,hnl,hbs⟩ ⟨ys,zs,hrn,hG⟩ rl rd fn tm X1 w1
    try dsimp only [List.cons_append,List.nil_append]
    try dsimp only at ho3 hn hnl hbs ys zs hrn hG
    have hxs:=run_map (g:=fun s:List RV × List Bxx × Nat × Option Addr × Nat × A9=>s.1) (f:=fun z:RV × Nat=>z.1) (fun _ _ _ h=>h) hrn
    dsimp only at hxs hG
    rw [List.nil_append] at hxs
    have hG2:ds++x::zs.map (·.1)=L6:=by rw [hxs,← hG]; simp
    obtain ⟨y,hy,hxv⟩:=vals_x hL6 hG2
    have hmem:x∈L6:=by rw [← hG2]; simp
    rw [← hn] at hy
    have hnlt:=(List.getElem?_eq_some_iff.1 hy).1
    obtain ⟨xs1,xa,xac,rfl,g0⟩:=G3 hxv
    obtain ⟨z1,w1,rfl,m1,g1⟩:=Cg g0
    obtain ⟨i1,j1,rfl⟩:=Ex m1
    obtain ⟨z2,w2,rfl,m2,g2⟩:=Cg g1
    obtain ⟨i2,j2,rfl⟩:=Ex m2
    obtain ⟨z3,w3,rfl,m3,g3⟩:=Cg g2
    obtain ⟨i3,j3,rfl⟩:=Ex m3
    obtain ⟨z4,w4,rfl,m4,g4⟩:=Cg g3
    obtain ⟨i4,j4,rfl⟩:=val_text m4
    obtain rfl:=vals_nil g4
    refine Aa (oj (Ak Z Z (on (qn (Fy (.tail (.tail (.tail (.tail (.tail (.tail .head)))))) (Ag (A5 mo (Cn (Am 0 _ _ Z).symm ?_))))))))
    try dsimp only [List.eraseIdx]
    refine Fp (dj_upd [0,1,2,4,6,3,5,7,8,9] (fun j=>Nat.beq j 3 || Nat.beq j 5 || Nat.beq j 7 || Nat.beq j 9) (by kernel_rfl) Z Z (.det _ (fun Q K R m k=>(A2 (o':=37) Z Z D7 Db Z k)) (.det _ (fun Q K R m k=>(Bh Z Z Db (.tail _ (.tail _ (.head _))) (Z) k)) (.det _ (fun Q K R m k=>(mv Z Z k)) (.det _ (fun Q K R m k=>(mv Z Z k)) (.det _ (fun Q K R m k=>(mv Z Z k)) (.up _ _ _ _ Z (fun Q K R k=>Ks Z Z (.cons Z .nil) Gw (Dt xr xa xac (.int y.n i1 j1) [.int y.lv i2 j2,.int y.u i3 j3,.text y.b i4 j4] (by simp) Z) (fun _=>Z) (fun w h=>⟨(Bo.mem (Cu h.1).2 _ hmem).1,tR⟩) (fun x hx=>Ae (fun w h=>⟨⟨h.1,h.2.1⟩,h.2.2⟩) (k x hx))) ?_)))))))
    rintro ⟨e1,e1c⟩ _
    try dsimp only
    refine .up _ _ _ _ Z (fun Q K R k=>Ks Z Z (.cons Z .nil) Gw (Dt xr e1 e1c (.int y.lv i2 j2) [.int y.u i3 j3,.text y.b i4 j4] (by simp) Z) (fun _=>Z) (fun w h=>⟨(h.1.1.1),tR⟩) (fun x hx=>Ae (fun w h=>⟨⟨h.1,h.2.1⟩,h.2.2⟩) (k x hx))) ?_
    rintro ⟨e2,e2c⟩ _
    try dsimp only
    refine .up _ _ _ _ Z (fun Q K R k=>Ks Z Z (.cons Z .nil) fb_149 (rwrap_spec xr e2 e2c (.int y.u i3 j3) (.text y.b i4 j4) [] (by simp) Z Z) (fun _=>Z) (fun w h=>⟨(h.1.1.1),tR⟩) (fun x hx=>Ae (fun w h=>⟨⟨h.1,h.2.1⟩,h.2.2⟩) (k x hx))) ?_
    rintro ⟨⟨e3,e3c⟩,⟨wa,wc⟩⟩ ⟨_,hwc⟩
    try dsimp only
    refine .det (.agg (Fr 4 [iv y.n,iv y.lv,iv y.u,.slice wa y.b.length wc]).cs.toArray) (fun Q K R m k=>(bld Z lay_91 (Ch Z Z (.head Z) (Ch Z Z (.tail (.head Z)) (.agg (s:=Fr 2 [iv y.u,.slice wa y.b.length wc]) Z (.tail (.tail (.head Z))) .nil))) (B8 (Z) k))) (.up (γ:=Nat) (fun _=>True) _ (fun _=>_) _ Z (fun Q K R k=>(F7 Z Tryz.underlying32 E1 I9 (.agg (s:=Fr 4 [iv y.n,iv y.lv,iv y.u,.slice wa y.b.length wc]) Z .nil) (by repeat (first | exact List.forall_mem_nil _ | refine List.forall_mem_cons.2 ⟨rfl,?_⟩)) Z (by decide) Z (fun r58=>Al (.refl _) (Ae (fun w h=>⟨⟨h.1,h.2.1⟩,h.2.2⟩) (k r58 tR))))) ?_)
    rintro r58 _
    try dsimp only [List.nil_append,List.cons_append]
    refine .nil (J1 0 ?_)
    dsimp only [List.take,List.drop,List.nil_append,List.cons_append]
    refine Ad 10 ((Ku Z Z Z el_32 (by kernel_rfl) ho3 (i:=4) Z (fun w ho h=>Bc.src (h.1.1) Z) (by omega) (by simp only [maxLen]; omega) (fun v59 e59 ho59=>?_)))
    try dsimp only [List.set]
    obtain ⟨va59,vc59,hv59,hc59⟩:=ho59.shape'
    subst hv59
    exact Ad 11 ((A2 (o':=37) Z Z D7 Db Z (Ad 12 ((Cr Z Z Db Z (.tail (.tail (.tail .head))) (.tail (.tail (.tail (.tail (.tail (.tail (.head Z))))))) Z (A6 (bn (Ik ((_,bs++[⟨y.n,y.lv,y.u,y.b,wa,wc⟩],n+1,va59,vc59,e59)) (.tail (.tail (.tail (.tail (.tail (.tail .head)))))) Z (⟨⟨by rw [Dj]; exact ho59,by simp [hn],hnlt,by (try dsimp only); rw [A7 hy,List.map_append,List.map_append,hbs]; rfl⟩,Z⟩) (.cons _ (.refl _)) (fun w h=>⟨(Dw h),(Ez h),(Ec h),(Fg h),(Gg h),(Io h),(Ew h),BxF.snoc (Fh h) (h.2.1.2.1),tR⟩)))))))))
   ·rintro ⟨ds,bs,n,va3,vc3,en3⟩ rd10_1 ⟨ho3,hn,hnl,hbs⟩ ⟨xs,hG,hrun⟩
    try dsimp only [List.cons_append,List.nil_append]
    try dsimp only at ho3 hn hnl hbs hG hrun
    have hxs:=run_map (g:=fun s:List RV × List Bxx × Nat × Option Addr × Nat × A9=>s.1) (f:=fun z:RV × Nat=>z.1) (fun _ _ _ h=>h) hrun
    dsimp only at hxs
    rw [hG,List.nil_append] at hxs
    have hn2:=Gy hL6
    rw [← hxs,← hn] at hn2
    clear hnl
    subst hn2
    rw [List.take_length] at hbs
    refine bn (qn (Ab (Ab (Aa (By (i:=4) Z ho3 (Do (fun _=>Z) _) ?_)))))
    try dsimp only [List.eraseIdx]
    refine oj (Ce Z Z (.cons Z .nil) fb_147 (rlist_spec r3 u6 u6c (.list L7 p7 q7) [.text c.confirm.b p8 q8,.int c.sr p9 q9,.int c.ss p10 q10] (by simp) Z) (fun _=>(.tail (.tail .head))) (fun _=>Z) (fun w h=>⟨(h.2.1.1),tR⟩) ?_)
    rintro ⟨⟨u7,u7c⟩,u7q⟩ _
    try dsimp only
    refine on (qn (Ag ?_))
    refine cj_rangeE Z Z fb_212 (list_it u7q p7 q7 L7 (vals_lists hL7) (by rw [Gy hL7]; omega)) (fun (sT:(List RV) × (List Wlc) × (Nat) × (Option Addr) × (Nat) × (A9))=>(⟨Own 87 3 (.slice sT.2.2.2.1 sT.2.2.1 sT.2.2.2.2.1) sT.2.2.1 (sT.2.1.flatMap Wlc.cells) sT.2.2.2.2.2∧sT.2.2.1=sT.1.length∧sT.2.2.1≤c.wl.length∧sT.2.1.map J5=(c.wl.take sT.2.2.1).map J5,[],[mkE rd10_1,mkE rd4,vrE r3 u7 ([.text c.confirm.b p8 q8,.int c.sr p9 q9,.int c.ss p10 q10]).length u7c,bx r2 (rsegs c.folder c.epoch c.parent c.author va1 c.ch.length vc1 va2 c.path.length vc2 va3 c.bx.length vc3 sT.2.2.2.1 sT.2.2.1 sT.2.2.2.2.1 Dig.zero 0 0) 37,sT.2.2.2.2.2],fun w=>vrF u7 u7c [.text c.confirm.b p8 q8,.int c.sr p9 q9,.int c.ss p10 q10] w∧Cw (.list L4 p4 q4) w∧Cw (.list L5 p5 q5) w∧Cw (.list L6 p6 q6) w∧Cw (.list L7 p7 q7) w∧Sl 5 c.ch.length (c.ch.flatMap Chg.cells) (.slice va1 c.ch.length vc1) w∧Sl 1 c.path.length (c.path.flatMap fun x=>[iv x]) (.slice va2 c.path.length vc2) w∧Sl 4 c.bx.length (bs.flatMap Bxx.cells) (.slice va3 c.bx.length vc3) w∧BxF bs w∧WlF sT.2.1 w∧True,0⟩:Hd)) (fun s x s'=>s'.1=s.1++[x.1]) (([],[],0,none,0,none)) (⟨.nil,Z,Nat.zero_le _,Z⟩) (.refl _) (fun w h=>⟨(h.1.2.1),(h.2.2.1.2.2.2.2.1).1,tR⟩) (fun w h=>⟨(h.1.1),(h.2.2.1.2.1),(h.2.2.1.2.2.1),(h.2.2.1.2.2.2.1),(h.2.2.1.2.2.2.2.1),(h.2.2.1.2.2.2.2.2.1),(h.2.2.1.2.2.2.2.2.2.1),(h.2.1.1),(h.2.2.1.2.2.2.2.2.2.2.1),(fun b hb=>by cases hb),tR⟩) (fun _=>⟨Z,Z⟩) ?_ ?_
    ·rintro ⟨ds,ws,n,va4,vc4,en4⟩ ⟨x,xr⟩ ⟨ho4,hn,hnl,hws⟩ ⟨ys,zs,hrn,hG⟩ rl rd fn tm X1 w1
     try dsimp only [List.cons_append,List.nil_append]
     try dsimp only at ho4 hn hnl hws ys zs hrn hG
     have hxs:=run_map (g:=fun s:List RV × List Wlc × Nat × Option Addr × Nat × A9=>s.1) (f:=fun z:RV × Nat=>z.1) (fun _ _ _ h=>h) hrn
     dsimp only at hxs hG
     rw [List.nil_append] at hxs
     have hG2:ds++x::zs.map (·.1)=L7:=by rw [hxs,← hG]; simp
     obtain ⟨y,hy,hxv⟩:=vals_x hL7 hG2
     have hmem:x∈L7:=by rw [← hG2]; simp
     rw [← hn] at hy
     have hnlt:=(List.getElem?_eq_some_iff.1 hy).1
     obtain ⟨xs1,xa,xac,rfl,g0⟩:=G3 hxv
     obtain ⟨z1,w1,rfl,m1,g1⟩:=Cg g0
     obtain ⟨i1,j1,rfl⟩:=Ex m1
     obtain ⟨z2,w2,rfl,m2,g2⟩:=Cg g1
     obtain ⟨i2,j2,rfl⟩:=Ex m2
     obtain ⟨z3,w3,rfl,m3,g3⟩:=Cg g2
     obtain ⟨i3,j3,rfl⟩:=val_text m3
     obtain rfl:=vals_nil g3
     refine Aa (oj (Ak Z Z (on (qn (Fy (.tail (.tail (.tail (.tail (.tail (.tail .head)))))) (Ag (A5 mo (Cn (Am 0 _ _ Z).symm ?_))))))))
     try dsimp only [List.eraseIdx]
     refine Fp (dj_upd [0,1,2,4,3,5,6,7] (fun j=>Nat.beq j 3 || Nat.beq j 5 || Nat.beq j 7) (by kernel_rfl) Z Z (.det _ (fun Q K R m k=>(A2 (o':=38) Z Z D2 D5 Z k)) (.det _ (fun Q K R m k=>(Bh Z Z D5 (.tail _ (.tail _ (.tail _ (.head _)))) (Z) k)) (.det _ (fun Q K R m k=>(mv Z Z k)) (.det _ (fun Q K R m k=>(mv Z Z k)) (.up _ _ _ _ Z (fun Q K R k=>Ks Z Z (.cons Z .nil) Gw (Dt xr xa xac (.int y.d i1 j1) [.int y.u i2 j2,.text y.b i3 j3] (by simp) Z) (fun _=>Z) (fun w h=>⟨(Bo.mem (Dw h.1).2 _ hmem).1,tR⟩) (fun x hx=>Ae (fun w h=>⟨⟨h.1,h.2.1⟩,h.2.2⟩) (k x hx))) ?_))))))
     rintro ⟨e1,e1c⟩ _
     try dsimp only
     refine .up _ _ _ _ Z (fun Q K R k=>Ks Z Z (.cons Z .nil) fb_149 (rwrap_spec xr e1 e1c (.int y.u i2 j2) (.text y.b i3 j3) [] (by simp) Z Z) (fun _=>Z) (fun w h=>⟨(h.1.1.1),tR⟩) (fun x hx=>Ae (fun w h=>⟨⟨h.1,h.2.1⟩,h.2.2⟩) (k x hx))) ?_
     rintro ⟨⟨e2,e2c⟩,⟨wa,wc⟩⟩ ⟨_,hwc⟩
     try dsimp only
     refine .det (.agg (Fr 3 [iv y.d,iv y.u,.slice wa y.b.length wc]).cs.toArray) (fun Q K R m k=>(bld Z lay_87 (Ch Z Z (.head Z) (.agg (s:=Fr 2 [iv y.u,.slice wa y.b.length wc]) Z (.tail (.head Z)) .nil)) (B8 (Z) k))) (.up (γ:=Nat) (fun _=>True) _ (fun _=>_) _ Z (fun Q K R k=>(F7 Z Tryz.underlying33 Gk zok_87 (.agg (s:=Fr 3 [iv y.d,iv y.u,.slice wa y.b.length wc]) Z .nil) (by repeat (first | exact List.forall_mem_nil _ | refine List.forall_mem_cons.2 ⟨rfl,?_⟩)) Z (by decide) Z (fun r70=>Al (.refl _) (Ae (fun w h=>⟨⟨h.1,h.2.1⟩,h.2.2⟩) (k r70 tR))))) ?_)
     rintro r70 _
     try dsimp only [List.nil_append,List.cons_append]
     refine .nil (J1 0 ?_)
     dsimp only [List.take,List.drop,List.nil_append,List.cons_append]
     refine Ad 8 ((Ku Z Z Z el_33 (by kernel_rfl) ho4 (i:=5) Z (fun w ho h=>Bc.src (h.1.1) Z) (by omega) (by simp only [maxLen]; omega) (fun v71 e71 ho71=>?_)))
     try dsimp only [List.set]
     obtain ⟨va71,vc71,hv71,hc71⟩:=ho71.shape'
     subst hv71
     exact Ad 9 ((A2 (o':=38) Z Z D2 D5 Z (Ad 10 ((Cr Z Z D5 Z (.tail (.tail (.tail (.tail .head)))) (.tail (.tail (.tail (.tail (.tail (.tail (.tail (.head Z)))))))) Z (A6 (bn (Ik ((_,ws++[⟨y.d,y.u,y.b,wa,wc⟩],n+1,va71,vc71,e71)) (.tail (.tail (.tail (.tail (.tail (.tail .head)))))) Z (⟨⟨by rw [Dj]; exact ho71,by simp [hn],hnlt,by (try dsimp only); rw [A7 hy,List.map_append,List.map_append,hws]; rfl⟩,Z⟩) (.cons _ (.refl _)) (fun w h=>⟨(Cu h),(Dw h),(Ez h),(Ec h),(Fg h),(Gg h),(Io h),(Ew h),(Fh h),WlF.snoc (Ev h) (h.2.1.2.1),tR⟩)))))))))
    ·rintro ⟨ds,ws,n,va4,vc4,en4⟩ rd13_2 ⟨ho4,hn,hnl,hws⟩ ⟨xs,hG,hrun⟩
     try dsimp only [List.cons_append,List.nil_append]
     try dsimp only at ho4 hn hnl hws hG hrun
     have hxs:=run_map (g:=fun s:List RV × List Wlc × Nat × Option Addr × Nat × A9=>s.1) (f:=fun z:RV × Nat=>z.1) (fun _ _ _ h=>h) hrun
     dsimp only at hxs
     rw [hG,List.nil_append] at hxs
     have hn2:=Gy hL7
     rw [← hxs,← hn] at hn2
     clear hnl
     subst hn2
     rw [List.take_length] at hws
     refine bn (qn (Ab (Aa (oj (Ce Z Z (.cons Z .nil) fb_146 (rdigest_spec r3 u7 u7c (.text c.confirm.b p8 q8) [.int c.sr p9 q9,.int c.ss p10 q10] (by simp) Z c.confirm Z) (fun _=>(.tail (.tail (.tail .head)))) (fun _=>Z) (fun w h=>⟨(h.1.1),tR⟩) ?_)))))
     rintro ⟨u8,u8c⟩ _
     try dsimp only
     refine oj (A2 (o':=39) Z Z fld_37_8 Dc Z (oj (Cf Z Z Dc Z (.tail (.tail (.tail (.tail .head)))) (.tail (.tail (.tail (.tail (.tail (.tail (.tail (.tail (.head Z))))))))) Z (on (qn (Ab (Aa (oj (Ce Z Z (.cons Z .nil) Gw (Dt r3 u8 u8c (.int c.sr p9 q9) [.int c.ss p10 q10] (by simp) Z) (fun _=>(.tail (.tail (.tail .head)))) (fun _=>Z) (fun w h=>⟨(h.1.1),tR⟩) ?_)))))))))
     rintro ⟨u9,u9c⟩ _
     try dsimp only
     refine oj (Ce Z Z (.cons Z .nil) Gw (Dt r3 u9 u9c (.int c.ss p10 q10) [] (by simp) Z) (fun _=>(.tail (.tail (.tail .head)))) (fun _=>Z) (fun w h=>⟨(h.1.1),tR⟩) ?_)
     rintro ⟨u10,u10c⟩ _
     try dsimp only
     refine oj (A2 (o':=71) Z Z H7 In Z (oj (A2 (o':=71) Z Z H9 Ai Z (oj (Cr Z Z Ai Z (.tail (.tail (.tail (.tail .head)))) (.tail (.tail (.tail (.tail (.tail (.tail (.tail (.tail (.tail (.head Z)))))))))) Z (oj (A2 (o':=71) Z Z H7 In Z (oj (A2 (o':=72) Z Z Km Ai Z (oj (Cr Z Z Ai Z (.tail (.tail (.tail (.tail .head)))) (.tail (.tail (.tail (.tail (.tail (.tail (.tail (.tail (.tail (.tail (.head Z))))))))))) Z (on (qn (Ab (Aa (oj (Eb Z Z Bk (.tail _ (.tail _ (.tail _ (.tail _ (.head _))))) Z (oj (C0 Z Z Bk Z Z (.tail (.tail (.tail (.tail .head)))) (on (qn (Af ?_))))))))))))))))))))))
     have hbl:=congrArg List.length hbs
     rw [List.length_map,List.length_map] at hbl
     have hwl:=congrArg List.length hws
     rw [List.length_map,List.length_map] at hwl
     refine By (i:=5) Z ho4 (Do (fun _=>Z) _) ?_
     try dsimp only [List.eraseIdx]
     refine retM (ds:=[rd13_2,rd10_1,rd4]) ⟨c.folder,c.epoch,c.author,c.sr,c.ss,c.parent,c.confirm,c.ch,c.path,bs,ws,va1,va2,va3,va4,vc1,vc2,vc3,vc4⟩ Z (.refl _) Z (.cellW Z Bk (.tail _ (.head _)) Z .nil) (by show av (rsegs c.folder c.epoch c.parent c.author va1 c.ch.length vc1 va2 c.path.length vc2 va3 c.bx.length vc3 va4 c.wl.length vc4 c.confirm c.sr c.ss)=av (rsegs c.folder c.epoch c.parent c.author va1 c.ch.length vc1 va2 c.path.length vc2 va3 bs.length vc3 va4 ws.length vc4 c.confirm c.sr c.ss); rw [hbl,hwl]) ⟨Z,Z,Z,Z,Z,Z,Z,Z,Z,hbs,hws⟩ (Bl _) (fun w h=>⟨((Dw h).2.2.2.2.2.1),((Dw h).2.2.2.2.2.2.1),(by show Sl 4 bs.length _ _ _; rw [hbl]; exact ((Dw h).2.2.2.2.2.2.2.1)),((Dw h).2.2.2.2.2.2.2.2.1),(by show Sl 3 ws.length _ _ _; rw [hwl]; exact (h.1.1)),((Dw h).2.2.2.2.2.2.2.2.2.1),tR⟩) (.inl Z)
theorem read_spec (c:Cm) (hb:CmB c) (x:RV) (hx:x.val=.list (Cb c)):Ay Tryz.prog 72 [vA x] [] (fun w=>Cw x w∧True) (fun x:Cm=>⟨SmC c x,av x.segs,[],fun w=>CF1 x w∧CF2 x w∧CF3 x w∧CF4 x w∧CF5 x w∧CF6 x w∧True⟩):=by
 obtain ⟨rs,pa,pac,rfl,g0⟩:=G3 hx
 unfold Cb at g0
 obtain ⟨z0,w0,rfl,m0,g1⟩:=Cg g0
 obtain ⟨p0,q0,rfl⟩:=Ex m0
 obtain ⟨z1,w1,rfl,m1,g2⟩:=Cg g1
 obtain ⟨p1,q1,rfl⟩:=Ex m1
 obtain ⟨z2,w2,rfl,m2,g3⟩:=Cg g2
 obtain ⟨p2,q2,rfl⟩:=val_text m2
 obtain ⟨z3,w3,rfl,m3,g4⟩:=Cg g3
 obtain ⟨p3,q3,rfl⟩:=Ex m3
 obtain ⟨z4,w4,rfl,m4,g5⟩:=Cg g4
 obtain ⟨L4,p4,q4,rfl,h4⟩:=G3 m4
 obtain ⟨z5,w5,rfl,m5,g6⟩:=Cg g5
 obtain ⟨L5,p5,q5,rfl,h5⟩:=G3 m5
 obtain ⟨z6,w6,rfl,m6,g7⟩:=Cg g6
 obtain ⟨L6,p6,q6,rfl,h6⟩:=G3 m6
 obtain ⟨z7,w7,rfl,m7,g8⟩:=Cg g7
 obtain ⟨L7,p7,q7,rfl,h7⟩:=G3 m7
 obtain ⟨z8,w8,rfl,m8,g9⟩:=Cg g8
 obtain ⟨p8,q8,rfl⟩:=val_text m8
 obtain ⟨z9,w9,rfl,m9,g10⟩:=Cg g9
 obtain ⟨p9,q9,rfl⟩:=Ex m9
 obtain ⟨z10,w10,rfl,m10,g11⟩:=Cg g10
 obtain ⟨p10,q10,rfl⟩:=Ex m10
 obtain rfl:=vals_nil g11
 exact G5 (read0_spec c hb p0 q0 p1 q1 p2 q2 p3 q3 p4 q4 p5 q5 p6 q6 p7 q7 p8 q8 p9 q9 p10 q10 L4 L5 L6 L7 h4 h5 h6 h7 pa pac) (fun w h=>⟨h.1.1,(Ez h.1),(Ec h.1),(Fg h.1),(Gg h.1),tR⟩)
theorem bxxV_inj {a b:Bxx} (h:bxxV a=bxxV b):a.n=b.n∧a.lv=b.lv∧a.u=b.u∧a.b=b.b:=by
 simp only [bxxV,Val.list.injEq,List.cons.injEq,Val.int.injEq,Val.text.injEq,and_true] at h
 exact h
theorem wlcV_inj {a b:Wlc} (h:J5 a=J5 b):a.d=b.d∧a.u=b.u∧a.b=b.b:=by
 simp only [J5,Val.list.injEq,List.cons.injEq,Val.int.injEq,Val.text.injEq,and_true] at h
 exact h
theorem SmC.bxm {c c':Cm} (h:SmC c c') {b:Bxx} (hb:b∈c'.bx):∃ b0∈c.bx,b.n=b0.n∧b.lv=b0.lv∧b.u=b0.u∧b.b=b0.b:=by
 have h1:bxxV b∈c.bx.map bxxV:=h.bx ▸ List.mem_map_of_mem hb
 obtain ⟨b0,h0,e⟩:=List.mem_map.1 h1
 exact ⟨b0,h0,bxxV_inj e.symm⟩
theorem SmC.wli {c c':Cm} (h:SmC c c') {i:Nat} {x:Wlc} (hx:c'.wl[i]? = some x):∃ x0,c.wl[i]? = some x0∧x.d=x0.d∧x.u=x0.u∧x.b=x0.b:=by
 have h1:(c.wl.map J5)[i]? = some (J5 x):=by rw [← h.wl,List.getElem?_map,hx]; rfl
 rw [List.getElem?_map] at h1
 obtain ⟨x0,h0,e⟩:=Option.map_eq_some_iff.1 h1
 exact ⟨x0,h0,wlcV_inj e.symm⟩
theorem SmC.wli2 {c c':Cm} (h:SmC c c') {i:Nat} {x:Wlc} (hx:c.wl[i]? = some x):∃ x0,c'.wl[i]? = some x0∧x0.d=x.d∧x0.u=x.u∧x0.b=x.b:=by
 have h1:(c'.wl.map J5)[i]? = some (J5 x):=by rw [h.wl,List.getElem?_map,hx]; rfl
 rw [List.getElem?_map] at h1
 obtain ⟨x0,h0,e⟩:=Option.map_eq_some_iff.1 h1
 exact ⟨x0,h0,wlcV_inj e⟩
theorem SmC.bxl {c c':Cm} (h:SmC c c'):c'.bx.length=c.bx.length:=by have:=congrArg List.length h.bx; simpa using this
theorem SmC.wll {c c':Cm} (h:SmC c c'):c'.wl.length=c.wl.length:=by have:=congrArg List.length h.wl; simpa using this
theorem SmC.ck {c c':Cm} (h:SmC c c') (k:CkP c):CkP c' where
 f0:=h.fo ▸ k.f0
 f1:=h.fo ▸ k.f1
 e0:=h.ep ▸ k.e0
 e1:=h.ep ▸ k.e1
 au:=h.au ▸ k.au
 fm:=h.ch ▸ k.fm
 pl:=h.path ▸ k.pl
 bl:=h.bxl ▸ k.bl
 wl:=h.wll ▸ k.wl
 pe:=h.path ▸ k.pe
 be:=fun b hb=>by
  obtain ⟨b0,h0,e1,e2,e3,e4⟩:=h.bxm hb
  have:=k.be b0 h0
  unfold bxB at this ⊢
  rw [e1,e2,e3,e4]; exact this
 we:=fun i hi=>by
  obtain ⟨x,hx,k1,k2,k3⟩:=k.we i (h.wll ▸ hi)
  obtain ⟨x0,hx0,e1,e2,e3⟩:=h.wli2 hx
  refine ⟨x0,hx0,by rw [e1]; exact k1,by rw [e2,e3]; exact k2,fun p hp0 hp=>?_⟩
  obtain ⟨p0,hp1,e4,_,_⟩:=h.wli hp
  rw [e4,e1]
  exact k3 p0 hp0 hp1
theorem SmC.ok {c c':Cm} (h:SmC c c') (k:CmOk c):CmOk c':=by
 refine ⟨⟨?_,?_,?_,?_⟩,?_,?_⟩
 ·rw [h.ch]; exact k.b.h1
 ·rw [h.path]; exact k.b.h2
 ·rw [h.bxl]; exact k.b.h3
 ·rw [h.wll]; exact k.b.h4
 ·rw [h.vals]; exact k.ok
 ·rw [h.vals]; exact k.len
theorem bequal_spec (a b:Option Addr) (c d:Nat) (xs ys:List UInt8):Ay Tryz.prog 73 [.slice a xs.length c,.slice b ys.length d] [] (fun w=>Sl 1 xs.length (An xs) (.slice a xs.length c) w∧Sl 1 ys.length (An ys) (.slice b ys.length d) w∧True) (fun _:Unit=>⟨True,.bool (xs == ys),[],fun _=>True⟩):=by
 refine Aj Tryz.func73 Z Z fun X w0=>(Ab (Aa (oj (Ak Z Z (on (qn (Ab (Aa (oj (mv Z Z (oj (cvbs Z Z Tryz.underlying53 Tryz.underlying9 Tryz.underlying5 (fun w ho h=>(h.1)) (oj (mv Z Z (oj (cvbs Z Z Tryz.underlying53 Tryz.underlying9 Tryz.underlying5 (fun w ho h=>(h.2.1)) (oj (eqs Z Z Z (oj (Ak Z Z (on (qn ?_))))))))))))))))))))))
 exact Af (Ac (d:=4) (v:=.bool (xs == ys)) Z (by rw [bst_eq]) (As () Z (.tmp Z .nil) Z tR .slnil (fun w h=>tR) (.inl Z)))
theorem idle71 (a b:Value) (w:World):CallsDIn (wf none) 0 Tryz.prog 71 ([a,b]:List Value).toArray .returning w fun e u' w'=>e=.returned (.tuple #[])∧u'=.returning∧w'=w:=by
 refine callsDIn_of_wpSIn Tryz.func71 Z tR fun c₀ cs hu=>?_
 apply wpSIn_seq
 apply wpSIn_region
 try simp [wpOpsSIn,go_sem,recoverD,hu,Exit.thenS]
 apply wpSIn_seq
 apply wpSIn_region
 simp [wpOpsSIn,go_sem,Exit.thenS]
 refine wpSIn_cond (t:=false) (by simp [Act.eval]) ?_
 simp only [Bool.false_eq_true,if_false]
 refine wpSIn_of_wpIn Z (wpIn_skip ?_)
 cases c₀
 simp_all [bodyPostS,results]
theorem dep_com (c:Cm):(Val.list (Cb c)).dep≤16:=by
 have:=I7 c
 show Gc (Cb c)+1≤16
 omega
theorem com_ok {c:Cm} (h:CmOk c):(Val.list (Cb c)).ok:=by
 have e:(Cb c).length=11:=rfl
 show (Cb c).length≤_∧_
 exact ⟨by rw [e]; decide,h.ok⟩
theorem cdecode_spec (c:Cm) (hc:CmOk c) (hck:CkP c) (hbl:∀ x∈c.bx,x.b.length≤1000000000) (hwl:∀ x∈c.wl,x.b.length≤1000000000) (hsz:(enc (.list (Cb c))).length≤1000000) (a:Option Addr) (k:Nat):Ay Tryz.prog 16 [.slice a (enc (.list (Cb c))).length k] [] (fun w=>Sl 1 (enc (.list (Cb c))).length (An (enc (.list (Cb c)))) (.slice a (enc (.list (Cb c))).length k) w∧True) (fun x:Cm=>⟨SmC c x,.tuple #[av x.segs,iv 0],[],fun w=>CF1 x w∧CF2 x w∧CF3 x w∧CF4 x w∧CF5 x w∧CF6 x w∧True⟩):=by
 refine Jf Tryz.func16 Z Z fun X w0=>(Ab (Aa (oj (C7 Z zok_37 (fun r2=>(oj (C7 Z zok_41 (fun r3=>(on (qn (Ab (Aa (oj (mv Z Z (oj (call Z Z (.cons Z .nil) fb_17 (decode_spec (.list (Cb c)) (com_ok hc) hsz (dep_com c) a k)  (fun w h=>⟨(h.1),tR⟩) ?_))))))))))))))))
 rintro xv hxv
 try dsimp only
 refine oj (mv Z Z (oj (ext Z Z Z (oj (ext Z Z Z (oj (C7 Z Cc (fun r4=>(oj (C0 Z Z Bi Z Z .head (oj (Cr Z Z ty_41 Z (.tail .head) (.head Z) Z (on (qn (Ab (Ab (Aa (oj (Bh Z Z ty_41 (.tail _ (.head _)) (Z) (oj (G2 Z Z Z (on (qn (C5 Z (fun ht=>absurd ht (by simp)) (fun hf=>?_)))))))))))))))))))))))))
 refine Ah (qn (Ab (Aa (oj (mkF Z .nil (.cons Z (.cons Z .nil)) (oj (kj_defer Z Z (on (qn (Ab (Aa (oj (Eb Z Z Bi (.head _) Z (oj (call Z Z (.cons Z .nil) fb_72 (read_spec c hc.b xv hxv)  (fun w h=>⟨(h.1.1),tR⟩) ?_)))))))))))))))
 rintro d hsm
 try dsimp only
 have hcd:=hsm.ck hck
 have hod:=hsm.ok hc
 have hbd:∀ x∈d.bx,x.b.length≤1000000000:=fun x hx=>by obtain ⟨b0,h0,_,_,_,e⟩:=hsm.bxm hx; rw [e]; exact hbl b0 h0
 have hwd:∀ x∈d.wl,x.b.length≤1000000000:=fun x hx=>by
  obtain ⟨i,hi⟩:=List.mem_iff_getElem?.1 hx
  obtain ⟨b0,h0,_,_,e⟩:=hsm.wli hi
  rw [e]; exact hwl b0 (List.mem_of_getElem? h0)
 have hcb:cbB d=enc (.list (Cb c)):=by rw [cbB_ok hcd,hsm.vals]
 refine oj (C7 Z zok_37 (fun r5=>(oj (C0 Z Z Bk Z Z .head (on (qn (Ab (Ab (Aa (oj (Eb Z Z Bk (.head _) Z (oj (call Z Z (.cons Z .nil) fb_14 (cenc_spec d hod hbd hwd)  (fun w h=>⟨(h.1.1),(h.1.2.1),(h.1.2.2.1),(Cu h.1),(Dw h.1),(Ez h.1),tR⟩) ?_)))))))))))))
 rintro ⟨ea,ec⟩ hec
 try dsimp only at hec
 try dsimp only
 rw [hcb,ckE_ok hcd]
 rw [hcb] at hec
 refine oj (mv Z Z (oj (ext Z Z Z (oj (ext Z Z Z (oj (Ak Z Z (oj (Ak Z Z (on (qn (Ab (Aa (oj (mv Z Z (oj (G2 Z Z Z (oj (mv Z Z (kj_ne (d:=27) Z (fun ht=>absurd ht (by simp)) (fun h1=>(oj (gt Z Z Z ((mv Z Z (oj (gt Z Z Z ?_)))))))))))))))))))))))))))
 refine (mv Z Z (oj (gt Z Z Z ((Ao Z Z (.cons Z (.cons Z .nil)) fb_73 (bequal_spec ea a ec k (enc (.list (Cb c))) (enc (.list (Cb c))))  (fun w h=>⟨(h.1.1),(Cu h),tR⟩) Z (fun _=>(Ae (fun w h=>h.2) (Ac (d:=30) (v:=.bool true) Z (by congr 1; simp) (oj (gt Z Z Z ((not Z Z (oj (Df Z Z Z (on (qn (Ap Z (fun ht=>absurd ht (by simp)) (fun hf=>(Ah (qn (Ab (Aa (oj (Eb Z Z Bk (.head _) Z ?_))))))))))))))))))))))))
 exact oj (C0 Z Z Bk Z Z (.tail (.tail (.tail .head))) (oj (Cr Z Z ty_41 Z (.tail (.tail .head)) (.head Z) Z (on (qn (Af (retD (fun w=>idle71 (Bg r2 0) (Bg r3 0) w) fb_71 d Z (.cellW Z Bk (.tail _ (.tail _ (.tail _ (.head _)))) Z (.cell1 Z ty_41 (.tail _ (.tail _ (.head _))) Z .nil)) Z hsm (Bl _) (fun w h=>⟨(h.2.1.1),(h.2.1.2.1),(h.2.1.2.2.1),(h.2.1.2.2.2.1),(h.2.1.2.2.2.2.1),(h.2.1.2.2.2.2.2.1),tR⟩))))))))
end Go.Chx
