/- Part of the proof that the law CommitsMembers holds. -/
import Derived.Test.YtegbaopejhpnkaaGreatDoorAa
import Derived.Test.YtegbaopejhpnkaaGreatDoorAh
import Derived.Test.YtegbaopejhpnkaaGreatDoorAi
import Derived.Test.YtegbaopejhpnkaaGreatDoorAj
import Derived.Test.YtegbaopejhpnkaaGreatDoorAk
import Derived.Test.YtegbaopejhpnkaaGreatDoorAn
namespace Go.Chx
open Go Go.Proofs
set_option maxHeartbeats 1000000
set_option maxRecDepth 4000
def cA (v:List Int):Nat→List Int
 | 0=>v
 | i+1=>mixL (cA v i) i (4+i) (8+i) (12+i)
def cB (v:List Int):Nat→List Int
 | 0=>v
 | i+1=>mixL (cB v i) i (4+(i+1) % 4) (8+(i+2) % 4) (12+(i+3) % 4)
def cR (v:List Int):Nat→List Int
 | 0=>v
 | j+1=>cB (cA (cR v j) 4) 4
theorem cA_len {v:List Int} {n:Nat} (h:v.length=n):∀ i,(cA v i).length=n
 | 0=>h
 | i+1=>mixL_len (cA_len h i) _ _ _ _
theorem cB_len {v:List Int} {n:Nat} (h:v.length=n):∀ i,(cB v i).length=n
 | 0=>h
 | i+1=>mixL_len (cB_len h i) _ _ _ _
theorem cR_len {v:List Int} {n:Nat} (h:v.length=n):∀ i,(cR v i).length=n
 | 0=>h
 | i+1=>cB_len (cA_len (cR_len h i) 4) 4
def leB (y:Int) (j:Nat):UInt8:=UInt8.ofNat (y.toNat / 2 ^ (8*j))
def leW (y:Int):List UInt8:=[leB y 0,leB y 1,leB y 2,leB y 3]
def outB (v s:List Int):Nat→List UInt8
 | 0=>[]
 | i+1=>outB v s i++leW (IntKind.u32.wrap (v.getD i 0+s.getD i 0))
theorem outB_len (v s:List Int):∀ i,(outB v s i).length=4*i
 | 0=>rfl
 | i+1=>by rw [outB,List.length_append,outB_len v s i]; rfl
theorem u8_leB {y:Int} (h:0≤y) (j:Nat):Value.int .u8 (IntKind.u8.wrap (y / 2 ^ (8*j)))=.int .u8 ((leB y j).toNat:Int):=by
 congr 1
 rw [H0]
 unfold leB
 rw [UInt8.toNat_ofNat']
 obtain ⟨n,rfl⟩:=Int.eq_ofNat_of_zero_le h
 rw [Int.toNat_natCast]
 have:((n:Int) / 2 ^ (8*j))=((n / 2 ^ (8*j):Nat):Int):=by rw [Int.natCast_ediv]; rfl
 rw [this]; rfl
theorem u32_nn (x:Int):0≤IntKind.u32.wrap x:=by rw [wrap_u32_mod]; omega
def ksB (k:Dig) (n:List UInt8) (ctr:Int):List UInt8:=outB (cR (fN k.b n ctr 3) 10) (fN k.b n ctr 3) 16
theorem ksB_len (k:Dig) (n:List UInt8) (ctr:Int):(ksB k n ctr).length=64:=outB_len _ _ 16
theorem leW_cells (y:Int):An (leW y)=[.int .u8 ((leB y 0).toNat:Int),.int .u8 ((leB y 1).toNat:Int),.int .u8 ((leB y 2).toNat:Int),.int .u8 ((leB y 3).toNat:Int)]:=rfl
theorem cblock_spec (k:Dig) (n:List UInt8) (hn:n.length=12) (ctr:Int):Ay Tryz.prog 230 [dv k,.agg (It 12 n hn).cs.toArray,.int .u32 ctr] [] (fun w=>De 6 (Av .u32 E7) w∧True) (fun x:Addr × Nat=>⟨64≤x.2,.slice (some x.1) 64 x.2,[],fun w=>Sl 1 64 (An (ksB k n ctr)) (.slice (some x.1) 64 x.2) w∧True⟩):=by
 refine Aj Tryz.func230 Z Z fun X w0=>(Ab (Aa (oj (Gx Z Z (fun r3=>(Al (Am 0 _ _ Z) ?_))))))
 try dsimp only [List.eraseIdx]
 refine oj (Gx Z Z (fun r4=>(Al (Am 0 _ _ Z) ?_)))
 try dsimp only [List.eraseIdx]
 refine oj (Ak Z Z (on (qn (Ab (Aa (oj (Bx Z Z Bb (fun w h=>h.2.1.1) Z (Ac (d:=15) (v:=dv k) Z (by exact av1 _) (oj (Bx Z Z ty_173 (fun w h=>h.1.1) Z (Ac (d:=16) (v:=.agg (It 12 n hn).cs.toArray) Z (by exact av1 _) (oj (mv Z Z (oj (Ao Z Z (.cons Z (.cons Z (.cons Z .nil))) fb_268 (first_spec k n hn ctr)  (fun w h=>⟨(h.2.2.1),tR⟩) Z (fun _=>(Ae (fun w h=>h.2) (Ac (d:=18) (v:=.agg (Gi .u32 16 (fN k.b n ctr 3) (Fl k.b n ctr 3)).cs.toArray) Z (by exact (sia_agg _).symm) (oj (C7 Z zok_332 (fun r7=>(oj (Cf Z Z ty_332 Z .head (.head Z) Z (on ?_))))))))))))))))))))))))
 refine qn (Ab (Aa (oj (Js Z Z ty_332 (.head _) Z Z (Ac (d:=19) (v:=.agg (Gi .u32 16 (fN k.b n ctr 3) (Fl k.b n ctr 3)).cs.toArray) Z (by rfl) (oj (C7 Z zok_332 (fun r8=>(oj (Cf Z Z ty_332 Z .head (.head Z) Z (on (qn (Ab (Aa (oj (mkF Z (.cons Z .nil) .nil (oj (Ak Z Z (on (qn (Ab ?_)))))))))))))))))))))
 refine Ab (Aa (oj (mv Z Z (on (qn (Ag (Aw (fun (sT:(Nat))=>(⟨sT≤10,[(7,Bg r7 0),(8,Bg r8 0),(9,.func (.func 269) #[Bg r8 0] #[]),(21,iv (sT:Int))],[bx r8 [Gi .u32 16 (cR (fN k.b n ctr 3) sT) (cR_len (Fl k.b n ctr 3) sT)] 332,bx r7 [Gi .u32 16 (fN k.b n ctr 3) (Fl k.b n ctr 3)] 332],fun _=>True,10-sT⟩:Hd)) (0) (by (try dsimp only); omega) (⟨Z,Z,Z,Z,tR⟩) (.refl _) (fun w h=>tR) ?_)))))))
 rintro j hj
 try dsimp only
 refine Ab (Aa (oj (Dd Z Z Z (on (qn (Ab ?_))))))
 refine A8 Z (fun ht=>?_) (fun hf=>?_)
 ·refine Ah (qn (Ab (Ag (Ab (Ab (Aa (oj (mv Z Z (on (qn (Ag (Aw (fun (sT:(Nat))=>(⟨sT≤4,[(7,Bg r7 0),(8,Bg r8 0),(9,.func (.func 269) #[Bg r8 0] #[]),(21,iv (j:Int)),(23,iv (sT:Int))],[bx r8 [Gi .u32 16 (cA (cR (fN k.b n ctr 3) j) sT) (cA_len (cR_len (Fl k.b n ctr 3) j) sT)] 332,bx r7 [Gi .u32 16 (fN k.b n ctr 3) (Fl k.b n ctr 3)] 332],fun _=>True,4-sT⟩:Hd)) (0) (by (try dsimp only); omega) (⟨Z,Z,Z,Z,Z,tR⟩) (.refl _) (fun w h=>tR) ?_))))))))))))
  rintro i hi
  try dsimp only
  refine Ab (Aa (oj (Dd Z Z Z (on (qn (Ab ?_))))))
  refine A8 Z (fun ht=>?_) (fun hf=>?_)
  ·refine Ah (qn (Ab (Ag (Ab (Aa (oj (mv Z Z (oj (Ak Z Z (on (qn (Aa (oj (mv Z Z (oj (mv Z Z (oj (mv Z Z (oj (add Z Z Z (by omega) (Ac (d:=29) (v:=iv ((4+i:Nat):Int)) Z (by first | rfl | (congr 1; omega)) ?_)))))))))))))))))))))
   refine oj (mv Z Z (oj (add Z Z Z (by omega) (Ac (d:=31) (v:=iv ((8+i:Nat):Int)) Z (by first | rfl | (congr 1; omega)) (oj (mv Z Z (oj (add Z Z Z (by omega) (Ac (d:=33) (v:=iv ((12+i:Nat):Int)) Z (by first | rfl | (congr 1; omega)) (oj (Ce Z Z (.cons Z (.cons Z (.cons Z (.cons Z .nil)))) fb_269 (mixs_spec r8 (cA (cR (fN k.b n ctr 3) j) i) (cA_len (cR_len (Fl k.b n ctr 3) j) i) (i) (4+i) (8+i) (12+i) (by omega) (by omega) (by omega) (by omega)) (fun _=>.head) (fun _=>Z) (fun w h=>tR) ?_)))))))))))
   rintro _ _
   try dsimp only
   exact on (bn (qn (Aa (oj (add Z Z Z (by omega) (oj (mv Z Z (on (qn (Ar (i+1) (by dsimp only; omega) (by (try dsimp only); omega) (⟨Z,Z,Z,Z,Z,tR⟩) (.refl _) (fun w h=>tR)))))))))))
  ·have h4:i=4:=by omega
   subst h4
   refine A1 (qe (qe (be (qn (Ab (Aa (oj (mv Z Z (on (qn (Ag (Aw (fun (sT:(Nat))=>(⟨sT≤4,[(7,Bg r7 0),(8,Bg r8 0),(9,.func (.func 269) #[Bg r8 0] #[]),(21,iv (j:Int)),(36,iv (sT:Int))],[bx r8 [Gi .u32 16 (cB (cA (cR (fN k.b n ctr 3) j) 4) sT) (cB_len (cA_len (cR_len (Fl k.b n ctr 3) j) 4) sT)] 332,bx r7 [Gi .u32 16 (fN k.b n ctr 3) (Fl k.b n ctr 3)] 332],fun _=>True,4-sT⟩:Hd)) (0) (by (try dsimp only); omega) (⟨Z,Z,Z,Z,Z,tR⟩) (.refl _) (fun w h=>tR) ?_))))))))))))
   rintro i hi
   try dsimp only
   refine Ab (Aa (oj (Dd Z Z Z (on (qn (Ab ?_))))))
   refine A8 Z (fun ht=>?_) (fun hf=>?_)
   ·refine Ah (qn (Ab (Ag (Ab (Aa (oj (mv Z Z (oj (Ak Z Z (on (qn (Aa (oj (mv Z Z (oj (mv Z Z (oj (mv Z Z (oj (add Z Z Z (by omega) (oj (rem Z Z Z (by decide) ?_))))))))))))))))))))))
    refine Ac (d:=43) (v:=iv (((i+1) % 4:Nat):Int)) Z (by first | rfl | (congr 1; omega) | (rw [Int.tmod_eq_emod_of_nonneg (by omega)]; congr 1; omega)) (oj (add Z Z Z (by omega) (Ac (d:=44) (v:=iv ((4+(i+1) % 4:Nat):Int)) Z (by first | rfl | (congr 1; omega)) (oj (mv Z Z (oj (add Z Z Z (by omega) (oj (rem Z Z Z (by decide) (Ac (d:=47) (v:=iv (((i+2) % 4:Nat):Int)) Z (by first | rfl | (congr 1; omega) | (rw [Int.tmod_eq_emod_of_nonneg (by omega)]; congr 1; omega)) (oj (add Z Z Z (by omega) (Ac (d:=48) (v:=iv ((8+(i+2) % 4:Nat):Int)) Z (by first | rfl | (congr 1; omega)) (oj (mv Z Z (oj (add Z Z Z (by omega) (oj (rem Z Z Z (by decide) (Ac (d:=51) (v:=iv (((i+3) % 4:Nat):Int)) Z (by first | rfl | (congr 1; omega) | (rw [Int.tmod_eq_emod_of_nonneg (by omega)]; congr 1; omega)) (oj (add Z Z Z (by omega) (Ac (d:=52) (v:=iv ((12+(i+3) % 4:Nat):Int)) Z (by first | rfl | (congr 1; omega)) (oj (Ce Z Z (.cons Z (.cons Z (.cons Z (.cons Z .nil)))) fb_269 (mixs_spec r8 (cB (cA (cR (fN k.b n ctr 3) j) 4) i) (cB_len (cA_len (cR_len (Fl k.b n ctr 3) j) 4) i) (i) (4+(i+1) % 4) (8+(i+2) % 4) (12+(i+3) % 4) (by omega) (by omega) (by omega) (by omega)) (fun _=>.head) (fun _=>Z) (fun w h=>tR) ?_)))))))))))))))))))))))))
    rintro _ _
    try dsimp only
    exact on (bn (qn (Aa (oj (add Z Z Z (by omega) (oj (mv Z Z (on (qn (Ar (i+1) (by dsimp only; omega) (by (try dsimp only); omega) (⟨Z,Z,Z,Z,Z,tR⟩) (.refl _) (fun w h=>tR)))))))))))
   ·have h4:i=4:=by omega
    subst h4
    exact A1 (qe (qe (be (bn (qn (Aa (oj (add Z Z Z (by omega) (oj (mv Z Z (on (qn (Ar (j+1) (by dsimp only; omega) (by (try dsimp only); omega) (⟨Z,Z,Z,Z,tR⟩) (.refl _) (fun w h=>tR))))))))))))))
 ·have h4:j=10:=by omega
  subst h4
  refine A1 (qe (qe (be (qn (Ab (Aa (oj (mkb (n:=0) (c:=64) Z Z Z Hj (by kernel_rfl) (by decide) (by decide) (fun b=>(oj (Ak Z Z (on (qn (Ab (Ab (Aa (oj (Js Z Z ty_332 (.tail _ (.head _)) Z Z (Ac (d:=57) (v:=.agg (Av .u32 (cR (fN k.b n ctr 3) 10)).toArray) Z (by exact sia_agg _) ?_)))))))))))))))))))
  refine oj (mv Z Z (on (qn (Ag (Aw (fun (sT:(Nat) × (Value) × (A9))=>(⟨sT.1≤16∧Own 5 1 sT.2.1 (4*sT.1) (An (outB (cR (fN k.b n ctr 3) 10) (fN k.b n ctr 3) sT.1)) sT.2.2,[(7,Bg r7 0),(12,sT.2.1),(57,.agg (Av .u32 (cR (fN k.b n ctr 3) 10)).toArray),(58,iv (sT.1:Int))],[sT.2.2,bx r7 [Gi .u32 16 (fN k.b n ctr 3) (Fl k.b n ctr 3)] 332],fun _=>True,16-sT.1⟩:Hd)) (0,.slice (some ⟨b,0,none⟩) 0 64,bx b [zby 64] 5) (⟨Nat.zero_le _,.row (cur:=flat [zby 64]) (by decide) (by decide) Z Z⟩) (⟨Z,Z,Z,Z,tR⟩) (.cons_cons _ (.cons _ (.refl _))) (fun w h=>tR) ?_)))))
  rintro ⟨i,v,en⟩ ⟨hi,ho⟩
  try dsimp only
  try dsimp only at hi ho
  have hl1:=cR_len (Fl k.b n ctr 3) 10
  have hl2:=(Fl k.b n ctr 3)
  refine Ab (Aa (oj (Dd Z Z Z (on (qn (Ab ?_))))))
  refine A8 Z (fun ht=>?_) (fun hf=>?_)
  ·refine Ah (qn (Ab (Ag (Ab (Aa (oj (mv Z Z (oj (ixv1 Z Z Z Tryz.underlying332 Az Z (by omega) (icells_get (Bp (by rw [hl1]; omega))) (oj (Ak Z Z (oj (Ak Z Z (on (qn (Ab (Aa (oj (mv Z Z (oj (mv Z Z ?_)))))))))))))))))))))
   refine oj (Gj (n':=i) Z Z Z Tryz.underlying332 Az (by omega) (by simp) (oj (Bh Z Z Az (.tail _ (.head _)) (B6 (Fl k.b n ctr 3) (Bp (by rw [hl2]; omega))) (oj (Id Z Z Z (oj (Ak Z Z (on (qn (Aa (oj (mv Z Z (oj (mv Z Z (oj (Ig Z Tryz.underlying252 Tryz.underlying5 Z (Ac (d:=69) (v:=.int .u8 ((leB (IntKind.u32.wrap ((cR (fN k.b n ctr 3) 10).getD i 0+(fN k.b n ctr 3).getD i 0)) 0).toNat:Int)) Z (by rw [← u8_leB (u32_nn _) 0]; simp) (oj (mv Z Z (oj (shr Z Z Z (by decide) (oj (Ig Z Tryz.underlying252 Tryz.underlying5 Z (Ac (d:=72) (v:=.int .u8 ((leB (IntKind.u32.wrap ((cR (fN k.b n ctr 3) 10).getD i 0+(fN k.b n ctr 3).getD i 0)) 1).toNat:Int)) Z (by rw [← u8_leB (u32_nn _) 1]; rfl) (oj (mv Z Z ?_))))))))))))))))))))))))))
   refine oj (shr Z Z Z (by decide) (oj (Ig Z Tryz.underlying252 Tryz.underlying5 Z (Ac (d:=75) (v:=.int .u8 ((leB (IntKind.u32.wrap ((cR (fN k.b n ctr 3) 10).getD i 0+(fN k.b n ctr 3).getD i 0)) 2).toNat:Int)) Z (by rw [← u8_leB (u32_nn _) 2]; rfl) (oj (mv Z Z (oj (shr Z Z Z (by decide) (oj (Ig Z Tryz.underlying252 Tryz.underlying5 Z (Ac (d:=78) (v:=.int .u8 ((leB (IntKind.u32.wrap ((cR (fN k.b n ctr 3) 10).getD i 0+(fN k.b n ctr 3).getD i 0)) 3).toNat:Int)) Z (by rw [← u8_leB (u32_nn _) 3]; rfl) (oj (F7 Z Tryz.underlying53 Bv zok_5 (C3 (v:=.int .u8 ((leB (IntKind.u32.wrap ((cR (fN k.b n ctr 3) 10).getD i 0+(fN k.b n ctr 3).getD i 0)) 0).toNat:Int)) Z Z (C3 (v:=.int .u8 ((leB (IntKind.u32.wrap ((cR (fN k.b n ctr 3) 10).getD i 0+(fN k.b n ctr 3).getD i 0)) 1).toNat:Int)) Z Z (C3 (v:=.int .u8 ((leB (IntKind.u32.wrap ((cR (fN k.b n ctr 3) 10).getD i 0+(fN k.b n ctr 3).getD i 0)) 2).toNat:Int)) Z Z (C3 (v:=.int .u8 ((leB (IntKind.u32.wrap ((cR (fN k.b n ctr 3) 10).getD i 0+(fN k.b n ctr 3).getD i 0)) 3).toNat:Int)) Z Z .nil)))) (by repeat (first | exact List.forall_mem_nil _ | refine List.forall_mem_cons.2 ⟨rfl,?_⟩)) Z (by decide) Z (fun r79=>?_))))))))))))))
   refine Al (Am 0 _ _ Z) ?_
   try dsimp only [List.eraseIdx]
   refine oj (Ku Z Z Z Hj (by kernel_rfl) ho (i:=0) Z (fun w ho h=>Bc.src (h.1.1) Z) (by omega) (by simp only [maxLen]; omega) (fun v80 e80 ho80=>?_))
   try dsimp only [List.set]
   exact oj (Ak Z Z (on (bn (qn (Aa (oj (add Z Z Z (by omega) (oj (mv Z Z (on (qn (Ar (i+1,v80,e80) (by dsimp only; omega) (⟨by (try dsimp only); omega,by rw [outB,Cs,leW_cells]; exact ho80⟩) (⟨Z,Z,Z,Z,tR⟩) (.refl _) (fun w h=>tR)))))))))))))
  ·have h4:i=16:=by omega
   subst h4
   refine A1 (qe (qe (be (qn (Ab (Aa (oj (mv Z Z (oj (Ak Z Z (on (qn (Af ?_)))))))))))))
   obtain ⟨a,cap,en',hrow⟩:∃ g cap,v=.slice (some ⟨g,0,none⟩) 64 cap∧64≤cap:=by
    cases ho with
    | row h1 h2 h3 h4=>exact ⟨_,_,rfl,h1⟩
   subst en'
   refine By (i:=0) Z ho (Co _) ?_
   try dsimp only [List.eraseIdx]
   exact As (⟨a,0,none⟩,cap) Z (.tmp Z .nil) Z hrow (Bl _) (fun w h=>⟨(h.1.1),tR⟩) (.inl Z)
end Go.Chx
namespace Go.Chx
open Go
abbrev bfE (q:Nat) (a:Option Addr) (n c:Nat):A9:=bx q [S1 (.slice a n c),S1 (iv 0),S1 (.int .i8 0)] 224
abbrev BfT:=Nat × List Value × Nat
structure BfS (bs:List UInt8) (g:BfT):Prop where
 l:g.2.1.length=g.2.2
 n:bs.length≤g.2.2
 m:g.2.2≤9223372036854775807
 x:g.2.1.take bs.length=An bs
abbrev bfL (q:Nat) (bs:List UInt8) (g:BfT):List A9:=[lsE g.1 g.2.1 5,bfE q (some ⟨g.1,0,none⟩) bs.length g.2.2]
theorem BfS.app {bs xs:List UInt8} {g c:Nat} {cur:List Value} (h1:cur.length=c) (h2:bs.length+xs.length≤c) (h3:c≤9223372036854775807) (h4:cur.take bs.length=An bs):BfS (bs++xs) (g,cur.take bs.length++An xs++cur.drop (bs.length+xs.length*1),c):=by
 have e:(cur.take bs.length++An xs).length=bs.length+xs.length:=by rw [List.length_append,List.length_take,Br]; omega
 refine ⟨?_,?_,h3,?_⟩
 ·show (cur.take bs.length++An xs++cur.drop (bs.length+xs.length*1)).length=c
  rw [List.length_append,e,List.length_drop]; omega
 ·show (bs++xs).length≤c
  rw [List.length_append]; exact h2
 ·show (cur.take bs.length++An xs++cur.drop (bs.length+xs.length*1)).take (bs++xs).length=_
  rw [List.length_append,List.take_left' e,h4,Cs]
theorem BfS.own {bs:List UInt8} {g:BfT} (h:BfS bs g):Own 5 1 (.slice (some ⟨g.1,0,none⟩) bs.length g.2.2) bs.length (An bs) (lsE g.1 g.2.1 5):=.row h.n (by simp only [maxLen]; exact h.m) (by rw [h.l,Nat.mul_one]) (by rw [Nat.mul_one]; exact h.x)
theorem ad0 (g n:Nat):(Addr.add ⟨g,0,none⟩ (n*1))=⟨g,n,none⟩:=by rw [Nat.mul_one]; by_cases h:n=0 <;> simp [Addr.add,h]
theorem Gs {r:Nat} {d:Dig} {te:TypeId} {w:World} (h:Bc r [sd d] te w):Sl 1 d.b.length (An d.b) (.slice (some ⟨r,0,none⟩) d.b.length 32) w:=by
 rw [d.h]; exact dig_sl h
end Go.Chx
namespace Go.Chx
open Go Go.Proofs
set_option maxHeartbeats 1000000
set_option maxRecDepth 4000
def Eo (d:Int):Bool:=decide (0≤d) && decide (d < 512)
theorem Bu {d:Int}:Eo d=true↔0≤d∧d < 512:=by simp [Eo]
def lfV (d:Int):Int:=if Eo d=true then 512+d else 0
def lfE (d:Int):Int:=if Eo d=true then 0 else 200
def ups (n:Nat):List Nat:=if n≤1 then [] else n::ups (n / 2)
decreasing_by omega
theorem ups_le {n:Nat} (h:n≤1):ups n=[]:=by rw [ups,if_pos h]
theorem ups_gt {n:Nat} (h:1 < n):ups n=n::ups (n / 2):=by rw [ups,if_neg (by omega)]
theorem ups_lt:∀ (n k:Nat),k < n→(ups k).length≤64∨18446744073709551616≤k:=by
 have:∀ (m k:Nat),k < 2 ^ m→(ups k).length≤m:=by
  intro m
  induction m with
  | zero=>intro k h; rw [ups_le (by omega)]; simp
  | succ m ih =>
   intro k h
   by_cases h1:k≤1
   ·rw [ups_le h1]; simp
   ·rw [ups_gt (by omega),List.length_cons]
    have:=ih (k / 2) (by rw [Nat.pow_succ] at h; omega)
    omega
 intro n k _
 by_cases h:k < 18446744073709551616
 ·exact .inl (this 64 k h)
 ·exact .inr (by omega)
theorem ups_mem {n x:Nat} (h:n < 1024) (hx:x∈ups n):x < 1024:=by
 have:∀ n,n < 1024→x∈ups n→x < 1024:=by
  intro n
  induction n using Nat.strongRecOn with
  | _ n ih =>
   intro h hx
   by_cases h1:n≤1
   ·rw [ups_le h1] at hx; cases hx
   ·rw [ups_gt (by omega)] at hx
    rcases List.mem_cons.1 hx with rfl | hx
    ·exact h
    ·exact ih (n / 2) (by omega) (by omega) hx
 exact this n h hx
def Dz (d:Int) (q:Nat→Int):List Int:=if Eo d=true then (ups (512+d.toNat)).map q else []
def C8 (n:Nat):Int:=((n / 2:Nat):Int)
def Ff (n:Nat):Int:=((n ^^^ 1:Nat):Int)
theorem alL_len (d:Int) (q:Nat→Int):(Dz d q).length≤64:=by
 unfold Dz
 split
 ·rename_i h
  rw [List.length_map]
  have:=Bu.1 h
  rcases ups_lt _ _ (Nat.lt_succ_self (512+d.toNat)) with h | h <;> omega
 ·simp
theorem leaf_spec (d:Int):Ay Tryz.prog 112 [iv d] [] (fun _=>True) (fun _:Unit=>⟨True,.tuple #[iv (lfV d),iv (lfE d)],[],fun _=>True⟩):=by
 refine Aj Tryz.func112 Z Z fun X w0=>(Ab (Aa (oj (Ak Z Z (oj (Ak Z Z (on (qn (Ab (Ab (Aa (oj (mv Z Z (oj (Dd Z Z Z (oj (mv Z Z ?_)))))))))))))))))
 refine B5 (d:=6) Z (fun ht=>?_) (fun hf=>?_)
 ·refine oj (gf Z Z Z Z Z Z (oj (gf Z Z Z Z Z Z (oj (Cl Z Z Z (on (qn (Ap Z (fun _=>(Ab (Aa (oj (Ak Z Z (oj (Ak Z Z (on (qn (Af (qr ?_))))))))))) (fun h=>by cases h)))))))))
  have hn : ¬ Eo d=true:=by rw [Bu]; omega
  exact Ac (d:=2) (v:=iv (lfV d)) Z (by rw [lfV,if_neg hn]) (Ac (d:=3) (v:=iv (lfE d)) Z (by rw [lfE,if_neg hn]) (As () Z (.tmp Z (.tmp Z .nil)) Z tR .slnil (fun w h=>tR) (.inl Z)))
 ·refine oj (gt Z Z Z ((mv Z Z (oj (gt Z Z Z ((gei Z Z Z (oj (Df Z Z Z (on (qn ?_)))))))))))
  refine A8 Z (fun ht=>?_) (fun hf=>?_)
  ·refine Ab (Aa (oj (Ak Z Z (oj (Ak Z Z (on (qn (Af (qr ?_)))))))))
   have hn : ¬ Eo d=true:=by rw [Bu]; omega
   exact Ac (d:=2) (v:=iv (lfV d)) Z (by rw [lfV,if_neg hn]) (Ac (d:=3) (v:=iv (lfE d)) Z (by rw [lfE,if_neg hn]) (As () Z (.tmp Z (.tmp Z .nil)) Z tR .slnil (fun w h=>tR) (.inl Z)))
  ·refine Ah (qn (Ab (Aa (oj (mv Z Z (oj (add Z Z Z (by omega) (oj (Ak Z Z (oj (Ak Z Z (on (qn (Af ?_))))))))))))))
   have hn:Eo d=true:=by rw [Bu]; omega
   exact Ac (d:=2) (v:=iv (lfV d)) Z (by rw [lfV,if_pos hn]) (Ac (d:=3) (v:=iv (lfE d)) Z (by rw [lfE,if_pos hn]) (As () Z (.tmp Z (.tmp Z .nil)) Z tR .slnil (fun w h=>tR) (.inl Z)))
theorem parent_spec (n:Nat) (hn:n < 9223372036854775807):Ay Tryz.prog 92 [iv n] [] (fun _=>True) (fun _:Unit=>⟨True,iv (C8 n),[],fun _=>True⟩):=by
 exact Aj Tryz.func92 Z Z fun X w0=>(Ab (Aa (oj (Ak Z Z (on (qn (Ab (Aa (oj (mv Z Z (oj (quo Z Z Z (by decide) (Ac (d:=4) (v:=iv (C8 n)) Z (by rw [Int.tdiv_eq_ediv_of_nonneg (by omega),Dr (by omega)]; rfl) (oj (Ak Z Z (on (qn (Af (As () Z (.tmp Z .nil) Z tR .slnil (fun w h=>tR) (.inl Z))))))))))))))))))))
theorem sibling_spec (n:Nat) (hn:n < 1024):Ay Tryz.prog 231 [iv n] [] (fun _=>True) (fun _:Unit=>⟨True,iv (Ff n),[],fun _=>True⟩):=by
 exact Aj Tryz.func231 Z Z fun X w0=>(Ab (Aa (oj (Ak Z Z (on (qn (Ab (Aa (oj (mv Z Z (oj (bxor Z Z Z (Ac (d:=4) (v:=iv (Ff n)) Z (by rw [xor_sib hn]; rfl) (oj (Ak Z Z (on (qn (Af (As () Z (.tmp Z .nil) Z tR .slnil (fun w h=>tR) (.inl Z))))))))))))))))))))
theorem up_it (n r1:Nat) (hn:n < 1024):Fd Tryz.prog 220 [] [Bg r1 0] [bx r1 [S1 (iv n)] 155] (fun _=>True) (fun x:Nat=>[iv x])  ((· = ups n)):=by
 intro y σ Ps L J T s0 hs0 hY
 refine Aj Tryz.func220 Z Z fun X w0=>Ae (fun w h=>(h:J s0 w∧(fun _=>True) w)) (Ag (Aw (fun (sT:(Nat) × (σ))=>(⟨Ps sT.2∧sT.1 < 1024∧∃ ys,Run T ys s0 sT.2∧ys++ups sT.1=ups n,[(0,.func (.yield y) #[] #[]),(1,Bg r1 0)],([bx r1 [S1 (iv sT.1)] 155]++L sT.2),fun w=>J sT.2 w∧True,sT.1⟩:Hd)) (n,s0) (⟨hs0,hn,[],.nil,Z⟩) (⟨Z,Z,tR⟩) (.cons_cons _ (.refl _)) (fun w h=>⟨(h.1),tR⟩) ?_))
 rintro ⟨m,s⟩ ⟨hs,hm,ys,hr,hu⟩
 try dsimp only
 try dsimp only at hs hm ys hr hu
 refine Ab (Ab (Aa (oj (Bh Z Z ty_155 (.head _) (Z) (oj (gti Z Z Z (oj (mv Z Z ?_))))))))
 refine B5 (d:=5) Z (fun ht=>?_) (fun hf=>?_)
 ·refine oj (gt Z Z Z ((mv Z Z (oj (gt Z Z Z ((Bh Z Z ty_155 (.head _) (Z) (oj (gt Z Z Z ((yldr (own:=[_]) hY (x:=m) ⟨ys,_,hr,by rw [ups_gt (by omega)] at hu; exact hu⟩ hs Z Z (.cons Z .nil) Z (fun w h=>(h.1)) (fun s2 hP hT=>?_))))))))))))
  try dsimp only [List.cons_append,List.nil_append]
  refine kj_J (oj (Cl Z Z Z (on (qn (Ap Z (fun _=>(Ah (qn (Ab (Ag (Ah (bn (qn (Aa (oj (Bh Z Z ty_155 (.head _) (Z) (oj (Ao Z Z (.cons Z .nil) fb_92 (parent_spec m (by omega))  (fun w h=>tR) Z (fun _=>(Ae (fun w h=>h.2) ?_))))))))))))))) (fun h=>by cases h))))))
  exact oj (Cr Z Z ty_155 Z .head (.head Z) Z (on (qn (Ar (m / 2,s2) (by dsimp only; omega) (⟨hP,by omega,ys++[m],hr.snoc hT,by rw [ups_gt (by omega)] at hu; simpa using hu⟩) (⟨Z,Z,tR⟩) (.cons_cons _ (.refl _)) (fun w h=>⟨(h.1.1),tR⟩)))))
 ·exact oj (gf Z Z Z Z Z Z (oj (gf Z Z Z Z Z Z (oj (gf Z Z Z Z Z Z (oj (Df Z Z Z (on (qn (Ap Z (fun h=>by cases h) (fun _=>(A1 (qe (qe (be (As s Z .nil Z ⟨hs,_,Z,by rw [ups_le (by omega),List.append_nil] at hu; rw [← hu]; exact hr⟩ (.cons _ (.refl _)) (fun w h=>(h.1)) (.inr Z)))))))))))))))))
theorem up_spec (n:Nat):Ay Tryz.prog 170 [iv n] [] (fun _=>True) (fun r:Nat=>⟨True,.func (.func 220) #[] #[Bg r 0],[bx r [S1 (iv n)] 155],fun _=>True⟩):=by
 exact Aj Tryz.func170 Z Z fun X w0=>(Ab (Aa (oj (box1 Z Z Z (fun r1=>(oj (Ak Z Z (on (qn (Ab (Aa (oj (mkF Z .nil (.cons Z .nil) (oj (Ak Z Z (on (qn (Af (As r1 Z (.tmp Z .nil) Z tR (.refl _) (fun w h=>tR) (.inl Z))))))))))))))))))))
theorem along_spec (d:Int) (g:FuncId) (q:Nat→Int) (hg:Aq Tryz.prog g=true) (hq:∀ n:Nat,n < 1024→Ay Tryz.prog g [iv n] [] (fun _=>True) (fun _:Unit=>⟨True,iv (q n),[],fun _=>True⟩)):Ay Tryz.prog 91 [iv d,.func (.func g) #[] #[]] [] (fun _=>True) (fun x:Option Addr × Nat=>⟨(Dz d q).length≤x.2,.tuple #[.slice x.1 (Dz d q).length x.2,iv (lfE d)],[],fun w=>Sl 1 (Dz d q).length ((Dz d q).flatMap fun x=>[iv x]) (.slice x.1 (Dz d q).length x.2) w∧True⟩):=by
 refine Dv Tryz.func91 Z Z fun X w0=>(Cx (Ab (Aa (oj (box1 Z Z Z (fun r3=>(Al (Am 0 _ _ Z) ?_)))))))
 try dsimp only [List.eraseIdx]
 refine oj (C7 Z zok_31 (fun r4=>(oj (Ak Z Z (on (qn (Ab (Aa (oj (mv Z Z (oj (Ao Z Z (.cons Z .nil) fb_112 (leaf_spec d)  (fun w h=>tR) Z (fun _=>(Ae (fun w h=>h.2) (oj (mv Z Z (oj (ext Z Z Z (oj (ext Z Z Z (oj (Ak Z Z (oj (Ak Z Z (on (qn ?_))))))))))))))))))))))))))
 refine Ab (Ab (Aa (oj (mv Z Z (oj (G2 Z Z Z (on (qn ?_))))))))
 refine C5 Z (fun ht=>?_) (fun hf=>?_)
 ·have hd : ¬ Eo d=true:=fun h=>by rw [lfE,if_pos h] at ht; exact ht rfl
  have hal:Dz d q=[]:=by rw [Dz,if_neg hd]
  exact Ab (Aa (oj (mv Z Z (oj (Cr Z Z Eg Z .head (.head Z) Z (oj (Ak Z Z (on (qn (Af (qr (retM (ds:=[]) (none,0) Z (.refl _) Z (.cell1 Z Eg (.head _) Z (.tmp Z .nil)) (by rw [hal]; rfl) (by rw [hal]; exact Nat.le_refl _) (Bl _) (fun w h=>(by rw [hal]; exact ⟨Be,trivial⟩)) (.inl Z)))))))))))))
 ·have hd:Eo d=true:=by
   by_cases h:Eo d=true
   ·exact h
   ·rw [lfE,if_neg h] at hf; exact absurd hf (by omega)
  have hd2:=Bu.1 hd
  refine Ah (qn (Ab (Ab (Aa (oj (mv Z Z (Ac (d:=16) (v:=iv ((512+d.toNat:Nat):Int)) Z (by show iv (lfV d)=_; rw [lfV,if_pos hd,show 512+d=((512+d.toNat:Nat):Int) from by omega]) (oj (call Z Z (.cons Z .nil) fb_170 (up_spec (512+d.toNat))  (fun w h=>tR) ?_)))))))))
  rintro r17 _
  try dsimp only
  refine on (qn (Ag ?_))
  refine Hr Z Z fb_220 (up_it (512+d.toNat) r17 (by omega)) (fun (sT:(List Int) × (Nat) × (Option Addr) × (Nat) × (A9))=>(⟨Own 3 1 (.slice sT.2.2.1 sT.2.1 sT.2.2.2.1) sT.2.1 (sT.1.flatMap fun x=>[iv x]) sT.2.2.2.2∧sT.2.1=sT.1.length,[],[bx r4 [S1 (.slice sT.2.2.1 sT.2.1 sT.2.2.2.1)] 31,sT.2.2.2.2],fun w=>Bc r3 [S1 (.func (.func g) #[] #[])] 153 w∧True,0⟩:Hd)) (fun s x s'=>s'.1=s.1++[q x]) (([],0,none,0,none)) (⟨.nil,Z⟩) (.refl _) (fun w h=>tR) (fun w h=>⟨(h.2.1.1),tR⟩) (fun _=>⟨Z,Z⟩) ?_ ?_
  ·rintro ⟨us,n,va,vc,en⟩ x ⟨ho,hn⟩ ⟨ys,zs,hrn,hG⟩ rl rd fn tm X1 w1
   try dsimp only [List.cons_append,List.nil_append]
   try dsimp only at ho hn ys zs hrn hG
   have hxs:=run_map (g:=fun s:List Int × Nat × Option Addr × Nat × A9=>s.1) (f:=q) (fun _ _ _ h=>h) hrn
   dsimp only at hxs hG
   rw [List.nil_append] at hxs
   have hx:x < 1024:=ups_mem (n:=512+d.toNat) (by omega) (by rw [← hG]; simp)
   have hxl:us.length≤64:=by
    rw [hxs,List.length_map]
    have h1:=congrArg List.length hG
    simp only [List.length_append,List.length_cons] at h1
    rcases ups_lt _ _ (Nat.lt_succ_self (512+d.toNat)) with h | h <;> omega
   refine Aa (oj (Ak Z Z (on (qn (Fy (.tail (.tail .head)) (Ag (A5 mo (A3 [0,1,2,3,4] (fun j=>Nat.beq j 4) (by kernel_rfl) Z Z (.det _ (fun Q K R m k=>(Bh Z Z Eg (.head _) (Z) k)) (.det _ (fun Q K R m k=>(A4 Z Z ty_153 (fun w h=>Bc.at1 (h.1.1) Z) k)) (.det _ (fun Q K R m k=>(mv Z Z k)) (.det _ (fun Q K R m k=>(Ao Z Z (.cons Z .nil) hg (hq x hx)  (fun w h=>tR) Z (fun _=>Ae (fun w h=>h.2) k))) (.gh (γ:=Nat) (fun _=>True) _ _ _ Z (fun Q K R k=>(F7 Z Tryz.underlying31 Ai Gd (C3 (v:=iv (q x)) Z Z .nil) (by repeat (first | exact List.forall_mem_nil _ | refine List.forall_mem_cons.2 ⟨rfl,?_⟩)) Z (by decide) Z (fun r23=>Al (.refl _) (Ae (fun w h=>⟨⟨h.1,h.2.1⟩,h.2.2⟩) (k r23 tR))))) (fun _=>by exact ⟨[],by simp⟩) ?_)))))))))))))
   rintro r23 _
   try dsimp only [List.nil_append,List.cons_append]
   refine .nil (Ad 5 ((Ku Z Z Z el_31 (by kernel_rfl) ho (i:=1) Z (fun w ho h=>Bc.src (h.1.1) Z) (by omega) (by simp only [maxLen]; omega) (fun v24 e24 ho24=>?_))))
   try dsimp only [List.set]
   obtain ⟨va24,vc24,hv24,hc24⟩:=ho24.shape'
   subst hv24
   exact Ad 6 ((Cr Z Z Eg Z .head (.head Z) Z (A6 (bn (Ik ((us++[q x],n+1,va24,vc24,e24)) (.tail (.tail .head)) Z (⟨⟨by rw [Dj]; exact ho24,by simp [hn]⟩,Z⟩) (.refl _) (fun w h=>⟨(h.2.1),tR⟩))))))
  ·rintro ⟨us,n,va,vc,en⟩ rd5 ⟨ho,hn⟩ ⟨xs,hG,hrun⟩
   try dsimp only [List.cons_append,List.nil_append]
   try dsimp only at ho hn hG hrun
   have hxs:=run_map (g:=fun s:List Int × Nat × Option Addr × Nat × A9=>s.1) (f:=q) (fun _ _ _ h=>h) hrun
   dsimp only at hxs
   rw [hG,List.nil_append] at hxs
   have hal:Dz d q=us:=by rw [Dz,if_pos hd,← hxs]
   subst hn
   refine bn (qn (Ab (Aa (oj (Bh Z Z Eg (.tail _ (.head _)) (Z) (oj (Cr Z Z Eg Z (.tail .head) (.head Z) Z (oj (Ak Z Z (on (qn (Af ?_))))))))))))
   have hcv:us.length≤vc:=by
    obtain ⟨_,_,e,h⟩:=ho.shape'
    cases e
    exact h
   refine By (i:=2) Z ho (fi_one _) ?_
   try dsimp only [List.eraseIdx]
   refine retM (ds:=[rd5]) (va,vc) Z (.refl _) Z (.cell1 Z Eg (.head _) Z (.tmp Z .nil)) (by show Value.tuple #[_,_]=Value.tuple #[.slice va (Dz d q).length vc,iv (lfE d)]; rw [hal,hf]) (by show (Dz d q).length≤vc; rw [hal]; exact hcv) (Bl _) (fun w h=>(by show Sl 1 (Dz d q).length _ _ _∧True; rw [hal]; exact ⟨(h.1.1),trivial⟩)) (.inl Z)
theorem path_spec (d:Int):Ay Tryz.prog 24 [iv d] [] (fun _=>True) (fun x:Option Addr × Nat=>⟨(Dz d C8).length≤x.2,.tuple #[.slice x.1 (Dz d C8).length x.2,iv (lfE d)],[],fun w=>Sl 1 (Dz d C8).length ((Dz d C8).flatMap fun x=>[iv x]) (.slice x.1 (Dz d C8).length x.2) w∧True⟩):=by
 refine Aj Tryz.func24 Z Z fun X w0=>(Ab (Aa (oj (Ak Z Z (oj (Ak Z Z (on (qn (Ab (Aa (oj (mv Z Z (oj (call Z Z (.cons Z (.cons Z .nil)) fb_91 (along_spec d 92 C8 fb_92 (fun n hn=>parent_spec n (by omega)))  (fun w h=>tR) ?_))))))))))))))
 rintro ⟨a5,c5⟩ h5
 try dsimp only at h5
 try dsimp only
 exact oj (ext Z Z Z (oj (ext Z Z Z (oj (Ak Z Z (oj (Ak Z Z (on (qn (Af (As (a5,c5) Z (.tmp Z (.tmp Z .nil)) Z h5 .slnil (fun w h=>⟨(h.1.1),tR⟩) (.inl Z))))))))))))
theorem copath_spec (d:Int):Ay Tryz.prog 181 [iv d] [] (fun _=>True) (fun x:Option Addr × Nat=>⟨(Dz d Ff).length≤x.2,.tuple #[.slice x.1 (Dz d Ff).length x.2,iv (lfE d)],[],fun w=>Sl 1 (Dz d Ff).length ((Dz d Ff).flatMap fun x=>[iv x]) (.slice x.1 (Dz d Ff).length x.2) w∧True⟩):=by
 refine Aj Tryz.func181 Z Z fun X w0=>(Ab (Aa (oj (Ak Z Z (oj (Ak Z Z (on (qn (Ab (Aa (oj (mv Z Z (oj (call Z Z (.cons Z (.cons Z .nil)) fb_91 (along_spec d 231 Ff fb_231 (fun n hn=>sibling_spec n hn))  (fun w h=>tR) ?_))))))))))))))
 rintro ⟨a5,c5⟩ h5
 try dsimp only at h5
 try dsimp only
 exact oj (ext Z Z Z (oj (ext Z Z Z (oj (Ak Z Z (oj (Ak Z Z (on (qn (Af (As (a5,c5) Z (.tmp Z (.tmp Z .nil)) Z h5 .slnil (fun w h=>⟨(h.1.1),tR⟩) (.inl Z))))))))))))
theorem byte_sh {n i:Nat} (hn:n < 9223372036854775808) (hi:i < 8):Value.int .u8 (IntKind.u8.wrap ((n:Int) / 2 ^ (56-8*(i:Int)).toNat))=.int .u8 ((UInt8.ofNat ((IntKind.wrap .u64 (n:Int)).toNat / 2 ^ (56-8*i))).toNat:Int):=by
 congr 1
 rw [H0,UInt8.toNat_ofNat',C4 (by omega),Int.toNat_natCast]
 have e:(56-8*(i:Int)).toNat=56-8*i:=by omega
 rw [e]
 have:((n:Int) / 2 ^ (56-8*i))=((n / 2 ^ (56-8*i):Nat):Int):=by rw [Int.natCast_ediv]; rfl
 rw [this]; rfl
theorem eight_spec (n:Nat) (hn:n < 9223372036854775808):Ay Tryz.prog 227 [iv (n:Int)] [] (fun _=>True) (fun x:Option Addr × Nat=>⟨8≤x.2,.slice x.1 8 x.2,[],fun w=>Sl 1 8 (An (sbN n 8)) (.slice x.1 8 x.2) w∧True⟩):=by
 refine Aj Tryz.func227 Z Z fun X w0=>(Cx (Ab (Aa (oj (Ak Z Z (on (qn (Ab (Ab (Aa (oj (mv Z Z (on (qn (Ag (Aw (fun (sT:(Nat) × (Value) × (A9))=>(⟨sT.1≤8∧Own 5 1 sT.2.1 sT.1 (An (sbN n sT.1)) sT.2.2,[(0,iv (n:Int)),(2,sT.2.1),(4,iv (sT.1:Int))],[sT.2.2],fun _=>True,8-sT.1⟩:Hd)) (0,_,_) (⟨Nat.zero_le _,.nil⟩) (⟨Z,Z,Z,tR⟩) (.refl _) (fun w h=>tR) ?_))))))))))))))))
 rintro ⟨i,v,en⟩ ⟨hi,ho⟩
 try dsimp only
 try dsimp only at hi ho
 refine Ab (Aa (oj (Dd Z Z Z (on (qn (Ab ?_))))))
 refine A8 Z (fun ht=>?_) (fun hf=>?_)
 ·refine Ah (qn (Ab (Ag (Ab (Aa (oj (mv Z Z (oj (Ak Z Z (on (qn (Aa (oj (mv Z Z (oj (mv Z Z (oj (mv Z Z (oj (mul Z Z Z (by omega) (oj (sub Z Z Z (by omega) ?_))))))))))))))))))))))
  refine oj (shr Z Z Z (⟨by omega,by show _≤(64:Int); omega⟩) (oj (Ig Z Tryz.underlying3 Tryz.underlying5 Z (Ac (d:=13) (v:=.int .u8 ((UInt8.ofNat ((IntKind.wrap .u64 (n:Int)).toNat / 2 ^ (56-8*i))).toNat:Int)) Z (by exact byte_sh hn (by omega)) (oj (F7 Z Tryz.underlying53 Bv zok_5 (C3 (v:=.int .u8 ((UInt8.ofNat ((IntKind.wrap .u64 (n:Int)).toNat / 2 ^ (56-8*i))).toNat:Int)) Z Z .nil) (by repeat (first | exact List.forall_mem_nil _ | refine List.forall_mem_cons.2 ⟨rfl,?_⟩)) Z (by decide) Z (fun r14=>?_)))))))
  refine Al (Am 0 _ _ Z) ?_
  try dsimp only [List.eraseIdx]
  refine oj (Ku Z Z Z Hj (by kernel_rfl) ho (i:=0) Z (fun w ho h=>Bc.src (h.1.1) Z) (by omega) (by simp only [maxLen]; omega) (fun v15 e15 ho15=>?_))
  try dsimp only [List.set]
  exact oj (Ak Z Z (on (bn (qn (Aa (oj (add Z Z Z (by omega) (oj (mv Z Z (on (qn (Ar (i+1,v15,e15) (by dsimp only; omega) (⟨by (try dsimp only); omega,by rw [sbN,Cs]; exact ho15⟩) (⟨Z,Z,Z,tR⟩) (.refl _) (fun w h=>tR)))))))))))))
 ·have h4:i=8:=by omega
  subst h4
  obtain ⟨va,vc,rfl,hvc⟩:=ho.shape'
  refine A1 (qe (qe (be (qn (Ab (Aa (oj (mv Z Z (oj (Ak Z Z (on (qn (Af (By (i:=0) Z ho (Co _) ?_))))))))))))))
  try dsimp only [List.eraseIdx]
  exact As (va,vc) Z (.tmp Z .nil) Z hvc .slnil (fun w h=>⟨(h.1.1),tR⟩) (.inl Z)
theorem own_pos {a:Option Addr} {m cap:Nat} {xs:List Value} {en:A9} (h:Own 5 1 (.slice a m cap) m xs en) (h0:0 < m):∃ g cur,a=some ⟨g,0,none⟩∧en=lsE g cur 5∧cur.length=cap∧m≤cap∧cap≤maxLen∧cur.take m=xs:=by
 generalize hv:Value.slice a m cap=v at h
 cases h with
 | nil=>exact absurd h0 (by omega)
 | row h1 h2 h3 h4=>cases hv; exact ⟨_,_,rfl,rfl,by simpa using h3,h1,h2,by simpa using h4⟩
theorem bclone_spec (bs:List UInt8) (a:Addr) (c:Nat) (h0:0 < bs.length) (hb:bs.length≤1000000):Ay Tryz.prog 228 [.slice (some a) bs.length c] [] (fun w=>Sl 1 bs.length (An bs) (.slice (some a) bs.length c) w∧True) (fun x:BfT=>⟨BfS bs x,.slice (some ⟨x.1,0,none⟩) bs.length x.2.2,[lsE x.1 x.2.1 5],fun _=>True⟩):=by
 refine Aj Tryz.func228 Z Z fun X w0=>(Ab (Aa (oj (Ak Z Z (on (qn (Ab (Ab (Aa (oj (mv Z Z (oj (eqns Z Z Z Tryz.underlying53 (on (qn (Ap Z (fun h=>by cases h) (fun _=>(Ah (qn ?_)))))))))))))))))))
 refine Ab (Aa (oj (F7 Z Tryz.underlying53 Bv zok_5 .nil (by repeat (first | exact List.forall_mem_nil _ | refine List.forall_mem_cons.2 ⟨rfl,?_⟩)) Z (by decide) Z (fun b=>?_))))
 refine oj (mv Z Z (oj (Ku Z Z Z Hj (by kernel_rfl) (.row (cur:=[]) (Nat.le_refl _) (by decide) Z Z) (i:=0) Z (fun w ho h=>Sl.src (h.1)) (by omega) (by simp only [maxLen]; omega) (fun v7 e7 ho7=>?_))))
 try dsimp only [List.set]
 have ho7:Own 5 1 v7 bs.length (An bs) e7:=by simpa using ho7
 obtain ⟨va7,vc7,hv7,hc7⟩:=ho7.shape'
 subst hv7
 refine oj (Ak Z Z (on (qn (Af ?_))))
 obtain ⟨g,cur,rfl,rfl,h1,h2,h3,h4⟩:=own_pos ho7 h0
 exact As (g,cur,vc7) Z (.tmp Z .nil) Z ⟨h1,h2,by simpa [maxLen] using h3,h4⟩ (.refl _) (fun w h=>tR) (.inl Z)
abbrev chS (g n j:Nat):Value:=.slice (some ⟨g,64*j,none⟩) (min 64 (n-64*j)) (min 64 (n-64*j))
theorem tk_spl {α:Type} {l:List α} {i:Nat} {x:α} (h:l[i]? = some x):l.take i++x::l.drop (i+1)=l:=by
 obtain ⟨hi,e⟩:=List.getElem?_eq_some_iff.1 h
 rw [← e,← List.drop_eq_getElem_cons hi,List.take_append_drop]
theorem rg_at {m j:Nat} (h:j < m):(List.range m)[j]? = some j:=List.getElem?_range h
theorem run_len {σ β:Type} {T:σ→β→σ→Prop} {f:σ→Nat} (hT:∀ s x s',T s x s'→f s'=f s+1) {xs:List β} {s s':σ} (h:Run T xs s s'):f s'=f s+xs.length:=by
 induction h with
 | nil=>simp
 | cons h _ ih=>rw [ih,hT _ _ _ h,List.length_cons]; omega
theorem chunk_it (g n c r1 r2:Nat) (hn:n≤1000000) (hc:n≤c):Fd Tryz.prog 267 [] [Bg r1 0,Bg r2 0] [] (fun w=>Bc r1 [S1 (.slice (some ⟨g,0,none⟩) n c)] 53 w∧Bc r2 [S1 (iv 64)] 3 w∧True) (fun j:Nat=>[chS g n j])  ((· = List.range ((n+63) / 64))):=by
 intro y σ Ps L J T s0 hs0 hY
 refine Aj Tryz.func267 Z Z fun X w0=>Ae (fun w h=>(h:J s0 w∧(fun w=>Bc r1 [S1 (.slice (some ⟨g,0,none⟩) n c)] 53 w∧Bc r2 [S1 (iv 64)] 3 w∧True) w)) (Ab (Aa (oj (Ak Z Z (on (qn (Ag (Aw (fun (sT:(Nat) × (σ))=>(⟨Ps sT.2∧sT.1≤(n+63) / 64∧Run T ((List.range ((n+63) / 64)).take sT.1) s0 sT.2,[(0,.func (.yield y) #[] #[]),(1,Bg r1 0),(2,Bg r2 0),(4,iv ((64*sT.1:Nat):Int))],L sT.2,fun w=>J sT.2 w∧Bc r1 [S1 (.slice (some ⟨g,0,none⟩) n c)] 53 w∧Bc r2 [S1 (iv 64)] 3 w∧True,(n+63) / 64-sT.1⟩:Hd)) (0,s0) (⟨hs0,Nat.zero_le _,.nil⟩) (⟨Z,Z,Z,Z,tR⟩) (.refl _) (fun w h=>⟨(h.1),(h.2.1),(h.2.2.1),tR⟩) ?_))))))))
 rintro ⟨j,s⟩ ⟨hs,hj,hr⟩
 try dsimp only
 try dsimp only at hs hj hr
 refine Ab (Ab (Aa (oj (mv Z Z (oj (A4 Z Z Bt (fun w h=>Bc.at1 (h.2.1) Z) (oj (Bn Z Z Tryz.underlying53 Z (oj (Dd Z Z Z (on (qn ?_))))))))))))
 refine A8 Z (fun ht=>?_) (fun hf=>?_)
 ·refine Ah (qn (Ab (Ag (Ab (A5 mo (A3 [0,1,2,3,4] (fun _=>false) (by kernel_rfl) Z Z (.det _ (fun Q K R m k=>(A4 Z Z Ai (fun w h=>Bc.at1 (h.1.2.2.1) Z) k)) (.det _ (fun Q K R m k=>(A4 Z Z Bt (fun w h=>Bc.at1 (h.1.2.1) Z) k)) (.det _ (fun Q K R m k=>(mv Z Z k)) (.det _ (fun Q K R m k=>(slc (l':=64*j) Z Z Tryz.underlying53 Bv Z Z (.inl Z) ⟨_,Z,by omega⟩ k)) (.det _ (fun Q K R m k=>(Bn Z Z Tryz.underlying53 Z k)) (.nil (Ad 5 ((min2i Z Z Z ?_)))))))))))))))
  refine Ac (d:=18) (v:=iv ((min 64 (n-64*j):Nat):Int)) Z (by congr 1; split <;> omega) (Ad 6 ((Ak Z Z (A6 (qn (Ab (Aa (oj (mv Z Z (oj (A4 Z Z Bt (fun w h=>Bc.at1 (h.2.1) Z) (oj (mv Z Z (oj (mv Z Z (oj (mv Z Z (oj (add Z Z Z (by omega) (oj (mv Z Z (oj (mv Z Z (oj (add Z Z Z (by omega) ?_)))))))))))))))))))))))))
  refine oj (slc (l':=64*j) (h:=64*j+min 64 (n-64*j)) (m:=64*j+min 64 (n-64*j)) Z Z Tryz.underlying53 Bv ⟨_,Z,by omega⟩ ⟨_,Z,by omega⟩ (.inr (by simp)) ⟨_,Z,by omega⟩ (Ac (d:=28) (v:=chS g n j) Z (by rw [if_neg (by omega)]; show Value.slice (some (Addr.add _ _)) _ _=_; rw [Nat.mul_one,ad1,Nat.add_sub_cancel_left]) (oj (yldr (own:=[]) hY (x:=j) ⟨_,_,hr,tk_spl (rg_at (by omega))⟩ hs Z Z (.cons Z .nil) Z (fun w h=>(h.1)) (fun s2 hP hT=>?_)))))
  try dsimp only [List.cons_append,List.nil_append]
  refine kj_J (oj (not Z Z (on (qn (Ap Z (fun h=>by cases h) (fun _=>(Ah (bn (qn (Aa (oj (mv Z Z (oj (A4 Z Z Ai (fun w h=>Bc.at1 (Cu h) Z) (oj (add Z Z Z (by omega) (Ac (d:=12) (v:=iv ((64*(j+1):Nat):Int)) Z (by congr 1) (oj (Ak Z Z (on (qn ?_)))))))))))))))))))))
  exact Ar (j+1,s2) (by dsimp only; omega) (⟨hP,by omega,by rw [A7 (rg_at (by omega))]; exact hr.snoc hT⟩) (⟨Z,Z,Z,Z,tR⟩) (.refl _) (fun w h=>⟨(h.1.1),(h.2.2.1),(Cu h),tR⟩)
 ·exact A1 (qe (qe (be (As s Z .nil Z ⟨hs,_,Z,by rw [List.take_of_length_le (by rw [List.length_range]; omega)] at hr; exact hr⟩ (.refl _) (fun w h=>(h.1)) (.inr Z)))))
theorem chunk_spec (g n c:Nat):Ay Tryz.prog 229 [.slice (some ⟨g,0,none⟩) n c,iv 64] [] (fun _=>True) (fun x:Nat × Nat=>⟨True,.func (.func 267) #[] #[Bg x.1 0,Bg x.2 0],[],fun w=>Bc x.1 [S1 (.slice (some ⟨g,0,none⟩) n c)] 53 w∧Bc x.2 [S1 (iv 64)] 3 w∧True⟩):=by
 refine Aj Tryz.func229 Z Z fun X w0=>(Ab (Aa (oj (box1 Z Z Z (fun r2=>(Al (Am 0 _ _ Z) ?_))))))
 try dsimp only [List.eraseIdx]
 refine oj (box1 Z Z Z (fun r3=>(Al (Am 0 _ _ Z) ?_)))
 try dsimp only [List.eraseIdx]
 refine oj (Ak Z Z (on (qn (Ab (Ab (Aa (oj (A4 Z Z Ai (fun w h=>Bc.at1 h.1.1 Z) (oj (Dd Z Z Z (on (qn (A8 Z (fun ht=>absurd ht (by omega)) (fun hf=>(Ah (qn (Ab (Aa (oj (mkF Z .nil (.cons Z (.cons Z .nil)) ?_))))))))))))))))))))
 exact oj (Ak Z Z (on (qn (Af (As (r2,r3) Z (.tmp Z .nil) Z tR .slnil (fun w h=>⟨(h.2.1.1),(h.1.1),tR⟩) (.inl Z))))))
def ctrI:Nat→Int
 | 0=>1
 | j+1=>IntKind.u32.wrap (ctrI j+1)
def strB (k:Dig) (n bs:List UInt8) (i:Nat):UInt8:=bs.getD i 0 ^^^ (ksB k n (ctrI (i / 64))).getD (i % 64) 0
def strm (k:Dig) (n bs:List UInt8):List UInt8:=(List.range bs.length).map (strB k n bs)
theorem Fe (k:Dig) (n bs:List UInt8):(strm k n bs).length=bs.length:=by simp [strm]
theorem strm_at {k:Dig} {n bs:List UInt8} {i:Nat} (h:i < bs.length):(strm k n bs)[i]? = some (strB k n bs i):=by unfold strm; rw [List.getElem?_map,List.getElem?_range h]; rfl
def J3 (k:Dig) (n bs:List UInt8) (rest:List Value) (p:Nat):List Value:=An ((strm k n bs).take p++bs.drop p)++rest
theorem xRow_len (k:Dig) (n bs:List UInt8) (rest:List Value) (p:Nat):(J3 k n bs rest p).length=bs.length+rest.length:=by
 unfold J3
 rw [List.length_append,Br,List.length_append,List.length_take,List.length_drop,Fe]; omega
theorem xRow_get {k:Dig} {n bs:List UInt8} {rest:List Value} {p:Nat} (h:p < bs.length):(J3 k n bs rest p)[p]? = some (.int .u8 ((bs.getD p 0).toNat:Int)):=by
 unfold J3
 have e:((strm k n bs).take p).length=p:=by rw [List.length_take,Fe]; omega
 rw [List.getElem?_append_left (by rw [Br,List.length_append,e,List.length_drop]; omega)]
 refine F6 ?_
 rw [List.getElem?_append_right (by omega),e,Nat.sub_self,List.getElem?_drop,Nat.add_zero]
 exact I4 h
theorem xRow_set {k:Dig} {n bs:List UInt8} {rest:List Value} {p:Nat} (h:p < bs.length):(J3 k n bs rest p).set p (.int .u8 ((strB k n bs p).toNat:Int))=J3 k n bs rest (p+1):=by
 have e:(An ((strm k n bs).take p)).length=p:=by rw [Br,List.length_take,Fe]; omega
 have h1:bs.drop p=bs[p]::bs.drop (p+1):=List.drop_eq_getElem_cons h
 unfold J3
 rw [A7 (strm_at h),h1,Cs,Cs,Cs,List.append_assoc,List.append_assoc,List.append_assoc]
 rw [List.set_append_right _ _ (by omega),e,Nat.sub_self]
 rfl
theorem xRow_0 {k:Dig} {n bs:List UInt8} {cur:List Value} (h:cur.take bs.length=An bs):cur=J3 k n bs (cur.drop bs.length) 0:=by
 unfold J3
 rw [List.take_zero,List.drop_zero,List.nil_append,← h,List.take_append_drop]
theorem xRow_all {k:Dig} {n bs:List UInt8} {rest:List Value} {p:Nat} (h:bs.length≤p):(J3 k n bs rest p).take bs.length=An (strm k n bs):=by
 unfold J3
 rw [List.take_of_length_le (l:=strm k n bs) (by rw [Fe]; exact h),List.drop_of_length_le h,List.append_nil]
 exact List.take_left' (by rw [Br,Fe])
theorem xRow_eq {k:Dig} {n bs:List UInt8} {rest:List Value} {p q:Nat} (hp:bs.length≤p) (hq:bs.length≤q):J3 k n bs rest p=J3 k n bs rest q:=by
 unfold J3
 rw [List.take_of_length_le (by rw [Fe]; exact hp),List.take_of_length_le (by rw [Fe]; exact hq),List.drop_of_length_le hp,List.drop_of_length_le hq]
theorem u8_xor (a b:UInt8):bits .xor .u8 (a.toNat:Int) (b.toNat:Int)=((a ^^^ b).toNat:Int):=by
 show IntKind.wrap .u8 ((BitVec.ofInt 8 (a.toNat:Int) ^^^ BitVec.ofInt 8 (b.toNat:Int)).toNat:Int)=_
 have h1:∀ c:UInt8,BitVec.ofInt 8 (c.toNat:Int)=c.toBitVec:=fun c=>by
  rw [BitVec.ofInt_natCast]; simp
 rw [h1,h1,H0]
 have h2:(a.toBitVec ^^^ b.toBitVec)=(a ^^^ b).toBitVec:=rfl
 rw [h2]
 have:=(a ^^^ b).toNat_lt
 have e:((a ^^^ b).toBitVec.toNat)=(a ^^^ b).toNat:=rfl
 rw [e]; omega
theorem ks_at (k:Dig) (n:List UInt8) (c:Int) {i:Nat} (h:i < 64):(ksB k n c)[i]? = some ((ksB k n c).getD i 0):=I4 (by rw [ksB_len]; exact h)
theorem stream_spec (k:Dig) (n:List UInt8) (hn:n.length=12) (bs:List UInt8) (a:Addr) (ca:Nat) (h0:0 < bs.length) (hb:bs.length≤65536):Ay Tryz.prog 177 [dv k,.agg (It 12 n hn).cs.toArray,.slice (some a) bs.length ca] [] (fun w=>Sl 1 bs.length (An bs) (.slice (some a) bs.length ca) w∧De 6 (Av .u32 E7) w∧True) (fun x:BfT=>⟨BfS (strm k n bs) x,.tuple #[.slice (some ⟨x.1,0,none⟩) (strm k n bs).length x.2.2,iv 0],[lsE x.1 x.2.1 5],fun _=>True⟩):=by
 refine Dv Tryz.func177 Z Z fun X w0=>(Ab (Aa (oj (Gx Z Z (fun r3=>(Al (Am 0 _ _ Z) ?_))))))
 try dsimp only [List.eraseIdx]
 refine oj (Gx Z Z (fun r4=>(Al (Am 0 _ _ Z) ?_)))
 try dsimp only [List.eraseIdx]
 refine oj (Ak Z Z (oj (Ak Z Z (on (qn (Ab (Ab (Aa (oj (mv Z Z (oj (Bn Z Z Tryz.underlying53 Z (oj (gti Z Z Z (on (qn (A8 Z (fun ht=>absurd ht (by omega)) (fun hf=>(Ah (qn (Ab ?_)))))))))))))))))))))
 refine Aa (oj (mv Z Z (oj (call Z Z (.cons Z .nil) fb_228 (bclone_spec bs a ca h0 (by omega))  (fun w h=>⟨(h.2.2.1),tR⟩) ?_))))
 rintro ⟨g,cur,cap⟩ hcs
 try dsimp only at hcs
 try dsimp only
 obtain ⟨hcl,hcn,hcm,hcx⟩:=hcs
 try dsimp only at hcl hcn hcm hcx
 obtain ⟨rest,hrest⟩:∃ rest,rest=cur.drop bs.length:=⟨_,rfl⟩
 have hx0:cur=J3 k n bs rest (64*0):=by rw [hrest]; exact xRow_0 hcx
 clear hcx
 subst hx0
 have hrl:=hcl
 rw [xRow_len] at hrl
 refine oj (Ak Z Z (on (qn (Ab (Aa (oj (C7 Z zok_252 (fun r8=>(oj (Cr Z Z Az Z .head (.head Z) Z (on (qn (Ab (Ab (Aa (oj (mv Z Z (oj (call Z Z (.cons Z (.cons Z .nil)) fb_229 (chunk_spec g bs.length cap)  (fun w h=>tR) ?_)))))))))))))))))))
 rintro ⟨q1,q2⟩ _
 try dsimp only
 refine on (qn (Ag ?_))
 refine Hr Z Z fb_267 (chunk_it g bs.length cap q1 q2 (by omega) hcn) (fun (sT:(Nat))=>(⟨True,[],[bx r8 [S1 (.int .u32 (ctrI sT))] 252,lsE g (J3 k n bs rest (64*sT)) 5],fun w=>De 6 (Av .u32 E7) w∧Bc r3 [sd k] 67 w∧Bc r4 [It 12 n hn] 173 w∧True,0⟩:Hd)) (fun s x s'=>x=s∧s'=s+1) (0) (tR) (.refl _) (fun w h=>⟨(h.1.1),(h.1.2.1),tR⟩) (fun w h=>⟨(Ez h),((Cu h).1),(h.2.2.1.1),tR⟩) (fun _=>⟨Z,Z⟩) ?_ ?_
 ·rintro j x _ ⟨ys,zs,hrn,hG⟩ rl rd fn tm X1 w1
  try dsimp only [List.cons_append,List.nil_append]
  have hxj:x=j:=by
   have h1:ys.length=j:=by have:=run_len (f:=fun s:Nat=>s) (fun s x s' h=>h.2) hrn; simp only [Nat.zero_add] at this; omega
   have h2:(List.range ((bs.length+63) / 64))[ys.length]? = some x:=by rw [← hG,List.getElem?_append_right (Nat.le_refl _),Nat.sub_self]; rfl
   obtain ⟨h3,h4⟩:=List.getElem?_eq_some_iff.1 h2
   rw [List.getElem_range] at h4; omega
  have hjm:j < (bs.length+63) / 64:=by
   have:=congrArg List.length hG
   simp only [List.length_append,List.length_cons,List.length_range] at this
   have h1:ys.length=j:=by have:=run_len (f:=fun s:Nat=>s) (fun s x s' h=>h.2) hrn; simp only [Nat.zero_add] at this; omega
   omega
  subst hxj
  refine Aa (oj (Ak Z Z (on (qn (Fy (.tail (.tail .head)) (Ag (Ab (Ab (Aa (oj (Bx Z Z Bb (fun w h=>h.2.1) Z (Ac (d:=20) (v:=dv k) Z (by exact av1 _) (oj (Bx Z Z ty_173 (fun w h=>h.2.2.1) Z (Ac (d:=21) (v:=.agg (It 12 n hn).cs.toArray) Z (by exact av1 _) (oj (Bh Z Z Az (.head _) (Z) (oj (call Z Z (.cons Z (.cons Z (.cons Z .nil))) fb_230 (cblock_spec k n hn (ctrI x))  (fun w h=>⟨(h.1),tR⟩) ?_)))))))))))))))))))
  rintro ⟨ka,kc⟩ hkc
  try dsimp only at hkc
  try dsimp only
  refine oj (mv Z Z (oj (Bn Z Z Tryz.underlying53 Z (oj (slc (h:=min 64 (bs.length-64*x)) Z Z Tryz.underlying53 Bv Z ⟨_,Z,by omega⟩ (.inl Z) Z (Ac (d:=26) (v:=.slice (some ka) (min 64 (bs.length-64*x)) kc) Z (by simp [Addr.add]) (oj (Bn Z Z Tryz.underlying53 Z (oj (mv Z Z (on (qn (Ag ?_)))))))))))))
  generalize hrec:(some (rl,H2 .busy _ _ _ _ _ _):A9)=rec
  refine Aw (fun (sT:(Nat))=>(⟨sT≤min 64 (bs.length-64*x),[(3,Bg r3 0),(4,Bg r4 0),(8,Bg r8 0),(9,chS g bs.length x),(26,.slice (some ka) (min 64 (bs.length-64*x)) kc),(27,iv ((min 64 (bs.length-64*x):Nat):Int)),(28,iv (sT:Int))],[bx r8 [S1 (.int .u32 (ctrI x))] 252,lsE g (J3 k n bs rest (64*x+sT)) 5,rec],fun w=>De 6 (Av .u32 E7) w∧Bc r3 [sd k] 67 w∧Bc r4 [It 12 n hn] 173 w∧Sl 1 64 (An (ksB k n (ctrI x))) (.slice (some ka) 64 kc) w∧True,min 64 (bs.length-64*x)-sT⟩:Hd)) (0) (Nat.zero_le _) (⟨Z,Z,Z,Z,Z,Z,Z,tR⟩) (.refl _) (fun w h=>⟨(h.2.1),(h.2.2.1),(Cu h),(h.1.1),tR⟩) ?_
  rintro i hi
  try dsimp only
  refine Ab (Aa (oj (Dd Z Z Z (on (qn (Ab ?_))))))
  refine A8 Z (fun ht=>?_) (fun hf=>?_)
  ·have hp:64*x+i < bs.length:=by omega
   have hi64:i < 64:=by omega
   refine Ah (qn (Ab (Ag (Ab (Aa (oj (mv Z Z (oj (Fc Z Z Z Tryz.underlying53 Bv (by omega) (fun w h=>⟨ka,Z⟩) (oj (A4 Z Z Bv (fun w h=>Sl.elem1 (Cu h) (F6 (ks_at k n (ctrI x) hi64))) (oj (Ak Z Z (oj (Ak Z Z (on (qn (Aa (oj (mv Z Z (oj (mv Z Z ?_))))))))))))))))))))))
   exact oj (ixR (n':=64*x+i) Z Z Z Tryz.underlying53 Bv (by omega) (by omega) (oj (ldC Z Z Bv (.tail _ (.head _)) (xRow_get hp) (oj (mv Z Z (oj (bxor Z Z Z (Ac (d:=38) (v:=.int .u8 ((strB k n bs (64*x+i)).toNat:Int)) Z (by rw [u8_xor]; unfold strB; rw [show (64*x+i) / 64=x by omega,show (64*x+i) % 64=i by omega]; rfl) (oj (ixR (n':=64*x+i) Z Z Z Tryz.underlying53 Bv (by omega) (by omega) (oj (stC (J3 k n bs rest (64*x+i+1)) Z Z Bv Z (xRow_set hp) (by rw [xRow_len]; omega) (.tail .head) (on (bn (qn (Aa (oj (add Z Z Z (by omega) (oj (mv Z Z (on (qn (Ar (i+1) (by dsimp only; omega) (by (try dsimp only); omega) (⟨Z,Z,Z,Z,Z,Z,Z,tR⟩) (.refl _) (fun w h=>⟨(h.1),(h.2.1),(h.2.2.1),(Cu h),tR⟩))))))))))))))))))))))))
  ·have h4:i=min 64 (bs.length-64*x):=by omega
   subst h4
   have hrow:J3 k n bs rest (64*x+min 64 (bs.length-64*x))=J3 k n bs rest (64*(x+1)):=by
    by_cases h:64*(x+1)≤bs.length
    ·congr 1; omega
    ·exact xRow_eq (by omega) (by omega)
   rw [hrow]
   refine A1 (qe (qe (be (qn (Aa (oj (Bh Z Z Az (.head _) (Z) (oj (Id Z Z Z (Ac (d:=42) (v:=.int .u32 (ctrI (x+1))) Z (by rfl) (oj (Cr Z Z Az Z .head (.head Z) Z (on (bn ?_))))))))))))))
   subst hrec
   exact Ik (x+1) (.tail (.tail .head)) Z (⟨tR,Z,Z⟩) (.refl _) (fun w h=>⟨(h.1),(h.2.1),(h.2.2.1),tR⟩)
 ·rintro j rd6 _ ⟨xs,hG,hrun⟩
  try dsimp only [List.cons_append,List.nil_append]
  have hjm:j=(bs.length+63) / 64:=by
   have:=run_len (f:=fun s:Nat=>s) (fun s x s' h=>h.2) hrun
   rw [hG,List.length_range] at this
   simpa using this
  exact bn (qn (Ab (Aa (oj (mv Z Z (oj (Ak Z Z (oj (Ak Z Z (on (qn (Af (retM (ds:=[rd6]) (g,J3 k n bs rest (64*j),cap) Z (.refl _) Z (.tmp Z (.tmp Z .nil)) (by rw [Fe]; rfl) ⟨by (try dsimp only); rw [xRow_len]; omega,by rw [Fe]; exact hcn,hcm,by rw [Fe]; exact xRow_all (by omega)⟩ (.cons _ (.refl _)) (fun w h=>tR) (.inl Z))))))))))))))
end Go.Chx
