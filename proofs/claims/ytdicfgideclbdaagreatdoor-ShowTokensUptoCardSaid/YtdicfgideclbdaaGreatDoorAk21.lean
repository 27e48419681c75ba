import Derived.RegionTactic
import Derived.Test.YtdicfgideclbdaaGreatDoorAk8
set_option maxHeartbeats 64000000
set_option linter.all false
namespace Go.Proofs.YtdicfgideclbdaaGreatDoor
open Go Go.TL
attribute [local irreducible] TR TO Then zaj RetK Sound zac Kf GG zaQ
abbrev bldT:TypeId:=75
abbrev bld0 (l:Str):Heap:=[.cells [.t (.v (.pointer none)),.rw 1 l.length],.row 5 (za6 l)]
abbrev bld1 (l:Str):Heap:=[.cells [.tref bldT 2 0 0,.rw 1 l.length],.row 5 (za6 l)]
theorem zhg (l:Str):Sound Tryz.prog 59 [.tref bldT 2 0 0] (bld0 l) (fun r H'=>r= .ret (.tup [])/\H'=bld1 l):=by
 refine so Tryz.func59 ?_;repeat' (first|refine wg2 ?_ ?_|refine wg ?_|exact wgc|(apply TO.zpQ zaf;(iterate 4 exact rfl);decide;kernel_rfl;exact rfl;exact rfl)|(apply TO.zjB zaf;(iterate 4 exact rfl);kernel_rfl;exact rfl;kernel_rfl)|(apply TO.zh7;exact rfl;exact Tryz.func111;kernel_rfl;kernel_rfl;kernel_rfl;kernel_rfl;exact rfl)|intro hc)
 all_goals exact zwej
theorem zhh (l:Str):Sound Tryz.prog 59 [.tref bldT 2 0 0] (bld1 l) (fun r H'=>r= .ret (.tup [])/\H'=bld1 l):=by
 refine so Tryz.func59 ?_;repeat' (first|refine wg2 ?_ ?_|refine wg ?_|exact wgc|(apply TO.zim zaf;(iterate 6 exact rfl);exact Le.tref _ _ _ _;exact Le.tref _ _ _ _)|intro hc)
 all_goals exact zwej
def bldH(a:Bool)(l:Str):Heap:=bif a then bld1 l else bld0 l
theorem zeD(a:Bool)(l:Str):Sound Tryz.prog 59 [.tref bldT 2 0 0] (bldH a l) (fun r H'=>r= .ret (.tup [])/\H'=bld1 l):=by
 cases a
 ·exact zhg l
 ·exact zhh l
theorem Hands.two{G:Heap}{i j:Nat}{b c:Blk}(hij:i≠j)(h1:G[i]?=some (b.ren (names [i,j] G.length)))(h2:G[j]?=some (c.ren (names [i,j] G.length)))(hb:b.under 2=true)(hc:c.under 2=true):Hands G [i,j] [b,c] where
 nodup:=by simp[hij]
 lt:=fun x hx=>by
  rcases qa5.1 hx with rfl|hx
  ·exact(qaa.1 h1).1
  ·have:x=j:=by simpa using hx
   subst this;exact(qaa.1 h2).1
 len:=rfl
 H:=fun k m d g1 g2=>by
  match k,g1,g2 with
  | 0,g1,g2=>simp at g1 g2;subst g1;subst g2;exact h1
  | 1,g1,g2=>simp at g1 g2;subst g1;subst g2;exact h2
  | k+2,g1,g2=>simp at g1
 under:=fun k d g2=>by
  match k,g2 with
  | 0,g2=>simp at g2;subst g2;exact hb
  | 1,g2=>simp at g2;subst g2;exact hc
  | k+2,g2=>simp at g2
theorem ziY (a:Bool) (l:Str) (c:UInt8) (hl:l.length+1≤1000000000):Sound Tryz.prog 21 [.tref bldT 2 0 0,.t (.v (.int .u8 c.toNat))] (bldH a l) (fun r H'=>r= .ret (.t (.v .nilIface))/\H'=bld1 (l++[c])):=by
 have hC:=zeD a l;cases a
 all_goals
  refine so Tryz.func21 ?_;repeat' (first|refine wg2 ?_ ?_|refine wg ?_|exact wgc|(apply TO.zcm [0,1] (v':=.tup []) (H':=bld1 l) hC;(iterate 3 exact rfl);exact⟨Le.refl _,trivial⟩;exact rfl;exact Hands.two oB rfl rfl rfl rfl;exact rfl;exact rfl)|(apply TO.zm7 zaf;(iterate 13 exact rfl);omega;exact rfl)|intro hc)
  exact RetK.keep 2 rfl (Le.refl _) rfl rfl rfl rfl rfl ⟨rfl,rfl⟩
theorem zbX (a:Bool) (l s:Str) (hl:l.length+s.length≤1000000000):Sound Tryz.prog 22 [.tref bldT 2 0 0,.s s] (bldH a l) (fun r H'=>r= .ret (.tup [.i s.length,.t (.v .nilIface)])/\H'=bld1 (l++s)):=by
 have hC:=zeD a l;cases a
 all_goals
  refine so Tryz.func22 ?_;repeat' (first|refine wg2 ?_ ?_|refine wg ?_|exact wgc|(apply TO.zcm [0,1] (v':=.tup []) (H':=bld1 l) hC;(iterate 3 exact rfl);exact⟨Le.refl _,trivial⟩;exact rfl;exact Hands.two oB rfl rfl rfl rfl;exact rfl;exact rfl)|(apply TO.zjk zaf;(iterate 12 exact rfl);omega;exact rfl)|intro hc)
  exact RetK.keep 2 rfl (Le.refl _) rfl rfl rfl rfl rfl ⟨rfl,rfl⟩
end Go.Proofs.YtdicfgideclbdaaGreatDoor
namespace Go.Proofs.YtdicfgideclbdaaGreatDoor
open Go Go.TL Go.RowKit
set_option maxRecDepth 100000 in
theorem zgY (b o g cap cells:Nat) (l:Str) (h0:l≠ []) (w:World) (hc:w.cell? ⟨b,o+1,none⟩=some (.slice (some ⟨g,0,none⟩) l.length cap)) (hcap:l.length≤cap) (hcl:l.length≤cells) (hsh:w.shape? g=some (5,cells)) (h63:l.length≤9223372036854775807)
  (hcell:∀(j:Nat) x,l[j]?=some x->w.cell? ((⟨g,0,none⟩:Addr).add j)=some (.int .u8 x.toNat)):
  Calls Tryz.prog 23 #[.pointer (some ⟨b,o,none⟩)] w fun e w'=>e= .returned (.string ⟨l.toArray⟩)/\w'=w.drew.freeze ⟨g,0,none⟩ l.length:=by
 have hl0:l.length≠0:=by simpa using h0
 have c1:w.drew.cell? ⟨b,o+1,none⟩=some (.slice (some ⟨g,0,none⟩) l.length cap):=hc
 have hSD:(Builtin.unsafeSliceData_ #[73] 127 #[.slice (some ⟨g,0,none⟩) l.length cap]).run Tryz.prog w.drew= .ok (.pointer (some ⟨g,0,none⟩)) w.drew:=
  Lib.run_unsafeSliceData_row _ _ _ _ _ _ oA
 have hUS:(Builtin.unsafeString_ #[127,3] 9 #[.pointer (some ⟨g,0,none⟩),.int .i64 l.length]).run Tryz.prog w.drew= .ok (.string ⟨l.toArray⟩) (w.drew.freeze ⟨g,0,none⟩ l.length):=
  Lib.run_unsafeString_row w.drew 127 3 9 5 oD oD g cells hsh l h0 hcl h63 hcell
 clear hc hsh hcell
 go_enter Tryz.func23,Tryz.ntmps23
 go_wp2
 go_region
 all_goals(go_wp2;go_ret;exact⟨rfl,rfl⟩)
set_option maxRecDepth 100000 in
theorem zln (b o:Nat) (w:World) (c1:w.drew.cell? ⟨b,o+1,none⟩=some (.slice none 0 0)):
  Calls Tryz.prog 23 #[.pointer (some ⟨b,o,none⟩)] w fun e w'=>e= .returned (.string ⟨#[]⟩)/\w'=w.drew:=by
 have hSD:(Builtin.unsafeSliceData_ #[73] 127 #[.slice none 0 0]).run Tryz.prog w.drew= .ok (.pointer none) w.drew:=Lib.run_unsafeSliceData_nil _ _ _ _ _;have hUS:(Builtin.unsafeString_ #[127,3] 9 #[.pointer none,.int .i64 0]).run Tryz.prog w.drew= .ok (.string ⟨#[]⟩) w.drew:=Lib.run_unsafeString_none _ _ _ _ _
 go_enter Tryz.func23,Tryz.ntmps23
 go_wp2
 go_region
 all_goals(go_wp2;go_ret;exact⟨rfl,rfl⟩)
set_option maxRecDepth 100000 in
theorem zlo (b o g cap:Nat) (hcap:0<cap) (w:World) (c1:w.drew.cell? ⟨b,o+1,none⟩=some (.slice (some ⟨g,0,none⟩) 0 cap)):
  Calls Tryz.prog 23 #[.pointer (some ⟨b,o,none⟩)] w fun e w'=>e= .returned (.string ⟨#[]⟩)/\w'=w.drew:=by
 have hSD:(Builtin.unsafeSliceData_ #[73] 127 #[.slice (some ⟨g,0,none⟩) 0 cap]).run Tryz.prog w.drew= .ok (.pointer (some ⟨g,0,none⟩)) w.drew:=
  Lib.run_unsafeSliceData_row _ _ _ _ _ _ oA
 have hUS:(Builtin.unsafeString_ #[127,3] 9 #[.pointer (some ⟨g,0,none⟩),.int .i64 0]).run Tryz.prog w.drew= .ok (.string ⟨#[]⟩) w.drew:=Lib.run_unsafeString_none _ _ _ _ _
 go_enter Tryz.func23,Tryz.ntmps23
 go_wp2
 go_region
 all_goals(go_wp2;go_ret;exact⟨rfl,rfl⟩)
theorem zjF(w:World):Keeps w w.drew:=⟨rfl,rfl,rfl,qag _,fun _ _=>rfl⟩
theorem zd7(off:Nat)(cs:List SV)(l:Str)(hl:l.length≤1000000000)(h1:cs[off+1]?=some (.rw 1 l.length)):
  Sound Tryz.prog 23 [.ref 0 off] [.cells cs,.row 5 (za6 l)] (fun r H'=>r= .ret (.s l)/\(H'=[.cells cs,.row 5 (za6 l)]\/H'=[.cells cs,.dead])):=by
 refine⟨⟨_,Tryz.func23,oD,rfl⟩,fun m vs hH hm ha=>?_⟩;obtain⟨hs,ha⟩:=ha
 obtain⟨x,rfl⟩:∃x,vs= #[x]:=by
  match vs,hs with
  | ⟨[x]⟩,_=>exact⟨x,rfl⟩
 have hx:=ha 0 _ x rfl rfl;cases hx with
 | ref _ _ p hp hn=>
 have hH0:m.H[0]?=some (.cells cs):=by rw[hH];rfl
 have hH1:m.H[1]?=some (.row 5 (za6 l)):=by rw[hH];rfl
 obtain⟨b1,b2,b3⟩:=hm.blk 0 p _ hp hH0;obtain⟨y,hy,_,hr⟩:=b3 _ _ h1;cases hr with
 | rw _ _ _ p1 hp1 _ ho=>
 obtain⟨_,hh⟩:=ho _ (by rw[hH1];rfl);obtain⟨ad,cap,rfl,hlc,hlo,hhi,had⟩:=hh (zaE l).symm;obtain⟨⟨_,r2,r3⟩,r4,r5⟩:=hm.blk 1 p1 _ hp1 hH1;rw[zaE]at r2
 have same:∀(w':World),w'=m.w.drew->l=[]->∃(m':M) (r:Res),m'.w=w'/\Step m m'/\HRel m'/\zbZ m' r (.returned (.string ⟨#[]⟩))/\(r= .ret (.s l)/\(m'.H=[.cells cs,.row 5 (za6 l)]\/m'.H=[.cells cs,.dead])):=by
  rintro w' rfl rfl;obtain⟨s,hm'⟩:=zej hm (zjF m.w);exact⟨_,.ret (.s []),rfl,s,hm',.t _ _ (.v _),rfl,.inl hH⟩
 by_cases h0:l=[]
 ·exact zwh
 ·have hpos:0<l.length:=qbf.2 h0;cases ad with
  | none=>
    simp only at had;omega
  | some a=>
    simp only at had;obtain⟨rfl,hc0⟩:=had;refine Calls.mono (zgY p.b (p.lo+off) p1.b cap p1.hi l h0 m.w hy hlc oA (r3 oA) oA (fun j c hj=>?_)) ?_
    ·exact zwdn
    ·rintro e w' ⟨rfl,rfl⟩;obtain⟨s,hm'⟩:=zpA (w':=m.w.drew.freeze ⟨p1.b,0,none⟩ l.length) (k:=l.length) hm hp1 hH1 (by unfold World.freeze;split <;> rfl) (by unfold World.freeze;split <;> rfl) (by unfold World.freeze;split <;> rfl) (by unfold World.freeze;split <;> rfl) r2;exact⟨_,.ret (.s l),rfl,s,hm',.t _ _ (.v _),rfl,.inr (by show m.H.set 1 .dead=_;rw[hH];rfl)⟩
end Go.Proofs.YtdicfgideclbdaaGreatDoor
