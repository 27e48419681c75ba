import Derived.RegionTactic
import Derived.Test.YtpfnfpaahefdaaaGreatPk26
set_option linter.all false
namespace Go.Proofs.YtpfnfpaahefdaaaGreat
open Go Go.TL Go.RowKit
set_option maxHeartbeats 1000000 in
set_option maxRecDepth 100000 in
theorem zif (b o g cap cells:Nat) (l:Str) (h0:l≠ []) (w:World) (hc:w.cell? ⟨b,o+1,none⟩=some (.slice (some ⟨g,0,none⟩) l.length cap)) (hcap:l.length≤cap) (hcl:l.length≤cells) (hsh:w.shape? g=some (5,cells)) (h63:l.length≤9223372036854775807)
  (hcell:∀(j:Nat) x,l[j]?=some x->w.cell? ((⟨g,0,none⟩:Addr).add j)=some (.int .u8 x.toNat)):
  Calls Tryz.prog 27 #[.pointer (some ⟨b,o,none⟩)] w fun e w'=>e= .returned (.string ⟨l.toArray⟩)/\w'=w.drew.freeze ⟨g,0,none⟩ l.length:=by
 have hl0:l.length≠0:=by simpa using h0
 have c1:w.drew.cell? ⟨b,o+1,none⟩=some (.slice (some ⟨g,0,none⟩) l.length cap):=hc
 have hSD:(Builtin.unsafeSliceData_ #[79] 117 #[.slice (some ⟨g,0,none⟩) l.length cap]).run Tryz.prog w.drew= .ok (.pointer (some ⟨g,0,none⟩)) w.drew:=
  Lib.run_unsafeSliceData_row _ _ _ _ _ _ (by omega)
 have hUS:(Builtin.unsafeString_ #[117,3] 9 #[.pointer (some ⟨g,0,none⟩),.int .i64 l.length]).run Tryz.prog w.drew= .ok (.string ⟨l.toArray⟩) (w.drew.freeze ⟨g,0,none⟩ l.length):=
  Lib.run_unsafeString_row w.drew 117 3 9 5 (by kernel_rfl) (by kernel_rfl) g cells hsh l h0 hcl h63 hcell
 clear hc hsh hcell
 go_enter Tryz.func27,Tryz.ntmps27
 go_wp2
 go_region
 all_goals(go_wp2;go_ret;exact⟨rfl,rfl⟩)
set_option maxHeartbeats 1000000 in
set_option maxRecDepth 100000 in
theorem zie (b o:Nat) (w:World) (c1:w.drew.cell? ⟨b,o+1,none⟩=some (.slice none 0 0)):
  Calls Tryz.prog 27 #[.pointer (some ⟨b,o,none⟩)] w fun e w'=>e= .returned (.string ⟨#[]⟩)/\w'=w.drew:=by
 have hSD:(Builtin.unsafeSliceData_ #[79] 117 #[.slice none 0 0]).run Tryz.prog w.drew= .ok (.pointer none) w.drew:=Lib.run_unsafeSliceData_nil _ _ _ _ _
 have hUS:(Builtin.unsafeString_ #[117,3] 9 #[.pointer none,.int .i64 0]).run Tryz.prog w.drew= .ok (.string ⟨#[]⟩) w.drew:=Lib.run_unsafeString_none _ _ _ _ _
 go_enter Tryz.func27,Tryz.ntmps27
 go_wp2
 go_region
 all_goals(go_wp2;go_ret;exact⟨rfl,rfl⟩)
set_option maxHeartbeats 1000000 in
set_option maxRecDepth 100000 in
theorem zig (b o g cap:Nat) (hcap:0<cap) (w:World) (c1:w.drew.cell? ⟨b,o+1,none⟩=some (.slice (some ⟨g,0,none⟩) 0 cap)):
  Calls Tryz.prog 27 #[.pointer (some ⟨b,o,none⟩)] w fun e w'=>e= .returned (.string ⟨#[]⟩)/\w'=w.drew:=by
 have hSD:(Builtin.unsafeSliceData_ #[79] 117 #[.slice (some ⟨g,0,none⟩) 0 cap]).run Tryz.prog w.drew= .ok (.pointer (some ⟨g,0,none⟩)) w.drew:=
  Lib.run_unsafeSliceData_row _ _ _ _ _ _ (by omega)
 have hUS:(Builtin.unsafeString_ #[117,3] 9 #[.pointer (some ⟨g,0,none⟩),.int .i64 0]).run Tryz.prog w.drew= .ok (.string ⟨#[]⟩) w.drew:=Lib.run_unsafeString_none _ _ _ _ _
 go_enter Tryz.func27,Tryz.ntmps27
 go_wp2
 go_region
 all_goals(go_wp2;go_ret;exact⟨rfl,rfl⟩)
theorem zlC(w:World):Keeps w w.drew:=⟨rfl,rfl,rfl,qae _,fun _ _=>rfl⟩
theorem zdu(off:Nat)(cs:List SV)(l:Str)(hl:l.length≤1000000000)(h1:cs[off+1]?=some (.rw 1 l.length)):
  Sound Tryz.prog 27 [.ref 0 off] [.cells cs,.row 5 (zbD l)] (fun r H'=>r= .ret (.s l)/\(H'=[.cells cs,.row 5 (zbD l)]\/H'=[.cells cs,.dead])):=by
 refine⟨⟨_,Tryz.func27,by kernel_rfl,rfl⟩,fun m vs hH hm ha=>?_⟩
 obtain⟨hs,ha⟩:=ha
 obtain⟨x,rfl⟩:∃x,vs= #[x]:=by
  match vs,hs with
  | ⟨[x]⟩,_=>exact⟨x,rfl⟩
 have hx:=ha 0 _ x rfl rfl
 cases hx with
 | ref _ _ p hp hn=>
 have hH0:m.H[0]?=some (.cells cs):=by rw[hH];rfl
 have hH1:m.H[1]?=some (.row 5 (zbD l)):=by rw[hH];rfl
 obtain⟨b1,b2,b3⟩:=hm.blk 0 p _ hp hH0
 obtain⟨y,hy,_,hr⟩:=b3 _ _ h1
 cases hr with
 | rw _ _ _ p1 hp1 _ ho=>
 obtain⟨_,hh⟩:=ho _ (by rw[hH1];rfl)
 obtain⟨ad,cap,rfl,hlc,hlo,hhi,had⟩:=hh (zaX l).symm
 obtain⟨⟨_,r2,r3⟩,r4,r5⟩:=hm.blk 1 p1 _ hp1 hH1
 rw[zaX]at r2
 have same:∀(w':World),w'=m.w.drew->l=[]->∃(m':M) (r:Res),m'.w=w'/\Step m m'/\HRel m'/\zbZ m' r (.returned (.string ⟨#[]⟩))/\(r= .ret (.s l)/\(m'.H=[.cells cs,.row 5 (zbD l)]\/m'.H=[.cells cs,.dead])):=by
  rintro w' rfl rfl
  obtain⟨s,hm'⟩:=zcN hm (zlC m.w)
  exact⟨_,.ret (.s []),rfl,s,hm',.t _ _ (.v _),rfl,.inl hH⟩
 by_cases h0:l=[]
 ·cases ad with
  | none=>
    simp only at had
    subst had
    subst h0
    refine Calls.mono (zie p.b (p.lo+off) m.w hy) ?_
    rintro e w' ⟨rfl,rfl⟩
    exact same _ rfl rfl
  | some a=>
    simp only at had
    obtain⟨rfl,hc0⟩:=had
    subst h0
    refine Calls.mono (zig p.b (p.lo+off) p1.b cap hc0 m.w hy) ?_
    rintro e w' ⟨rfl,rfl⟩
    exact same _ rfl rfl
 ·have hpos:0<l.length:=qbo.2 h0
  cases ad with
  | none=>
    simp only at had
    omega
  | some a=>
    simp only at had
    obtain⟨rfl,hc0⟩:=had
    refine Calls.mono (zif p.b (p.lo+off) p1.b cap p1.hi l h0 m.w hy hlc (by omega) (r3 (by omega)) (by omega) (fun j c hj=>?_)) ?_
    ·obtain⟨z,z1,_,z2⟩:=r5 j (zoT c) (by simp[zbD,hj])
     rw[zbE,<-hlo,z1]
     cases z2
     rfl
    ·rintro e w' ⟨rfl,rfl⟩
     obtain⟨s,hm'⟩:=zov (w':=m.w.drew.freeze ⟨p1.b,0,none⟩ l.length) (k:=l.length) hm hp1 hH1 (by unfold World.freeze;split <;> rfl) (by unfold World.freeze;split <;> rfl) (by unfold World.freeze;split <;> rfl) (by unfold World.freeze;split <;> rfl) r2
     exact⟨_,.ret (.s l),rfl,s,hm',.t _ _ (.v _),rfl,.inr (by show m.H.set 1 .dead=_;rw[hH];rfl)⟩
end Go.Proofs.YtpfnfpaahefdaaaGreat
namespace Go.Proofs.YtpfnfpaahefdaaaGreat
open Go Go.TL
attribute [local irreducible] TR TO Then zab RetK Sound zac Kf GG za2
theorem zfL(p:Int->Bool):∀(l:Str),∀c∈zat p l,p c.toNat=true
 | [],c,h=>by cases h
 | x::l,c,h=>by
   unfold zat at h
   split at h
   ·rcases qa8.1 h with rfl|h
    ·assumption
    ·exact zfL p l c h
   ·cases h
end Go.Proofs.YtpfnfpaahefdaaaGreat
namespace Go.Proofs.YtpfnfpaahefdaaaGreat
open Go Go.TL
theorem zpx(c x:UInt8)(r:Str):zbp (c::r) [x]=(c == x):=by simp[zbp]
theorem zmM(c d x y:UInt8)(r:Str):zbp (c::d::r) [x,y]=(c == x && d == y):=by simp[zbp]
theorem zn6(c x y:UInt8):zbp [c] [x,y]=false:=by simp[zbp]
theorem zld{p:Int->Bool}{c:UInt8}{r:Str}(h:p c.toNat=true):behind p (c::r)=behind p r:=by simp[behind,zat,h]
theorem zmh{p:Int->Bool}{c:UInt8}{r:Str}(h:p c.toNat=false):behind p (c::r)=c::r:=by simp[behind,zat,h]
theorem zhR{c:UInt8}{r:Str}(h:blank c.toNat=true):skipped (c::r)=skipped r:=by
 rw[zb7 (c::r),zb7 r,zld h]
theorem zeR{c:UInt8}{r:Str}(h:blank c.toNat=false)(h2:zbp (c::r) [45,45]=false):skipped (c::r)=c::r:=by
 rw[zb7 (c::r),zmh h,if_neg (by simp[h2])]
end Go.Proofs.YtpfnfpaahefdaaaGreat
namespace Go.Proofs.YtpfnfpaahefdaaaGreat
open Go Go.TL
attribute [local irreducible] TR TO Then zab RetK Sound zac Kf GG za2
def zaJ(t:Tok):Str:=if(t.1 == 5)=true then[39]++t.2.1++[39] else t.2.1
def za8:Str->Bool->List Tok->Str
 | acc,_,[]=>acc
 | acc,first,t::l=>za8 ((if first then acc else acc++[32])++zaJ t) false l
def join(l:List Tok):Str:=za8 [] true l
theorem zcq:∀(l:List Tok) (acc:Str) (b:Bool),za8 acc b l=acc++za8 [] b l
 | [],acc,b=>by simp[za8]
 | t::l,acc,b=>by
   rw[za8,za8,zcq l,zcq l (_++_)]
   cases b <;> simp
end Go.Proofs.YtpfnfpaahefdaaaGreat
namespace Go.Proofs.YtpfnfpaahefdaaaGreat
open Go Go.TL
def zas(s:Str)(i:Nat):Nat:=s.length-(skipped (s.drop i)).length
theorem ziK{s:Str}{i:Nat}(hi:i≤s.length):i≤zas s i/\zas s i≤s.length:=by
 have h:=zgy (s.drop i)
 rw[qaQ]at h
 unfold zas;omega
theorem zbn(n:Nat)(s:Str)(i:Nat)(out:List Tok):zcF (n+1) s i out=
  (if zas s i=s.length then(out,0,0)
   else if((zai (s.drop (zas s i))).1.2.2 != 0)=true then([],(zas s i:Int),(zai (s.drop (zas s i))).1.2.2)
   else zcF n s (zas s i+(zai (s.drop (zas s i))).2) (out++[((zai (s.drop (zas s i))).1.1,(zai (s.drop (zas s i))).1.2.1,(zas s i:Int))])):=rfl
theorem zdW{s:Str}{i:Nat}(hi:i≤s.length)(h1:zas s i≠s.length)(h2:((zai (s.drop (zas s i))).1.2.2 != 0)=false):
  i<zas s i+(zai (s.drop (zas s i))).2/\zas s i+(zai (s.drop (zas s i))).2≤s.length:=by
 obtain⟨g1,g2⟩:=ziK hi
 have hl:=zgH (l:=s.drop (zas s i)) (by simp;omega) h2
 rw[qaQ]at hl
 omega
theorem zng(s:Str):∀(n i:Nat) (out:List Tok),s.length-i<n->i≤s.length->
  zcF n s i out=(if(zcF n s i []).2.2=0 then(out++(zcF n s i []).1,(zcF n s i []).2.1,0) else zcF n s i []):=by
 intro n
 induction n with
 | zero=>intro i out h;omega
 | succ n ih=>
   intro i out hn hi
   by_cases h1:zas s i=s.length
   ·rw[zbn,zbn,if_pos h1,if_pos h1];simp
   ·cases h2:((zai (s.drop (zas s i))).1.2.2 != 0) with
    | true=>
      have h3:¬(zai (s.drop (zas s i))).1.2.2=0:=by simpa using h2
      rw[zbn,zbn,if_neg h1,if_neg h1,if_pos h2,if_pos h2,if_neg h3]
    | false=>
      obtain⟨g1,g2⟩:=zdW hi h1 h2
      have e:∀out,zcF (n+1) s i out=zcF n s (zas s i+(zai (s.drop (zas s i))).2) (out++[((zai (s.drop (zas s i))).1.1,(zai (s.drop (zas s i))).1.2.1,(zas s i:Int))]):=fun out=>by
       rw[zbn,if_neg h1,if_neg (by rw[h2];simp)]
      rw[e,e,ih _ (out++_) (by omega) g2,ih _ ([]++_) (by omega) g2]
      by_cases h3:(zcF n s (zas s i+(zai (s.drop (zas s i))).2) []).2.2=0
      ·simp[h3]
      ·simp[h3]
def toks(s:Str)(i:Nat):List Tok×Int×Int:=zcF (s.length-i+1) s i []
theorem zlY(s:Str):∀(n m i:Nat) (out:List Tok),s.length-i<n->s.length-i<m->i≤s.length->zcF n s i out=zcF m s i out:=by
 intro n
 induction n with
 | zero=>intro m i out h;omega
 | succ n ih=>
   intro m i out hn hm hi
   obtain⟨m,rfl⟩:∃k,m=k+1:=⟨m-1,by omega⟩
   rw[zbn,zbn]
   by_cases h1:zas s i=s.length
   ·rw[if_pos h1,if_pos h1]
   ·rw[if_neg h1,if_neg h1]
    cases h2:((zai (s.drop (zas s i))).1.2.2 != 0) with
    | true=>rfl
    | false=>
      obtain⟨g1,g2⟩:=zdW hi h1 h2
      exact ih m _ _ (by omega) (by omega) g2
theorem znh{s:Str}(h:s.length≤65536):scan s=toks s 0:=if_neg (by omega)
theorem zoF{s:Str}{i:Nat}(h:zas s i=s.length):toks s i=([],0,0):=by
 rw[toks,zbn,if_pos h]
theorem zoG{s:Str}{i:Nat}(h:zas s i≠s.length)(h2:((zai (s.drop (zas s i))).1.2.2 != 0)=true):toks s i=([],(zas s i:Int),(zai (s.drop (zas s i))).1.2.2):=by
 rw[toks,zbn,if_neg h,if_pos h2]
theorem znw{s:Str}{i:Nat}(hi:i≤s.length)(h:zas s i≠s.length)(h2:((zai (s.drop (zas s i))).1.2.2 != 0)=false):
  toks s i=(if(toks s (zas s i+(zai (s.drop (zas s i))).2)).2.2=0 then
   (((zai (s.drop (zas s i))).1.1,(zai (s.drop (zas s i))).1.2.1,(zas s i:Int))::(toks s (zas s i+(zai (s.drop (zas s i))).2)).1,(toks s (zas s i+(zai (s.drop (zas s i))).2)).2.1,0)
   else toks s (zas s i+(zai (s.drop (zas s i))).2)):=by
 obtain⟨g1,g2⟩:=zdW hi h h2
 have e:toks s i=zcF (s.length-i) s (zas s i+(zai (s.drop (zas s i))).2) ([]++[((zai (s.drop (zas s i))).1.1,(zai (s.drop (zas s i))).1.2.1,(zas s i:Int))]):=by
  rw[toks,zbn,if_neg h,if_neg (by rw[h2];simp)]
 have f:zcF (s.length-i) s (zas s i+(zai (s.drop (zas s i))).2) []=toks s (zas s i+(zai (s.drop (zas s i))).2):=zlY s _ _ _ _ (by omega) (by omega) g2
 rw[e,zng s _ _ _ (by omega) g2,f]
 rfl
theorem zfm{c:UInt8}(h:letter c.toNat=true):blank c.toNat=false/\c≠45/\inner c.toNat=true:=by
 refine⟨?_,?_,?_⟩
 ·cases hb:blank c.toNat with
  | false=>rfl
  | true=>
    exfalso
    simp[letter,blank]at h hb
    omega
 ·rintro rfl
  revert h;decide
 ·simp[inner,h]
end Go.Proofs.YtpfnfpaahefdaaaGreat
namespace Go.Proofs.YtpfnfpaahefdaaaGreat
open Go Go.TL
attribute [local irreducible] TR TO Then zab RetK Sound zac Kf GG za2
theorem zjQ(s:Str):∀(n i:Nat) (out:List Tok),i≤s.length->out.length≤i->(zcF n s i out).1.length≤s.length:=by
 intro n
 induction n with
 | zero=>intro i out _ _;simp[zcF]
 | succ n ih=>
   intro i out hi ho
   rw[zbn]
   by_cases h1:zas s i=s.length
   ·rw[if_pos h1];simp only;omega
   ·rw[if_neg h1]
    cases h2:((zai (s.drop (zas s i))).1.2.2 != 0) with
    | true=>simp
    | false=>
      obtain⟨g1,g2⟩:=zdW hi h1 h2
      exact ih _ _ g2 (by simp;omega)
theorem zlZ(s:Str):(scan s).1.length≤65536:=by
 unfold scan
 split
 ·simp
 ·have:=zjQ s (s.length+1) 0 [] (qaV _) (qae _)
  omega
end Go.Proofs.YtpfnfpaahefdaaaGreat
namespace Go.Proofs.YtpfnfpaahefdaaaGreat
open Go Go.TL
def zbT:Nat->Str->Str
 | 0,l=>l
 | n+1,l=>if zbp (behind blank l) [45,45]=true then zbT n (behind (fun c=>c != 10) (behind blank l)) else behind blank l
theorem zjW:∀(n:Nat) (l:Str),l.length<n->zbT n l=skipped l:=by
 intro n
 induction n with
 | zero=>intro l h;omega
 | succ n ih=>
   intro l h
   rw[zbT,zb7]
   have h1:=zd3 blank l
   by_cases g:zbp (behind blank l) [45,45]=true
   ·rw[if_pos g,if_pos g]
    obtain⟨r,hr⟩:=zcM g
    have h2:=@zew r
    rw[hr]at h1⊢
    exact ih _ (by omega)
   ·rw[if_neg g,if_neg g]
def zpY:Nat->Str->Nat->List Tok->List Tok×Int×Int
 | 0,_,_,_=>([],0,0)
 | n+1,s,i,out=>
   if s.length-(zbT (s.length+1) (s.drop i)).length=s.length then(out,0,0)
   else if((zai (s.drop (s.length-(zbT (s.length+1) (s.drop i)).length))).1.2.2 != 0)=true then([],((s.length-(zbT (s.length+1) (s.drop i)).length:Nat):Int),(zai (s.drop (s.length-(zbT (s.length+1) (s.drop i)).length))).1.2.2)
   else zpY n s (s.length-(zbT (s.length+1) (s.drop i)).length+(zai (s.drop (s.length-(zbT (s.length+1) (s.drop i)).length))).2)
    (out++[((zai (s.drop (s.length-(zbT (s.length+1) (s.drop i)).length))).1.1,(zai (s.drop (s.length-(zbT (s.length+1) (s.drop i)).length))).1.2.1,((s.length-(zbT (s.length+1) (s.drop i)).length:Nat):Int))])
theorem zeP(s:Str):∀(n i:Nat) (out:List Tok),zcF n s i out=zpY n s i out:=by
 intro n
 induction n with
 | zero=>intro i out;rfl
 | succ n ih=>
   intro i out
   have h:zbT (s.length+1) (s.drop i)=skipped (s.drop i):=zjW _ _ (by simp;omega)
   rw[zcF,zpY,h]
   split
   ·rfl
   ·split
    ·rfl
    ·exact ih _ _
end Go.Proofs.YtpfnfpaahefdaaaGreat
namespace Go.Proofs.YtpfnfpaahefdaaaGreat
open Go Go.TL
attribute [local irreducible] TR TO Then zab RetK Sound zac Kf GG za2
theorem zp9(l:List Tok)(acc:Str)(b:Bool):acc.length≤(za8 acc b l).length:=by
 rw[zcq];simp
theorem zki(a:Bool)(l:Str):(bldH a l).length=2:=by cases a <;> rfl
abbrev znu (a:Int)(x:Str)(p:Int):Blk:=.cells [.i a,.s x,.i p]
set_option maxHeartbeats 4000000 in
theorem zlB (l:List Tok) (hl:l.length≤1000000) (hj:(join l).length≤1000000000):Pure Tryz.prog 10 [.t (.sl 3 (l.map tokT))] (.s (join l)):=by
 refine so Tryz.func10 ?_
 have hml:(l.map tokT).length=l.length:=qad _
 refine TR.seq ?_
 first
  | (apply TO.move;exact rfl;exact rfl)
  | (apply TO.assign;exact rfl;exact rfl)
  | (apply TO.want;exact rfl)
  | refine zqn ?_
  | refine zqc ?_
  | (apply TO.eqs;(iterate 3 exact rfl))
  | (apply TO.nes;(iterate 3 exact rfl))
  | (apply TO.cmp;(iterate 4 exact rfl))
  | (intro hc;exact absurd hc (by decide))
  | (intro hc;exfalso;simp only[decide_eq_true_eq,decide_eq_false_iff_not,beq_iff_eq,beq_eq_false_iff_ne,bne_iff_ne,bne_eq_false_iff_eq,ne_eq,qam,not_true_eq_false]at hc;done)
  | (intro hc;exfalso;(first|simp only[decide_eq_true_eq,decide_eq_false_iff_not,beq_iff_eq,beq_eq_false_iff_ne,bne_iff_ne,bne_eq_false_iff_eq,ne_eq,qam,not_true_eq_false]at hc|skip);first|omega|(simp only[qaf,qac]at *;omega))
  | intro hc
  | (apply TO.pick;(iterate 3 exact rfl))
  | (apply TO.pass;exact rfl;exact rfl)
  | (apply TO.zbP;exact rfl)
  | (apply TO.load zaa;(iterate 5 exact rfl))
  | (apply TO.zaD zaa;(iterate 6 exact rfl))
  | (apply TO.fieldAddr zaa;(iterate 5 exact rfl);decide;exact rfl)
  | (apply TO.zaj zaa;(iterate 5 exact rfl);decide;exact rfl)
  | (apply TO.nilCheck;(iterate 3 exact rfl))
  | (apply TO.zaw zaa;(iterate 5 exact rfl);assumption)
  | (apply TO.zau zaa;(iterate 5 exact rfl);decide;exact rfl)
  | (apply TO.zaT zaa;(iterate 4 exact rfl))
  | (apply TO.zba zaa;(iterate 7 exact rfl))
  | refine zqg ?_
  | (apply TO.extract;(iterate 3 exact rfl))
  | refine TO.nil ?_
  | refine TR.seq ?_
  | refine TR.region ?_
  | (apply TR.zbO;exact rfl)
  | (apply TR.zbN;exact rfl)
  | refine Then.normal ?_
  | refine TR.block ?_
  | refine TR.skip ?_
  | (apply TR.zaU hmix;kernel_rfl;exact rfl)
  | refine TR.exit ?_
  | refine TR.ret ?_
  | refine Then.exit ?_
  | refine Then.ret ?_
  | refine zac.exit ?_
  | refine zac.ret ?_
  | refine zab.normal ?_
  | refine zab.ret ?_
  | (apply zab.same;exact rfl)
  | (apply zab.other;exact rfl)
  | (apply TO.zaI;(iterate 3 exact rfl);omega;omega)
  | (apply TO.mul64;(iterate 3 exact rfl);omega;omega)
  | (apply TO.convert_u8;exact rfl;kernel_rfl;kernel_rfl;exact rfl)
  | (apply TO.bin;(iterate 4 exact rfl))
  | (apply TO.zbb zaa;(iterate 6 exact rfl);omega;omega)
  | (apply TO.zaB zaa;(iterate 5 exact rfl);omega)
  | (apply TO.zaE zaa;(iterate 5 exact rfl);omega)
  | (apply TO.not;exact rfl;exact rfl)
  | (apply TO.zan;exact rfl;exact rfl)
  | (apply TO.zaH zaa;(iterate 4 exact rfl);exact leB)
  | (apply TO.zak zaa;(iterate 5 exact rfl);exact leB)
  | (apply TO.za9 zaa;(iterate 4 exact rfl))
  | (apply TO.za6 zaa;(iterate 7 exact rfl))
  | (apply TO.build zaa;(iterate 6 exact rfl))
  | refine zqp ?_
  | refine zqo ?_
  | refine zqe ?_
  | refine zqk ?_
  | refine zqb ?_
  | (apply TO.eqb;(iterate 3 exact rfl);kernel_rfl)
  | (apply TO.neb;(iterate 3 exact rfl);kernel_rfl)
  | (apply TO.zay (j:=0) zaa;(iterate 10 exact rfl))
  | (apply TO.makeFunc;exact rfl;exact rfl)
  | (apply TO.zah zaa;(iterate 5 exact rfl);decide;exact rfl)
  | (apply TO.zar zaa;(iterate 5 exact rfl))
  | (apply TO.zaq zaa;(iterate 4 exact rfl))
  | (apply TO.ne_nil_ptr zaa;(iterate 5 exact rfl))
  | (apply TO.ne_nil_nil zaa;(iterate 4 exact rfl))
  | refine zqj ?_
  | refine zql ?_
  | (apply TO.ssl_hi zaa;(iterate 8 exact rfl);omega)
 repeat' (first|(apply TO.assign;exact rfl;exact rfl)|refine TO.nil ?_|refine Then.normal ?_|refine TR.seq ?_|refine TR.region ?_|(apply TO.zqr (t:=81) zaa;(iterate 3 exact rfl)))
 apply TO.zkK 5 0 1
 ·exact rfl
 ·exact rfl
 ·exact rfl
 repeat' (first
  | (apply TO.move;exact rfl;exact rfl)
  | (apply TO.assign;exact rfl;exact rfl)
  | (apply TO.want;exact rfl)
  | refine zqn ?_
  | refine zqc ?_
  | (apply TO.eqs;(iterate 3 exact rfl))
  | (apply TO.nes;(iterate 3 exact rfl))
  | (apply TO.cmp;(iterate 4 exact rfl))
  | (intro hc;exact absurd hc (by decide))
  | (intro hc;exfalso;simp only[decide_eq_true_eq,decide_eq_false_iff_not,beq_iff_eq,beq_eq_false_iff_ne,bne_iff_ne,bne_eq_false_iff_eq,ne_eq,qam,not_true_eq_false]at hc;done)
  | (intro hc;exfalso;(first|simp only[decide_eq_true_eq,decide_eq_false_iff_not,beq_iff_eq,beq_eq_false_iff_ne,bne_iff_ne,bne_eq_false_iff_eq,ne_eq,qam,not_true_eq_false]at hc|skip);first|omega|(simp only[qaf,qac]at *;omega))
  | intro hc
  | (apply TO.pick;(iterate 3 exact rfl))
  | (apply TO.pass;exact rfl;exact rfl)
  | (apply TO.zbP;exact rfl)
  | (apply TO.load zaa;(iterate 5 exact rfl))
  | (apply TO.zaD zaa;(iterate 6 exact rfl))
  | (apply TO.fieldAddr zaa;(iterate 5 exact rfl);decide;exact rfl)
  | (apply TO.zaj zaa;(iterate 5 exact rfl);decide;exact rfl)
  | (apply TO.nilCheck;(iterate 3 exact rfl))
  | (apply TO.zaw zaa;(iterate 5 exact rfl);assumption)
  | (apply TO.zau zaa;(iterate 5 exact rfl);decide;exact rfl)
  | (apply TO.zaT zaa;(iterate 4 exact rfl))
  | (apply TO.zba zaa;(iterate 7 exact rfl))
  | refine zqg ?_
  | (apply TO.extract;(iterate 3 exact rfl))
  | refine TO.nil ?_
  | refine TR.seq ?_
  | refine TR.region ?_
  | (apply TR.zbO;exact rfl)
  | (apply TR.zbN;exact rfl)
  | refine Then.normal ?_
  | refine TR.block ?_
  | refine TR.skip ?_
  | (apply TR.zaU hmix;kernel_rfl;exact rfl)
  | refine TR.exit ?_
  | refine TR.ret ?_
  | refine Then.exit ?_
  | refine Then.ret ?_
  | refine zac.exit ?_
  | refine zac.ret ?_
  | refine zab.normal ?_
  | refine zab.ret ?_
  | (apply zab.same;exact rfl)
  | (apply zab.other;exact rfl)
  | (apply TO.zaI;(iterate 3 exact rfl);omega;omega)
  | (apply TO.mul64;(iterate 3 exact rfl);omega;omega)
  | (apply TO.convert_u8;exact rfl;kernel_rfl;kernel_rfl;exact rfl)
  | (apply TO.bin;(iterate 4 exact rfl))
  | (apply TO.zbb zaa;(iterate 6 exact rfl);omega;omega)
  | (apply TO.zaB zaa;(iterate 5 exact rfl);omega)
  | (apply TO.zaE zaa;(iterate 5 exact rfl);omega)
  | (apply TO.not;exact rfl;exact rfl)
  | (apply TO.zan;exact rfl;exact rfl)
  | (apply TO.zaH zaa;(iterate 4 exact rfl);exact leB)
  | (apply TO.zak zaa;(iterate 5 exact rfl);exact leB)
  | (apply TO.za9 zaa;(iterate 4 exact rfl))
  | (apply TO.za6 zaa;(iterate 7 exact rfl))
  | (apply TO.build zaa;(iterate 6 exact rfl))
  | refine zqp ?_
  | refine zqo ?_
  | refine zqe ?_
  | refine zqk ?_
  | refine zqb ?_
  | (apply TO.eqb;(iterate 3 exact rfl);kernel_rfl)
  | (apply TO.neb;(iterate 3 exact rfl);kernel_rfl)
  | (apply TO.zay (j:=0) zaa;(iterate 10 exact rfl))
  | (apply TO.makeFunc;exact rfl;exact rfl)
  | (apply TO.zah zaa;(iterate 5 exact rfl);decide;exact rfl)
  | (apply TO.zar zaa;(iterate 5 exact rfl))
  | (apply TO.zaq zaa;(iterate 4 exact rfl))
  | (apply TO.ne_nil_ptr zaa;(iterate 5 exact rfl))
  | (apply TO.ne_nil_nil zaa;(iterate 4 exact rfl))
  | refine zqj ?_
  | refine zql ?_
  | (apply TO.ssl_hi zaa;(iterate 8 exact rfl);omega))
 refine TR.zbd (ι:=Nat×Str) (fun x=>x.1≤l.length/\za8 x.2 (Nat.beq x.1 0) (l.drop x.1)=join l/\(x.1=0->x.2=[])) (fun x=>l.length-x.1) (fun x=>[(3,.tref bldT 2 0 0),(6,.t (.sl 3 (l.map tokT))),(7,.i l.length),(8,.i x.1)]) (fun x=>bldH (!(Nat.beq x.1 0)) x.2) (0,[]) ⟨qaV _,rfl,fun _=>rfl⟩ ⟨rfl,rfl,by rw[<-hml];rfl,rfl,trivial⟩ rfl ?_
 rintro⟨k,acc⟩ ⟨hk,ha,h0⟩
 simp only at hk ha h0⊢
 by_cases hlt:k<l.length
 ·have hy:(l.map tokT)[k]?=some (tokT l[k]):=by rw[qar,qab hlt];rfl
  rw[qaF hlt,za8]at ha
  generalize l[k]=t at hy ha
  obtain⟨ka,xa,pa⟩:=t
  have hle:=zp9 (l.drop (k+1)) ((if Nat.beq k 0=true then acc else acc++[32])++zaJ (ka,xa,pa)) false
  rw[ha]at hle
  simp only[zaJ]at ha hle
  cases hf:Nat.beq k 0 with
  | true=>
    have hk0:k=0:=qaI hf
    rw[h0 hk0]at ha hle⊢
    simp only[hf,if_true]at ha hle
    have hx:xa.length≤1000000000/\((ka == 5)=true->xa.length+2≤1000000000):=by
     exact zwds
    have hW5:(ka == 5)=true->_:=fun h=>zbU false [] ([39]++xa++[39]) (by have:=hx.2 h;simp only[qal,qac,qaf];omega)
    have hW0:=zbU false [] xa (by simp only[qal,qac,qaf];omega)
    repeat' (first
     | (apply TO.move;exact rfl;exact rfl)
     | (apply TO.assign;exact rfl;exact rfl)
     | (apply TO.want;exact rfl)
     | refine zqn ?_
     | refine zqc ?_
     | (apply TO.eqs;(iterate 3 exact rfl))
     | (apply TO.nes;(iterate 3 exact rfl))
     | (apply TO.cmp;(iterate 4 exact rfl))
     | (intro hc;exact absurd hc (by decide))
     | (intro hc;exfalso;simp only[decide_eq_true_eq,decide_eq_false_iff_not,beq_iff_eq,beq_eq_false_iff_ne,bne_iff_ne,bne_eq_false_iff_eq,ne_eq,qam,not_true_eq_false]at hc;done)
     | (intro hc;exfalso;(first|simp only[decide_eq_true_eq,decide_eq_false_iff_not,beq_iff_eq,beq_eq_false_iff_ne,bne_iff_ne,bne_eq_false_iff_eq,ne_eq,qam,not_true_eq_false]at hc|skip);first|omega|(simp only[qaf,qac]at *;omega))
     | intro hc
     | (apply TO.pick;(iterate 3 exact rfl))
     | (apply TO.pass;exact rfl;exact rfl)
     | (apply TO.zbP;exact rfl)
     | (apply TO.load zaa;(iterate 5 exact rfl))
     | (apply TO.zaD zaa;(iterate 6 exact rfl))
     | (apply TO.fieldAddr zaa;(iterate 5 exact rfl);decide;exact rfl)
     | (apply TO.zaj zaa;(iterate 5 exact rfl);decide;exact rfl)
     | (apply TO.nilCheck;(iterate 3 exact rfl))
     | (apply TO.zaw zaa;(iterate 5 exact rfl);assumption)
     | (apply TO.zau zaa;(iterate 5 exact rfl);decide;exact rfl)
     | (apply TO.zaT zaa;(iterate 4 exact rfl))
     | (apply TO.zba zaa;(iterate 7 exact rfl))
     | refine zqg ?_
     | (apply TO.extract;(iterate 3 exact rfl))
     | (apply TO.zcC [0,1] (v':=.tup [.i _,.t (.v .nilIface)]) (H':=bld1 ([]++([39]++xa++[39]))++[znu ka xa pa]) (hW5 hc);(iterate 3 exact rfl);exact⟨Le.refl _,Le.refl _,trivial⟩;exact rfl;exact Hands.two (by decide) rfl rfl rfl rfl;exact rfl;exact rfl)
     | (apply TO.zcC [0,1] (v':=.tup [.i _,.t (.v .nilIface)]) (H':=bld1 ([]++(xa))++[znu ka xa pa]) hW0;(iterate 3 exact rfl);exact⟨Le.refl _,Le.refl _,trivial⟩;exact rfl;exact Hands.two (by decide) rfl rfl rfl rfl;exact rfl;exact rfl)
     | refine TO.nil ?_
     | refine TR.seq ?_
     | refine TR.region ?_
     | (apply TR.zbO;exact rfl)
     | (apply TR.zbN;exact rfl)
     | refine Then.normal ?_
     | refine TR.block ?_
     | refine TR.skip ?_
     | (apply TR.zaU hmix;kernel_rfl;exact rfl)
     | refine TR.exit ?_
     | refine TR.ret ?_
     | refine Then.exit ?_
     | refine Then.ret ?_
     | refine zac.exit ?_
     | refine zac.ret ?_
     | refine zab.normal ?_
     | refine zab.ret ?_
     | (apply zab.same;exact rfl)
     | (apply zab.other;exact rfl)
     | (apply TO.zaI;(iterate 3 exact rfl);omega;omega)
     | (apply TO.mul64;(iterate 3 exact rfl);omega;omega)
     | (apply TO.convert_u8;exact rfl;kernel_rfl;kernel_rfl;exact rfl)
     | (apply TO.bin;(iterate 4 exact rfl))
     | (apply TO.zbb zaa;(iterate 6 exact rfl);omega;omega)
     | (apply TO.zaB zaa;(iterate 5 exact rfl);omega)
     | (apply TO.zaE zaa;(iterate 5 exact rfl);omega)
     | (apply TO.not;exact rfl;exact rfl)
     | (apply TO.zan;exact rfl;exact rfl)
     | (apply TO.zaH zaa;(iterate 4 exact rfl);exact leB)
     | (apply TO.zak zaa;(iterate 5 exact rfl);exact leB)
     | (apply TO.za9 zaa;(iterate 4 exact rfl))
     | (apply TO.za6 zaa;(iterate 7 exact rfl))
     | (apply TO.build zaa;(iterate 6 exact rfl))
     | refine zqp ?_
     | refine zqo ?_
     | refine zqe ?_
     | refine zqk ?_
     | refine zqb ?_
     | (apply TO.eqb;(iterate 3 exact rfl);kernel_rfl)
     | (apply TO.neb;(iterate 3 exact rfl);kernel_rfl)
     | (apply TO.zay (j:=0) zaa;(iterate 10 exact rfl))
     | (apply TO.makeFunc;exact rfl;exact rfl)
     | (apply TO.zah zaa;(iterate 5 exact rfl);decide;exact rfl)
     | (apply TO.zar zaa;(iterate 5 exact rfl))
     | (apply TO.zaq zaa;(iterate 4 exact rfl))
     | (apply TO.ne_nil_ptr zaa;(iterate 5 exact rfl))
     | (apply TO.ne_nil_nil zaa;(iterate 4 exact rfl))
     | refine zqj ?_
     | refine zql ?_
     | (apply TO.ssl_hi zaa;(iterate 8 exact rfl);omega))
    ·exact zwbw
    ·exact zwbo
  | false=>
    have hk0:0<k:=Nat.pos_of_ne_zero fun e=>by subst e;cases hf
    simp only[hf]at ha hle
    rw[if_neg (by decide)]at ha hle
    have hx:acc.length+1+xa.length≤1000000000/\((ka == 5)=true->acc.length+1+xa.length+2≤1000000000):=by
     exact zwds
    have hB:=zgO true acc 32 (by omega)
    have hW5:(ka == 5)=true->_:=fun h=>zbU true (acc++[32]) ([39]++xa++[39]) (by have:=hx.2 h;simp only[qal,qac,qaf];omega)
    have hW0:=zbU true (acc++[32]) xa (by simp only[qal,qac,qaf];omega)
    repeat' (first
     | (apply TO.move;exact rfl;exact rfl)
     | (apply TO.assign;exact rfl;exact rfl)
     | (apply TO.want;exact rfl)
     | refine zqn ?_
     | refine zqc ?_
     | (apply TO.eqs;(iterate 3 exact rfl))
     | (apply TO.nes;(iterate 3 exact rfl))
     | (apply TO.cmp;(iterate 4 exact rfl))
     | (intro hc;exact absurd hc (by decide))
     | (intro hc;exfalso;simp only[decide_eq_true_eq,decide_eq_false_iff_not,beq_iff_eq,beq_eq_false_iff_ne,bne_iff_ne,bne_eq_false_iff_eq,ne_eq,qam,not_true_eq_false]at hc;done)
     | (intro hc;exfalso;(first|simp only[decide_eq_true_eq,decide_eq_false_iff_not,beq_iff_eq,beq_eq_false_iff_ne,bne_iff_ne,bne_eq_false_iff_eq,ne_eq,qam,not_true_eq_false]at hc|skip);first|omega|(simp only[qaf,qac]at *;omega))
     | intro hc
     | (apply TO.pick;(iterate 3 exact rfl))
     | (apply TO.pass;exact rfl;exact rfl)
     | (apply TO.zbP;exact rfl)
     | (apply TO.load zaa;(iterate 5 exact rfl))
     | (apply TO.zaD zaa;(iterate 6 exact rfl))
     | (apply TO.fieldAddr zaa;(iterate 5 exact rfl);decide;exact rfl)
     | (apply TO.zaj zaa;(iterate 5 exact rfl);decide;exact rfl)
     | (apply TO.nilCheck;(iterate 3 exact rfl))
     | (apply TO.zaw zaa;(iterate 5 exact rfl);assumption)
     | (apply TO.zau zaa;(iterate 5 exact rfl);decide;exact rfl)
     | (apply TO.zaT zaa;(iterate 4 exact rfl))
     | (apply TO.zba zaa;(iterate 7 exact rfl))
     | refine zqg ?_
     | (apply TO.extract;(iterate 3 exact rfl))
     | (apply TO.zcC [0,1] (v':=.tup [.i _,.t (.v .nilIface)]) (H':=bld1 ((acc++[32])++([39]++xa++[39]))++[znu ka xa pa]) (hW5 hc);(iterate 3 exact rfl);exact⟨Le.refl _,Le.refl _,trivial⟩;exact rfl;exact Hands.two (by decide) rfl rfl rfl rfl;exact rfl;exact rfl)
     | (apply TO.zcC [0,1] (v':=.tup [.i _,.t (.v .nilIface)]) (H':=bld1 ((acc++[32])++(xa))++[znu ka xa pa]) hW0;(iterate 3 exact rfl);exact⟨Le.refl _,Le.refl _,trivial⟩;exact rfl;exact Hands.two (by decide) rfl rfl rfl rfl;exact rfl;exact rfl)
     | (apply TO.zcC [0,1] (v':=.t (.v .nilIface)) (H':=bld1 (acc++[32])++[znu ka xa pa]) hB;(iterate 3 exact rfl);exact⟨Le.refl _,Le.refl _,trivial⟩;exact rfl;exact Hands.two (by decide) rfl rfl rfl rfl;exact rfl;exact rfl)
     | refine TO.nil ?_
     | refine TR.seq ?_
     | refine TR.region ?_
     | (apply TR.zbO;exact rfl)
     | (apply TR.zbN;exact rfl)
     | refine Then.normal ?_
     | refine TR.block ?_
     | refine TR.skip ?_
     | (apply TR.zaU hmix;kernel_rfl;exact rfl)
     | refine TR.exit ?_
     | refine TR.ret ?_
     | refine Then.exit ?_
     | refine Then.ret ?_
     | refine zac.exit ?_
     | refine zac.ret ?_
     | refine zab.normal ?_
     | refine zab.ret ?_
     | (apply zab.same;exact rfl)
     | (apply zab.other;exact rfl)
     | (apply TO.zaI;(iterate 3 exact rfl);omega;omega)
     | (apply TO.mul64;(iterate 3 exact rfl);omega;omega)
     | (apply TO.convert_u8;exact rfl;kernel_rfl;kernel_rfl;exact rfl)
     | (apply TO.bin;(iterate 4 exact rfl))
     | (apply TO.zbb zaa;(iterate 6 exact rfl);omega;omega)
     | (apply TO.zaB zaa;(iterate 5 exact rfl);omega)
     | (apply TO.zaE zaa;(iterate 5 exact rfl);omega)
     | (apply TO.not;exact rfl;exact rfl)
     | (apply TO.zan;exact rfl;exact rfl)
     | (apply TO.zaH zaa;(iterate 4 exact rfl);exact leB)
     | (apply TO.zak zaa;(iterate 5 exact rfl);exact leB)
     | (apply TO.za9 zaa;(iterate 4 exact rfl))
     | (apply TO.za6 zaa;(iterate 7 exact rfl))
     | (apply TO.build zaa;(iterate 6 exact rfl))
     | refine zqp ?_
     | refine zqo ?_
     | refine zqe ?_
     | refine zqk ?_
     | refine zqb ?_
     | (apply TO.eqb;(iterate 3 exact rfl);kernel_rfl)
     | (apply TO.neb;(iterate 3 exact rfl);kernel_rfl)
     | (apply TO.zay (j:=0) zaa;(iterate 10 exact rfl))
     | (apply TO.makeFunc;exact rfl;exact rfl)
     | (apply TO.zah zaa;(iterate 5 exact rfl);decide;exact rfl)
     | (apply TO.zar zaa;(iterate 5 exact rfl))
     | (apply TO.zaq zaa;(iterate 4 exact rfl))
     | (apply TO.ne_nil_ptr zaa;(iterate 5 exact rfl))
     | (apply TO.ne_nil_nil zaa;(iterate 4 exact rfl))
     | refine zqj ?_
     | refine zql ?_
     | (apply TO.ssl_hi zaa;(iterate 8 exact rfl);omega))
    ·exact zwbw
    ·exact zwbo
 ·rw[qbp (by omega),za8]at ha
  have hle:acc.length≤1000000000:=by rw[ha];exact hj
  have hS:=zdu 0 [.tref bldT 2 0 0,.rw 1 acc.length] acc hle rfl
  repeat' (first
   | (apply TO.move;exact rfl;exact rfl)
   | (apply TO.assign;exact rfl;exact rfl)
   | (apply TO.want;exact rfl)
   | refine zqn ?_
   | refine zqc ?_
   | (apply TO.eqs;(iterate 3 exact rfl))
   | (apply TO.nes;(iterate 3 exact rfl))
   | (apply TO.cmp;(iterate 4 exact rfl))
   | (intro hc;exact absurd hc (by decide))
   | (intro hc;exfalso;simp only[decide_eq_true_eq,decide_eq_false_iff_not,beq_iff_eq,beq_eq_false_iff_ne,bne_iff_ne,bne_eq_false_iff_eq,ne_eq,qam,not_true_eq_false]at hc;done)
   | (intro hc;exfalso;(first|simp only[decide_eq_true_eq,decide_eq_false_iff_not,beq_iff_eq,beq_eq_false_iff_ne,bne_iff_ne,bne_eq_false_iff_eq,ne_eq,qam,not_true_eq_false]at hc|skip);first|omega|(simp only[qaf,qac]at *;omega))
   | intro hc
   | (apply TO.pick;(iterate 3 exact rfl))
   | (apply TO.pass;exact rfl;exact rfl)
   | (apply TO.zbP;exact rfl)
   | (apply TO.load zaa;(iterate 5 exact rfl))
   | (apply TO.zaD zaa;(iterate 6 exact rfl))
   | (apply TO.fieldAddr zaa;(iterate 5 exact rfl);decide;exact rfl)
   | (apply TO.zaj zaa;(iterate 5 exact rfl);decide;exact rfl)
   | (apply TO.nilCheck;(iterate 3 exact rfl))
   | (apply TO.zaw zaa;(iterate 5 exact rfl);assumption)
   | (apply TO.zau zaa;(iterate 5 exact rfl);decide;exact rfl)
   | (apply TO.zaT zaa;(iterate 4 exact rfl))
   | (apply TO.zba zaa;(iterate 7 exact rfl))
   | refine zqg ?_
   | (apply TO.extract;(iterate 3 exact rfl))
   | refine TO.nil ?_
   | refine TR.seq ?_
   | refine TR.region ?_
   | (apply TR.zbO;exact rfl)
   | (apply TR.zbN;exact rfl)
   | refine Then.normal ?_
   | refine TR.block ?_
   | refine TR.skip ?_
   | (apply TR.zaU hmix;kernel_rfl;exact rfl)
   | refine TR.exit ?_
   | refine TR.ret ?_
   | refine Then.exit ?_
   | refine Then.ret ?_
   | refine zac.exit ?_
   | refine zac.ret ?_
   | refine zab.normal ?_
   | refine zab.ret ?_
   | (apply zab.same;exact rfl)
   | (apply zab.other;exact rfl)
   | (apply TO.zaI;(iterate 3 exact rfl);omega;omega)
   | (apply TO.mul64;(iterate 3 exact rfl);omega;omega)
   | (apply TO.convert_u8;exact rfl;kernel_rfl;kernel_rfl;exact rfl)
   | (apply TO.bin;(iterate 4 exact rfl))
   | (apply TO.zbb zaa;(iterate 6 exact rfl);omega;omega)
   | (apply TO.zaB zaa;(iterate 5 exact rfl);omega)
   | (apply TO.zaE zaa;(iterate 5 exact rfl);omega)
   | (apply TO.not;exact rfl;exact rfl)
   | (apply TO.zan;exact rfl;exact rfl)
   | (apply TO.zaH zaa;(iterate 4 exact rfl);exact leB)
   | (apply TO.zak zaa;(iterate 5 exact rfl);exact leB)
   | (apply TO.za9 zaa;(iterate 4 exact rfl))
   | (apply TO.za6 zaa;(iterate 7 exact rfl))
   | (apply TO.build zaa;(iterate 6 exact rfl))
   | refine zqp ?_
   | refine zqo ?_
   | refine zqe ?_
   | refine zqk ?_
   | refine zqb ?_
   | (apply TO.eqb;(iterate 3 exact rfl);kernel_rfl)
   | (apply TO.neb;(iterate 3 exact rfl);kernel_rfl)
   | (apply TO.zay (j:=0) zaa;(iterate 10 exact rfl))
   | (apply TO.makeFunc;exact rfl;exact rfl)
   | (apply TO.zah zaa;(iterate 5 exact rfl);decide;exact rfl)
   | (apply TO.zar zaa;(iterate 5 exact rfl))
   | (apply TO.zaq zaa;(iterate 4 exact rfl))
   | (apply TO.ne_nil_ptr zaa;(iterate 5 exact rfl))
   | (apply TO.ne_nil_nil zaa;(iterate 4 exact rfl))
   | refine zqj ?_
   | refine zql ?_
   | (apply TO.ssl_hi zaa;(iterate 8 exact rfl);omega))
  have hb:bldH (!(Nat.beq k 0)) acc=(if Nat.beq k 0 then bld0 acc else bld1 acc):=by cases Nat.beq k 0 <;> rfl
  rw[hb]
  split
  ·have h00:acc=[]:=h0 (qaI ‹_›)
   have hS:=zdu 0 [.t (.v (.pointer none)),.rw 1 acc.length] acc hle rfl
   exact zwa
  ·have hS:=zdu 0 [.tref bldT 2 0 0,.rw 1 acc.length] acc hle rfl
   exact zwa
end Go.Proofs.YtpfnfpaahefdaaaGreat
