import Derived.Test.YtcbhlhmebbkgnaaGreatPk14
import Derived.Test.YtcbhlhmebbkgnaaGreatPk19
import Derived.Test.YtcbhlhmebbkgnaaGreatPk25
import Derived.Test.YtcbhlhmebbkgnaaGreatPk32
set_option linter.unusedSimpArgs false
set_option linter.unusedVariables false
namespace Go.Proofs.YtcbhlhmebbkgnaaGreat
open Go Go.TL
attribute [local irreducible] TR TO Then InBlock RetK Sound LoopK Kf GG ThenL
theorem rg{n:Nat}{env0 envF:Env}{H0:Heap}{K:TK}{id':Nat}{l:List Oper}(t:List SV)
  (hp:Prem Tryz.prog n l.toArray (fullE l.toArray t env0) l (t.map fun v=>(v,false)) [H0])(hK:K .normal envF H0)
  (hB:(Nat.beq t.length l.length && mixB l.toArray (t.map fun _=>false))=true:=by dsimp only[List.map,List.length];decide +kernel)(hE:forceL (fullE l.toArray t env0)=some envF:=by exact rfl):
  TR Tryz.prog n (.region id' l.toArray true) env0 H0 K:=by
 simp only[Bool.and_eq_true]at hB
 have e1:(t.map fun v=>(v,false)).map (·.1)=t:=by rw[List.map_map];exact List.map_id t
 have e2:(t.map fun v=>(v,false)).map (·.2)=t.map fun _=>false:=by rw[List.map_map];rfl
 have e3:(t.map fun _=>false).filter id=[]:=by
  rw[List.filter_map];simp
 exact TR.regionM (t.map fun v=>(v,false)) [H0] hmix (by rw[e2];exact hB.2) rfl (by rw[e1];exact hp) (by rw[e2,e3];rfl) (by rw[e1];exact hE) hK
abbrev onsT (l:List OnC):T:=.sl 3 (l.map onT)
def SmallK(l:List OnC):Prop:=l.length≤100000000/\∀o∈l,o.name.length≤1000000000
theorem SmallK.nil:SmallK []:=⟨by simp,by simp⟩
theorem SmallK.take{l:List OnC}(h:SmallK l)(k:Nat):SmallK (l.take k):=⟨by have:=h.1;simp;omega,fun o ho=>h.2 o (List.mem_of_mem_take ho)⟩
theorem equalOn_sound(a b:List OnC)(ha:SmallK a)(hb:SmallK b):Pure Tryz.prog 155 [.t (onsT a),.t (onsT b)] (.b (decide (a=b))):=by
 have hma:(a.map onT).length=a.length:=List.length_map _
 have hmb:(b.map onT).length=b.length:=List.length_map _
 have hla:=ha.1
 by_cases hl:a.length=b.length
 ·refine Sound.of tabOk Tryz.func155 (by kernel_rfl) rfl rfl ?_
  repeat' (first|refine wk ?_|exact wkc|intro hc|refine wk2 ?_ ?_|fail|fail)
  all_goals try(exfalso;omega)
  refine TR.loopN a.length (fun k=>a.take k=b.take k) (fun k=>[(0,.t (onsT a)),(1,.t (onsT b)),(12,.i (a.map onT).length),(13,.i k)]) (fun _=>[]) rfl (fun k hlt hk=>?_) (fun hk=>?_)
  ·have hx:=at_map onT hlt
   have hy:=at_map onT (l:=b) (show k<b.length by omega)
   have h1:=take_at hlt
   have h2:=take_at (l:=b) (show k<b.length by omega)
   have hu:=ha.2 _ (List.getElem_mem hlt)
   have hv:=hb.2 _ (List.getElem_mem (show k<b.length by omega))
   have hne:a[k]≠b[k]'(by omega)->a≠b:=fun h e=>h (by subst e;rfl)
   generalize a[k]=u at*
   generalize b[k]'(by omega)=v at*
   repeat' (first|refine wk ?_|exact wkc|intro hc|refine wk2 ?_ ?_|(apply TO.neOn;exact rfl;exact rfl;exact rfl;assumption;assumption)|fail)
   ·rw[decide_eq_false (hne (by simpa using hc))];exact wkr
   ·refine LoopK.nextN hlt ?_
    rw[h1,h2,hk,show u=v by simpa using hc]
  ·rw[List.take_length,hl,List.take_length]at hk
   rw[decide_eq_true hk]
   repeat' (first|refine wk ?_|exact wkc|intro hc|refine wk2 ?_ ?_|fail|fail)
   exact wkr
 ·rw[decide_eq_false (fun e=>hl (by rw[e]))]
  refine Sound.of tabOk Tryz.func155 (by kernel_rfl) rfl rfl ?_
  repeat' (first|refine wk ?_|exact wkc|intro hc|refine wk2 ?_ ?_|fail|fail)
  all_goals first
   | exact wkr
   | (exfalso;omega)
theorem sameK_sound(a b:List OnC)(ha:SmallK a)(hb:SmallK b):Pure Tryz.prog 103 [.t (onsT a),.t (onsT b)] (.b (decide (a=b))):=by
 have hs:=equalOn_sound a b ha hb
 generalize decide (a=b)=z at*
 refine Sound.of tabOk Tryz.func103 (by kernel_rfl) rfl rfl ?_
 repeat' (first|refine wk ?_|exact wkc|intro hc|refine wk2 ?_ ?_|refine wv hs ?_|fail)
 exact wkr
def noD:Decl:=⟨[],⟨0,by decide⟩,[]⟩
def findZ(vars:List Decl)(nm:Str):Decl:=(findD vars nm).getD noD
theorem findZ_clock(vars:List Decl)(nm:Str):(findZ vars nm).clock=dclk vars nm:=by
 unfold findZ dclk
 cases findD vars nm <;> rfl
theorem findD_idx(nm:Str):∀(l:List Decl),(idxI (fun d=>d.name == nm) l= -1/\findD l nm=none)\/∃k:Nat,∃h:k<l.length,idxI (fun d=>d.name == nm) l=k/\findD l nm=some l[k]
 | []=>.inl ⟨rfl,rfl⟩
 | d::l=>by
   unfold idxI findD
   by_cases hd:d.name=nm
   ·rw[if_pos hd,if_pos (by simpa using hd)]
    exact .inr ⟨0,by simp,rfl,rfl⟩
   ·rw[if_neg hd,if_neg (by simpa using hd)]
    rcases findD_idx nm l with ⟨h1,h2⟩|⟨k,hk,h1,h2⟩
    ·rw[h1,h2];exact .inl ⟨rfl,rfl⟩
    ·rw[h1,h2,if_neg (by omega)]
     exact .inr ⟨k+1,by simpa using hk,by omega,rfl⟩
abbrev chkC (vars:List Decl):List T:=[declsT vars]
theorem findNamed_sound(d:Decl)(nm:Str):Pure Tryz.prog 154 [.t (declT d),.cp [.s nm] 0] (.b (d.name == nm)):=by
 have hd:declT d= .ag [.s d.name,T.n d.ty,.sl 3 (d.clock.map onT)]:=rfl
 rw[hd]
 refine Sound.of tabOk Tryz.func154 (by kernel_rfl) rfl rfl ?_
 repeat' (first|refine wkt ?_|refine wk ?_|exact wkc|intro hc|refine wk2 ?_ ?_|fail)
 all_goals try(refine RetK.pure rfl ?_ rfl;exact Le.of_eq (by simp_all [pack,declT] <;> omega))
theorem findK_sound(vars:List Decl)(hl:vars.length≤1000000000)(nm:Str):Pure Tryz.prog 102 [.t (.ag (chkC vars)),.s nm] (.tup [.t (declT (findZ vars nm)),.b (findD vars nm).isSome]):=by
 have hs:=idxDecl_sound 154 [.cp [.s nm] 0] rfl (fun d=>d.name == nm) vars hl (fun d=>findNamed_sound d nm)
 have hml:(vars.map declT).length=vars.length:=List.length_map _
 unfold findZ
 rcases findD_idx nm vars with ⟨h1,h2⟩|⟨k,hk,h1,h2⟩
 ·rw[h1]at hs
  rw[h2]
  refine Sound.of tabOk Tryz.func102 (by kernel_rfl) rfl rfl ?_
  repeat' (first|refine wkt ?_|refine wka ?_|refine wk ?_|exact wkc|intro hc|refine wk2 ?_ ?_|(apply TO.callV hs;exact rfl;exact rfl;exact rfl;exact Les.refl _;exact rfl;exact rfl)|fail)
  exact wkr
 ·rw[h1]at hs
  rw[h2]
  have hx:=at_decl hk
  generalize vars[k]=d at*
  unfold declC at hx
  refine Sound.of tabOk Tryz.func102 (by kernel_rfl) rfl rfl ?_
  repeat' (first|refine wkt ?_|refine wka ?_|refine wk ?_|exact wkc|intro hc|refine wk2 ?_ ?_|(apply TO.callV hs;exact rfl;exact rfl;exact rfl;exact Les.refl _;exact rfl;exact rfl)|fail)
  exact wkr
theorem on_sound(vars:List Decl)(hl:vars.length≤1000000000)(hk:∀d∈vars,SmallK d.clock)(nm:Str)(ck:List OnC)(hck:SmallK ck):Pure Tryz.prog 104 [.t (.ag (chkC vars)),.s nm,.t (onsT ck)] (.b (onX vars nm ck)):=by
 have hf:=findK_sound vars hl nm
 unfold findZ at hf
 unfold onX
 cases hd:findD vars nm with
 | none=>
   rw[hd]at hf
   refine Sound.of tabOk Tryz.func104 (by kernel_rfl) rfl rfl ?_
   repeat' (first|refine wkt ?_|refine wka ?_|refine wk ?_|exact wkc|intro hc|refine wk2 ?_ ?_|refine wv hf ?_|fail)
   exact wkr
 | some d=>
   rw[hd]at hf
   have hs:=sameK_sound d.clock ck (hk d (findD_mem hd).1) hck
   simp only[Option.getD_some,Option.isSome_some]at hf⊢
   have hdT:declT d= .ag [.s d.name,T.n d.ty,onsT d.clock]:=rfl
   rw[hdT]at hf
   generalize decide (d.clock=ck)=z at*
   refine Sound.of tabOk Tryz.func104 (by kernel_rfl) rfl rfl ?_
   repeat' (first|refine wkt ?_|refine wka ?_|refine wk ?_|exact wkc|intro hc|refine wk2 ?_ ?_|refine wv hf ?_|refine wv hs ?_|fail)
   exact wkr
def onCs(l:List OnC):List T:=((l.map onT).map T.cells).flatten
theorem onCs_len(l:List OnC):(onCs l).length=l.length*3:=by
 have:=(flat_cells (sz:=3) (l.map onT) (fun e he=>by obtain⟨d,_,rfl⟩:=List.mem_map.1 he;rfl)).1
 rw[List.length_map]at this
 exact this
theorem onCs_append(a b:List OnC):onCs (a++b)=onCs a++onCs b:=by simp[onCs]
def zOn:List T:=[.s [],.i 0,.i 0]
theorem longer_sound(ck:List OnC)(hck:ck.length≤1000000000)(o:OnC):Pure Tryz.prog 108 [.t (onsT ck),.t (onT o)] (.t (onsT (ck++[o]))):=by
 have m1:(ck.map onT).length=ck.length:=List.length_map _
 have e1:splice (zerosOf zOn ((ck.map onT).length+1)) 0 ((((ck.map onT).map T.cells).flatten).map .t)=mixC (onCs ck) zOn 1:=by
  have e:=mixC_splice [] (onCs ck) zOn (ck.length+1) ck.length 0 (by omega) rfl (onCs_len _)
  rw[m1,show zerosOf zOn (ck.length+1)=mixC [] zOn (ck.length+1) by simp[mixC]]
  refine e.trans ?_
  rw[List.nil_append,show ck.length+1-ck.length=1 by omega]
 have e2:splice (mixC (onCs ck) zOn 1) (0+(ck.map onT).length*3) (((([.ag [.s o.name,T.n o.t,T.n o.tag]]).map T.cells).flatten).map .t)=(onCs (ck++[o])).map .t:=by
  have e:=mixC_splice (onCs ck) (onCs [o]) zOn 1 1 (0+(ck.map onT).length*3) (Nat.le_refl _) (by rw[onCs_len,m1];omega) (onCs_len _)
  refine e.trans ?_
  rw[Nat.sub_self,mixC_zero,onCs_append]
 have hsz:∀e∈(ck++[o]).map onT,e.cells.length=3:=fun e he=>by
  obtain⟨d,_,rfl⟩:=List.mem_map.1 he;rfl
 have m3:((ck++[o]).map onT).length=(ck.map onT).length+1:=by simp
 show Pure _ _ [.t (.sl 3 (ck.map onT)),.t (.ag [.s o.name,T.n o.t,T.n o.tag])] _
 refine Sound.of tabOk Tryz.func108 (by kernel_rfl) rfl rfl ?_
 repeat' (first|refine wkt ?_|refine wk ?_|exact wkc|intro hc|refine wk2 ?_ ?_|(apply TO.makeSliceC (b:=(ck.map onT).length) (c:=(ck.map onT).length+1) tabOk;exact rfl;exact rfl;exact rfl;exact rfl;exact rfl;exact rfl;exact rfl;exact rfl;omega;omega;exact rfl)|(apply TO.copy_ms (H':=[.cells (mixC (onCs ck) zOn 1)]) tabOk;exact rfl;exact rfl;exact rfl;exact rfl;exact rfl;exact rfl;exact rfl;exact rfl;exact rfl;exact rfl;exact Nat.le_refl _;(rw[zerosOf_len];show 0+(ck.map onT).length*3≤((ck.map onT).length+1)*3;omega);(exact congrArg (fun c=>[Blk.cells c]) e1))|fail)
 apply TO.append_ms (H':=[.cells ((onCs (ck++[o])).map .t)]) tabOk
 iterate 12 exact rfl
 ·rw[mixC_len,onCs_len,m1];show 0+(ck.length+1)*3≤ck.length*3+1*3;omega
 ·exact congrArg (fun c=>[Blk.cells c]) e2
 refine TO.freezeP 18 3 0 ((ck.map onT).length+1) (es:=(ck++[o]).map onT) rfl rfl (by rw[m3,m1,List.length_map,onCs_len];simp) (fun j c hj=>hj) m3.symm hsz rfl rfl ?_
 repeat' (first|refine wkt ?_|refine wk ?_|exact wkc|intro hc|refine wk2 ?_ ?_|fail)
 exact wkr
theorem argsG_append(f:Nat->Ex->Int):∀(a b:List Ex) (i:Nat),argsG f i (a++b)=orE (argsG f i a) (argsG f (i+a.length) b)
 | [],b,i=>by simp[argsG,orE]
 | x::a,b,i=>by
   rw[List.cons_append,argsG,argsG,argsG_append f a b,List.length_cons,show i+1+a.length=i+(a.length+1) by omega]
   unfold orE;split <;> simp_all
theorem argsG_next{f:Nat->Ex->Int}{l:List Ex}{k:Nat}(hk:k<l.length)(h:argsG f 0 (l.take k)=0)(hn:f k l[k]=0):argsG f 0 (l.take (k+1))=0:=by
 rw[List.take_succ_eq_append_getElem hk,argsG_append,h,List.length_take,Nat.min_eq_left (by omega),Nat.zero_add]
 simp[argsG,orE,hn]
theorem argsG_at{f:Nat->Ex->Int}{l:List Ex}{k:Nat}(hk:k<l.length)(h:argsG f 0 (l.take k)=0)(hn:f k l[k]≠0):argsG f 0 l=f k l[k]:=by
 conv=>lhs;rw[<-List.take_append_drop k l]
 rw[argsG_append,h,List.drop_eq_getElem_cons hk,argsG,List.length_take,Nat.min_eq_left (by omega),Nat.zero_add]
 simp[orE,hn]
theorem under1_sound(ck:List OnC)(j:Int):Pure Tryz.prog 105 [.i j,.cp [onsT ck] 0] (.t (onsT ck)):=by
 refine Sound.of tabOk Tryz.func105 (by kernel_rfl) rfl rfl ?_
 repeat' (first|refine wkt ?_|refine wk ?_|exact wkc|intro hc|refine wk2 ?_ ?_|fail)
 exact wkr
theorem under2_sound(ck:List OnC)(k:Nat)(hk:k≤ck.length)(j:Int):Pure Tryz.prog 106 [.i j,.cp [onsT ck] 0,.cp [.i k] 0] (.t (onsT (ck.take k))):=by
 have m1:(ck.map onT).length=ck.length:=List.length_map _
 rw[show onsT (ck.take k)= .sl 3 ((ck.map onT).take k) by rw[onsT,List.map_take]]
 refine Sound.of tabOk Tryz.func106 (by kernel_rfl) rfl rfl ?_
 repeat' (first|refine wkt ?_|refine wk ?_|exact wkc|intro hc|refine wk2 ?_ ?_|fail)
 exact wkr
theorem under3_sound(ck:List OnC)(hck:ck.length≤1000000000)(e:Ex)(j:Nat)(hj:j≤1000000000):Pure Tryz.prog 107 [.i j,.cp [onsT ck] 0,.cp (exC e) 0] (.t (onsT (ck++[⟨e.name,e.t,nI j⟩]))):=by
 have hs:=longer_sound ck hck ⟨e.name,e.t,nI j⟩
 rw[show onT ⟨e.name,e.t,nI j⟩= .ag [.s e.name,T.n e.t,T.i j] from by show T.ag [.s e.name,T.n e.t,T.i (nI j).1]=_;rw[nI_val (by omega)]]at hs
 unfold exC
 refine Sound.of tabOk Tryz.func107 (by kernel_rfl) rfl rfl ?_
 repeat' (first|refine wkt ?_|refine wk ?_|exact wkc|intro hc|refine wk2 ?_ ?_|refine wv hs ?_|fail)
 exact wkr
abbrev chkT (vars:List Decl):SV:=.t (.ag [declsT vars])
theorem headG_len{vars:List Decl}{e:Ex}{ck:List OnC}(h:headG vars e ck=0)(hck:SmallK ck)(hn:e.name.length≤1000000000)(j:Nat):SmallK (underX e ck j):=by
 unfold underX
 split
 ·exact⟨by have:=hck.1;simp;omega,fun o ho=>hck.2 o ((List.dropLast_sublist ck).subset ho)⟩
 ·split
  ·rename_i h8 h9
   have hlt:ck.length<4:=by
    unfold headG at h
    rw[if_neg (by omega),if_neg h8,if_pos h9]at h
    split at h
    ·split at h
     ·assumption
     ·cases h
    ·cases h
   refine⟨by simp;omega,fun o ho=>?_⟩
   simp at ho
   rcases ho with ho|rfl
   ·exact hck.2 o ho
   ·exact hn
  ·exact hck
set_option maxHeartbeats 8000000 in
theorem fits_sound (vars:List Decl) (hl:vars.length≤1000000000) (hk:∀d∈vars,SmallK d.clock):∀(m:Nat) (e:Ex),wEx e≤m->wEx e≤1000000000->(∀x∈flat e,x.name.length≤1000000000)->∀ck,SmallK ck->
  Pure Tryz.prog 69 [chkT vars,.t (.ag (exC e)),.t (onsT ck)] (.i (fitsX vars e ck)):=by
 intro m
 induction m with
 | zero=>intro e he;have:=wEx_pos e;omega
 | succ m ih0=>
   intro e he hb hn ck hck
   have hself:=hn e (flat_mem.2 (.inl rfl))
   have ih:∀a∈e.args,∀ck,SmallK ck->Pure Tryz.prog 69 [chkT vars,.t (.ag (exC a)),.t (onsT ck)] (.i (fitsX vars a ck)):=fun a ha=>ih0 a (by have:=wEx_arg ha;omega) (by have:=wEx_arg ha;omega) (fun x hx=>hn x (flat_sub ha x hx))
   clear ih0
   have hon:=on_sound vars hl hk e.name ck hck
   have hck1:=hck.1
   have hml:(e.args.map exT).length=e.args.length:=List.length_map _
   have mck:(ck.map onT).length=ck.length:=List.length_map _
   have hal:e.args.length≤1000000000:=by
    have:∀l:List Ex,l.length≤(l.map wEx).sum:=fun l=>by
     induction l with
     | nil=>simp
     | cons y l ih=>have:=wEx_pos y;simp;omega
    have h2:=wEx_eq e
    have:=this e.args
    omega
   rw[fitsX_eq]
   by_cases h1:e.kind.1=1\/e.kind.1=11
   ·rw[if_pos h1]
    clear ih hon
    unfold exC
    refine Sound.of tabOk Tryz.func69 (by kernel_rfl) rfl rfl ?_
    repeat' (first|refine wkt ?_|refine wka ?_|refine wk ?_|exact wkc|intro hc|refine wk2 ?_ ?_|fail|fail)
    all_goals first
     | exact wkr
     | (exfalso;omega)
   rw[if_neg h1]
   by_cases hz:headG vars e ck=0
   ·
    have hus:=headG_len hz hck hself
    have hor:orE (headG vars e ck) (argsG (fun i a=>fitsX vars a (underX e ck i)) 0 e.args)=argsG (fun i a=>fitsX vars a (underX e ck i)) 0 e.args:=by rw[hz];rfl
    rw[hor]
    clear hor
    unfold exC at*
    by_cases h2:e.kind.1=2
    let fid:FuncId:=105
    let caps:List SV:=[.cp [onsT ck] 0]
    have hfn:∀k:Nat,k<e.args.length->Pure Tryz.prog fid (.i k::caps) (.t (onsT (underX e ck k))):=fun k _=>by
     rw[show underX e ck k=ck by unfold underX;rw[if_neg (by omega),if_neg (by omega)]]
     exact under1_sound ck k
    have hx:onX vars e.name ck=true:=by
     unfold headG at hz
     rw[if_pos h2]at hz
     exact Classical.byContradiction fun h=>by rw[if_neg h]at hz;cases hz
    rw[hx]at hon
    refine Sound.of tabOk Tryz.func69 (by kernel_rfl) rfl rfl ?_
    repeat' (first|refine wkt ?_|refine wka ?_|refine wk ?_|exact wkc|intro hc|refine wk2 ?_ ?_|refine wv hon ?_|fail)
    rotate_left
    by_cases h8:e.kind.1=8
    obtain⟨c0,o,hcc⟩:∃c0 o,ck=c0++[o]:=by
     rcases List.eq_nil_or_concat ck with h|⟨c0,o,h⟩
     ·subst h
      unfold headG at hz
      rw[if_neg h2,if_pos h8]at hz
      simp at hz
     ·exact⟨c0,o,by simpa using h⟩
    have hzz:o=onOf e/\onX vars e.name c0=true:=by
     unfold headG at hz
     rw[if_neg h2,if_pos h8]at hz
     exact Classical.byContradiction fun h=>by
      rw[if_neg (by rw[hcc];simpa using h)]at hz;cases hz
    obtain⟨k0,hk0⟩:∃k0,k0=c0.length:=⟨_,rfl⟩
    have hlk:ck.length=k0+1:=by rw[hcc,hk0];simp
    have htk:ck.take k0=c0:=by rw[hcc,hk0];simp
    have hlast:(ck.map onT)[k0]?=some (.ag [.s o.name,T.n o.t,T.n o.tag]):=by rw[hcc,hk0];simp[onT]
    have hon:=on_sound vars hl hk e.name (ck.take k0) (hck.take k0)
    rw[htk,hzz.2,<-htk,show onsT (ck.take k0)= .sl 3 ((ck.map onT).take k0) by rw[onsT,List.map_take]]at hon
    have hnv:(((ck.map onT).length:Int)-1)=(k0:Int):=by omega
    have hno:o.name.length≤1000000000:=hck.2 o (by rw[hcc];simp)
    have hne:(!decide (o=onOf e))=false:=by rw[hzz.1];simp
    let fid:FuncId:=106
    let caps:List SV:=[.cp [onsT ck] 0,.cp [.i k0] 0]
    have hfn:∀k:Nat,k<e.args.length->Pure Tryz.prog fid (.i k::caps) (.t (onsT (underX e ck k))):=fun k _=>by
     rw[show underX e ck k=ck.take k0 by unfold underX;rw[if_pos h8,List.dropLast_eq_take,hlk];simp]
     exact under2_sound ck k0 (by omega) k
    refine Sound.of tabOk Tryz.func69 (by kernel_rfl) rfl rfl ?_
    repeat' (first|refine wkt ?_|refine wka ?_|exact wkc|intro hc|refine wk2 ?_ ?_|(apply Go.TL.TO.sub64;exact rfl;exact rfl;exact rfl;omega;omega)|fail)
    rw[hnv]
    repeat' (first|refine wkt ?_|refine wka ?_|refine rg [.i k0,.b false,.b false,.t (onsT ck),.i k0,.cp [.s o.name,T.n o.t,T.n o.tag] 0,.t (.ag [.s o.name,T.n o.t,T.n o.tag]),.cp [T.n e.kind,T.n e.op,T.n e.t,T.n e.v,.s e.name,.sl 6 (e.args.map exT)] 4,.s e.name,.cp [T.n e.kind,T.n e.op,T.n e.t,T.n e.v,.s e.name,.sl 6 (e.args.map exT)] 2,.t (T.n e.t),.cp [T.n e.kind,T.n e.op,T.n e.t,T.n e.v,.s e.name,.sl 6 (e.args.map exT)] 3,.t (T.n e.v),.t (.ag [.s e.name,T.n e.t,T.n e.v]),.b false,.b false,.b false,chkT vars,.cp [T.n e.kind,T.n e.op,T.n e.t,T.n e.v,.s e.name,.sl 6 (e.args.map exT)] 4,.s e.name,.t (onsT ck),.i k0,.t (.sl 3 ((ck.map onT).take k0)),.b true,.b false,.b false] ?_ ?_|refine wv hon ?_|(apply TO.neOnV (b:=onOf e);exact rfl;exact rfl;exact rfl;assumption;assumption;(first|exact hne|exact rfl))|exact trivial|exact And.intro rfl rfl|refine And.intro (fun H env=>?_) ?_|refine wk ?_|exact wkc|intro hc|refine wk2 ?_ ?_|fail)
    rotate_left
    by_cases h9:e.kind.1=9
    have hx:onX vars e.name ck=true/\ck.length<4:=by
     unfold headG at hz
     rw[if_neg h2,if_neg h8,if_pos h9]at hz
     by_cases ha:onX vars e.name ck=true
     ·rw[if_pos ha]at hz
      exact⟨ha,Classical.byContradiction fun h=>by rw[if_neg h]at hz;cases hz⟩
     ·rw[if_neg ha]at hz;cases hz
    rw[hx.1]at hon
    have hx4:=hx.2
    let fid:FuncId:=107
    let caps:List SV:=[.cp [onsT ck] 0,.cp [T.n e.kind,T.n e.op,T.n e.t,T.n e.v,.s e.name,.sl 6 (e.args.map exT)] 0]
    have hfn:∀k:Nat,k<e.args.length->Pure Tryz.prog fid (.i k::caps) (.t (onsT (underX e ck k))):=fun k hk=>by
     rw[show underX e ck k=ck++[⟨e.name,e.t,nI k⟩] by unfold underX;rw[if_neg h8,if_pos h9]]
     exact under3_sound ck (by omega) e k (by omega)
    refine Sound.of tabOk Tryz.func69 (by kernel_rfl) rfl rfl ?_
    repeat' (first|refine wkt ?_|refine wka ?_|refine wk ?_|exact wkc|intro hc|refine wk2 ?_ ?_|refine wv hon ?_|fail)
    rotate_left
    let fid:FuncId:=105
    let caps:List SV:=[.cp [onsT ck] 0]
    have hfn:∀k:Nat,k<e.args.length->Pure Tryz.prog fid (.i k::caps) (.t (onsT (underX e ck k))):=fun k _=>by
     rw[show underX e ck k=ck by unfold underX;rw[if_neg (by omega),if_neg (by omega)]]
     exact under1_sound ck k
    clear hon
    refine Sound.of tabOk Tryz.func69 (by kernel_rfl) rfl rfl ?_
    repeat' (first|refine wkt ?_|refine wka ?_|refine wk ?_|exact wkc|intro hc|refine wk2 ?_ ?_|fail|fail)
    all_goals
     refine TR.loopN e.args.length (fun k=>argsG (fun i a=>fitsX vars a (underX e ck i)) 0 (e.args.take k)=0) (fun k=>[(3,.cp [declsT vars] 0),(7,.fn fid caps),(73,.t (.sl 6 (e.args.map exT))),(74,.i (e.args.map exT).length),(75,.i k)]) (fun _=>[]) rfl (fun k hlt ha=>?_) (fun ha=>?_)
     ·have hx:=at_exT hlt
      have g1:=argsG_at (f:=fun i a=>fitsX vars a (underX e ck i)) hlt ha
      have g2:=argsG_next (f:=fun i a=>fitsX vars a (underX e ck i)) hlt ha
      have hi:=ih _ (List.getElem_mem hlt) (underX e ck k) (hus k)
      have hf:=hfn k hlt
      generalize fitsX vars e.args[k] (underX e ck k)=r at*
      generalize e.args[k]=a at*
      generalize underX e ck k=cu at*
      unfold exC at hx
      repeat' (first|refine wkt ?_|refine wka ?_|refine rg [chkT vars,.t (.ag [T.n a.kind,T.n a.op,T.n a.t,T.n a.v,.s a.name,.sl 6 (a.args.map exT)]),.fn fid caps,.i k,.t (onsT cu),.i r,.i r] ?_ ?_|refine wv hi ?_|(apply TO.callV hf;exact rfl;exact rfl;exact rfl;exact Les.refl _;exact rfl;exact rfl)|exact trivial|exact And.intro rfl rfl|refine And.intro (fun H env=>?_) ?_|refine wk ?_|exact wkc|intro hc|refine wk2 ?_ ?_|fail)
      all_goals first
       | exact LoopK.nextN hlt (g2 (by omega))
       | (rw[g1 (by omega)];(repeat' (first|refine LoopK.ret ?_|refine wk ?_|fail));exact wkr)
     ·rw[List.take_length]at ha
      rw[ha]
      repeat' (first|refine wkt ?_|refine wk ?_|exact wkc|intro hc|refine wk2 ?_ ?_|fail)
      exact wkr
   ·
    unfold exC at*
    clear ih
    unfold headG at hz⊢
    by_cases h2:e.kind.1=2
    ·rw[if_pos h2]at hz⊢
     have hx:onX vars e.name ck=false:=by
      cases hq:onX vars e.name ck with
      | false=>rfl
      | true=>rw[hq]at hz;simp at hz
     rw[hx]at hon⊢
     simp only[Bool.false_eq_true,if_false]
     refine Sound.of tabOk Tryz.func69 (by kernel_rfl) rfl rfl ?_
     repeat' (first|refine wkt ?_|refine wka ?_|refine wk ?_|exact wkc|intro hc|refine wk2 ?_ ?_|refine wv hon ?_|fail)
     exact wkr
    rw[if_neg h2]at hz⊢
    by_cases h8:e.kind.1=8
    ·rw[if_pos h8]at hz⊢
     rw[if_neg (fun h=>hz (if_pos h))]
     have hz:=fun h=>hz (if_pos h)
     rcases List.eq_nil_or_concat ck with h|⟨c0,o,h⟩
     ·subst h
      refine Sound.of tabOk Tryz.func69 (by kernel_rfl) rfl rfl ?_
      repeat' (first|refine wkt ?_|refine wka ?_|refine rg [.i (-1),.b true,.b true,.t (.v undef),.t (.v undef),.t (.v undef),.t (.v undef),.t (.v undef),.t (.v undef),.t (.v undef),.t (.v undef),.t (.v undef),.t (.v undef),.t (.v undef),.t (.v undef),.b true,.b true,.t (.v undef),.t (.v undef),.t (.v undef),.t (.v undef),.t (.v undef),.t (.v undef),.t (.v undef),.t (.v undef),.b true] ?_ ?_|exact trivial|exact And.intro rfl rfl|refine And.intro (fun H env=>?_) ?_|refine wk ?_|exact wkc|intro hc|refine wk2 ?_ ?_|fail)
      exact wkr
     have hcc:ck=c0++[o]:=by simpa using h
     obtain⟨k0,hk0⟩:∃k0,k0=c0.length:=⟨_,rfl⟩
     have hlk:ck.length=k0+1:=by rw[hcc,hk0];simp
     have htk:ck.take k0=c0:=by rw[hcc,hk0];simp
     have hlast:(ck.map onT)[k0]?=some (.ag [.s o.name,T.n o.t,T.n o.tag]):=by rw[hcc,hk0];simp[onT]
     have hnv:(((ck.map onT).length:Int)-1)=(k0:Int):=by omega
     have hno:o.name.length≤1000000000:=hck.2 o (by rw[hcc];simp)
     by_cases ho:o=onOf e
     ·have hx:onX vars e.name c0=false:=by
       cases hq:onX vars e.name c0 with
       | false=>rfl
       | true=>exact absurd (by rw[hcc];simp[ho,hq]) hz
      have hon:=on_sound vars hl hk e.name (ck.take k0) (hck.take k0)
      rw[htk,hx,<-htk,show onsT (ck.take k0)= .sl 3 ((ck.map onT).take k0) by rw[onsT,List.map_take]]at hon
      have hne:(!decide (o=onOf e))=false:=by rw[ho];simp
      refine Sound.of tabOk Tryz.func69 (by kernel_rfl) rfl rfl ?_
      repeat' (first|refine wkt ?_|refine wka ?_|exact wkc|intro hc|refine wk2 ?_ ?_|(apply Go.TL.TO.sub64;exact rfl;exact rfl;exact rfl;omega;omega)|fail)
      rw[hnv]
      repeat' (first|refine wkt ?_|refine wka ?_|refine rg [.i k0,.b false,.b false,.t (onsT ck),.i k0,.cp [.s o.name,T.n o.t,T.n o.tag] 0,.t (.ag [.s o.name,T.n o.t,T.n o.tag]),.cp [T.n e.kind,T.n e.op,T.n e.t,T.n e.v,.s e.name,.sl 6 (e.args.map exT)] 4,.s e.name,.cp [T.n e.kind,T.n e.op,T.n e.t,T.n e.v,.s e.name,.sl 6 (e.args.map exT)] 2,.t (T.n e.t),.cp [T.n e.kind,T.n e.op,T.n e.t,T.n e.v,.s e.name,.sl 6 (e.args.map exT)] 3,.t (T.n e.v),.t (.ag [.s e.name,T.n e.t,T.n e.v]),.b false,.b false,.b false,chkT vars,.cp [T.n e.kind,T.n e.op,T.n e.t,T.n e.v,.s e.name,.sl 6 (e.args.map exT)] 4,.s e.name,.t (onsT ck),.i k0,.t (.sl 3 ((ck.map onT).take k0)),.b false,.b true,.b true] ?_ ?_|refine wv hon ?_|(apply TO.neOnV (b:=onOf e);exact rfl;exact rfl;exact rfl;assumption;assumption;(first|exact hne|exact rfl))|exact trivial|exact And.intro rfl rfl|refine And.intro (fun H env=>?_) ?_|refine wk ?_|exact wkc|intro hc|refine wk2 ?_ ?_|fail)
      exact wkr
     ·have hne:(!decide (o=onOf e))=true:=by simp[ho]
      refine Sound.of tabOk Tryz.func69 (by kernel_rfl) rfl rfl ?_
      repeat' (first|refine wkt ?_|refine wka ?_|exact wkc|intro hc|refine wk2 ?_ ?_|(apply Go.TL.TO.sub64;exact rfl;exact rfl;exact rfl;omega;omega)|fail)
      rw[hnv]
      repeat' (first|refine wkt ?_|refine wka ?_|refine rg [.i k0,.b false,.b false,.t (onsT ck),.i k0,.cp [.s o.name,T.n o.t,T.n o.tag] 0,.t (.ag [.s o.name,T.n o.t,T.n o.tag]),.cp [T.n e.kind,T.n e.op,T.n e.t,T.n e.v,.s e.name,.sl 6 (e.args.map exT)] 4,.s e.name,.cp [T.n e.kind,T.n e.op,T.n e.t,T.n e.v,.s e.name,.sl 6 (e.args.map exT)] 2,.t (T.n e.t),.cp [T.n e.kind,T.n e.op,T.n e.t,T.n e.v,.s e.name,.sl 6 (e.args.map exT)] 3,.t (T.n e.v),.t (.ag [.s e.name,T.n e.t,T.n e.v]),.b true,.b true,.b true,.t (.v undef),.t (.v undef),.t (.v undef),.t (.v undef),.t (.v undef),.t (.v undef),.t (.v undef),.t (.v undef),.b true] ?_ ?_|(apply TO.neOnV (b:=onOf e);exact rfl;exact rfl;exact rfl;assumption;assumption;(first|exact hne|exact rfl))|exact trivial|exact And.intro rfl rfl|refine And.intro (fun H env=>?_) ?_|refine wk ?_|exact wkc|intro hc|refine wk2 ?_ ?_|fail)
      exact wkr
    rw[if_neg h8]at hz⊢
    by_cases h9:e.kind.1=9
    ·rw[if_pos h9]at hz⊢
     cases hq:onX vars e.name ck with
     | false=>
       rw[hq]at hon
       simp only[Bool.false_eq_true,if_false]
       refine Sound.of tabOk Tryz.func69 (by kernel_rfl) rfl rfl ?_
       repeat' (first|refine wkt ?_|refine wka ?_|refine wk ?_|exact wkc|intro hc|refine wk2 ?_ ?_|refine wv hon ?_|fail)
       exact wkr
     | true=>
       rw[hq]at hon
       rw[hq]at hz
       have h4:¬ck.length<4:=fun h=>hz (by simp[h])
       simp only[if_true,if_neg h4]
       refine Sound.of tabOk Tryz.func69 (by kernel_rfl) rfl rfl ?_
       repeat' (first|refine wkt ?_|refine wka ?_|refine wk ?_|exact wkc|intro hc|refine wk2 ?_ ?_|refine wv hon ?_|fail)
       exact wkr
    ·rw[if_neg h9]at hz;exact absurd rfl hz
end Go.Proofs.YtcbhlhmebbkgnaaGreat
