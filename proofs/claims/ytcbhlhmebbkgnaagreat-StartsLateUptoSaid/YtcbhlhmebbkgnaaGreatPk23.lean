import Derived.Test.YtcbhlhmebbkgnaaGreatPk9
import Derived.Test.YtcbhlhmebbkgnaaGreatPk13
import Derived.Test.YtcbhlhmebbkgnaaGreatPk17
import Derived.Test.YtcbhlhmebbkgnaaGreatPk18
import Derived.Test.YtcbhlhmebbkgnaaGreatPk22
set_option linter.unusedSimpArgs false
set_option linter.unusedVariables false
namespace Go.Proofs.YtcbhlhmebbkgnaaGreat
open Go Go.TL
attribute [local irreducible] TR TO Then zaw RetK Sound zab Kf GG zaZ
def onEq(a b:OnC):Bool:=decide (a.name=b.name) && decide (a.t.1=b.t.1) && decide (a.tag.1=b.tag.1)
theorem zn1(a b:OnC):onEq a b=true ↔ a=b:=by
 obtain⟨n,t,g⟩:=a
 obtain⟨n',t',g'⟩:=b
 simp only[onEq,Bool.and_eq_true,decide_eq_true_eq,OnC.mk.injEq,Subtype.ext_iff,and_assoc]
instance:DecidableEq OnC:=fun a b=>decidable_of_iff _ (zn1 a b)
def findD:List Decl->Str->Option Decl
 | [],_=>none
 | d::l,nm=>if d.name=nm then some d else findD l nm
def dclk(vars:List Decl)(nm:Str):List OnC:=((findD vars nm).map Decl.clock).getD []
def onX(vars:List Decl)(nm:Str)(ck:List OnC):Bool:=match findD vars nm with
 | some d=>decide (d.clock=ck)
 | none=>false
theorem zpq(vars:List Decl)(nm:Str):(findD vars nm).isSome=(zbu vars nm).2/\∀d,findD vars nm=some d->(zbu vars nm).1=d.ty.1:=by
 induction vars with
 | nil=>simp[findD,zbu]
 | cons d l ih=>
   unfold findD zbu
   by_cases h:d.name=nm
   ·simp[h]
   ·simp only[if_neg h];exact ih
theorem zcL{vars:List Decl}{nm:Str}{d:Decl}(h:findD vars nm=some d):d∈vars/\d.name=nm:=by
 induction vars with
 | nil=>cases h
 | cons x l ih=>
   unfold findD at h
   by_cases hx:x.name=nm
   ·rw[if_pos hx]at h;cases h;exact⟨by simp,hx⟩
   ·rw[if_neg hx]at h;exact⟨List.mem_cons_of_mem _ (ih h).1,(ih h).2⟩
def onOf(e:Ex):OnC:=⟨e.name,e.t,e.v⟩
def zaQ(e:Ex)(ck:List OnC)(i:Nat):List OnC:=
 if e.kind.1=8 then ck.dropLast else if e.kind.1=9 then ck++[⟨e.name,e.t,nI i⟩] else ck
def zcv(f:Nat->Ex->Int):Nat->List Ex->Int
 | _,[]=>0
 | i,a::l=>orE (f i a) (zcv f (i+1) l)
def zdX(vars:List Decl)(e:Ex)(ck:List OnC):Int:=
 if e.kind.1=2 then(if onX vars e.name ck=true then 0 else 11)
 else if e.kind.1=8 then(if ck.getLast? =some (onOf e)/\onX vars e.name ck.dropLast=true then 0 else 11)
 else if e.kind.1=9 then(if onX vars e.name ck=true then(if ck.length<4 then 0 else 3) else 11)
 else 0
def ziu(vars:List Decl):Nat->Ex->List OnC->Int
 | 0,_,_=>0
 | m+1,e,ck=>if e.kind.1=1\/e.kind.1=11 then 0 else orE (zdX vars e ck) (zcv (fun i a=>ziu vars m a (zaQ e ck i)) 0 e.args)
def zhx(vars:List Decl)(e:Ex)(ck:List OnC):Int:=
 if e.kind.1=2 then(if dclk vars e.name=ck then 0 else 11)
 else if e.kind.1=8 then(if ck.getLast? =some (onOf e)/\dclk vars e.name=ck.dropLast then 0 else 11)
 else if e.kind.1=9 then(if dclk vars e.name=ck then(if ck.length=4 then 3 else 0) else 11)
 else 0
def zeu(vars:List Decl):Nat->Ex->List OnC->Int
 | 0,_,_=>0
 | m+1,e,ck=>if e.kind.1=2 then zhx vars e ck else orE (zhx vars e ck) (if e.kind.1=8 then zeu vars m (e.args.headD e) ck.dropLast else zcv (fun i a=>zeu vars m a (zaQ e ck i)) 0 e.args)
theorem zdi{f g:Nat->Ex->Int}:∀ {l:List Ex} {i:Nat},(∀a∈l,∀j,f j a=g j a)->zcv f i l=zcv g i l
 | [],_,_=>rfl
 | a::l,i,h=>by rw[zcv,zcv,h a (by simp),zdi fun b hb=>h b (by simp[hb])]
def zp5(vars:List Decl)(e:Ex):Prop:=∀x∈flat e,(x.kind.1=2\/x.kind.1=8\/x.kind.1=9)->(findD vars x.name).isSome=true
theorem zqb{e:Ex}(h:oneX e=0):zgy e.kind.1 e.op.1 e.t.1 e.v.1 e.args.length=true:=by
 unfold oneX at h
 rw[znj _ _ _ _ _ _ (by omega)]at h
 have hf:zeS e.kind.1 e.op.1 e.t.1 e.v.1 e.name e.args.length=true:=by
  cases hq:zeS e.kind.1 e.op.1 e.t.1 e.v.1 e.name e.args.length with
  | true=>rfl
  | false=>rw[hq]at h;simp at h;split at h <;> simp at h
 clear h
 unfold zeS at hf
 split at hf
 ·cases hf
 rename_i h1
 cases hq:zgy e.kind.1 e.op.1 e.t.1 e.v.1 e.args.length with
 | true=>rfl
 | false=>exact absurd (.inr (.inr hq)) h1
theorem zo2{e:Ex}(h:oneX e=0)(hk:e.kind.1=1\/e.kind.1=2\/e.kind.1=11):e.args.length=0:=by
 have ha:=zqb h
 unfold zgy at ha
 rw[if_pos hk]at ha
 simpa using ha
theorem zl7{e:Ex}(h:oneX e=0)(hk:e.kind.1=8):e.args.length=1:=by
 have ha:=zqb h
 unfold zgy at ha
 rw[hk]at ha
 simp at ha
 omega
theorem zkH{vars:List Decl}{nm:Str}(h:(findD vars nm).isSome=true)(ck:List OnC):(onX vars nm ck=true)=(dclk vars nm=ck):=by
 unfold onX dclk
 cases hf:findD vars nm with
 | none=>rw[hf]at h;cases h
 | some d=>simp
theorem znF(vars:List Decl):∀(m:Nat) (e:Ex),wEx e≤m->(∀x∈flat e,Arity x)->(∀x∈flat e,oneX x=0)->zp5 vars e->∀ck,ck.length≤4->zeu vars m e ck=ziu vars m e ck
 | 0,e,h=>by have:=zaI e;omega
 | m+1,e,h=>by
   intro ha ho hk ck hck
   have hself:e∈flat e:=zeY.2 (.inl rfl)
   have ih:=fun(a:Ex) (hx:a∈e.args)=>znF vars m a (by have:=zaE hx;omega) (fun x hh=>ha x (zc0 hx x hh)) (fun x hh=>ho x (zc0 hx x hh)) (fun x hh=>hk x (zc0 hx x hh))
   have har:=ha e hself
   have hke:=hk e hself
   have hnil:e.kind.1=1\/e.kind.1=2\/e.kind.1=11->e.args=[]:=fun hkk=>by
    have:=zo2 (ho e hself) hkk
    exact List.eq_nil_of_length_eq_zero this
   rw[zeu,ziu]
   by_cases h1:e.kind.1=1\/e.kind.1=11
   ·have hn:=hnil (by omega)
    rw[if_pos h1,if_neg (by omega),if_neg (by omega),hn]
    have:zhx vars e ck=0:=by unfold zhx;rw[if_neg (by omega),if_neg (by omega),if_neg (by omega)]
    rw[this];rfl
   rw[if_neg h1]
   by_cases h2:e.kind.1=2
   ·have hn:=hnil (by omega)
    rw[if_pos h2,hn]
    unfold zhx zdX
    rw[if_pos h2,if_pos h2]
    simp only[zkH (hke (.inl h2)),zcv,orE]
    split <;> rfl
   rw[if_neg h2]
   by_cases h8:e.kind.1=8
   ·have hh:zhx vars e ck=zdX vars e ck:=by
     unfold zhx zdX
     rw[if_neg h2,if_neg h2,if_pos h8,if_pos h8]
     simp only[zkH (hke (.inr (.inl h8)))]
    obtain⟨a,hargs⟩:∃a,e.args=[a]:=List.length_eq_one_iff.1 (zl7 (ho e hself) h8)
    rw[if_pos h8,hh,hargs]
    have hu:zaQ e ck 0=ck.dropLast:=by unfold zaQ;rw[if_pos h8]
    have:=ih a (by rw[hargs];simp) ck.dropLast (by rw[List.length_dropLast];omega)
    simp only[zcv,List.headD_cons,hu,this]
    unfold orE
    repeat' split
    all_goals first|rfl|simp_all
   ·rw[if_neg h8]
    by_cases h9:e.kind.1=9
    ·have hh:zhx vars e ck=zdX vars e ck:=by
      unfold zhx zdX
      rw[if_neg h2,if_neg h2,if_neg h8,if_neg h8,if_pos h9,if_pos h9]
      simp only[zkH (hke (.inr (.inr h9)))]
      by_cases h4:ck.length=4
      ·simp[h4]
      ·have h5:ck.length<4:=by omega
       simp[h4,h5]
     rw[hh]
     by_cases hz:zdX vars e ck=0
     ·have hlt:ck.length<4:=by
       unfold zdX at hz
       rw[if_neg h2,if_neg h8,if_pos h9]at hz
       split at hz
       ·split at hz
        ·assumption
        ·cases hz
       ·cases hz
      congr 1
      refine zdi fun a hx j=>ih a hx _ ?_
      unfold zaQ
      rw[if_neg h8,if_pos h9,List.length_append]
      simp;omega
     ·unfold orE;rw[if_neg hz,if_neg hz]
    ·have hh:zhx vars e ck=zdX vars e ck:=by
      unfold zhx zdX
      rw[if_neg h2,if_neg h2,if_neg h8,if_neg h8,if_neg h9,if_neg h9]
     rw[hh]
     congr 1
     refine zdi fun a hx j=>ih a hx _ ?_
     unfold zaQ
     rw[if_neg h8,if_neg h9];exact hck
theorem zj9(vars:List Decl):∀(m:Nat) (e:Ex),wEx e≤m->∀(m':Nat),wEx e≤m'->∀ck,ziu vars m e ck=ziu vars m' e ck
 | 0,e,h=>by have:=zaI e;omega
 | m+1,e,h=>by
   intro m' h' ck
   obtain⟨j,rfl⟩:∃j,m'=j+1:=⟨m'-1,by have:=zaI e;omega⟩
   rw[ziu,ziu]
   split
   ·rfl
   ·congr 1
    exact zdi fun a hx i=>zj9 vars m a (by have:=zaE hx;omega) j (by have:=zaE hx;omega) _
def zcu(vars:List Decl)(e:Ex)(ck:List OnC):Int:=ziu vars (wEx e) e ck
theorem zrP(vars:List Decl)(e:Ex)(ck:List OnC):zcu vars e ck=if e.kind.1=1\/e.kind.1=11 then 0 else orE (zdX vars e ck) (zcv (fun i a=>zcu vars a (zaQ e ck i)) 0 e.args):=by
 have hp:=zaI e
 unfold zcu
 rw[show ziu vars (wEx e) e ck=ziu vars (wEx e-1+1) e ck from by rw[Nat.sub_add_cancel hp],ziu]
 congr 2
 exact zdi fun a hx i=>zj9 vars _ a (by have:=zaE hx;omega) _ (Nat.le_refl _) _
def zji(vars:List Decl):List OnC->List OnC->Bool
 | _,[]=>true
 | pre,o::l=>(match findD vars o.name with|some x=>decide (x.ty.1=o.t.1) && decide (x.clock=pre)|none=>false) && zji vars (pre++[o]) l
def zdg(vars l:List Decl):Bool:=l.all fun d=>zji vars [] d.clock
def zjb(vars:List Decl)(u:Equ):Int:=
 if u.left.all (fun s=>onX vars s (dclk vars (u.left.headD [])))=true then zcu vars u.right (dclk vars (u.left.headD [])) else 11
def zdk(n:Nod):Int×Int:=
 if zdg (zao n) n.locals=false then(-1,11) else if zaa (zjb (zao n)) n.eqs≠0 then za9 (zjb (zao n)) n.eqs else
 if zaa (fun e=>zcu (zao n) e []) (n.assume++n.ensure)≠0 then(-1,zaa (fun e=>zcu (zao n) e []) (n.assume++n.ensure)) else(0,0)
def zcW(p:Prog):Bool:=p.nodes.all fun n=>decide (n.autos.length=0)
def zbV:Nat->List Nod->(Int×Int)×Int
 | _,[]=>((0,0),0)
 | i,n::l=>if(zdk n).2=0 then zbV (i+1) l else((i,(zdk n).1),(zdk n).2)
def zaF(p:Prog):(Int×Int)×Int:=if zcW p=false then((-1,-1),2) else if(zbi p).2≠0 then zbi p else zbV 0 p.nodes
theorem zdz{p:Prog}(h:(zbi p).2=0):(zbx p).2=0/\(zaR p).2=0/\(zcO p p.nodes.zipIdx).2=0:=by
 have hs:(zbx p).2=0:=Classical.byContradiction fun hh=>by
  unfold zbi at h
  rw[if_pos hh]at h;exact hh h
 refine⟨hs,Classical.byContradiction fun hh=>?_,?_⟩
 ·unfold zbx at hs
  rw[if_pos hh]at hs;exact hh hs
 ·unfold zbi at h
  rw[if_neg (by simp[hs])]at h;exact h
theorem zg8:∀ {l:List Nod} {i:Nat},(zbV i l).2=0->∀n∈l,(zdk n).2=0
 | [],_,_,n,hn=>by cases hn
 | x::l,i,h,n,hn=>by
   rw[zbV]at h
   have h1:(zdk x).2=0:=Classical.byContradiction fun hh=>by rw[if_neg hh]at h;exact hh h
   rw[if_pos h1]at h
   rcases List.mem_cons.1 hn with rfl|hn
   ·exact h1
   ·exact zg8 h n hn
theorem zqM{p:Prog}(h:(zaF p).2=0):zcW p=true/\(zbi p).2=0/\∀n∈p.nodes,(zdk n).2=0:=by
 unfold zaF at h
 have h1:zcW p=true:=by
  cases hp:zcW p with
  | true=>rfl
  | false=>rw[hp]at h;simp at h
 rw[if_neg (by simp[h1])]at h
 have h2:(zbi p).2=0:=Classical.byContradiction fun hh=>by rw[if_pos hh]at h;exact hh h
 rw[if_neg (by simp[h2])]at h
 exact⟨h1,h2,zg8 h⟩
structure zs0 (es:List En) (n:Nod):Prop where
 ports:∀d∈n.ins++n.outs,d.clock=[]
 locals:∀d∈n.locals,d.clock.length≤4
 eqs:∀u∈n.eqs,u.left≠ []/\zaP es u.right=0
theorem zkg{es:List En}{port:Bool}{d:Decl}(h:zcT es port d=0):(port=true->d.clock=[])/\d.clock.length≤4:=by
 unfold zcT at h
 obtain⟨_,h⟩:=zap h
 obtain⟨_,h⟩:=zap h
 obtain⟨h1,h⟩:=zap h
 obtain⟨h2,_⟩:=zap h
 refine⟨fun hp=>?_,?_⟩
 ·by_cases hc:d.clock.length=0
  ·exact List.eq_nil_of_length_eq_zero hc
  ·rw[if_pos ⟨hp,hc⟩]at h1;cases h1
 ·by_cases hc:d.clock.length≤4
  ·exact hc
  ·rw[if_neg hc]at h2;cases h2
theorem zlt{p:Prog}(h:(zaR p).2=0):∀n∈p.nodes,zs0 p.enums n:=fun n hn=>by
 have h1:=zbL h n hn
 unfold zbt at h1
 have hh:zek p.enums n=0:=Classical.byContradiction fun hc=>by rw[if_pos hc]at h1;exact hc h1
 rw[if_neg (by simp[hh])]at h1
 have he:zaa (equE p.enums) n.eqs=0:=Classical.byContradiction fun hc=>by rw[if_pos hc,zbc]at h1;exact hc h1
 unfold zek at hh
 obtain⟨_,hh⟩:=zap hh
 obtain⟨_,hh⟩:=zap hh
 obtain⟨_,hh⟩:=zap hh
 obtain⟨i1,hh⟩:=zap hh
 obtain⟨i2,i3⟩:=zap hh
 refine⟨fun d hd=>?_,fun d hd=>(zkg (zau i3 d hd)).2,fun u hu=>?_⟩
 ·rcases List.mem_append.1 hd with hd|hd
  ·exact(zkg (zau i1 d hd)).1 rfl
  ·exact(zkg (zau i2 d hd)).1 rfl
 ·have h2:=zau he u hu
  refine⟨fun hc=>?_,zgI h2⟩
  unfold equE at h2
  obtain⟨h3,_⟩:=zap h2
  rw[hc]at h3;simp at h3
theorem ztv{es:List En}{n:Nod}(h:zs0 es n):∀d∈zao n,d.clock.length≤4:=fun d hd=>by
 simp only[zao,List.append_nil,List.mem_append]at hd
 rcases hd with hd|hd|hd
 ·rw[h.ports d (by simp[hd])];simp
 ·rw[h.ports d (by simp[hd])];simp
 ·exact h.locals d hd
theorem zjX{w:Plc}{z:Ex}{b:Bool}(h:(resT w b z).2=0)(hv:z.kind.1=2\/z.kind.1=8\/z.kind.1=9):(findD w.env z.name).isSome=true:=by
 rw[(zpq w.env z.name).1]
 rw[zfq]at h
 have h0:¬(heads (z.args.map (resT w true))).2≠0:=fun hh=>by rw[if_pos hh]at h;exact hh h
 rw[if_neg h0]at h
 unfold zm2 at h
 rw[if_neg (by omega),if_neg (by omega)]at h
 rcases hv with hv|hv
 ·rw[if_pos hv]at h
  cases hl:(zbu w.env z.name).2 with
  | true=>rfl
  | false=>rw[hl]at h;simp at h
 ·rw[if_neg (by omega),if_neg (by omega),if_neg (by omega),if_neg (by omega),if_pos hv]at h
  have hc:¬zdq w.env z.name z.t.1≠0:=fun hh=>by rw[if_pos hh]at h;exact hh h
  unfold zdq at hc
  cases hl:(zbu w.env z.name).2 with
  | true=>rfl
  | false=>rw[hl]at hc;simp at hc
theorem zoM{w:Plc}{e:Ex}{b:Bool}(h:(resT w b e).2=0):zp5 w.env e:=fun z hz hv=>by
 rcases zoB _ e (Nat.le_refl _) b h z hz with rfl|h2
 ·exact zjX h hv
 ·exact zjX h2 hv
theorem zq4{k:Nat}(h:(k:Int)≤9223372036854775807):(nI k).1=k:=by unfold nI;rw[dif_pos h]
theorem zsd{p:Prog}(h:(zbi p).2=0){k:Nat}(hk:k<p.nodes.length)(hk63:(k:Int)≤9223372036854775807){u:Equ}(hu:u∈p.nodes[k].eqs):zp5 (zao p.nodes[k]) u.right/\zaP p.enums u.right=0:=by
 have h1:=(rights h hk hk63 hu).1
 have hnv:=zq4 hk63
 rw[zrJ (n:=p.nodes[k]) (by omega) (by rw[hnv,Int.toNat_natCast];exact List.getElem?_eq_getElem hk)]at h1
 have hx:zaP p.enums u.right=0:=Classical.byContradiction fun hh=>by rw[if_pos hh]at h1;exact hh h1
 rw[if_neg (by simp[hx])]at h1
 exact⟨zoM h1,hx⟩
theorem zhL{es:List En}{e:Ex}(h:zaP es e=0):∀x∈flat e,oneX x=0:=by
 unfold zaP at h
 split at h
 ·rename_i hc
  unfold zen at hc
  split at hc
  ·cases hc
  ·exact zau hc
 ·rename_i hc;exact absurd h hc
abbrev onV (o:OnC):Value:=.agg #[str o.name,.int .i64 o.t.1,.int .i64 o.tag.1]
theorem zqk:Tryz.prog.cellsOf 83=3:=by kernel_rfl
theorem ztU:Tryz.prog.keyType 83=true:=by kernel_rfl
theorem wf64(t:I64):(Lit.int .i64 t.1).wf=true:=by
 simp only[Lit.wf,Bool.and_eq_true,decide_eq_true_eq]
 exact⟨t.2.1,t.2.2⟩
theorem zig(N:Nat){o:OnC}(hs:(⟨o.name.toArray⟩:ByteArray).size≤maxLen):
  (Tryz.prog.keyLits (N+1+1) 83 [str o.name,.int .i64 o.t.1,.int .i64 o.tag.1])=some [.string o.name,.int .i64 o.t.1,.int .i64 o.tag.1]:=by
 have e1:∀c,Tryz.prog.keyLits (N+1) 3 [c]=(match c with| .int q' n=>if q'= .i64/\(Lit.int .i64 n).wf=true then some [.int .i64 n] else none|_=>none):=fun c=>by
  unfold Program.keyLits
  simp only[Tryz.underlying3]
  cases c <;> rfl
 have e2:Tryz.prog.keyLits (N+1) 9 [str o.name]=some [.string o.name]:=by
  unfold Program.keyLits
  simp only[Tryz.underlying9]
  rw[if_pos hs]
 unfold Program.keyLits
 simp only[Tryz.underlying83,zqk]
 simp only[List.length_cons,List.length_nil,List.mapM_cons,List.mapM_nil,zrb,zsJ,List.drop_zero,List.take,List.drop,e1,e2,wf64]
 simp
theorem zuA{o:OnC}(h:o.name.length≤1000000000):keyOf Tryz.prog 83 (onV o)=some (.string (keyBytes [.string o.name,.int .i64 o.t.1,.int .i64 o.tag.1])):=by
 have hs:(⟨o.name.toArray⟩:ByteArray).size≤maxLen:=by
  show o.name.toArray.size≤maxLen
  simp[maxLen];omega
 have h5:(onV o).formed Tryz.prog 83=true:=by
  simp only[onV,Value.formed,Tryz.underlying83,zqk];rfl
 obtain⟨N,hN⟩:=zoK
 rw[keyOf,Tryz.underlying83]
 simp only[ztU,h5,hN,Value.cells,Bool.and_self,if_true,zig N hs,Option.map_some]
section
variable {n:Nat}{env:Env}{K:TK}{all:Array Oper}{rest:List Oper}{d:Nat}{ty:TypeId}{pos:String}{aft:Array Edge}{H:Heap}{q:Bool}
theorem zs1{o:OnC}{m:M}{v:Value}(h:SRel m (.t (onT o)) v):v=onV o:=by
 cases h with
 | t _ _ h=>
   cases h with
   | ag _ arr hs h1 h=>
     obtain⟨l⟩:=arr
     match l,hs with
     | [a,b,c],_=>
       have ha:=h 0 _ a rfl rfl
       have hb:=h 1 _ b rfl rfl
       have hc:=h 2 _ c rfl rfl
       cases ha;cases hb;cases hc
       rfl
theorem zso(w:World){a b:OnC}(ha:a.name.length≤1000000000)(hb:b.name.length≤1000000000):(Op.equal 83 (onV a) (onV b)).run Tryz.prog w= .ok (decide (a=b)) w:=by
 obtain⟨N,hN⟩:=zoK
 have la:=zig N (o:=a) (by show a.name.toArray.size≤maxLen;simp[maxLen];omega)
 have lb:=zig N (o:=b) (by show b.name.toArray.size≤maxLen;simp[maxLen];omega)
 obtain⟨r,hr,hrr⟩:=run_equal_deep (P:=Tryz.prog) w (m:=3) (Nat.le_of_ble_eq_true rfl) (by kernel_rfl) (by rw[Tryz.underlying83]) (zuA ha) (zuA hb)
 have hrd:r=decide (a=b):=by
  by_cases h:a=b
  ·rw[decide_eq_true h];exact hrr.2 (by rw[h])
  ·rw[decide_eq_false h]
   cases hb:r with
   | false=>rfl
   | true=>
     exfalso
     have:=hrr.1 hb
     simp only[Lit.string.injEq]at this
     have:=keyLits_inj la lb this
     simp only[List.cons.injEq,Lit.string.injEq,Lit.int.injEq,true_and,and_true]at this
     obtain⟨h1,h2,h3⟩:=this
     exact h ((zn1 a b).1 (by simp[onEq,h1,h2,h3]))
 rw[hr,hrd]
theorem TO.neOn{t':TypeId}{x y:Operand}{a b:OnC}(hd:Nat.ble (d+1) n=true)(hx:env.val x=some (.t (onT a)))(hy:env.val y=some (.t (onT b)))(ha:a.name.length≤1000000000)(hb:b.name.length≤1000000000)
  (k:TO q Tryz.prog n all rest ((d,.b (!decide (a=b)))::env) H K):TO q Tryz.prog n all (⟨some d,.binOp .neq 83 x y t',ty,pos,aft,none⟩::rest) env H K:=
 TO.op hd (fun m ac h1 h2 h3=>⟨.bool (!decide (a=b)),fun w' hw'=>by
  have e1:=zs1 (h3.val hx)
  have e2:=zs1 (h3.val hy)
  have hg:Tryz.prog.eqGuardType Tryz.prog.depth 83=false:=by kernel_rfl
  simp[execOp,e1,e2,eqGuard,hg,Go.binOp,zso w' ha hb],.t _ _ (.v _)⟩) k
theorem TO.zpi{t':TypeId}{x y:Operand}{a b:OnC}{v:Bool}(hd:Nat.ble (d+1) n=true)(hx:env.val x=some (.t (onT a)))(hy:env.val y=some (.t (onT b)))(ha:a.name.length≤1000000000)(hb:b.name.length≤1000000000)(hv:(!decide (a=b))=v)
  (k:TO q Tryz.prog n all rest ((d,.b v)::env) H K):TO q Tryz.prog n all (⟨some d,.binOp .neq 83 x y t',ty,pos,aft,none⟩::rest) env H K:=by
 subst hv;exact TO.neOn hd hx hy ha hb k
end
theorem rg{n:Nat}{env0 envF:Env}{H0:Heap}{K:TK}{id':Nat}{l:List Oper}(t:List SV)
  (hp:Prem Tryz.prog n l.toArray (zcw l.toArray t env0) l (t.map fun v=>(v,false)) [H0])(hK:K .normal envF H0)
  (hB:(Nat.beq t.length l.length && mixB l.toArray (t.map fun _=>false))=true:=by dsimp only[List.map,List.length];decide +kernel)(hE:zct (zcw l.toArray t env0)=some envF:=by exact rfl):
  TR Tryz.prog n (.region id' l.toArray true) env0 H0 K:=by
 simp only[Bool.and_eq_true]at hB
 have e1:(t.map fun v=>(v,false)).map (·.1)=t:=by rw[List.map_map];exact List.map_id t
 have e2:(t.map fun v=>(v,false)).map (·.2)=t.map fun _=>false:=by rw[List.map_map];rfl
 have e3:(t.map fun _=>false).filter id=[]:=by
  rw[List.filter_map];simp
 exact TR.zc5 (t.map fun v=>(v,false)) [H0] hmix (by rw[e2];exact hB.2) rfl (by rw[e1];exact hp) (by rw[e2,e3];rfl) (by rw[e1];exact hE) hK
theorem wbf{G Q1 Q2:Prop}{f:FuncId}{cargs:List SV}{b:Bool}(hs:Pure Tryz.prog f cargs (.t (.v (.bool b))))(k1:Q1)(k2:Q2)(h:Pure Tryz.prog f cargs (.t (.v (.bool b)))->Hold Q1->Hold Q2->G:=by
  intro hs k1 k2
  first
  | (apply TO.ztb hs;(iterate 3 exact rfl);(focus ((repeat' (first|exact trivial|exact LeB.t _|exact LeB.cp _ _|exact LeB.fn0 _|exact LeB.any _|refine And.intro ?_ ?_|refine LeB.tree rfl ?_|exact TLe.refl _|exact TLe.nil _|refine TLe.ags ?_|fail));done));exact k1.p;exact k2.p)
  | fail):G:=h hs ⟨k1⟩ ⟨k2⟩
abbrev onsT (l:List OnC):T:=.sl 3 (l.map onT)
def zaM(l:List OnC):Prop:=l.length≤100000000/\∀o∈l,o.name.length≤1000000000
theorem zaM.nil:zaM []:=⟨by simp,by simp⟩
theorem zaM.take{l:List OnC}(h:zaM l)(k:Nat):zaM (l.take k):=⟨by have:=h.1;simp;omega,fun o ho=>h.2 o (List.mem_of_mem_take ho)⟩
theorem zk4(a b:List OnC)(ha:zaM a)(hb:zaM b):Pure Tryz.prog 155 [.t (onsT a),.t (onsT b)] (.b (decide (a=b))):=by
 have hma:(a.map onT).length=a.length:=List.length_map _
 have hmb:(b.map onT).length=b.length:=List.length_map _
 have hla:=ha.1
 by_cases hl:a.length=b.length
 ·refine so Tryz.func155 ?_
  repeat' (first|refine wk ?_|exact wkc|intro hc|refine wk2 ?_ ?_|fail)
  all_goals try(exfalso;omega)
  refine TR.zal a.length (fun k=>a.take k=b.take k) (fun k=>[(0,.t (onsT a)),(1,.t (onsT b)),(12,.i (a.map onT).length),(13,.i k)]) (fun _=>[]) rfl (fun k hlt hk=>?_) (fun hk=>?_)
  ·have hx:=zaX onT hlt
   have hy:=zaX onT (l:=b) (show k<b.length by omega)
   have h1:=zaG hlt
   have h2:=zaG (l:=b) (show k<b.length by omega)
   have hu:=ha.2 _ (List.getElem_mem hlt)
   have hv:=hb.2 _ (List.getElem_mem (show k<b.length by omega))
   have hne:a[k]≠b[k]'(by omega)->a≠b:=fun h e=>h (by subst e;rfl)
   generalize a[k]=u at*
   generalize b[k]'(by omega)=v at*
   repeat' (first|refine wk ?_|exact wkc|intro hc|refine wk2 ?_ ?_|(apply TO.neOn;(iterate 3 exact rfl);assumption;assumption)|fail)
   ·rw[decide_eq_false (hne (by simpa using hc))];exact wkr
   ·refine zab.zak hlt ?_
    rw[h1,h2,hk,show u=v by simpa using hc]
  ·rw[List.take_length,hl,List.take_length]at hk
   rw[decide_eq_true hk]
   repeat' (first|refine wk ?_|exact wkc|intro hc|refine wk2 ?_ ?_|fail)
   exact wkr
 ·rw[decide_eq_false (fun e=>hl (by rw[e]))]
  refine so Tryz.func155 ?_
  repeat' (first|refine wk ?_|exact wkc|intro hc|refine wk2 ?_ ?_|fail)
  all_goals first
   | exact wkr
   | (exfalso;omega)
theorem ziK(a b:List OnC)(ha:zaM a)(hb:zaM b):Pure Tryz.prog 103 [.t (onsT a),.t (onsT b)] (.b (decide (a=b))):=by
 have hs:=zk4 a b ha hb
 generalize decide (a=b)=z at*
 refine so Tryz.func103 ?_
 repeat' (first|refine wk ?_|exact wkc|intro hc|refine wk2 ?_ ?_|refine wv hs ?_|fail)
 exact wkr
theorem zdD(a b:List OnC)(ha:zaM a)(hb:zaM b):Pure Tryz.prog 76 [.t (onsT a),.t (onsT b)] (.b (decide (a=b))):=by
 have hma:(a.map onT).length=a.length:=List.length_map _
 have hmb:(b.map onT).length=b.length:=List.length_map _
 have hla:=ha.1
 by_cases hl:a.length=b.length
 ·refine so Tryz.func76 ?_
  repeat' (first|refine wk ?_|exact wkc|intro hc|refine wk2 ?_ ?_|fail)
  all_goals try(exfalso;omega)
  refine TR.zal a.length (fun k=>a.take k=b.take k) (fun k=>[(0,.t (onsT a)),(1,.t (onsT b)),(5,.i k)]) (fun _=>[]) rfl (fun k hlt hk=>?_) (fun hk=>?_)
  ·have hx:=zaX onT hlt
   have hy:=zaX onT (l:=b) (show k<b.length by omega)
   have h1:=zaG hlt
   have h2:=zaG (l:=b) (show k<b.length by omega)
   have hu:=ha.2 _ (List.getElem_mem hlt)
   have hv:=hb.2 _ (List.getElem_mem (show k<b.length by omega))
   have hne:a[k]≠b[k]'(by omega)->a≠b:=fun h e=>h (by subst e;rfl)
   generalize a[k]=u at*
   generalize b[k]'(by omega)=v at*
   repeat' (first|refine wk ?_|exact wkc|intro hc|refine wk2 ?_ ?_|(apply TO.neOn;(iterate 3 exact rfl);assumption;assumption)|fail)
   ·rw[decide_eq_false (hne (by simpa using hc))];exact wkr
   ·refine zab.zak hlt ?_
    rw[h1,h2,hk,show u=v by simpa using hc]
  ·rw[List.take_length,hl,List.take_length]at hk
   rw[decide_eq_true hk]
   repeat' (first|refine wk ?_|exact wkc|intro hc|refine wk2 ?_ ?_|fail)
   exact wkr
 ·rw[decide_eq_false (fun e=>hl (by rw[e]))]
  refine so Tryz.func76 ?_
  repeat' (first|refine wk ?_|exact wkc|intro hc|refine wk2 ?_ ?_|fail)
  all_goals first
   | exact wkr
   | (exfalso;omega)
def noD:Decl:=⟨[],⟨0,by decide⟩,[]⟩
def zbI(vars:List Decl)(nm:Str):Decl:=(findD vars nm).getD noD
theorem zfx(vars:List Decl)(nm:Str):(zbI vars nm).clock=dclk vars nm:=by
 unfold zbI dclk
 cases findD vars nm <;> rfl
theorem zmA(nm:Str):∀(l:List Decl),(idxI (fun d=>d.name == nm) l= -1/\findD l nm=none)\/∃k:Nat,∃h:k<l.length,idxI (fun d=>d.name == nm) l=k/\findD l nm=some l[k]
 | []=>.inl ⟨rfl,rfl⟩
 | d::l=>by
   unfold idxI findD
   by_cases hd:d.name=nm
   ·rw[if_pos hd,if_pos (by simpa using hd)]
    exact .inr ⟨0,by simp,rfl,rfl⟩
   ·rw[if_neg hd,if_neg (by simpa using hd)]
    rcases zmA nm l with ⟨h1,h2⟩|⟨k,hk,h1,h2⟩
    ·rw[h1,h2];exact .inl ⟨rfl,rfl⟩
    ·rw[h1,h2,if_neg (by omega)]
     exact .inr ⟨k+1,by simpa using hk,by omega,rfl⟩
theorem zeP(nm:Str):∀(a b:List Decl),findD (a++b) nm=match findD a nm with|some d=>some d|none=>findD b nm
 | [],b=>rfl
 | x::a,b=>by
   rw[List.cons_append,findD,findD,zeP nm a b]
   split <;> rfl
theorem zsA{vars:List Decl}{nm:Str}{k:Nat}(hk:k<vars.length)(h:findD (vars.take k) nm=none):(vars[k].name=nm->findD vars nm=some vars[k])/\(vars[k].name≠nm->findD (vars.take (k+1)) nm=none):=by
 refine⟨fun e=>?_,fun e=>?_⟩
 ·conv=>lhs;rw[<-List.take_append_drop k vars]
  rw[zeP,h,List.drop_eq_getElem_cons hk,findD,if_pos e]
 ·rw[List.take_succ_eq_append_getElem hk,zeP,h,findD,if_neg e];rfl
abbrev chkC (vars:List Decl):List T:=[zac vars]
theorem ziP(d:Decl)(nm:Str):Pure Tryz.prog 154 [.t (zah d),.cp [.s nm] 0] (.b (d.name == nm)):=by
 have hd:zah d= .ag [.s d.name,T.n d.ty,.sl 3 (d.clock.map onT)]:=rfl
 rw[hd]
 refine so Tryz.func154 ?_
 repeat' (first|refine wu ?_|exact wkc|intro hc|refine wk2 ?_ ?_|fail)
 all_goals try(refine RetK.pure rfl ?_ rfl;exact Le.of_eq (by simp_all [pack,zah] <;> omega))
theorem zfs(vars:List Decl)(hl:vars.length≤1000000000)(nm:Str):Pure Tryz.prog 102 [.t (.ag (chkC vars)),.s nm] (.tup [.t (zah (zbI vars nm)),.b (findD vars nm).isSome]):=by
 have hs:=zgl 154 [.cp [.s nm] 0] rfl (fun d=>d.name == nm) vars hl (fun d=>ziP d nm)
 have hml:(vars.map zah).length=vars.length:=List.length_map _
 unfold zbI
 rcases zmA nm vars with ⟨h1,h2⟩|⟨k,hk,h1,h2⟩
 ·rw[h1]at hs
  rw[h2]
  refine so Tryz.func102 ?_
  repeat' (first|refine wkt ?_|refine wka ?_|refine wk ?_|exact wkc|intro hc|refine wk2 ?_ ?_|(apply TO.zev hs;(iterate 3 exact rfl);exact Les.refl _;exact rfl;exact rfl)|fail)
  exact wkr
 ·rw[h1]at hs
  rw[h2]
  have hx:=zbh hk
  generalize vars[k]=d at*
  unfold zb4 at hx
  refine so Tryz.func102 ?_
  repeat' (first|refine wkt ?_|refine wka ?_|refine wk ?_|exact wkc|intro hc|refine wk2 ?_ ?_|(apply TO.zev hs;(iterate 3 exact rfl);exact Les.refl _;exact rfl;exact rfl)|fail)
  exact wkr
theorem zdG(vars:List Decl)(hl:vars.length≤1000000000)(nm:Str):Pure Tryz.prog 75 [.t (zac vars),.s nm] (.tup [.t (zah (zbI vars nm)),.b (findD vars nm).isSome]):=by
 have hml:(vars.map zah).length=vars.length:=List.length_map _
 unfold zbI
 refine so Tryz.func75 ?_
 repeat' (first|refine wu ?_|exact wkc|intro hc|refine wk2 ?_ ?_|fail)
 refine TR.zal vars.length (fun k=>findD (vars.take k) nm=none) (fun k=>[(0,.t (zac vars)),(1,.s nm),(4,.ref 0 0),(6,.i k)]) (fun k=>[.cells [.s [],.i 0,.t (.v (.slice none 0 0))]]) rfl (fun k hlt ha=>?_) (fun ha=>?_)
 ·have hx:=zbh hlt
  have g:=zsA hlt ha
  generalize vars[k]=d at*
  unfold zb4 at hx
  repeat' (first|refine wu ?_|exact wkc|intro hc|refine wk2 ?_ ?_|fail)
  ·rw[g.1 hc]
   exact wkr
  ·exact zab.zak hlt (g.2 hc)
 ·rw[List.take_length]at ha
  rw[ha]
  repeat' (first|refine wu ?_|exact wkc|intro hc|refine wk2 ?_ ?_|fail)
  exact wkr
theorem zhK(vars:List Decl)(hl:vars.length≤1000000000)(hk:∀d∈vars,zaM d.clock)(nm:Str)(ck:List OnC)(hck:zaM ck):Pure Tryz.prog 104 [.t (.ag (chkC vars)),.s nm,.t (onsT ck)] (.b (onX vars nm ck)):=by
 have hf:=zfs vars hl nm
 unfold zbI at hf
 unfold onX
 cases hd:findD vars nm with
 | none=>
   rw[hd]at hf
   refine so Tryz.func104 ?_
   repeat' (first|refine wkt ?_|refine wka ?_|refine wk ?_|exact wkc|intro hc|refine wk2 ?_ ?_|refine wv hf ?_|fail)
   exact wkr
 | some d=>
   rw[hd]at hf
   have hs:=ziK d.clock ck (hk d (zcL hd).1) hck
   simp only[Option.getD_some,Option.isSome_some]at hf⊢
   have hdT:zah d= .ag [.s d.name,T.n d.ty,onsT d.clock]:=rfl
   rw[hdT]at hf
   generalize decide (d.clock=ck)=z at*
   refine so Tryz.func104 ?_
   repeat' (first|refine wkt ?_|refine wka ?_|refine wk ?_|exact wkc|intro hc|refine wk2 ?_ ?_|refine wv hf ?_|refine wv hs ?_|fail)
   exact wkr
def onCs(l:List OnC):List T:=((l.map onT).map T.cells).flatten
theorem zfD(l:List OnC):(onCs l).length=l.length*3:=by
 have:=(zcz (sz:=3) (l.map onT) (fun e he=>by obtain⟨d,_,rfl⟩:=List.mem_map.1 he;rfl)).1
 rw[List.length_map]at this
 exact this
theorem znJ(a b:List OnC):onCs (a++b)=onCs a++onCs b:=by simp[onCs]
def zOn:List T:=[.s [],.i 0,.i 0]
theorem zlX(ck:List OnC)(hck:ck.length≤1000000000)(o:OnC):Pure Tryz.prog 108 [.t (onsT ck),.t (onT o)] (.t (onsT (ck++[o]))):=by
 have m1:(ck.map onT).length=ck.length:=List.length_map _
 have e1:splice (zaY zOn ((ck.map onT).length+1)) 0 ((((ck.map onT).map T.cells).flatten).map .t)=mixC (onCs ck) zOn 1:=by
  have e:=zcB [] (onCs ck) zOn (ck.length+1) ck.length 0 (by omega) rfl (zfD _)
  rw[m1,show zaY zOn (ck.length+1)=mixC [] zOn (ck.length+1) by simp[mixC]]
  refine e.trans ?_
  rw[List.nil_append,show ck.length+1-ck.length=1 by omega]
 have e2:splice (mixC (onCs ck) zOn 1) (0+(ck.map onT).length*3) (((([.ag [.s o.name,T.n o.t,T.n o.tag]]).map T.cells).flatten).map .t)=(onCs (ck++[o])).map .t:=by
  have e:=zcB (onCs ck) (onCs [o]) zOn 1 1 (0+(ck.map onT).length*3) (Nat.le_refl _) (by rw[zfD,m1];omega) (zfD _)
  refine e.trans ?_
  rw[Nat.sub_self,zfW,znJ]
 have hsz:∀e∈(ck++[o]).map onT,e.cells.length=3:=fun e he=>by
  obtain⟨d,_,rfl⟩:=List.mem_map.1 he;rfl
 have m3:((ck++[o]).map onT).length=(ck.map onT).length+1:=by simp
 show Pure _ _ [.t (.sl 3 (ck.map onT)),.t (.ag [.s o.name,T.n o.t,T.n o.tag])] _
 refine so Tryz.func108 ?_
 repeat' (first|refine wu ?_|exact wkc|intro hc|refine wk2 ?_ ?_|(apply TO.zjZ (b:=(ck.map onT).length) (c:=(ck.map onT).length+1) zam;(iterate 8 exact rfl);omega;omega;exact rfl)|(apply TO.zlf (H':=[.cells (mixC (onCs ck) zOn 1)]) zam;(iterate 10 exact rfl);exact Nat.le_refl _;(rw[zbX];show 0+(ck.map onT).length*3≤((ck.map onT).length+1)*3;omega);(exact congrArg (fun c=>[Blk.cells c]) e1))|fail)
 apply TO.zlB (H':=[.cells ((onCs (ck++[o])).map .t)]) zam
 iterate 12 exact rfl
 ·rw[zkC,zfD,m1];show 0+(ck.length+1)*3≤ck.length*3+1*3;omega
 ·exact congrArg (fun c=>[Blk.cells c]) e2
 refine TO.zh1 18 3 0 ((ck.map onT).length+1) (es:=(ck++[o]).map onT) rfl rfl (by rw[m3,m1,List.length_map,zfD];simp) (fun j c hj=>hj) m3.symm hsz rfl rfl ?_
 repeat' (first|refine wu ?_|exact wkc|intro hc|refine wk2 ?_ ?_|fail)
 exact wkr
theorem zey(f:Nat->Ex->Int):∀(a b:List Ex) (i:Nat),zcv f i (a++b)=orE (zcv f i a) (zcv f (i+a.length) b)
 | [],b,i=>by simp[zcv,orE]
 | x::a,b,i=>by
   rw[List.cons_append,zcv,zcv,zey f a b,List.length_cons,show i+1+a.length=i+(a.length+1) by omega]
   unfold orE;split <;> simp_all
theorem zj7{f:Nat->Ex->Int}{l:List Ex}{k:Nat}(hk:k<l.length)(h:zcv f 0 (l.take k)=0)(hn:f k l[k]=0):zcv f 0 (l.take (k+1))=0:=by
 rw[List.take_succ_eq_append_getElem hk,zey,h,List.length_take,Nat.min_eq_left (by omega),Nat.zero_add]
 simp[zcv,orE,hn]
theorem zoQ{f:Nat->Ex->Int}{l:List Ex}{k:Nat}(hk:k<l.length)(h:zcv f 0 (l.take k)=0)(hn:f k l[k]≠0):zcv f 0 l=f k l[k]:=by
 conv=>lhs;rw[<-List.take_append_drop k l]
 rw[zey,h,List.drop_eq_getElem_cons hk,zcv,List.length_take,Nat.min_eq_left (by omega),Nat.zero_add]
 simp[orE,hn]
theorem zg6(ck:List OnC)(j:Int):Pure Tryz.prog 105 [.i j,.cp [onsT ck] 0] (.t (onsT ck)):=by
 refine so Tryz.func105 ?_
 repeat' (first|refine wu ?_|exact wkc|intro hc|refine wk2 ?_ ?_|fail)
 exact wkr
theorem zmm(ck:List OnC)(k:Nat)(hk:k≤ck.length)(j:Int):Pure Tryz.prog 106 [.i j,.cp [onsT ck] 0,.cp [.i k] 0] (.t (onsT (ck.take k))):=by
 have m1:(ck.map onT).length=ck.length:=List.length_map _
 rw[show onsT (ck.take k)= .sl 3 ((ck.map onT).take k) by rw[onsT,List.map_take]]
 refine so Tryz.func106 ?_
 repeat' (first|refine wu ?_|exact wkc|intro hc|refine wk2 ?_ ?_|fail)
 exact wkr
theorem zmh(ck:List OnC)(hck:ck.length≤1000000000)(e:Ex)(j:Nat)(hj:j≤1000000000):Pure Tryz.prog 107 [.i j,.cp [onsT ck] 0,.cp (exC e) 0] (.t (onsT (ck++[⟨e.name,e.t,nI j⟩]))):=by
 have hs:=zlX ck hck ⟨e.name,e.t,nI j⟩
 rw[show onT ⟨e.name,e.t,nI j⟩= .ag [.s e.name,T.n e.t,T.i j] from by show T.ag [.s e.name,T.n e.t,T.i (nI j).1]=_;rw[zq4 (by omega)]]at hs
 unfold exC
 refine so Tryz.func107 ?_
 repeat' (first|refine wu ?_|exact wkc|intro hc|refine wk2 ?_ ?_|refine wv hs ?_|fail)
 exact wkr
abbrev chkT (vars:List Decl):SV:=.t (.ag [zac vars])
theorem zqL{vars:List Decl}{e:Ex}{ck:List OnC}(h:zdX vars e ck=0)(hck:zaM ck)(hn:e.name.length≤1000000000)(j:Nat):zaM (zaQ e ck j):=by
 unfold zaQ
 split
 ·exact⟨by have:=hck.1;simp;omega,fun o ho=>hck.2 o ((List.dropLast_sublist ck).subset ho)⟩
 ·split
  ·rename_i h8 h9
   have hlt:ck.length<4:=by
    unfold zdX at h
    rw[if_neg (by omega),if_neg h8,if_pos h9]at h
    split at h
    ·split at h
     ·assumption
     ·cases h
    ·cases h
   refine⟨by simp;omega,fun o ho=>?_⟩
   simp at ho
   rcases ho with ho|rfl
   ·exact hck.2 o ho
   ·exact hn
  ·exact hck
set_option maxHeartbeats 8000000 in
theorem zjG (vars:List Decl) (hl:vars.length≤1000000000) (hk:∀d∈vars,zaM d.clock):∀(m:Nat) (e:Ex),wEx e≤m->wEx e≤1000000000->(∀x∈flat e,x.name.length≤1000000000)->∀ck,zaM ck->
  Pure Tryz.prog 69 [chkT vars,.t (.ag (exC e)),.t (onsT ck)] (.i (zcu vars e ck)):=by
 intro m
 induction m with
 | zero=>intro e he;have:=zaI e;omega
 | succ m ih0=>
   intro e he hb hn ck hck
   have hself:=hn e (zeY.2 (.inl rfl))
   have ih:∀a∈e.args,∀ck,zaM ck->Pure Tryz.prog 69 [chkT vars,.t (.ag (exC a)),.t (onsT ck)] (.i (zcu vars a ck)):=fun a ha=>ih0 a (by have:=zaE ha;omega) (by have:=zaE ha;omega) (fun x hx=>hn x (zc0 ha x hx))
   clear ih0
   have hon:=zhK vars hl hk e.name ck hck
   have hck1:=hck.1
   have hml:(e.args.map exT).length=e.args.length:=List.length_map _
   have mck:(ck.map onT).length=ck.length:=List.length_map _
   have hal:e.args.length≤1000000000:=by
    have:∀l:List Ex,l.length≤(l.map wEx).sum:=fun l=>by
     induction l with
     | nil=>simp
     | cons y l ih=>have:=zaI y;simp;omega
    have h2:=zet e
    have:=this e.args
    omega
   rw[zrP]
   by_cases h1:e.kind.1=1\/e.kind.1=11
   ·rw[if_pos h1]
    clear ih hon
    unfold exC
    refine so Tryz.func69 ?_
    repeat' (first|refine wkt ?_|refine wka ?_|refine wk ?_|exact wkc|intro hc|refine wk2 ?_ ?_|fail)
    all_goals first
     | exact wkr
     | (exfalso;omega)
   rw[if_neg h1]
   by_cases hz:zdX vars e ck=0
   ·
    have hus:=zqL hz hck hself
    have hor:orE (zdX vars e ck) (zcv (fun i a=>zcu vars a (zaQ e ck i)) 0 e.args)=zcv (fun i a=>zcu vars a (zaQ e ck i)) 0 e.args:=by rw[hz];rfl
    rw[hor]
    clear hor
    unfold exC at*
    by_cases h2:e.kind.1=2
    let fid:FuncId:=105
    let caps:List SV:=[.cp [onsT ck] 0]
    have hfn:∀k:Nat,k<e.args.length->Pure Tryz.prog fid (.i k::caps) (.t (onsT (zaQ e ck k))):=fun k _=>by
     rw[show zaQ e ck k=ck by unfold zaQ;rw[if_neg (by omega),if_neg (by omega)]]
     exact zg6 ck k
    have hx:onX vars e.name ck=true:=by
     unfold zdX at hz
     rw[if_pos h2]at hz
     exact Classical.byContradiction fun h=>by rw[if_neg h]at hz;cases hz
    rw[hx]at hon
    refine so Tryz.func69 ?_
    repeat' (first|refine wkt ?_|refine wka ?_|refine wk ?_|exact wkc|intro hc|refine wk2 ?_ ?_|refine wv hon ?_|fail)
    rotate_left
    by_cases h8:e.kind.1=8
    obtain⟨c0,o,hcc⟩:∃c0 o,ck=c0++[o]:=by
     rcases List.eq_nil_or_concat ck with h|⟨c0,o,h⟩
     ·subst h
      unfold zdX at hz
      rw[if_neg h2,if_pos h8]at hz
      simp at hz
     ·exact⟨c0,o,by simpa using h⟩
    have hzz:o=onOf e/\onX vars e.name c0=true:=by
     unfold zdX at hz
     rw[if_neg h2,if_pos h8]at hz
     exact Classical.byContradiction fun h=>by
      rw[if_neg (by rw[hcc];simpa using h)]at hz;cases hz
    obtain⟨k0,hk0⟩:∃k0,k0=c0.length:=⟨_,rfl⟩
    have hlk:ck.length=k0+1:=by rw[hcc,hk0];simp
    have htk:ck.take k0=c0:=by rw[hcc,hk0];simp
    have hlast:(ck.map onT)[k0]?=some (.ag [.s o.name,T.n o.t,T.n o.tag]):=by rw[hcc,hk0];simp[onT]
    have hon:=zhK vars hl hk e.name (ck.take k0) (hck.take k0)
    rw[htk,hzz.2,<-htk,show onsT (ck.take k0)= .sl 3 ((ck.map onT).take k0) by rw[onsT,List.map_take]]at hon
    have hnv:(((ck.map onT).length:Int)-1)=(k0:Int):=by omega
    have hno:o.name.length≤1000000000:=hck.2 o (by rw[hcc];simp)
    have hne:(!decide (o=onOf e))=false:=by rw[hzz.1];simp
    let fid:FuncId:=106
    let caps:List SV:=[.cp [onsT ck] 0,.cp [.i k0] 0]
    have hfn:∀k:Nat,k<e.args.length->Pure Tryz.prog fid (.i k::caps) (.t (onsT (zaQ e ck k))):=fun k _=>by
     rw[show zaQ e ck k=ck.take k0 by unfold zaQ;rw[if_pos h8,List.dropLast_eq_take,hlk];simp]
     exact zmm ck k0 (by omega) k
    refine so Tryz.func69 ?_
    repeat' (first|refine wkt ?_|refine wka ?_|exact wkc|intro hc|refine wk2 ?_ ?_|(apply TO.zmy;(iterate 3 exact rfl);omega;omega)|fail)
    rw[hnv]
    repeat' (first|refine wkt ?_|refine wka ?_|refine rg [.i k0,.b false,.b false,.t (onsT ck),.i k0,.cp [.s o.name,T.n o.t,T.n o.tag] 0,.t (.ag [.s o.name,T.n o.t,T.n o.tag]),.cp [T.n e.kind,T.n e.op,T.n e.t,T.n e.v,.s e.name,.sl 6 (e.args.map exT)] 4,.s e.name,.cp [T.n e.kind,T.n e.op,T.n e.t,T.n e.v,.s e.name,.sl 6 (e.args.map exT)] 2,.t (T.n e.t),.cp [T.n e.kind,T.n e.op,T.n e.t,T.n e.v,.s e.name,.sl 6 (e.args.map exT)] 3,.t (T.n e.v),.t (.ag [.s e.name,T.n e.t,T.n e.v]),.b false,.b false,.b false,chkT vars,.cp [T.n e.kind,T.n e.op,T.n e.t,T.n e.v,.s e.name,.sl 6 (e.args.map exT)] 4,.s e.name,.t (onsT ck),.i k0,.t (.sl 3 ((ck.map onT).take k0)),.b true,.b false,.b false] ?_ ?_|refine wv hon ?_|(apply TO.zpi (b:=onOf e);(iterate 3 exact rfl);assumption;assumption;(first|exact hne|exact rfl))|exact trivial|exact And.intro rfl rfl|refine And.intro (fun H env=>?_) ?_|refine wk ?_|exact wkc|intro hc|refine wk2 ?_ ?_|fail)
    rotate_left
    by_cases h9:e.kind.1=9
    have hx:onX vars e.name ck=true/\ck.length<4:=by
     unfold zdX at hz
     rw[if_neg h2,if_neg h8,if_pos h9]at hz
     by_cases ha:onX vars e.name ck=true
     ·rw[if_pos ha]at hz
      exact⟨ha,Classical.byContradiction fun h=>by rw[if_neg h]at hz;cases hz⟩
     ·rw[if_neg ha]at hz;cases hz
    rw[hx.1]at hon
    have hx4:=hx.2
    let fid:FuncId:=107
    let caps:List SV:=[.cp [onsT ck] 0,.cp [T.n e.kind,T.n e.op,T.n e.t,T.n e.v,.s e.name,.sl 6 (e.args.map exT)] 0]
    have hfn:∀k:Nat,k<e.args.length->Pure Tryz.prog fid (.i k::caps) (.t (onsT (zaQ e ck k))):=fun k hk=>by
     rw[show zaQ e ck k=ck++[⟨e.name,e.t,nI k⟩] by unfold zaQ;rw[if_neg h8,if_pos h9]]
     exact zmh ck (by omega) e k (by omega)
    refine so Tryz.func69 ?_
    repeat' (first|refine wkt ?_|refine wka ?_|refine wk ?_|exact wkc|intro hc|refine wk2 ?_ ?_|refine wv hon ?_|fail)
    rotate_left
    let fid:FuncId:=105
    let caps:List SV:=[.cp [onsT ck] 0]
    have hfn:∀k:Nat,k<e.args.length->Pure Tryz.prog fid (.i k::caps) (.t (onsT (zaQ e ck k))):=fun k _=>by
     rw[show zaQ e ck k=ck by unfold zaQ;rw[if_neg (by omega),if_neg (by omega)]]
     exact zg6 ck k
    clear hon
    refine so Tryz.func69 ?_
    repeat' (first|refine wkt ?_|refine wka ?_|refine wk ?_|exact wkc|intro hc|refine wk2 ?_ ?_|fail)
    all_goals
     refine TR.zal e.args.length (fun k=>zcv (fun i a=>zcu vars a (zaQ e ck i)) 0 (e.args.take k)=0) (fun k=>[(3,.cp [zac vars] 0),(7,.fn fid caps),(73,.t (.sl 6 (e.args.map exT))),(74,.i (e.args.map exT).length),(75,.i k)]) (fun _=>[]) rfl (fun k hlt ha=>?_) (fun ha=>?_)
     ·have hx:=zbd hlt
      have g1:=zoQ (f:=fun i a=>zcu vars a (zaQ e ck i)) hlt ha
      have g2:=zj7 (f:=fun i a=>zcu vars a (zaQ e ck i)) hlt ha
      have hi:=ih _ (List.getElem_mem hlt) (zaQ e ck k) (hus k)
      have hf:=hfn k hlt
      generalize zcu vars e.args[k] (zaQ e ck k)=r at*
      generalize e.args[k]=a at*
      generalize zaQ e ck k=cu at*
      unfold exC at hx
      repeat' (first|refine wkt ?_|refine wka ?_|refine rg [chkT vars,.t (.ag [T.n a.kind,T.n a.op,T.n a.t,T.n a.v,.s a.name,.sl 6 (a.args.map exT)]),.fn fid caps,.i k,.t (onsT cu),.i r,.i r] ?_ ?_|refine wv hi ?_|(apply TO.zev hf;(iterate 3 exact rfl);exact Les.refl _;exact rfl;exact rfl)|exact trivial|exact And.intro rfl rfl|refine And.intro (fun H env=>?_) ?_|refine wk ?_|exact wkc|intro hc|refine wk2 ?_ ?_|fail)
      all_goals first
       | exact zab.zak hlt (g2 (by omega))
       | (rw[g1 (by omega)];(repeat' (first|refine zab.ret ?_|refine wk ?_|fail));exact wkr)
     ·rw[List.take_length]at ha
      rw[ha]
      repeat' (first|refine wu ?_|exact wkc|intro hc|refine wk2 ?_ ?_|fail)
      exact wkr
   ·
    unfold exC at*
    clear ih
    unfold zdX at hz⊢
    by_cases h2:e.kind.1=2
    ·rw[if_pos h2]at hz⊢
     have hx:onX vars e.name ck=false:=by
      cases hq:onX vars e.name ck with
      | false=>rfl
      | true=>rw[hq]at hz;simp at hz
     rw[hx]at hon⊢
     simp only[Bool.false_eq_true,if_false]
     refine so Tryz.func69 ?_
     repeat' (first|refine wkt ?_|refine wka ?_|refine wk ?_|exact wkc|intro hc|refine wk2 ?_ ?_|refine wv hon ?_|fail)
     exact wkr
    rw[if_neg h2]at hz⊢
    by_cases h8:e.kind.1=8
    ·rw[if_pos h8]at hz⊢
     rw[if_neg (fun h=>hz (if_pos h))]
     have hz:=fun h=>hz (if_pos h)
     rcases List.eq_nil_or_concat ck with h|⟨c0,o,h⟩
     ·subst h
      refine so Tryz.func69 ?_
      repeat' (first|refine wkt ?_|refine wka ?_|refine rg [.i (-1),.b true,.b true,.t (.v undef),.t (.v undef),.t (.v undef),.t (.v undef),.t (.v undef),.t (.v undef),.t (.v undef),.t (.v undef),.t (.v undef),.t (.v undef),.t (.v undef),.t (.v undef),.b true,.b true,.t (.v undef),.t (.v undef),.t (.v undef),.t (.v undef),.t (.v undef),.t (.v undef),.t (.v undef),.t (.v undef),.b true] ?_ ?_|exact trivial|exact And.intro rfl rfl|refine And.intro (fun H env=>?_) ?_|refine wk ?_|exact wkc|intro hc|refine wk2 ?_ ?_|fail)
      exact wkr
     have hcc:ck=c0++[o]:=by simpa using h
     obtain⟨k0,hk0⟩:∃k0,k0=c0.length:=⟨_,rfl⟩
     have hlk:ck.length=k0+1:=by rw[hcc,hk0];simp
     have htk:ck.take k0=c0:=by rw[hcc,hk0];simp
     have hlast:(ck.map onT)[k0]?=some (.ag [.s o.name,T.n o.t,T.n o.tag]):=by rw[hcc,hk0];simp[onT]
     have hnv:(((ck.map onT).length:Int)-1)=(k0:Int):=by omega
     have hno:o.name.length≤1000000000:=hck.2 o (by rw[hcc];simp)
     by_cases ho:o=onOf e
     ·have hx:onX vars e.name c0=false:=by
       cases hq:onX vars e.name c0 with
       | false=>rfl
       | true=>exact absurd (by rw[hcc];simp[ho,hq]) hz
      have hon:=zhK vars hl hk e.name (ck.take k0) (hck.take k0)
      rw[htk,hx,<-htk,show onsT (ck.take k0)= .sl 3 ((ck.map onT).take k0) by rw[onsT,List.map_take]]at hon
      have hne:(!decide (o=onOf e))=false:=by rw[ho];simp
      refine so Tryz.func69 ?_
      repeat' (first|refine wkt ?_|refine wka ?_|exact wkc|intro hc|refine wk2 ?_ ?_|(apply TO.zmy;(iterate 3 exact rfl);omega;omega)|fail)
      rw[hnv]
      repeat' (first|refine wkt ?_|refine wka ?_|refine rg [.i k0,.b false,.b false,.t (onsT ck),.i k0,.cp [.s o.name,T.n o.t,T.n o.tag] 0,.t (.ag [.s o.name,T.n o.t,T.n o.tag]),.cp [T.n e.kind,T.n e.op,T.n e.t,T.n e.v,.s e.name,.sl 6 (e.args.map exT)] 4,.s e.name,.cp [T.n e.kind,T.n e.op,T.n e.t,T.n e.v,.s e.name,.sl 6 (e.args.map exT)] 2,.t (T.n e.t),.cp [T.n e.kind,T.n e.op,T.n e.t,T.n e.v,.s e.name,.sl 6 (e.args.map exT)] 3,.t (T.n e.v),.t (.ag [.s e.name,T.n e.t,T.n e.v]),.b false,.b false,.b false,chkT vars,.cp [T.n e.kind,T.n e.op,T.n e.t,T.n e.v,.s e.name,.sl 6 (e.args.map exT)] 4,.s e.name,.t (onsT ck),.i k0,.t (.sl 3 ((ck.map onT).take k0)),.b false,.b true,.b true] ?_ ?_|refine wv hon ?_|(apply TO.zpi (b:=onOf e);(iterate 3 exact rfl);assumption;assumption;(first|exact hne|exact rfl))|exact trivial|exact And.intro rfl rfl|refine And.intro (fun H env=>?_) ?_|refine wk ?_|exact wkc|intro hc|refine wk2 ?_ ?_|fail)
      exact wkr
     ·have hne:(!decide (o=onOf e))=true:=by simp[ho]
      refine so Tryz.func69 ?_
      repeat' (first|refine wkt ?_|refine wka ?_|exact wkc|intro hc|refine wk2 ?_ ?_|(apply TO.zmy;(iterate 3 exact rfl);omega;omega)|fail)
      rw[hnv]
      repeat' (first|refine wkt ?_|refine wka ?_|refine rg [.i k0,.b false,.b false,.t (onsT ck),.i k0,.cp [.s o.name,T.n o.t,T.n o.tag] 0,.t (.ag [.s o.name,T.n o.t,T.n o.tag]),.cp [T.n e.kind,T.n e.op,T.n e.t,T.n e.v,.s e.name,.sl 6 (e.args.map exT)] 4,.s e.name,.cp [T.n e.kind,T.n e.op,T.n e.t,T.n e.v,.s e.name,.sl 6 (e.args.map exT)] 2,.t (T.n e.t),.cp [T.n e.kind,T.n e.op,T.n e.t,T.n e.v,.s e.name,.sl 6 (e.args.map exT)] 3,.t (T.n e.v),.t (.ag [.s e.name,T.n e.t,T.n e.v]),.b true,.b true,.b true,.t (.v undef),.t (.v undef),.t (.v undef),.t (.v undef),.t (.v undef),.t (.v undef),.t (.v undef),.t (.v undef),.b true] ?_ ?_|(apply TO.zpi (b:=onOf e);(iterate 3 exact rfl);assumption;assumption;(first|exact hne|exact rfl))|exact trivial|exact And.intro rfl rfl|refine And.intro (fun H env=>?_) ?_|refine wk ?_|exact wkc|intro hc|refine wk2 ?_ ?_|fail)
      exact wkr
    rw[if_neg h8]at hz⊢
    by_cases h9:e.kind.1=9
    ·rw[if_pos h9]at hz⊢
     cases hq:onX vars e.name ck with
     | false=>
       rw[hq]at hon
       simp only[Bool.false_eq_true,if_false]
       refine so Tryz.func69 ?_
       repeat' (first|refine wkt ?_|refine wka ?_|refine wk ?_|exact wkc|intro hc|refine wk2 ?_ ?_|refine wv hon ?_|fail)
       exact wkr
     | true=>
       rw[hq]at hon
       rw[hq]at hz
       have h4:¬ck.length<4:=fun h=>hz (by simp[h])
       simp only[if_true,if_neg h4]
       refine so Tryz.func69 ?_
       repeat' (first|refine wkt ?_|refine wka ?_|refine wk ?_|exact wkc|intro hc|refine wk2 ?_ ?_|refine wv hon ?_|fail)
       exact wkr
    ·rw[if_neg h9]at hz;exact absurd rfl hz
end Go.Proofs.YtcbhlhmebbkgnaaGreat
