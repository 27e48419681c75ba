import Derived.Test.YtdicfgideclbdaaGreatDoorPk30
import Derived.Test.YtdicfgideclbdaaGreatDoorPk41
import Derived.Test.YtdicfgideclbdaaGreatDoorPk42
import Derived.Test.YtdicfgideclbdaaGreatDoorPk49
import Derived.Test.YtdicfgideclbdaaGreatDoorPk34
set_option maxHeartbeats 64000000
set_option linter.all false
namespace Go.Proofs.YtdicfgideclbdaaGreatDoor
open Go Go.TL Go.ChangeShapes Go.WideShapes Go.ChangeAt Go.RowKit
section
attribute [local irreducible] TR TO Then zal RetK Sound zab Kf GG zaR
variable {p:Prog}{o a:OnC}
structure Rb (p:Prog) (s:Str):Prop where
 err:(scan s).2.2=0
 tk:(scan s).1.map (fun t=>(t.1,t.2.1))=tkPr p
theorem zBr(h:(zcL p).2=0)(hs:(ze9 p).length≤65536):Rb p (ze9 p):=by
 have h0:=(ziu (zc1 h).1).2;obtain⟨h1,h2⟩:=zyf (fun u hu=>(h0 u hu).2.2) (fun n hn=>(zpi h n hn).1) ((ze9 p).length+1) (qbQ _);have hscan:=zmn hs;refine⟨?_,?_⟩
 ·rw[hscan];show(lexF _ _).2.2=0;rw[h2]
 ·rw[hscan,<-h1];simp only[placed,qa7];rfl
theorem zyi{s:Str}(h:(zcL p).2=0)(hr:Rb p s):∃j,(scan s).2.2=0/\(rdr (scan s).1 []).program 0= .ok p j/\¬j<(scan s).1.length/\j≤(scan s).1.length/\(zaY p).2=0:=by
 have hsh:=(zc1 h).1;obtain⟨⟨t1,t2⟩,t3⟩:=ziu hsh;have hl:(scan s).1.length=(tkPr p).length:=by rw[<-hr.tk,qac]
 have e:=zqO (fun u hu=>(t3 u hu).1) t1 (fun n hn=>(zpi h n hn).2 (tkPr p)) t2;refine⟨(tkPr p).length,hr.err,?_,oA,oA,hsh⟩;have hR:rdr (scan s).1 []=⟨tkPr p,[]⟩:=by unfold rdr;rw[hr.tk]
 rw[hR,e]
def zjB(p:Prog):Bool:=decide ((zcL p).2=0) && decide ((zgF p).2=0) && decide ((zgF p).1.length≤65536)
theorem zmj (p:Prog) (hw:(T.ag (za3 p)).w≤2200000):Pure Tryz.prog 7 [.t (.ag (za3 p))] (.tup [.s (zgF p).1,.b (zjB p)]):=by
 have s1:=zmo p (qax hw oB);have s2:=zfi p (qax hw oB) (zyV hw);unfold zjB;generalize zgF p=z at*;obtain⟨tx,c⟩:=z;generalize zcL p=y at*;obtain⟨⟨a1,a2⟩,y⟩:=y;dsimp only at s1 s2⊢;unfold za3 at*;by_cases h1:y=0
 ·by_cases h2:c=0
  ·subst h1 h2;rw[decide_eq_true (rfl:(0:Int)=0),qcq,qcq];by_cases h3:tx.length≤65536
   ·rw[decide_eq_true h3];exact zwbd
   ·rw[decide_eq_false h3];exact zwbd
  ·subst h1;rw[decide_eq_false h2,Bool.and_false,qcA];exact zwbd
 ·rw[decide_eq_false h1,qcA,qcA];exact zwbd
theorem zj4(fid:FuncId)(l:List Decl)(hl:l.length≤1000000000)(hp:∀x∈l,Pure Tryz.prog fid [.t (zag x),.t (zag x)] (.b true)):Pure Tryz.prog 78 [.t (.sl 3 (l.map zag)),.t (.sl 3 (l.map zag)),.fn fid []] (.b true):=by
 have hm:(l.map zag).length=l.length:=qac _;refine so Tryz.func78 ?_;repeat' (first|refine wu ?_|exact wkc|refine wk2 ?_ ?_|intro hc)
 refine TR.zay l.length (fun _=>True) (fun k=>[(1,.t (.sl 3 (l.map zag))),(2,.fn fid []),(15,.t (.sl 3 (l.map zag))),(16,.i l.length),(17,.i k)]) (fun _=>[]) trivial (fun k hlt _=>?_) (fun _=>?_) ⟨rfl,rfl,rfl,by rw[<-hm];rfl,rfl,trivial⟩
 ·have hx:=zaL zag hlt;exact zwcq
 ·refine ya ?_;exact wkr
theorem zlx(fid:FuncId)(l:List Equ)(hl:l.length≤1000000000)(hp:∀x∈l,Pure Tryz.prog fid [.t (equT x),.t (equT x)] (.b true)):Pure Tryz.prog 80 [.t (.sl 7 (l.map equT)),.t (.sl 7 (l.map equT)),.fn fid []] (.b true):=by
 have hm:(l.map equT).length=l.length:=qac _;refine so Tryz.func80 ?_;repeat' (first|refine wu ?_|exact wkc|refine wk2 ?_ ?_|intro hc)
 refine TR.zay l.length (fun _=>True) (fun k=>[(1,.t (.sl 7 (l.map equT))),(2,.fn fid []),(15,.t (.sl 7 (l.map equT))),(16,.i l.length),(17,.i k)]) (fun _=>[]) trivial (fun k hlt _=>?_) (fun _=>?_) ⟨rfl,rfl,rfl,by rw[<-hm];rfl,rfl,trivial⟩
 ·have hx:=zaL equT hlt;exact zwcq
 ·refine ya ?_;exact wkr
theorem zj5(fid:FuncId)(l:List Tran)(hl:l.length≤1000000000)(hp:∀x∈l,Pure Tryz.prog fid [.t (zaw x),.t (zaw x)] (.b true)):Pure Tryz.prog 158 [.t (.sl 8 (l.map zaw)),.t (.sl 8 (l.map zaw)),.fn fid []] (.b true):=by
 have hm:(l.map zaw).length=l.length:=qac _;refine so Tryz.func158 ?_;repeat' (first|refine wu ?_|exact wkc|refine wk2 ?_ ?_|intro hc)
 refine TR.zay l.length (fun _=>True) (fun k=>[(1,.t (.sl 8 (l.map zaw))),(2,.fn fid []),(15,.t (.sl 8 (l.map zaw))),(16,.i l.length),(17,.i k)]) (fun _=>[]) trivial (fun k hlt _=>?_) (fun _=>?_) ⟨rfl,rfl,rfl,by rw[<-hm];rfl,rfl,trivial⟩
 ·have hx:=zaL zaw hlt;exact zwcq
 ·refine ya ?_;exact wkr
theorem zfP(fid:FuncId)(l:List Auto)(hl:l.length≤1000000000)(hp:∀x∈l,Pure Tryz.prog fid [.t (zai x),.t (zai x)] (.b true)):Pure Tryz.prog 82 [.t (.sl 1 (l.map zai)),.t (.sl 1 (l.map zai)),.fn fid []] (.b true):=by
 have hm:(l.map zai).length=l.length:=qac _;refine so Tryz.func82 ?_;repeat' (first|refine wu ?_|exact wkc|refine wk2 ?_ ?_|intro hc)
 refine TR.zay l.length (fun _=>True) (fun k=>[(1,.t (.sl 1 (l.map zai))),(2,.fn fid []),(15,.t (.sl 1 (l.map zai))),(16,.i l.length),(17,.i k)]) (fun _=>[]) trivial (fun k hlt _=>?_) (fun _=>?_) ⟨rfl,rfl,rfl,by rw[<-hm];rfl,rfl,trivial⟩
 ·have hx:=zaL zai hlt;have hd:=hp _ (qai hlt);generalize l[k]=d at hx hd;rw[zcc]at hx hd;refine ye hd ?_;exact zab.zaD hlt trivial
 ·refine ya ?_;exact wkr
theorem zlz(fid:FuncId)(l:List Sta)(hl:l.length≤1000000000)(hp:∀x∈l,Pure Tryz.prog fid [.t (staT x),.t (staT x)] (.b true)):Pure Tryz.prog 129 [.t (.sl 6 (l.map staT)),.t (.sl 6 (l.map staT)),.fn fid []] (.b true):=by
 have hm:(l.map staT).length=l.length:=qac _;refine so Tryz.func129 ?_;repeat' (first|refine wu ?_|exact wkc|refine wk2 ?_ ?_|intro hc)
 refine TR.zay l.length (fun _=>True) (fun k=>[(1,.t (.sl 6 (l.map staT))),(2,.fn fid []),(15,.t (.sl 6 (l.map staT))),(16,.i l.length),(17,.i k)]) (fun _=>[]) trivial (fun k hlt _=>?_) (fun _=>?_) ⟨rfl,rfl,rfl,by rw[<-hm];rfl,rfl,trivial⟩
 ·have hx:=zaL staT hlt;have hd:=hp _ (qai hlt);generalize l[k]=d at hx hd;rw[zcD]at hx hd;refine ye hd ?_;exact zab.zaD hlt trivial
 ·refine ya ?_;exact wkr
theorem zhY(fid:FuncId)(l:List Ex)(hl:l.length≤1000000000)(hp:∀x∈l,Pure Tryz.prog fid [.t (exT x),.t (exT x)] (.b true)):Pure Tryz.prog 84 [.t (.sl 6 (l.map exT)),.t (.sl 6 (l.map exT)),.fn fid []] (.b true):=by
 have hm:(l.map exT).length=l.length:=qac _;refine so Tryz.func84 ?_;repeat' (first|refine wu ?_|exact wkc|refine wk2 ?_ ?_|intro hc)
 refine TR.zay l.length (fun _=>True) (fun k=>[(1,.t (.sl 6 (l.map exT))),(2,.fn fid []),(15,.t (.sl 6 (l.map exT))),(16,.i l.length),(17,.i k)]) (fun _=>[]) trivial (fun k hlt _=>?_) (fun _=>?_) ⟨rfl,rfl,rfl,by rw[<-hm];rfl,rfl,trivial⟩
 ·have hx:=zaL exT hlt;have hd:=hp _ (qai hlt);generalize l[k]=d at hx hd;rw[zan]at hx hd;unfold exC at hx hd;refine ye hd ?_;exact zab.zaD hlt trivial
 ·refine ya ?_;exact wkr
theorem znl(fid:FuncId)(l:List En)(hl:l.length≤1000000000)(hp:∀x∈l,Pure Tryz.prog fid [.t (enT x),.t (enT x)] (.b true)):Pure Tryz.prog 34 [.t (.sl 2 (l.map enT)),.t (.sl 2 (l.map enT)),.fn fid []] (.b true):=by
 have hm:(l.map enT).length=l.length:=qac _;refine so Tryz.func34 ?_;repeat' (first|refine wu ?_|exact wkc|refine wk2 ?_ ?_|intro hc)
 refine TR.zay l.length (fun _=>True) (fun k=>[(1,.t (.sl 2 (l.map enT))),(2,.fn fid []),(15,.t (.sl 2 (l.map enT))),(16,.i l.length),(17,.i k)]) (fun _=>[]) trivial (fun k hlt _=>?_) (fun _=>?_) ⟨rfl,rfl,rfl,by rw[<-hm];rfl,rfl,trivial⟩
 ·have hx:=zaL enT hlt;exact zwcq
 ·refine ya ?_;exact wkr
theorem zly(fid:FuncId)(l:List Nod)(hl:l.length≤1000000000)(hp:∀x∈l,Pure Tryz.prog fid [.t (nodT x),.t (nodT x)] (.b true)):Pure Tryz.prog 36 [.t (.sl 8 (l.map nodT)),.t (.sl 8 (l.map nodT)),.fn fid []] (.b true):=by
 have hm:(l.map nodT).length=l.length:=qac _;refine so Tryz.func36 ?_;repeat' (first|refine wu ?_|exact wkc|refine wk2 ?_ ?_|intro hc)
 refine TR.zay l.length (fun _=>True) (fun k=>[(1,.t (.sl 8 (l.map nodT))),(2,.fn fid []),(15,.t (.sl 8 (l.map nodT))),(16,.i l.length),(17,.i k)]) (fun _=>[]) trivial (fun k hlt _=>?_) (fun _=>?_) ⟨rfl,rfl,rfl,by rw[<-hm];rfl,rfl,trivial⟩
 ·have hx:=zaL nodT hlt;exact zwcq
 ·refine ya ?_;exact wkr
abbrev onV (o:OnC):Value:=.agg #[str o.name,.int .i64 o.t.1,.int .i64 o.tag.1]
theorem zrz:Tryz.prog.cellsOf 60=3:=oD
theorem zxM:Tryz.prog.keyType 60=true:=oD
theorem wf64(t:I64):(Lit.int .i64 t.1).wf=true:=by
 simp only[Lit.wf,qar,decide_eq_true_eq];exact⟨t.2.1,t.2.2⟩
theorem zsm(N:Nat)(hs:(⟨o.name.toArray⟩:ByteArray).size≤maxLen):
  (Tryz.prog.keyLits (N+1+1) 60 [str o.name,.int .i64 o.t.1,.int .i64 o.tag.1])=some [.string o.name,.int .i64 o.t.1,.int .i64 o.tag.1]:=by
 have e1:∀c,Tryz.prog.keyLits (N+1) 3 [c]=(match c with| .int q' n=>if q'= .i64/\(Lit.int .i64 n).wf=true then some [.int .i64 n] else none|_=>none):=fun c=>by
  exact zwex
 have e2:Tryz.prog.keyLits (N+1) 9 [str o.name]=some [.string o.name]:=by
  exact zwff
 unfold Program.keyLits;simp only[Tryz.underlying60,zrz];simp only[qae,qal,qbX,List.mapM_nil,zvI,zvJ,qbi,List.take,List.drop,e1,e2,wf64];simp
theorem zzt(h:o.name.length≤1000000000):keyOf Tryz.prog 60 (onV o)=some (.string (keyBytes [.string o.name,.int .i64 o.t.1,.int .i64 o.tag.1])):=by
 have hs:(⟨o.name.toArray⟩:ByteArray).size≤maxLen:=by
  show o.name.toArray.size≤maxLen;simp[maxLen];omega
 have h5:(onV o).formed Tryz.prog 60=true:=by
  simp only[onV,Value.formed,Tryz.underlying60,zrz];rfl
 obtain⟨N,hN⟩:=zw2;rw[keyOf,Tryz.underlying60];simp only[zxM,h5,hN,Value.cells,qcT,if_true,zsm N hs,qaT]
section
variable {n:Nat}{env:Env}{K:TK}{all:Array Oper}{rest:List Oper}{d:Nat}{ty:TypeId}{pos:String}{aft:Array Edge}{H:Heap}{q:Bool}
theorem zwG{m:M}{v:Value}(h:SRel m (.t (onT o)) v):v=onV o:=by
 cases h with
 | t _ _ h=>
   cases h with
   | ag _ arr hs h1 h=>
     obtain⟨l⟩:=arr
     match l,hs with
     | [a,b,c],_=>
       have ha:=h 0 _ a rfl rfl;have hb:=h 1 _ b rfl rfl;have hc:=h 2 _ c rfl rfl;cases ha;cases hb;cases hc
       rfl
theorem zu6(w:World)(ha:a.name.length≤1000000000):(Op.equal 60 (onV a) (onV a)).run Tryz.prog w= .ok true w:=by
 obtain⟨r,hr,hrr⟩:=run_equal_deep (P:=Tryz.prog) w (m:=3) (leB) oD (by rw[Tryz.underlying60]) (zzt ha) (zzt ha);have hrt:r=true:=hrr.2 rfl;rw[hr,hrt]
theorem TO.zA8{t':TypeId}{x y:Operand}(hd:Nat.ble (d+1) n=true)(hx:env.val x=some (.t (onT a)))(hy:env.val y=some (.t (onT a)))(ha:a.name.length≤1000000000)
  (k:TO q Tryz.prog n all rest ((d,.b false)::env) H K):TO q Tryz.prog n all (⟨some d,.binOp .neq 60 x y t',ty,pos,aft,none⟩::rest) env H K:=
 TO.op hd (fun m ac h1 h2 h3=>⟨.bool false,fun w' hw'=>by
  have e1:=zwG (h3.val hx);have e2:=zwG (h3.val hy);have hg:Tryz.prog.eqGuardType Tryz.prog.depth 60=false:=oD
  simp[execOp,e1,e2,eqGuard,hg,Go.binOp,zu6 w' ha],.t _ _ (.v _)⟩) k
end
theorem zlw(l:List Str)(hl:l.length≤1000000000):Pure Tryz.prog 77 [.t (.sl 1 (l.map T.s)),.t (.sl 1 (l.map T.s))] (.b true):=by
 have hm:(l.map T.s).length=l.length:=qac _;refine so Tryz.func77 ?_;repeat' (first|refine wu ?_|exact wkc|refine wk2 ?_ ?_|intro hc)
 refine TR.zay l.length (fun _=>True) (fun k=>[(0,.t (.sl 1 (l.map T.s))),(1,.t (.sl 1 (l.map T.s))),(12,.i l.length),(13,.i k)]) (fun _=>[]) trivial (fun k hlt _=>?_) (fun _=>?_) ⟨rfl,rfl,by rw[<-hm];rfl,rfl,trivial⟩
 ·have hx:=zaL T.s hlt;generalize l[k]=d at hx;refine ya ?_;exact zab.zaD hlt trivial
 ·refine ya ?_;exact wkr
theorem zrS(l:List OnC)(hl:l.length≤1000000000)(hn:∀o∈l,o.name.length≤1000000000):Pure Tryz.prog 128 [.t (.sl 3 (l.map onT)),.t (.sl 3 (l.map onT))] (.b true):=by
 have hm:(l.map onT).length=l.length:=qac _;refine so Tryz.func128 ?_;repeat' (first|refine wu ?_|exact wkc|refine wk2 ?_ ?_|intro hc)
 refine TR.zay l.length (fun _=>True) (fun k=>[(0,.t (.sl 3 (l.map onT))),(1,.t (.sl 3 (l.map onT))),(12,.i l.length),(13,.i k)]) (fun _=>[]) trivial (fun k hlt _=>?_) (fun _=>?_) ⟨rfl,rfl,by rw[<-hm];rfl,rfl,trivial⟩
 ·have hx:=zaL onT hlt;have hu:=hn _ (qai hlt);generalize l[k]=d at hx hu;repeat' (first|refine wu ?_|exact wkc|refine wk2 ?_ ?_|(apply TO.zA8;(iterate 3 exact rfl);exact hu)|intro hc)
  exact zab.zaD hlt trivial
 ·refine ya ?_;exact wkr
theorem zs3(u:En)(h2:u.tags.length≤1000000000):Pure Tryz.prog 35 [.t (enT u),.t (enT u)] (.b true):=by
 have h:=zlw u.tags h2;unfold enT;generalize u.tags=l at*;generalize u.name=s at*;refine so Tryz.func35 ?_;refine yb h ?_;exact wkr
theorem zs2(d:Decl)(h1:d.clock.length≤1000000000)(h2:∀o∈d.clock,o.name.length≤1000000000):Pure Tryz.prog 79 [.t (zag d),.t (zag d)] (.b true):=by
 have h:=zrS d.clock h1 h2;unfold zag;generalize d.clock=l at*;generalize d.name=s at*;generalize d.ty=t at*;refine so Tryz.func79 ?_;refine yb h ?_;exact wkr
theorem zf7:∀(w:Nat) (e:Ex),wEx e≤w->w≤1000000000->Pure Tryz.prog 85 [.t (exT e),.t (exT e)] (.b true)
 | 0,e,h,_=>by have:=zcl e;omega
 | w+1,e,h,hw=>by
   have ha:=zpS e;have hi:=zhY 85 e.args oA fun x hx=>zf7 w x (by have:=zcF hx;omega) oA
   rw[zan];unfold exC;generalize e.kind=k1 at*;generalize e.op=k2 at*;generalize e.t=k3 at*;generalize e.v=k4 at*;generalize e.name=k5 at*;generalize e.args=l at*;refine so Tryz.func85 ?_;refine yb hi ?_;exact wkr
theorem zs4(q:Equ)(h1:q.left.length≤1000000000)(h2:(exT q.right).w≤1000000000):Pure Tryz.prog 81 [.t (equT q),.t (equT q)] (.b true):=by
 have ha:=zlw q.left h1;have hb:=zf7 _ q.right (qag _) (qax (zgh _) h2);rw[zan]at hb;unfold equT;unfold exC at*;generalize q.left=l at*;generalize q.right=e at*;refine so Tryz.func81 ?_;refine yh ha hb ?_;exact wkr
theorem zs7(q:Tran)(h2:(exT q.cond).w≤1000000000):Pure Tryz.prog 159 [.t (zaw q),.t (zaw q)] (.b true):=by
 have hb:=zf7 _ q.cond (qag _) (qax (zgh _) h2);rw[zan]at hb;unfold zaw;unfold exC at*;generalize q.cond=e at*;generalize q.to=k1 at*;generalize q.resume=k2 at*;cases k2
 ·refine so Tryz.func159 ?_;refine yb hb ?_;exact wkr
 ·refine so Tryz.func159 ?_;refine yb hb ?_;exact wkr
theorem zxR(u:Equ):u.left.length≤(equT u).w/\(exT u.right).w≤(equT u).w:=by
 have h:=zaz T.s 1 u.left;exact zwcj
theorem zxs(t:Tran):(exT t.cond).w≤(zaw t).w:=by
 exact zwbs
theorem zuh(d:Decl):(T.sl 3 (d.clock.map onT)).w≤(zag d).w:=by
 rw[show zag d= .ag [.s d.name,T.n d.ty,.sl 3 (d.clock.map onT)] from rfl,w_ag];exact zweo
theorem zBc(o:OnC):o.name.length≤(onT o).w:=by
 rw[show onT o= .ag [.s o.name,T.n o.t,T.n o.tag] from rfl,w_ag];simp only[qaf,qaD,qaG,qaX,w_s];omega
section
variable {w:Nat}
theorem eDc(l:List Decl)(h:(T.sl 3 (l.map zag)).w≤w)(hw:w≤1000000000):Pure Tryz.prog 78 [.t (.sl 3 (l.map zag)),.t (.sl 3 (l.map zag)),.fn 79 []] (.b true):=
 zj4 _ l (by have:=zaz zag 3 l;omega) fun d hd=>by
  have h1:=zaJ (f:=zag) (sz:=3) hd;have h2:=zuh d;have h3:=zaz onT 3 d.clock;exact zs2 d oA fun o ho=>by have:=zaJ (f:=onT) (sz:=3) ho;have:=zBc o;omega
theorem eEq(l:List Equ)(h:(T.sl 7 (l.map equT)).w≤w)(hw:w≤1000000000):Pure Tryz.prog 80 [.t (.sl 7 (l.map equT)),.t (.sl 7 (l.map equT)),.fn 81 []] (.b true):=
 zlx _ l (by have:=zaz equT 7 l;omega) fun d hd=>by
  have h1:=zaJ (f:=equT) (sz:=7) hd;have h2:=zxR d;exact zs4 d oA oA
theorem eTr(l:List Tran)(h:(T.sl 8 (l.map zaw)).w≤w)(hw:w≤1000000000):Pure Tryz.prog 158 [.t (.sl 8 (l.map zaw)),.t (.sl 8 (l.map zaw)),.fn 159 []] (.b true):=
 zj5 _ l (by have:=zaz zaw 8 l;omega) fun d hd=>by
  have h1:=zaJ (f:=zaw) (sz:=8) hd;have h2:=zxs d;exact zs7 d oA
theorem eEx(l:List Ex)(h:(T.sl 6 (l.map exT)).w≤w)(hw:w≤1000000000):Pure Tryz.prog 84 [.t (.sl 6 (l.map exT)),.t (.sl 6 (l.map exT)),.fn 85 []] (.b true):=
 zhY _ l (by have:=zaz exT 6 l;omega) fun d hd=>by
  have h1:=zaJ (f:=exT) (sz:=6) hd;have h2:=zgh d;exact zf7 _ d (qag _) oA
theorem zs6(s:Sta)(h:(staT s).w≤w)(hw:w≤1000000000)(ha:Pure Tryz.prog 82 [.t (.sl 1 (s.autos.map zai)),.t (.sl 1 (s.autos.map zai)),.fn 83 []] (.b true)):Pure Tryz.prog 130 [.t (staT s),.t (staT s)] (.b true):=by
 have h0:=zi5 s;have h00:(zav s.locals).w=(T.sl 3 (s.locals.map zag)).w:=rfl;have h1:=eDc s.locals (w:=w) oA hw;have h2:=eEq s.eqs (w:=w) oA hw;have h3:=eTr s.unl (w:=w) oA hw;have h4:=eTr s.unt (w:=w) oA hw;clear h0 h00;rw[zcD];refine so Tryz.func130 ?_;repeat' (first|refine wu ?_|exact wkc|refine wk2 ?_ ?_|refine wv h1 ?_|refine wv h2 ?_|refine wv ha ?_|refine wv h3 ?_|refine wv h4 ?_|intro hc)
 exact wkr
theorem zml:∀(w:Nat) (a:Auto),(zai a).w≤w->w≤1000000000->Pure Tryz.prog 83 [.t (zai a),.t (zai a)] (.b true)
 | 0,a,h,_=>by rw[zcc,w_ag]at h;omega
 | w+1,a,h,hw=>by
   have h0:=zaz staT 6 a.states;have h9:1+(T.sl 6 (a.states.map staT)).w≤(zai a).w:=by rw[zcc,w_ag];simp only[qaf,qaD,qaG,qaX];omega
   have hs:=zlz 130 a.states oA fun s hs=>by
    have h1:=zaJ (f:=staT) (sz:=6) hs;have h2:=zi5 s;have h3:=zaz zai 1 s.autos;exact zs6 (w:=w) s oA oA (zfP _ s.autos oA fun b hb=>zml w b (by have:=zaJ (f:=zai) (sz:=1) hb;omega) oA)
   clear h0 h9;rw[zcc];refine so Tryz.func83 ?_;refine yb hs ?_;exact wkr
theorem zs5(n:Nod)(h:(nodT n).w≤w)(hw:w≤1000000000):Pure Tryz.prog 37 [.t (nodT n),.t (nodT n)] (.b true):=by
 have h0:=zog n;have e1:(zav n.ins).w=(T.sl 3 (n.ins.map zag)).w:=rfl;have e2:(zav n.outs).w=(T.sl 3 (n.outs.map zag)).w:=rfl;have e3:(zav n.locals).w=(T.sl 3 (n.locals.map zag)).w:=rfl;have h9:=zaz zai 1 n.autos;have h1:=eDc n.ins (w:=w) oA hw;have h2:=eDc n.outs (w:=w) oA hw;have h3:=eDc n.locals (w:=w) oA hw;have h4:=eEq n.eqs (w:=w) oA hw;have h5:=zfP 83 n.autos oA fun b hb=>zml w b (by have:=zaJ (f:=zai) (sz:=1) hb;omega) hw
 have h6:=eEx n.assume (w:=w) oA hw;have h7:=eEx n.ensure (w:=w) oA hw;clear h0 e1 e2 e3 h9;unfold nodT;refine so Tryz.func37 ?_;repeat' (first|refine wu ?_|exact wkc|refine wk2 ?_ ?_|refine wv h1 ?_|refine wv h2 ?_|refine wv h3 ?_|refine wv h4 ?_|refine wv h5 ?_|refine wv h6 ?_|refine wv h7 ?_|intro hc)
 exact wkr
end
theorem zmm(p:Prog)(hw:(T.ag (za3 p)).w≤1000000000):Pure Tryz.prog 12 [.t (.ag (za3 p)),.t (.ag (za3 p))] (.b true):=by
 have h0:(T.sl 2 (p.enums.map enT)).w+(T.sl 8 (p.nodes.map nodT)).w≤(T.ag (za3 p)).w:=by
  have:(zbK p.nodes).w=(T.sl 8 (p.nodes.map nodT)).w:=rfl
  rw[w_ag];simp only[za3,qaf,qaD,qaG,qaX];omega
 have l1:=zaz enT 2 p.enums;have l2:=zaz nodT 8 p.nodes
 have h1:=znl 35 p.enums oA fun u hu=>by
  have h1:=zaJ (f:=enT) (sz:=2) hu;have h2:(T.sl 1 (u.tags.map T.s)).w≤(enT u).w:=by rw[show enT u= .ag [.s u.name,.sl 1 (u.tags.map T.s)] from rfl,w_ag];simp only[qaf,qaD,qaG,qaX];omega
  have h3:=zaz T.s 1 u.tags;exact zs3 u oA
 have h2:=zly 37 p.nodes oA fun n hn=>zs5 (w:=1000000000) n (by have:=zaJ (f:=nodT) (sz:=8) hn;omega) (qag _)
 clear h0 l1 l2;unfold za3;refine so Tryz.func12 ?_;refine yh h1 h2 ?_;exact wkr
theorem zf6(h:zjB p=true):(zcL p).2=0/\zgF p=(ze9 p,0)/\(ze9 p).length≤65536:=by
 unfold zjB at h;simp only[qar,decide_eq_true_eq]at h;obtain⟨⟨h1,h2⟩,h3⟩:=h;have h4:zgF p=(ze9 p,0):=by unfold zgF;rw[oG (zc1 h1).1]
 rw[h4]at h3;exact⟨h1,h4,h3⟩
theorem zkG (p:Prog) (hw:(T.ag (za3 p)).w≤2200000):Pure Tryz.prog 4 [.t (.ag (za3 p))] (.b true):=by
 have ha:=zyX;have hh:=zlO p (qax hw oB);have hr:=zmj p hw;have hP:=fun h:zjB p=true=>znP (ze9 p) (qax (zf6 h).2.2 oB) (qax hw oB) (zyi (zf6 h).1 (zBr (zf6 h).1 (zf6 h).2.2))
 have hS:=zmm p (qax hw oB);cases hv:zse p with
 | true=>
   rw[hv]at hh;unfold za3 at*;refine so Tryz.func4 ?_;refine yh hh ha ?_;exact wkr
 | false=>
 rw[hv]at hh;cases hb:zjB p with
 | false=>
   rw[hb]at hr;generalize (zgF p).1=tx at*;unfold za3 at*;refine so Tryz.func4 ?_;repeat' (first|refine wu ?_|exact wkc|refine wk2 ?_ ?_|refine wv hh ?_|refine wv hr ?_|refine wv ha ?_|intro hc)
   all_goals exact wkr
 | true=>
   rw[hb,(zf6 hb).2.1]at hr;replace hP:=hP hb;dsimp only at hr;generalize ze9 p=tx at*;have hpt:zsT p= .ag [.sl 2 (p.enums.map enT),.sl 8 (p.nodes.map nodT)]:=rfl;rw[hpt]at hP;unfold za3 at*;refine so Tryz.func4 ?_;repeat' (first|refine wu ?_|exact wkc|refine wk2 ?_ ?_|refine wv hh ?_|refine wv hr ?_|refine wv hP ?_|refine wv hS ?_|refine wv ha ?_|intro hc)
   all_goals exact wkr
end
theorem zkE{H:Type}(ds:List (DataW H))(ys:List T)(h:Fits Tryz.prog [25] ds ys)(hk:Rows.uptoBulkAll ds≤1048576):Sound Tryz.prog 4 (ys.map .t) [] (fun r H'=>r= .ret (.b true)/\H'=[]):=by
 obtain⟨d0,ds1,y0,ys1,rfl,rfl,h0,h⟩:=zr2 h;obtain⟨rfl,rfl⟩:=zux h;simp only[zrs]at hk;obtain⟨p,rfl,hp⟩:=zye h0;exact zkG p oA
theorem ziw(os:Os){H:Type}(enc:TypeId×Value->H):∃places,DataW.whole enc Tryz.prog ((zlW os).forCall (fun _ _=>0) ⟨#[],#[.agg #[.slice none 0 0,.slice none 0 0]],[]⟩).memory Tryz.f4.params.toList (Rows.OpenSpec.upto Rows.showReadsSpec).vars false (#[.agg #[.slice none 0 0,.slice none 0 0]]:Array Value).toList 8=some ([.agg [.nil,.nil]],[],places):=⟨[],oD⟩
set_option maxRecDepth 100000 in
theorem zhg (os:Os) (started:os.Started) (H:Type) (enc:TypeId×Value->H) (F:Stop.Interp):
  ReturnsInHanded {} Tryz.checked os 4 .any ((Rows.OpenSpec.upto Rows.showReadsSpec).preRow enc Tryz.prog Tryz.f4 Rows.showReadsUptoRow.domain false Rows.showReadsUptoRow.laid) (((Rows.OpenSpec.upto Rows.showReadsSpec).at F).post enc Tryz.prog Tryz.f4 false true false false):=by
 obtain⟨places,hx⟩:=ziw os enc
 refine returnsInHanded_of_row (C:=Tryz.checked) (s:=Rows.OpenSpec.upto Rows.showReadsSpec) (show ownKnob Tryz.prog.godebug=none by kernel_rfl) started oD Tryz.func4
  (witness_row_at (enc:=enc) (C:=Tryz.checked) false (zlW os) #[.agg #[.slice none 0 0,.slice none 0 0]] rfl oD oD oD
    (OpenSpec.preRow_of_cond 8 hx oD (fun k hk=>by cases hk;kernel_rfl) oD (laidMet_of_run' 8 oD oD))) ?_
 intro W base args ds gs before hval hW _ hcond _ hL _ _
 exact zlX (k:=fun ds=>Rows.uptoBulkAll ds≤1048576) (l:=zyd) rfl oD (show Tryz.prog.underlying 4=some .bool from Tryz.underlying4) zwK oD oD oD oD (fun ds h=>by match ds,h with|[a],_=>exact⟨rfl,rfl,rfl⟩)
  (fun ds ys hf hk=>zkE ds ys hf hk) W base args ds gs before hval hW (of_decide_eq_true (hcond _ rfl)) (zsb hL)
theorem zkF{a b:Bool}(ha:a=true)(hb:b=true):(a && b)=true:=by rw[ha,hb];rfl
set_option maxRecDepth 1000000 in
theorem zhf:joinedFacts Tryz.pinned.checked.prog 4 Tryz.f4 (Rows.OpenSpec.upto Rows.showReadsSpec).bare Rows.showReadsUptoRow=true:=by
 delta joinedFacts
 repeat' (with_reducible refine zkF ?_ ?_)
 all_goals decide +kernel
theorem zi0:Rows.showReadsUptoRow.holds Tryz.pinned (Rows.OpenSpec.upto Rows.showReadsSpec):=
 OpenClaim.holds_of_cond 4 Tryz.f4 rfl rfl rfl rfl rfl rfl rfl ⟨rfl,rfl,rfl,rfl,rfl⟩ rfl rfl rfl rfl rfl oD Tryz.func4 zhf
  (of_decide_eq_true oD) (by unfold Func.isWrapper;first|(rw[oG (by decide +kernel)];kernel_rfl)|(rw[oH (by decide +kernel)];exact⟨rfl,rfl⟩))
  (fun os started H enc _ F=>by rw[OpenClaim.pre_eq_preRow];exact zhg os started H enc F)
theorem ziv(f:FuncId)(fn:Func)(hf:Tryz.pinned.checked.prog.funcNamed Rows.showReadsUptoRow.func=some f)(hfn:Tryz.pinned.checked.prog.funcs[f]?=some fn):
  true=Tryz.pinned.checked.prog.looks []/\∀(j:Nat) t,fn.params[j]?=some t->Tryz.pinned.checked.prog.wantsStandIn t=false:=by
 obtain rfl:f=4:=qci ((show Tryz.prog.funcNamed Rows.showReadsUptoRow.func=some 4 by kernel_rfl).symm.trans hf) |>.symm
 obtain rfl:fn=Tryz.f4:=(qci (Tryz.func4.symm.trans hfn)).symm;refine⟨oD,fun j t ht=>?_⟩;have h:=qaB.1 (show(Tryz.f4.params.toList.all fun t=>!Tryz.prog.wantsStandIn t)=true by kernel_rfl) t (Array.mem_toList_iff.2 (Array.mem_of_getElem? ht));have h2:Tryz.prog.wantsStandIn t=false:=by simpa using h
 exact h2
theorem showReads_holds:Rows.ShowReadsUptoCardSaid:=
 Claim7.holds_tied_plain_at .later [] _ _ _ _ zi0 (fun _ h=>by cases h) oD (fun _ h=>by cases h) showReadsUpto_row_tie rfl ⟨rfl,rfl⟩ oD rfl ziv oD
#print axioms showReads_holds
end Go.Proofs.YtdicfgideclbdaaGreatDoor
