import Derived.Test.YtpnnpgbaiobbjaaGreatDoorRows
import Derived.Test.YtpnnpgbaiobbjaaGreatDoorCards
import Derived.Test.YtpnnpgbaiobbjaaGreatDoorTie
import Derived.Deep.DeepHandedRow
import Derived.Lib.LaidTab
import Derived.Stop.LaidErr
import Derived.Test.YtpnnpgbaiobbjaaGreatDoorAk38
set_option linter.all false
namespace Go.Proofs.YtpnnpgbaiobbjaaGreatDoor
open Go Go.TL
variable {H:Type}
theorem ty_i{n:Nat}{d:DataW H}{ts:List T}(h:TyD Tryz.prog n 3 d ts):∃i:I64,ts=[T.n i]:=by
 cases n with
 | zero=>exact h.elim
 | succ n=>
   simp only[TyD,Tryz.underlying3]at h
   obtain⟨i,rfl,rfl,hw⟩:=h
   have h2:-9223372036854775808≤i/\i≤9223372036854775807:=by
    simpa [Lit.wf,IntKind.min,IntKind.max,IntKind.signed,IntKind.bits]using hw
   exact⟨⟨i,h2⟩,rfl⟩
theorem ty_s{n:Nat}{d:DataW H}{ts:List T}(h:TyD Tryz.prog n 9 d ts):∃l:Str,ts=[T.s l]:=by
 cases n with
 | zero=>exact h.elim
 | succ n=>
   simp only[TyD,Tryz.underlying9]at h
   obtain⟨l,_,h2,_⟩:=h
   exact⟨l,h2⟩
theorem ty_b{n:Nat}{d:DataW H}{ts:List T}(h:TyD Tryz.prog n 4 d ts):∃b:Bool,ts=[T.b b]:=by
 cases n with
 | zero=>exact h.elim
 | succ n=>
   simp only[TyD,Tryz.underlying4]at h
   obtain⟨b,_,h2⟩:=h
   exact⟨b,h2⟩
theorem zd5{α:Type}(f:α->T){n sz:Nat}{t e:TypeId}(hu:Tryz.prog.underlying t=some (.slice e))(hs:Tryz.prog.cellsOf e=sz){d:DataW H}{ts:List T}(h:TyD Tryz.prog n t d ts)
  (dec:∀m,m<n->∀(d:DataW H) ts,TyD Tryz.prog m e d ts->∃a:α,mkT (aggB Tryz.prog e) ts=f a):∃l:List α,ts=[.sl sz (l.map f)]:=by
 cases n with
 | zero=>exact h.elim
 | succ n=>
   simp only[TyD,hu]at h
   obtain⟨els,sp,es,_,hy,hl,hm,he⟩:=h
   have key:∀(es:List T) (els:List (DataW H)),es.length=els.length->(∀(i:Nat) x y,els[i]?=some x->es[i]?=some y->y=mkT (aggB Tryz.prog e) y.cells/\TyD Tryz.prog n e x y.cells)->∃l:List α,es=l.map f:=by
    intro es
    induction es with
    | nil=>intro els _ _;exact⟨[],rfl⟩
    | cons y es ih=>
      intro els hl he
      cases els with
      | nil=>simp at hl
      | cons x els=>
        obtain⟨l,hl1⟩:=ih els (by simpa using hl) (fun i x y hx hy=>he (i+1) x y (by simpa using hx) (by simpa using hy))
        obtain⟨g1,g2⟩:=he 0 x y rfl rfl
        obtain⟨a,g3⟩:=dec n (qcg n) x y.cells g2
        exact⟨a::l,by rw[hl1,g1,g3];rfl⟩
   obtain⟨l,rfl⟩:=key es els hl he
   exact⟨l,by rw[hy,hs]⟩
theorem znM:Tryz.prog.cellsOf 3=1:=by kernel_rfl
theorem zi4:Tryz.prog.cellsOf 9=1:=by kernel_rfl
theorem ztu:Tryz.prog.cellsOf 36=1:=by kernel_rfl
theorem zsu:Tryz.prog.cellsOf 53=6:=by kernel_rfl
theorem zpA:aggB Tryz.prog 53=true:=by unfold aggB;rw[Tryz.underlying53]
theorem ztj:∀(n m:Nat),m≤n->∀(d:DataW H) (ts:List T),TyD Tryz.prog m 53 d ts->∃e:Ex,ts=exC e:=by
 intro n
 induction n with
 | zero=>intro m hm d ts h;have:m=0:=by omega
         subst this;exact h.elim
 | succ n ih=>
   intro m hm d ts h
   cases m with
   | zero=>exact h.elim
   | succ m=>
     simp only[TyD,Tryz.underlying53]at h
     obtain⟨xs,rfl,hl,hx,hf⟩:=h
     rw[zsu]at hl
     match xs,hx,ts,hl with
     | [x0,x1,x2,x3,x4,x5],_,[a,b,c,e,g,i],_=>
       have f0:TyD Tryz.prog m 3 x0 (([a,b,c,e,g,i].drop 0).take (Tryz.prog.cellsOf 3)):=hf 0 _ x0 rfl rfl
       have f1:TyD Tryz.prog m 3 x1 (([a,b,c,e,g,i].drop 1).take (Tryz.prog.cellsOf 3)):=hf 1 _ x1 rfl rfl
       have f2:TyD Tryz.prog m 3 x2 (([a,b,c,e,g,i].drop 2).take (Tryz.prog.cellsOf 3)):=hf 2 _ x2 rfl rfl
       have f3:TyD Tryz.prog m 3 x3 (([a,b,c,e,g,i].drop 3).take (Tryz.prog.cellsOf 3)):=hf 3 _ x3 rfl rfl
       have f4:TyD Tryz.prog m 9 x4 (([a,b,c,e,g,i].drop 4).take (Tryz.prog.cellsOf 9)):=hf 4 _ x4 rfl rfl
       have f5:TyD Tryz.prog m 36 x5 (([a,b,c,e,g,i].drop 5).take (Tryz.prog.cellsOf 36)):=hf 5 _ x5 rfl rfl
       simp only[znM,zi4,ztu,qbh,qbq,qaM,qbu]at f0 f1 f2 f3 f4 f5
       obtain⟨i0,e0⟩:=ty_i f0
       obtain⟨i1,e1⟩:=ty_i f1
       obtain⟨i2,e2⟩:=ty_i f2
       obtain⟨i3,e3⟩:=ty_i f3
       obtain⟨s4,e4⟩:=ty_s f4
       obtain⟨l,e5⟩:=zd5 exT Tryz.underlying36 zsu f5 (fun k hk d ts ht=>by
        obtain⟨a,ha⟩:=ih k (by omega) d ts ht
        exact⟨a,by rw[zpA,ha,zay];rfl⟩)
       simp only[qba,and_true]at e0 e1 e2 e3 e4 e5
       subst e0 e1 e2 e3 e4 e5
       exact⟨.mk i0 i1 i2 i3 s4 l,rfl⟩
end Go.Proofs.YtpnnpgbaiobbjaaGreatDoor
namespace Go.Proofs.YtpnnpgbaiobbjaaGreatDoor
open Go Go.TL
variable {H:Type}
theorem zuj:Tryz.prog.cellsOf 4=1:=by kernel_rfl
theorem zpB:aggB Tryz.prog 9=false:=by unfold aggB;rw[Tryz.underlying9]
theorem zvo:Tryz.prog.cellsOf 43=1:=by kernel_rfl
theorem zvn:Tryz.prog.cellsOf 49=1:=by kernel_rfl
theorem ztA:Tryz.prog.cellsOf 170=3:=by kernel_rfl
theorem zvi:aggB Tryz.prog 170=true:=by unfold aggB;rw[Tryz.underlying170]
theorem znL:Tryz.prog.cellsOf 33=1:=by kernel_rfl
theorem zfn:Tryz.prog.cellsOf 51=3:=by kernel_rfl
theorem zg0:aggB Tryz.prog 51=true:=by unfold aggB;rw[Tryz.underlying51]
theorem ztt:Tryz.prog.cellsOf 34=1:=by kernel_rfl
theorem zp1:Tryz.prog.cellsOf 55=7:=by kernel_rfl
theorem zpz:aggB Tryz.prog 55=true:=by unfold aggB;rw[Tryz.underlying55]
theorem zst:Tryz.prog.cellsOf 80=1:=by kernel_rfl
theorem zjI:Tryz.prog.cellsOf 98=8:=by kernel_rfl
theorem znu:aggB Tryz.prog 98=true:=by unfold aggB;rw[Tryz.underlying98]
theorem znK:Tryz.prog.cellsOf 35=1:=by kernel_rfl
theorem zjH:Tryz.prog.cellsOf 79=1:=by kernel_rfl
theorem znt:aggB Tryz.prog 79=true:=by unfold aggB;rw[Tryz.underlying79]
theorem zpM:Tryz.prog.cellsOf 77=1:=by kernel_rfl
theorem zkR:Tryz.prog.cellsOf 82=6:=by kernel_rfl
theorem zua:aggB Tryz.prog 82=true:=by unfold aggB;rw[Tryz.underlying82]
theorem zss:Tryz.prog.cellsOf 23=1:=by kernel_rfl
theorem znQ:Tryz.prog.cellsOf 38=8:=by kernel_rfl
theorem zt9:aggB Tryz.prog 38=true:=by unfold aggB;rw[Tryz.underlying38]
theorem zvm:Tryz.prog.cellsOf 22=1:=by kernel_rfl
theorem zty:Tryz.prog.cellsOf 45=2:=by kernel_rfl
theorem zvh:aggB Tryz.prog 45=true:=by unfold aggB;rw[Tryz.underlying45]
theorem zvu:Tryz.prog.cellsOf 9=1:=by kernel_rfl
theorem ztz:Tryz.prog.cellsOf 53=6:=by kernel_rfl
theorem zwT{n:Nat}{d:DataW H}{ts:List T}(h:TyD Tryz.prog n 170 d ts):∃o:OnC,ts=[.s o.name,T.n o.t,T.n o.tag]:=by
 cases n with
 | zero=>exact h.elim
 | succ m=>
   simp only[TyD,Tryz.underlying170]at h
   obtain⟨xs,rfl,hl,hx,hf⟩:=h
   rw[ztA]at hl
   match xs,hx,ts,hl with
   | [x0,x1,x2],_,[a,b,c],_=>
     have f0:TyD Tryz.prog m 9 x0 (([a,b,c].drop 0).take (Tryz.prog.cellsOf 9)):=hf 0 _ x0 rfl rfl
     have f1:TyD Tryz.prog m 3 x1 (([a,b,c].drop 1).take (Tryz.prog.cellsOf 3)):=hf 1 _ x1 rfl rfl
     have f2:TyD Tryz.prog m 3 x2 (([a,b,c].drop 2).take (Tryz.prog.cellsOf 3)):=hf 2 _ x2 rfl rfl
     simp only[znM,zi4,qbh,qbq,qaM,qbu]at f0 f1 f2
     obtain⟨v0,e0⟩:=ty_s f0
     obtain⟨v1,e1⟩:=ty_i f1
     obtain⟨v2,e2⟩:=ty_i f2
     simp only[qba,and_true]at e0 e1 e2
     refine⟨⟨v0,v1,v2⟩,?_⟩
     simp_all
     try rfl
theorem zkq{n:Nat}{d:DataW H}{ts:List T}(h:TyD Tryz.prog n 51 d ts):∃o:Decl,ts=[.s o.name,T.n o.ty,.sl 3 (o.clock.map onT)]:=by
 cases n with
 | zero=>exact h.elim
 | succ m=>
   simp only[TyD,Tryz.underlying51]at h
   obtain⟨xs,rfl,hl,hx,hf⟩:=h
   rw[zfn]at hl
   match xs,hx,ts,hl with
   | [x0,x1,x2],_,[a,b,c],_=>
     have f0:TyD Tryz.prog m 9 x0 (([a,b,c].drop 0).take (Tryz.prog.cellsOf 9)):=hf 0 _ x0 rfl rfl
     have f1:TyD Tryz.prog m 3 x1 (([a,b,c].drop 1).take (Tryz.prog.cellsOf 3)):=hf 1 _ x1 rfl rfl
     have f2:TyD Tryz.prog m 49 x2 (([a,b,c].drop 2).take (Tryz.prog.cellsOf 49)):=hf 2 _ x2 rfl rfl
     simp only[znM,zvn,zi4,qbh,qbq,qaM,qbu]at f0 f1 f2
     obtain⟨v0,e0⟩:=ty_s f0
     obtain⟨v1,e1⟩:=ty_i f1
     obtain⟨v2,e2⟩:=zd5 onT Tryz.underlying49 ztA f2 (fun k hk d ts ht=>by
      obtain⟨u,hu⟩:=zwT ht
      exact⟨u,by rw[zvi];first|exact hu|(rw[hu];rfl)⟩)
     simp only[qba,and_true]at e0 e1 e2
     refine⟨⟨v0,v1,v2⟩,?_⟩
     simp_all
     try rfl
theorem zt1{n:Nat}{d:DataW H}{ts:List T}(h:TyD Tryz.prog n 55 d ts):∃o:Equ,mkT true ts=equT o:=by
 cases n with
 | zero=>exact h.elim
 | succ m=>
   simp only[TyD,Tryz.underlying55]at h
   obtain⟨xs,rfl,hl,hx,hf⟩:=h
   rw[zp1]at hl
   match xs,hx,ts,hl with
   | [x0,x1],_,[a,b,c,e,g,i,j],_=>
     have f0:TyD Tryz.prog m 43 x0 (([a,b,c,e,g,i,j].drop 0).take (Tryz.prog.cellsOf 43)):=hf 0 _ x0 rfl rfl
     have f1:TyD Tryz.prog m 53 x1 (([a,b,c,e,g,i,j].drop 1).take (Tryz.prog.cellsOf 53)):=hf 1 _ x1 rfl rfl
     simp only[zvo,zsu,qbh,qbq,qaM,qbu]at f0 f1
     obtain⟨v0,e0⟩:=zd5 T.s Tryz.underlying43 zvu f0 (fun k hk d ts ht=>by
      obtain⟨u,hu⟩:=ty_s ht
      exact⟨u,by rw[zpB,hu];rfl⟩)
     obtain⟨v1,e1⟩:=ztj m m (qag _) _ _ f1
     unfold exC at e1
     simp only[qba,and_true]at e0 e1
     refine⟨⟨v0,v1⟩,?_⟩
     simp_all
     try rfl
theorem zrY{n:Nat}{d:DataW H}{ts:List T}(h:TyD Tryz.prog n 98 d ts):∃o:Tran,mkT true ts=zah o:=by
 cases n with
 | zero=>exact h.elim
 | succ m=>
   simp only[TyD,Tryz.underlying98]at h
   obtain⟨xs,rfl,hl,hx,hf⟩:=h
   rw[zjI]at hl
   match xs,hx,ts,hl with
   | [x0,x1,x2],_,[a,b,c,e,g,i,j,k],_=>
     have f0:TyD Tryz.prog m 53 x0 (([a,b,c,e,g,i,j,k].drop 0).take (Tryz.prog.cellsOf 53)):=hf 0 _ x0 rfl rfl
     have f1:TyD Tryz.prog m 3 x1 (([a,b,c,e,g,i,j,k].drop 6).take (Tryz.prog.cellsOf 3)):=hf 1 _ x1 rfl rfl
     have f2:TyD Tryz.prog m 4 x2 (([a,b,c,e,g,i,j,k].drop 7).take (Tryz.prog.cellsOf 4)):=hf 2 _ x2 rfl rfl
     simp only[zuj,znM,zsu,qbh,qbq,qaM,qbu]at f0 f1 f2
     obtain⟨v0,e0⟩:=ztj m m (qag _) _ _ f0
     obtain⟨v1,e1⟩:=ty_i f1
     obtain⟨v2,e2⟩:=ty_b f2
     unfold exC at e0
     simp only[qba,and_true]at e0 e1 e2
     refine⟨⟨v0,v1,v2⟩,?_⟩
     simp_all
     try rfl
theorem zwS{n:Nat}{d:DataW H}{ts:List T}(h:TyD Tryz.prog n 45 d ts):∃o:En,mkT true ts=enT o:=by
 cases n with
 | zero=>exact h.elim
 | succ m=>
   simp only[TyD,Tryz.underlying45]at h
   obtain⟨xs,rfl,hl,hx,hf⟩:=h
   rw[zty]at hl
   match xs,hx,ts,hl with
   | [x0,x1],_,[a,b],_=>
     have f0:TyD Tryz.prog m 9 x0 (([a,b].drop 0).take (Tryz.prog.cellsOf 9)):=hf 0 _ x0 rfl rfl
     have f1:TyD Tryz.prog m 43 x1 (([a,b].drop 1).take (Tryz.prog.cellsOf 43)):=hf 1 _ x1 rfl rfl
     simp only[zvo,zi4,qbh,qbq,qaM,qbu]at f0 f1
     obtain⟨v0,e0⟩:=ty_s f0
     obtain⟨v1,e1⟩:=zd5 T.s Tryz.underlying43 zvu f1 (fun k hk d ts ht=>by
      obtain⟨u,hu⟩:=ty_s ht
      exact⟨u,by rw[zpB,hu];rfl⟩)
     simp only[qba,and_true]at e0 e1
     refine⟨⟨v0,v1⟩,?_⟩
     simp_all
     try rfl
end Go.Proofs.YtpnnpgbaiobbjaaGreatDoor
namespace Go.Proofs.YtpnnpgbaiobbjaaGreatDoor
open Go Go.TL
variable {H:Type}
theorem zus:Tryz.prog.cellsOf 25=2:=by kernel_rfl
theorem zsi:aggB Tryz.prog 25=true:=by unfold aggB;rw[Tryz.underlying25]
theorem zv2{n:Nat}(rec:∀j,j<n->∀(d:DataW H) ts,TyD Tryz.prog j 79 d ts->∃o:Auto,mkT true ts=zae o){d:DataW H}{ts:List T}(h:TyD Tryz.prog n 82 d ts):∃o:Sta,mkT true ts=staT o:=by
 cases n with
 | zero=>exact h.elim
 | succ m=>
   simp only[TyD,Tryz.underlying82]at h
   obtain⟨xs,rfl,hl,hx,hf⟩:=h
   rw[zkR]at hl
   match xs,hx,ts,hl with
   | [x0,x1,x2,x3,x4,x5],_,[a,b,c,e,g,i],_=>
     have f0:TyD Tryz.prog m 9 x0 (([a,b,c,e,g,i].drop 0).take (Tryz.prog.cellsOf 9)):=hf 0 _ x0 rfl rfl
     have f1:TyD Tryz.prog m 33 x1 (([a,b,c,e,g,i].drop 1).take (Tryz.prog.cellsOf 33)):=hf 1 _ x1 rfl rfl
     have f2:TyD Tryz.prog m 34 x2 (([a,b,c,e,g,i].drop 2).take (Tryz.prog.cellsOf 34)):=hf 2 _ x2 rfl rfl
     have f3:TyD Tryz.prog m 35 x3 (([a,b,c,e,g,i].drop 3).take (Tryz.prog.cellsOf 35)):=hf 3 _ x3 rfl rfl
     have f4:TyD Tryz.prog m 80 x4 (([a,b,c,e,g,i].drop 4).take (Tryz.prog.cellsOf 80)):=hf 4 _ x4 rfl rfl
     have f5:TyD Tryz.prog m 80 x5 (([a,b,c,e,g,i].drop 5).take (Tryz.prog.cellsOf 80)):=hf 5 _ x5 rfl rfl
     simp only[znK,znL,ztt,zi4,zst,qbh,qbq,qaM,qbu]at f0 f1 f2 f3 f4 f5
     obtain⟨v0,e0⟩:=ty_s f0
     obtain⟨v1,e1⟩:=zd5 zaa Tryz.underlying33 zfn f1 (fun k hk d ts ht=>by
      obtain⟨u,hu⟩:=zkq ht
      exact⟨u,by rw[zg0];first|exact hu|(rw[hu];rfl)⟩)
     obtain⟨v2,e2⟩:=zd5 equT Tryz.underlying34 zp1 f2 (fun k hk d ts ht=>by
      obtain⟨u,hu⟩:=zt1 ht
      exact⟨u,by rw[zpz];first|exact hu|(rw[hu];rfl)⟩)
     obtain⟨v3,e3⟩:=zd5 zae Tryz.underlying35 zjH f3 (fun k hk d ts ht=>by
      obtain⟨u,hu⟩:=rec k (by omega) d ts ht
      exact⟨u,by rw[znt];first|exact hu|(rw[hu];rfl)⟩)
     obtain⟨v4,e4⟩:=zd5 zah Tryz.underlying80 zjI f4 (fun k hk d ts ht=>by
      obtain⟨u,hu⟩:=zrY ht
      exact⟨u,by rw[znu];first|exact hu|(rw[hu];rfl)⟩)
     obtain⟨v5,e5⟩:=zd5 zah Tryz.underlying80 zjI f5 (fun k hk d ts ht=>by
      obtain⟨u,hu⟩:=zrY ht
      exact⟨u,by rw[znu];first|exact hu|(rw[hu];rfl)⟩)
     simp only[qba,and_true]at e0 e1 e2 e3 e4 e5
     subst e0 e1 e2 e3 e4 e5
     refine⟨.mk v0 v1 v2 v3 v4 v5,?_⟩
     rw[zii];unfold staC
     rfl
theorem zva:∀(n m:Nat),m≤n->∀(d:DataW H) (ts:List T),TyD Tryz.prog m 79 d ts->∃o:Auto,mkT true ts=zae o:=by
 intro n
 induction n with
 | zero=>intro m hm d ts h;have:m=0:=by omega
         subst this;exact h.elim
 | succ n ih=>
   intro m hm d ts h
   cases m with
   | zero=>exact h.elim
   | succ m=>
     simp only[TyD,Tryz.underlying79]at h
     obtain⟨xs,rfl,hl,hx,hf⟩:=h
     rw[zjH]at hl
     match xs,hx,ts,hl with
     | [x0],_,[a],_=>
       have f0:TyD Tryz.prog m 77 x0 (([a].drop 0).take (Tryz.prog.cellsOf 77)):=hf 0 _ x0 rfl rfl
       simp only[zpM,qbh,qaM,qbu]at f0
       obtain⟨v0,e0⟩:=zd5 staT Tryz.underlying77 zkR f0 (fun k hk d ts ht=>by
        obtain⟨u,hu⟩:=zv2 (fun j hj d ts h=>ih j (by omega) d ts h) ht
        exact⟨u,by rw[zua];exact hu⟩)
       simp only[qba,and_true]at e0
       subst e0
       refine⟨.mk v0,?_⟩
       rw[zho]
       rfl
theorem zv1{n:Nat}{d:DataW H}{ts:List T}(h:TyD Tryz.prog n 38 d ts):∃o:Nod,mkT true ts=nodT o:=by
 cases n with
 | zero=>exact h.elim
 | succ m=>
   simp only[TyD,Tryz.underlying38]at h
   obtain⟨xs,rfl,hl,hx,hf⟩:=h
   rw[znQ]at hl
   match xs,hx,ts,hl with
   | [x0,x1,x2,x3,x4,x5,x6,x7],_,[a,b,c,e,g,i,j,k],_=>
     have f0:TyD Tryz.prog m 9 x0 (([a,b,c,e,g,i,j,k].drop 0).take (Tryz.prog.cellsOf 9)):=hf 0 _ x0 rfl rfl
     have f1:TyD Tryz.prog m 33 x1 (([a,b,c,e,g,i,j,k].drop 1).take (Tryz.prog.cellsOf 33)):=hf 1 _ x1 rfl rfl
     have f2:TyD Tryz.prog m 33 x2 (([a,b,c,e,g,i,j,k].drop 2).take (Tryz.prog.cellsOf 33)):=hf 2 _ x2 rfl rfl
     have f3:TyD Tryz.prog m 33 x3 (([a,b,c,e,g,i,j,k].drop 3).take (Tryz.prog.cellsOf 33)):=hf 3 _ x3 rfl rfl
     have f4:TyD Tryz.prog m 34 x4 (([a,b,c,e,g,i,j,k].drop 4).take (Tryz.prog.cellsOf 34)):=hf 4 _ x4 rfl rfl
     have f5:TyD Tryz.prog m 35 x5 (([a,b,c,e,g,i,j,k].drop 5).take (Tryz.prog.cellsOf 35)):=hf 5 _ x5 rfl rfl
     have f6:TyD Tryz.prog m 36 x6 (([a,b,c,e,g,i,j,k].drop 6).take (Tryz.prog.cellsOf 36)):=hf 6 _ x6 rfl rfl
     have f7:TyD Tryz.prog m 36 x7 (([a,b,c,e,g,i,j,k].drop 7).take (Tryz.prog.cellsOf 36)):=hf 7 _ x7 rfl rfl
     simp only[znK,znL,ztt,ztu,zi4,qbh,qbq,qaM,qbu]at f0 f1 f2 f3 f4 f5 f6 f7
     obtain⟨v0,e0⟩:=ty_s f0
     obtain⟨v1,e1⟩:=zd5 zaa Tryz.underlying33 zfn f1 (fun k hk d ts ht=>by
      obtain⟨u,hu⟩:=zkq ht
      exact⟨u,by rw[zg0];first|exact hu|(rw[hu];rfl)⟩)
     obtain⟨v2,e2⟩:=zd5 zaa Tryz.underlying33 zfn f2 (fun k hk d ts ht=>by
      obtain⟨u,hu⟩:=zkq ht
      exact⟨u,by rw[zg0];first|exact hu|(rw[hu];rfl)⟩)
     obtain⟨v3,e3⟩:=zd5 zaa Tryz.underlying33 zfn f3 (fun k hk d ts ht=>by
      obtain⟨u,hu⟩:=zkq ht
      exact⟨u,by rw[zg0];first|exact hu|(rw[hu];rfl)⟩)
     obtain⟨v4,e4⟩:=zd5 equT Tryz.underlying34 zp1 f4 (fun k hk d ts ht=>by
      obtain⟨u,hu⟩:=zt1 ht
      exact⟨u,by rw[zpz];first|exact hu|(rw[hu];rfl)⟩)
     obtain⟨v5,e5⟩:=zd5 zae Tryz.underlying35 zjH f5 (fun k hk d ts ht=>by
      obtain⟨u,hu⟩:=zva k k (qag _) d ts ht
      exact⟨u,by rw[znt];first|exact hu|(rw[hu];rfl)⟩)
     obtain⟨v6,e6⟩:=zd5 exT Tryz.underlying36 ztz f6 (fun k hk d ts ht=>by
      obtain⟨u,hu⟩:=ztj k k (qag _) _ _ ht
      exact⟨u,by rw[zpA,hu,zay];rfl⟩)
     obtain⟨v7,e7⟩:=zd5 exT Tryz.underlying36 ztz f7 (fun k hk d ts ht=>by
      obtain⟨u,hu⟩:=ztj k k (qag _) _ _ ht
      exact⟨u,by rw[zpA,hu,zay];rfl⟩)
     simp only[qba,and_true]at e0 e1 e2 e3 e4 e5 e6 e7
     subst e0 e1 e2 e3 e4 e5 e6 e7
     refine⟨⟨v0,v1,v2,v3,v4,v5,v6,v7⟩,?_⟩
     skip
     rfl
theorem zvb{n:Nat}{d:DataW H}{ts:List T}(h:TyD Tryz.prog n 25 d ts):∃o:Prog,mkT true ts= .ag (zax o):=by
 cases n with
 | zero=>exact h.elim
 | succ m=>
   simp only[TyD,Tryz.underlying25]at h
   obtain⟨xs,rfl,hl,hx,hf⟩:=h
   rw[zus]at hl
   match xs,hx,ts,hl with
   | [x0,x1],_,[a,b],_=>
     have f0:TyD Tryz.prog m 22 x0 (([a,b].drop 0).take (Tryz.prog.cellsOf 22)):=hf 0 _ x0 rfl rfl
     have f1:TyD Tryz.prog m 23 x1 (([a,b].drop 1).take (Tryz.prog.cellsOf 23)):=hf 1 _ x1 rfl rfl
     simp only[zvm,zss,qbh,qbq,qaM,qbu]at f0 f1
     obtain⟨v0,e0⟩:=zd5 enT Tryz.underlying22 zty f0 (fun k hk d ts ht=>by
      obtain⟨u,hu⟩:=zwS ht
      exact⟨u,by rw[zvh];first|exact hu|(rw[hu];rfl)⟩)
     obtain⟨v1,e1⟩:=zd5 nodT Tryz.underlying23 znQ f1 (fun k hk d ts ht=>by
      obtain⟨u,hu⟩:=zv1 ht
      exact⟨u,by rw[zt9];first|exact hu|(rw[hu];rfl)⟩)
     simp only[qba,and_true]at e0 e1
     subst e0 e1
     refine⟨⟨v0,v1⟩,?_⟩
     skip
     rfl
end Go.Proofs.YtpnnpgbaiobbjaaGreatDoor
namespace Go.Proofs.YtpnnpgbaiobbjaaGreatDoor
open Go Go.TL
variable {H:Type}
def zlO(P:Program):Nat->List Field->Nat->Bool
 | o,[],e=>Nat.beq o e
 | o,g::gs,e=>Nat.beq g.offset o && zlO P (o+P.cellsOf g.type) gs e
def zrT(P:Program)(t:TypeId):Bool:=match P.underlying t with
 | some (.struct fs)=>zlO P 0 fs.toList (P.cellsOf t)
 | _=>true
theorem zlP{P:Program}:∀(gs:List Field) (xs:List (DataW H)) (o e:Nat) (ts:List T),gs.length=xs.length->zlO P o gs e=true->ts.length=e->
  (∀(j:Nat) g x,gs[j]?=some g->xs[j]?=some x->((((ts.drop g.offset).take (P.cellsOf g.type)).map T.w).sum+1≤2*Rows.uptoBulk x))->((ts.drop o).map T.w).sum≤2*Rows.uptoBulkAll xs
 | [],[],o,e,ts,_,ht,hl,_=>by
   simp[zlO]at ht
   rw[qa7 (by omega)];simp
 | g::gs,x::xs,o,e,ts,hlen,ht,hl,h=>by
   simp only[zlO,qaz,Nat.beq_eq]at ht
   obtain⟨h1,h2⟩:=ht
   have ih:=zlP gs xs (o+P.cellsOf g.type) e ts (by simpa using hlen) h2 hl (fun j g x hg hx=>h (j+1) g x (by simpa using hg) (by simpa using hx))
   have h0:=h 0 g x rfl rfl
   rw[h1]at h0
   have hs:ts.drop o=(ts.drop o).take (P.cellsOf g.type)++ts.drop (o+P.cellsOf g.type):=by
    rw[<-List.drop_drop,qaS]
   rw[hs,qal,qbB]
   simp only[Rows.uptoBulkAll]
   omega
 | [],_::_,_,_,_,hlen,_,_,_=>by simp at hlen
 | _::_,[],_,_,_,hlen,_,_,_=>by simp at hlen
theorem zu9{P:Program}{l:List TypeId}(hP:zbQ P l=true)(hT:∀t∈l,zrT P t=true):∀(n:Nat) (t:TypeId),t∈l->∀(d:DataW H) (ts:List T),TyD P n t d ts->(ts.map T.w).sum+1≤2*Rows.uptoBulk d
 | 0,_,_,_,_,h=>h.elim
 | n+1,t,htl,d,ts,h=>by
   unfold TyD at h
   have ht:=hT t htl
   have hcl:=qaB.1 hP t htl
   unfold zrT at ht
   split at h
   ·obtain⟨b,rfl,rfl⟩:=h;simp[Rows.uptoBulk,T.w,strW]
   ·obtain⟨i,rfl,rfl,_⟩:=h;simp[Rows.uptoBulk,T.w,strW]
   ·obtain⟨l,rfl,rfl,_⟩:=h
    have:(T.v (str l)).w=1+l.length:=w_s l
    simp only[qaj,qay,qao,qaI,Rows.uptoBulk]
    omega
   ·rename_i e hu
    have hel:e∈l:=by rw[hu]at hcl;simp at hcl;exact hcl.1.2
    obtain⟨els,sp,es,hd,rfl,hl,_,he⟩:=h
    have key:∀(es:List T) (els:List (DataW H)),es.length=els.length->(∀(i:Nat) x y,els[i]?=some x->es[i]?=some y->y=mkT (aggB P e) y.cells/\TyD P n e x y.cells)->(es.map T.w).sum≤2*Rows.uptoBulkAll els:=by
     intro es
     induction es with
     | nil=>intro els hl _;simp
     | cons y es ih=>
       intro els hl he
       cases els with
       | nil=>simp at hl
       | cons x els=>
         have h1:=ih els (by simpa using hl) (fun i x y hx hy=>he (i+1) x y (by simpa using hx) (by simpa using hy))
         obtain⟨g1,g2⟩:=he 0 x y rfl rfl
         have h2:=zu9 hP hT n e hel x y.cells g2
         have h3:y.w≤(y.cells.map T.w).sum+1:=by
          cases y with
          | ag cs=>rw[w_ag];simp[T.cells];omega
          | v x=>simp[T.cells]
          | sl sz es=>simp[T.cells]
         simp only[qaj,qao,Rows.uptoBulkAll]
         omega
    have hk:=key es els hl he
    have hw:((T.sl (P.cellsOf e) es).w)=1+(es.map T.w).sum:=w_sl _ _
    simp only[qaj,qay,qao,qaI]
    rcases hd with ⟨rfl,rfl⟩|rfl
    ·simp[Rows.uptoBulkAll]at hk
     simp only[Rows.uptoBulk];omega
    ·simp only[Rows.uptoBulk];omega
   ·rename_i fs hu
    obtain⟨xs,rfl,hl,hx,hf⟩:=h
    rw[hu]at ht
    have:=zlP fs.toList xs 0 (P.cellsOf t) ts (by simpa using hx.symm) ht hl (fun j g x hg hx=>zu9 hP hT n g.type (by rw[hu]at hcl;exact qbU.1 (qaB.1 hcl g (qat hg))) x _ (hf j g x (by simpa using hg) hx))
    simp only[qbh]at this
    simp only[Rows.uptoBulk];omega
   ·exact h.elim
end Go.Proofs.YtpnnpgbaiobbjaaGreatDoor
namespace Go.Proofs.YtpnnpgbaiobbjaaGreatDoor
open Go Go.TL
variable {H:Type}
def zuV:List TypeId:=[25,22,45,23,38,33,51,49,170,34,55,36,53,35,79,77,82,80,98,43,9,3,4,5]
theorem ztR:zbQ Tryz.prog zuV=true:=by kernel_rfl
theorem zv0:∀t∈zuV,zrT Tryz.prog t=true:=qaB.1 (by kernel_rfl)
theorem zqF{P:Program}{t:TypeId}{ts:List TypeId}{ds:List (DataW H)}{ys:List T}(h:Fits P (t::ts) ds ys):∃d ds' y ys',ds=d::ds'/\ys=y::ys'/\(y=mkT (aggB P t) y.cells/\∃n,TyD P n t d y.cells)/\Fits P ts ds' ys':=by
 cases ds with
 | nil=>cases ys <;> exact h.elim
 | cons d ds=>cases ys with
   | nil=>exact h.elim
   | cons y ys=>exact⟨d,ds,y,ys,rfl,rfl,h.1,h.2⟩
theorem zsK{P:Program}{ds:List (DataW H)}{ys:List T}(h:Fits P [] ds ys):ds=[]/\ys=[]:=by
 cases ds <;> cases ys <;> first|exact⟨rfl,rfl⟩|exact h.elim
theorem zpL(d:DataW H)(ds:List (DataW H)):Rows.uptoBulkAll (d::ds)=Rows.uptoBulk d+Rows.uptoBulkAll ds:=by simp[Rows.uptoBulkAll]
theorem zuW{d:DataW H}{y:T}(h:y=mkT (aggB Tryz.prog 25) y.cells/\∃n,TyD Tryz.prog n 25 d y.cells):∃p:Prog,y= .ag (zax p)/\(T.ag (zax p)).w≤2*Rows.uptoBulk d:=by
 obtain⟨h1,n,h2⟩:=h
 obtain⟨p,hp⟩:=zvb h2
 rw[zsi,hp]at h1
 have:=zu9 ztR zv0 n _ (by decide +kernel) d y.cells h2
 refine⟨p,h1,?_⟩
 have hc:y.cells=zax p:=by rw[h1];rfl
 rw[hc]at this
 rw[w_ag];omega
end Go.Proofs.YtpnnpgbaiobbjaaGreatDoor
namespace Go.Proofs.YtpnnpgbaiobbjaaGreatDoor
open Go Go.TL
abbrev zvF:List (String×DataW Unit):=[("math/bits.deBruijn32tab",Rows.laid_math_bits_deBruijn32tab),("math/bits.deBruijn64tab",Rows.laid_math_bits_deBruijn64tab),("internal/strconv.uint64pow10",Rows.laid_internal_strconv_uint64pow10)]
def powL:List Int:=[1,10,100,1000,10000,100000,1000000,10000000,100000000,1000000000,10000000000,100000000000,1000000000000,10000000000000,100000000000000,1000000000000000,10000000000000000,100000000000000000,1000000000000000000,10000000000000000000]
theorem zqN{W:World}(h:laidMetH Tryz.prog zvF W):Glob (fun b _=>b<W.heap.size) W:=by
 have h1:laidMet Tryz.prog zvF W:=h
 have h2:laidMet Tryz.prog [("internal/strconv.uint64pow10",Lib.tabData .u64 powL)] W:=laidMet.tail (laidMet.tail h1)
 have h3:Lib.TabIs Tryz.prog W "internal/strconv.uint64pow10" .u64 powL:=Lib.tabIs_of_head (g:=gPow) (t:=318) (e:=285) (n:=20) (by kernel_rfl) (by kernel_rfl) Tryz.underlying318 Tryz.underlying285 (by kernel_rfl) (by kernel_rfl) h2
 unfold Lib.TabIs World.var? at h3
 rw[show Tryz.prog.globalNamed "internal/strconv.uint64pow10"=some gPow by kernel_rfl]at h3
 simp only[Option.bind_some]at h3
 intro b cs hb
 obtain⟨rfl,rfl⟩:=zuD hb
 cases hq:W.heap[gPow]? with
 | none=>rw[hq]at h3;cases h3
 | some o=>
   rw[hq]at h3
   cases o with
   | cells c e f=>
     simp only[qaH]at h3
     refine⟨fun _=>?_,e,f,?_⟩
     ·exact(qak.1 hq).1
     ·rw[h3];rfl
   | _=>cases h3
def litV:DataW Unit->Value
 | .lit (.int k z)=>.int k z
 | _=>.bool false
def tabC:DataW Unit->Array Value
 | .agg l=>(l.map litV).toArray
 | _=>#[]
def tabO(d:DataW Unit):Obj->Obj
 | .cells _ t frozen=>.cells (tabC d) t frozen
 | o=>o
noncomputable def zlh (os:Os):World:=
 { World.holding Tryz.prog os ⟨#[],#[],[]⟩ with heap:=(((World.holding Tryz.prog os ⟨#[],#[],[]⟩).heap.modify 1 (tabO Rows.laid_math_bits_deBruijn32tab)).modify 2 (tabO Rows.laid_math_bits_deBruijn64tab)).modify gPow (tabO Rows.laid_internal_strconv_uint64pow10) }
end Go.Proofs.YtpnnpgbaiobbjaaGreatDoor
