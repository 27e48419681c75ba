import Derived.Test.YtpnnpgbaiobbjaaGreatDoorPz
import Derived.Test.YtpnnpgbaiobbjaaGreatDoorRows
import Derived.Test.YtpnnpgbaiobbjaaGreatDoorCards
import Derived.Test.YtpnnpgbaiobbjaaGreatDoorTie
import Derived.Deep.DeepHandedRow
import Derived.Lib.LaidTab
import Derived.Stop.LaidErr
import Derived.WalkKit
import Derived.ProofKit
import Derived.OpenShut
import Derived.Test.YtpnnpgbaiobbjaaGreatDoorPk2
import Derived.Test.YtpnnpgbaiobbjaaGreatDoorPk5
import Derived.Test.YtpnnpgbaiobbjaaGreatDoorPk16
import Derived.Test.YtpnnpgbaiobbjaaGreatDoorPk17
import Derived.Test.YtpnnpgbaiobbjaaGreatDoorPk22
import Derived.Test.YtpnnpgbaiobbjaaGreatDoorPk26
import Derived.Test.YtpnnpgbaiobbjaaGreatDoorPk30
import Derived.Test.YtpnnpgbaiobbjaaGreatDoorPk37
set_option linter.unusedSimpArgs false
set_option linter.unusedVariables false
namespace Go.Proofs.YtpnnpgbaiobbjaaGreatDoor
open Go Go.TL
variable {H:Type}
theorem zsJ:Tryz.prog.cellsOf 4=1:=by kernel_rfl
theorem zoI:aggB Tryz.prog 9=false:=by unfold aggB;rw[Tryz.underlying9]
theorem ztK:Tryz.prog.cellsOf 43=1:=by kernel_rfl
theorem ztJ:Tryz.prog.cellsOf 49=1:=by kernel_rfl
theorem zse:Tryz.prog.cellsOf 170=3:=by kernel_rfl
theorem ztE:aggB Tryz.prog 170=true:=by unfold aggB;rw[Tryz.underlying170]
theorem zm6:Tryz.prog.cellsOf 33=1:=by kernel_rfl
theorem ze4:Tryz.prog.cellsOf 51=3:=by kernel_rfl
theorem zgK:aggB Tryz.prog 51=true:=by unfold aggB;rw[Tryz.underlying51]
theorem zr9:Tryz.prog.cellsOf 34=1:=by kernel_rfl
theorem zo5:Tryz.prog.cellsOf 55=7:=by kernel_rfl
theorem zoG:aggB Tryz.prog 55=true:=by unfold aggB;rw[Tryz.underlying55]
theorem zq5:Tryz.prog.cellsOf 80=1:=by kernel_rfl
theorem zjd:Tryz.prog.cellsOf 98=8:=by kernel_rfl
theorem zmS:aggB Tryz.prog 98=true:=by unfold aggB;rw[Tryz.underlying98]
theorem zm5:Tryz.prog.cellsOf 35=1:=by kernel_rfl
theorem zjc:Tryz.prog.cellsOf 79=1:=by kernel_rfl
theorem zmR:aggB Tryz.prog 79=true:=by unfold aggB;rw[Tryz.underlying79]
theorem zoU:Tryz.prog.cellsOf 77=1:=by kernel_rfl
theorem zks:Tryz.prog.cellsOf 82=6:=by kernel_rfl
theorem zsB:aggB Tryz.prog 82=true:=by unfold aggB;rw[Tryz.underlying82]
theorem zq4:Tryz.prog.cellsOf 23=1:=by kernel_rfl
theorem znb:Tryz.prog.cellsOf 38=8:=by kernel_rfl
theorem zsA:aggB Tryz.prog 38=true:=by unfold aggB;rw[Tryz.underlying38]
theorem ztI:Tryz.prog.cellsOf 22=1:=by kernel_rfl
theorem zsc:Tryz.prog.cellsOf 45=2:=by kernel_rfl
theorem ztD:aggB Tryz.prog 45=true:=by unfold aggB;rw[Tryz.underlying45]
theorem ztS:Tryz.prog.cellsOf 9=1:=by kernel_rfl
theorem zsd:Tryz.prog.cellsOf 53=6:=by kernel_rfl
theorem zuM{n:Nat}{d:DataW H}{ts:List T}(h:TyD Tryz.prog n 170 d ts):∃o:OnC,ts=[.s o.name,T.n o.t,T.n o.tag]:=by
 cases n with
 | zero=>exact h.elim
 | succ m=>
   simp only[TyD,Tryz.underlying170]at h
   obtain⟨xs,rfl,hl,hx,hf⟩:=h
   rw[zse]at hl
   match xs,hx,ts,hl with
   | [x0,x1,x2],_,[a,b,c],_=>
     have f0:TyD Tryz.prog m 9 x0 (([a,b,c].drop 0).take (Tryz.prog.cellsOf 9)):=hf 0 _ x0 rfl rfl
     have f1:TyD Tryz.prog m 3 x1 (([a,b,c].drop 1).take (Tryz.prog.cellsOf 3)):=hf 1 _ x1 rfl rfl
     have f2:TyD Tryz.prog m 3 x2 (([a,b,c].drop 2).take (Tryz.prog.cellsOf 3)):=hf 2 _ x2 rfl rfl
     simp only[zm7,ziA,qbc,qbg,qaH,qbk]at f0 f1 f2
     obtain⟨v0,e0⟩:=ty_s f0
     obtain⟨v1,e1⟩:=ty_i f1
     obtain⟨v2,e2⟩:=ty_i f2
     simp only[qa7,and_true]at e0 e1 e2
     refine⟨⟨v0,v1,v2⟩,?_⟩
     simp_all
     try rfl
theorem zjV{n:Nat}{d:DataW H}{ts:List T}(h:TyD Tryz.prog n 51 d ts):∃o:Decl,ts=[.s o.name,T.n o.ty,.sl 3 (o.clock.map onT)]:=by
 cases n with
 | zero=>exact h.elim
 | succ m=>
   simp only[TyD,Tryz.underlying51]at h
   obtain⟨xs,rfl,hl,hx,hf⟩:=h
   rw[ze4]at hl
   match xs,hx,ts,hl with
   | [x0,x1,x2],_,[a,b,c],_=>
     have f0:TyD Tryz.prog m 9 x0 (([a,b,c].drop 0).take (Tryz.prog.cellsOf 9)):=hf 0 _ x0 rfl rfl
     have f1:TyD Tryz.prog m 3 x1 (([a,b,c].drop 1).take (Tryz.prog.cellsOf 3)):=hf 1 _ x1 rfl rfl
     have f2:TyD Tryz.prog m 49 x2 (([a,b,c].drop 2).take (Tryz.prog.cellsOf 49)):=hf 2 _ x2 rfl rfl
     simp only[zm7,ztJ,ziA,qbc,qbg,qaH,qbk]at f0 f1 f2
     obtain⟨v0,e0⟩:=ty_s f0
     obtain⟨v1,e1⟩:=ty_i f1
     obtain⟨v2,e2⟩:=zdI onT Tryz.underlying49 zse f2 (fun k hk d ts ht=>by
      obtain⟨u,hu⟩:=zuM ht
      exact⟨u,by rw[ztE];first|exact hu|(rw[hu];rfl)⟩)
     simp only[qa7,and_true]at e0 e1 e2
     refine⟨⟨v0,v1,v2⟩,?_⟩
     simp_all
     try rfl
theorem zsu{n:Nat}{d:DataW H}{ts:List T}(h:TyD Tryz.prog n 55 d ts):∃o:Equ,mkT true ts=equT o:=by
 cases n with
 | zero=>exact h.elim
 | succ m=>
   simp only[TyD,Tryz.underlying55]at h
   obtain⟨xs,rfl,hl,hx,hf⟩:=h
   rw[zo5]at hl
   match xs,hx,ts,hl with
   | [x0,x1],_,[a,b,c,e,g,i,j],_=>
     have f0:TyD Tryz.prog m 43 x0 (([a,b,c,e,g,i,j].drop 0).take (Tryz.prog.cellsOf 43)):=hf 0 _ x0 rfl rfl
     have f1:TyD Tryz.prog m 53 x1 (([a,b,c,e,g,i,j].drop 1).take (Tryz.prog.cellsOf 53)):=hf 1 _ x1 rfl rfl
     simp only[ztK,zq6,qbc,qbg,qaH,qbk]at f0 f1
     obtain⟨v0,e0⟩:=zdI T.s Tryz.underlying43 ztS f0 (fun k hk d ts ht=>by
      obtain⟨u,hu⟩:=ty_s ht
      exact⟨u,by rw[zoI,hu];rfl⟩)
     obtain⟨v1,e1⟩:=zrW m m (qae _) _ _ f1
     unfold exC at e1
     simp only[qa7,and_true]at e0 e1
     refine⟨⟨v0,v1⟩,?_⟩
     simp_all
     try rfl
theorem zqI{n:Nat}{d:DataW H}{ts:List T}(h:TyD Tryz.prog n 98 d ts):∃o:Tran,mkT true ts=zag o:=by
 cases n with
 | zero=>exact h.elim
 | succ m=>
   simp only[TyD,Tryz.underlying98]at h
   obtain⟨xs,rfl,hl,hx,hf⟩:=h
   rw[zjd]at hl
   match xs,hx,ts,hl with
   | [x0,x1,x2],_,[a,b,c,e,g,i,j,k],_=>
     have f0:TyD Tryz.prog m 53 x0 (([a,b,c,e,g,i,j,k].drop 0).take (Tryz.prog.cellsOf 53)):=hf 0 _ x0 rfl rfl
     have f1:TyD Tryz.prog m 3 x1 (([a,b,c,e,g,i,j,k].drop 6).take (Tryz.prog.cellsOf 3)):=hf 1 _ x1 rfl rfl
     have f2:TyD Tryz.prog m 4 x2 (([a,b,c,e,g,i,j,k].drop 7).take (Tryz.prog.cellsOf 4)):=hf 2 _ x2 rfl rfl
     simp only[zsJ,zm7,zq6,qbc,qbg,qaH,qbk]at f0 f1 f2
     obtain⟨v0,e0⟩:=zrW m m (qae _) _ _ f0
     obtain⟨v1,e1⟩:=ty_i f1
     obtain⟨v2,e2⟩:=ty_b f2
     unfold exC at e0
     simp only[qa7,and_true]at e0 e1 e2
     refine⟨⟨v0,v1,v2⟩,?_⟩
     simp_all
     try rfl
theorem zuL{n:Nat}{d:DataW H}{ts:List T}(h:TyD Tryz.prog n 45 d ts):∃o:En,mkT true ts=enT o:=by
 cases n with
 | zero=>exact h.elim
 | succ m=>
   simp only[TyD,Tryz.underlying45]at h
   obtain⟨xs,rfl,hl,hx,hf⟩:=h
   rw[zsc]at hl
   match xs,hx,ts,hl with
   | [x0,x1],_,[a,b],_=>
     have f0:TyD Tryz.prog m 9 x0 (([a,b].drop 0).take (Tryz.prog.cellsOf 9)):=hf 0 _ x0 rfl rfl
     have f1:TyD Tryz.prog m 43 x1 (([a,b].drop 1).take (Tryz.prog.cellsOf 43)):=hf 1 _ x1 rfl rfl
     simp only[ztK,ziA,qbc,qbg,qaH,qbk]at f0 f1
     obtain⟨v0,e0⟩:=ty_s f0
     obtain⟨v1,e1⟩:=zdI T.s Tryz.underlying43 ztS f1 (fun k hk d ts ht=>by
      obtain⟨u,hu⟩:=ty_s ht
      exact⟨u,by rw[zoI,hu];rfl⟩)
     simp only[qa7,and_true]at e0 e1
     refine⟨⟨v0,v1⟩,?_⟩
     simp_all
     try rfl
end Go.Proofs.YtpnnpgbaiobbjaaGreatDoor
namespace Go.Proofs.YtpnnpgbaiobbjaaGreatDoor
open Go Go.TL
variable {H:Type}
theorem zsS:Tryz.prog.cellsOf 25=2:=by kernel_rfl
theorem zqW:aggB Tryz.prog 25=true:=by unfold aggB;rw[Tryz.underlying25]
theorem zum{n:Nat}(rec:∀j,j<n->∀(d:DataW H) ts,TyD Tryz.prog j 79 d ts->∃o:Auto,mkT true ts=zae o){d:DataW H}{ts:List T}(h:TyD Tryz.prog n 82 d ts):∃o:Sta,mkT true ts=staT o:=by
 cases n with
 | zero=>exact h.elim
 | succ m=>
   simp only[TyD,Tryz.underlying82]at h
   obtain⟨xs,rfl,hl,hx,hf⟩:=h
   rw[zks]at hl
   match xs,hx,ts,hl with
   | [x0,x1,x2,x3,x4,x5],_,[a,b,c,e,g,i],_=>
     have f0:TyD Tryz.prog m 9 x0 (([a,b,c,e,g,i].drop 0).take (Tryz.prog.cellsOf 9)):=hf 0 _ x0 rfl rfl
     have f1:TyD Tryz.prog m 33 x1 (([a,b,c,e,g,i].drop 1).take (Tryz.prog.cellsOf 33)):=hf 1 _ x1 rfl rfl
     have f2:TyD Tryz.prog m 34 x2 (([a,b,c,e,g,i].drop 2).take (Tryz.prog.cellsOf 34)):=hf 2 _ x2 rfl rfl
     have f3:TyD Tryz.prog m 35 x3 (([a,b,c,e,g,i].drop 3).take (Tryz.prog.cellsOf 35)):=hf 3 _ x3 rfl rfl
     have f4:TyD Tryz.prog m 80 x4 (([a,b,c,e,g,i].drop 4).take (Tryz.prog.cellsOf 80)):=hf 4 _ x4 rfl rfl
     have f5:TyD Tryz.prog m 80 x5 (([a,b,c,e,g,i].drop 5).take (Tryz.prog.cellsOf 80)):=hf 5 _ x5 rfl rfl
     simp only[zm5,zm6,zr9,ziA,zq5,qbc,qbg,qaH,qbk]at f0 f1 f2 f3 f4 f5
     obtain⟨v0,e0⟩:=ty_s f0
     obtain⟨v1,e1⟩:=zdI zaa Tryz.underlying33 ze4 f1 (fun k hk d ts ht=>by
      obtain⟨u,hu⟩:=zjV ht
      exact⟨u,by rw[zgK];first|exact hu|(rw[hu];rfl)⟩)
     obtain⟨v2,e2⟩:=zdI equT Tryz.underlying34 zo5 f2 (fun k hk d ts ht=>by
      obtain⟨u,hu⟩:=zsu ht
      exact⟨u,by rw[zoG];first|exact hu|(rw[hu];rfl)⟩)
     obtain⟨v3,e3⟩:=zdI zae Tryz.underlying35 zjc f3 (fun k hk d ts ht=>by
      obtain⟨u,hu⟩:=rec k (by omega) d ts ht
      exact⟨u,by rw[zmR];first|exact hu|(rw[hu];rfl)⟩)
     obtain⟨v4,e4⟩:=zdI zag Tryz.underlying80 zjd f4 (fun k hk d ts ht=>by
      obtain⟨u,hu⟩:=zqI ht
      exact⟨u,by rw[zmS];first|exact hu|(rw[hu];rfl)⟩)
     obtain⟨v5,e5⟩:=zdI zag Tryz.underlying80 zjd f5 (fun k hk d ts ht=>by
      obtain⟨u,hu⟩:=zqI ht
      exact⟨u,by rw[zmS];first|exact hu|(rw[hu];rfl)⟩)
     simp only[qa7,and_true]at e0 e1 e2 e3 e4 e5
     subst e0 e1 e2 e3 e4 e5
     refine⟨.mk v0 v1 v2 v3 v4 v5,?_⟩
     rw[zhX];unfold staC
     rfl
theorem ztw:∀(n m:Nat),m≤n->∀(d:DataW H) (ts:List T),TyD Tryz.prog m 79 d ts->∃o:Auto,mkT true ts=zae o:=by
 intro n
 induction n with
 | zero=>intro m hm d ts h;have:m=0:=by omega
         subst this;exact h.elim
 | succ n ih=>
   intro m hm d ts h
   cases m with
   | zero=>exact h.elim
   | succ m=>
     simp only[TyD,Tryz.underlying79]at h
     obtain⟨xs,rfl,hl,hx,hf⟩:=h
     rw[zjc]at hl
     match xs,hx,ts,hl with
     | [x0],_,[a],_=>
       have f0:TyD Tryz.prog m 77 x0 (([a].drop 0).take (Tryz.prog.cellsOf 77)):=hf 0 _ x0 rfl rfl
       simp only[zoU,qbc,qaH,qbk]at f0
       obtain⟨v0,e0⟩:=zdI staT Tryz.underlying77 zks f0 (fun k hk d ts ht=>by
        obtain⟨u,hu⟩:=zum (fun j hj d ts h=>ih j (by omega) d ts h) ht
        exact⟨u,by rw[zsB];exact hu⟩)
       simp only[qa7,and_true]at e0
       subst e0
       refine⟨.mk v0,?_⟩
       rw[zg5]
       rfl
theorem zul{n:Nat}{d:DataW H}{ts:List T}(h:TyD Tryz.prog n 38 d ts):∃o:Nod,mkT true ts=nodT o:=by
 cases n with
 | zero=>exact h.elim
 | succ m=>
   simp only[TyD,Tryz.underlying38]at h
   obtain⟨xs,rfl,hl,hx,hf⟩:=h
   rw[znb]at hl
   match xs,hx,ts,hl with
   | [x0,x1,x2,x3,x4,x5,x6,x7],_,[a,b,c,e,g,i,j,k],_=>
     have f0:TyD Tryz.prog m 9 x0 (([a,b,c,e,g,i,j,k].drop 0).take (Tryz.prog.cellsOf 9)):=hf 0 _ x0 rfl rfl
     have f1:TyD Tryz.prog m 33 x1 (([a,b,c,e,g,i,j,k].drop 1).take (Tryz.prog.cellsOf 33)):=hf 1 _ x1 rfl rfl
     have f2:TyD Tryz.prog m 33 x2 (([a,b,c,e,g,i,j,k].drop 2).take (Tryz.prog.cellsOf 33)):=hf 2 _ x2 rfl rfl
     have f3:TyD Tryz.prog m 33 x3 (([a,b,c,e,g,i,j,k].drop 3).take (Tryz.prog.cellsOf 33)):=hf 3 _ x3 rfl rfl
     have f4:TyD Tryz.prog m 34 x4 (([a,b,c,e,g,i,j,k].drop 4).take (Tryz.prog.cellsOf 34)):=hf 4 _ x4 rfl rfl
     have f5:TyD Tryz.prog m 35 x5 (([a,b,c,e,g,i,j,k].drop 5).take (Tryz.prog.cellsOf 35)):=hf 5 _ x5 rfl rfl
     have f6:TyD Tryz.prog m 36 x6 (([a,b,c,e,g,i,j,k].drop 6).take (Tryz.prog.cellsOf 36)):=hf 6 _ x6 rfl rfl
     have f7:TyD Tryz.prog m 36 x7 (([a,b,c,e,g,i,j,k].drop 7).take (Tryz.prog.cellsOf 36)):=hf 7 _ x7 rfl rfl
     simp only[zm5,zm6,zr9,zsa,ziA,qbc,qbg,qaH,qbk]at f0 f1 f2 f3 f4 f5 f6 f7
     obtain⟨v0,e0⟩:=ty_s f0
     obtain⟨v1,e1⟩:=zdI zaa Tryz.underlying33 ze4 f1 (fun k hk d ts ht=>by
      obtain⟨u,hu⟩:=zjV ht
      exact⟨u,by rw[zgK];first|exact hu|(rw[hu];rfl)⟩)
     obtain⟨v2,e2⟩:=zdI zaa Tryz.underlying33 ze4 f2 (fun k hk d ts ht=>by
      obtain⟨u,hu⟩:=zjV ht
      exact⟨u,by rw[zgK];first|exact hu|(rw[hu];rfl)⟩)
     obtain⟨v3,e3⟩:=zdI zaa Tryz.underlying33 ze4 f3 (fun k hk d ts ht=>by
      obtain⟨u,hu⟩:=zjV ht
      exact⟨u,by rw[zgK];first|exact hu|(rw[hu];rfl)⟩)
     obtain⟨v4,e4⟩:=zdI equT Tryz.underlying34 zo5 f4 (fun k hk d ts ht=>by
      obtain⟨u,hu⟩:=zsu ht
      exact⟨u,by rw[zoG];first|exact hu|(rw[hu];rfl)⟩)
     obtain⟨v5,e5⟩:=zdI zae Tryz.underlying35 zjc f5 (fun k hk d ts ht=>by
      obtain⟨u,hu⟩:=ztw k k (qae _) d ts ht
      exact⟨u,by rw[zmR];first|exact hu|(rw[hu];rfl)⟩)
     obtain⟨v6,e6⟩:=zdI exT Tryz.underlying36 zsd f6 (fun k hk d ts ht=>by
      obtain⟨u,hu⟩:=zrW k k (qae _) _ _ ht
      exact⟨u,by rw[zoH,hu,zaz];rfl⟩)
     obtain⟨v7,e7⟩:=zdI exT Tryz.underlying36 zsd f7 (fun k hk d ts ht=>by
      obtain⟨u,hu⟩:=zrW k k (qae _) _ _ ht
      exact⟨u,by rw[zoH,hu,zaz];rfl⟩)
     simp only[qa7,and_true]at e0 e1 e2 e3 e4 e5 e6 e7
     subst e0 e1 e2 e3 e4 e5 e6 e7
     refine⟨⟨v0,v1,v2,v3,v4,v5,v6,v7⟩,?_⟩
     skip
     rfl
theorem ztx{n:Nat}{d:DataW H}{ts:List T}(h:TyD Tryz.prog n 25 d ts):∃o:Prog,mkT true ts= .ag (zay o):=by
 cases n with
 | zero=>exact h.elim
 | succ m=>
   simp only[TyD,Tryz.underlying25]at h
   obtain⟨xs,rfl,hl,hx,hf⟩:=h
   rw[zsS]at hl
   match xs,hx,ts,hl with
   | [x0,x1],_,[a,b],_=>
     have f0:TyD Tryz.prog m 22 x0 (([a,b].drop 0).take (Tryz.prog.cellsOf 22)):=hf 0 _ x0 rfl rfl
     have f1:TyD Tryz.prog m 23 x1 (([a,b].drop 1).take (Tryz.prog.cellsOf 23)):=hf 1 _ x1 rfl rfl
     simp only[ztI,zq4,qbc,qbg,qaH,qbk]at f0 f1
     obtain⟨v0,e0⟩:=zdI enT Tryz.underlying22 zsc f0 (fun k hk d ts ht=>by
      obtain⟨u,hu⟩:=zuL ht
      exact⟨u,by rw[ztD];first|exact hu|(rw[hu];rfl)⟩)
     obtain⟨v1,e1⟩:=zdI nodT Tryz.underlying23 znb f1 (fun k hk d ts ht=>by
      obtain⟨u,hu⟩:=zul ht
      exact⟨u,by rw[zsA];first|exact hu|(rw[hu];rfl)⟩)
     simp only[qa7,and_true]at e0 e1
     subst e0 e1
     refine⟨⟨v0,v1⟩,?_⟩
     skip
     rfl
end Go.Proofs.YtpnnpgbaiobbjaaGreatDoor
namespace Go.Proofs.YtpnnpgbaiobbjaaGreatDoor
open Go Go.TL
variable {H:Type}
def zlp(P:Program):Nat->List Field->Nat->Bool
 | o,[],e=>Nat.beq o e
 | o,g::gs,e=>Nat.beq g.offset o && zlp P (o+P.cellsOf g.type) gs e
def zqF(P:Program)(t:TypeId):Bool:=match P.underlying t with
 | some (.struct fs)=>zlp P 0 fs.toList (P.cellsOf t)
 | _=>true
theorem zlq{P:Program}:∀(gs:List Field) (xs:List (DataW H)) (o e:Nat) (ts:List T),gs.length=xs.length->zlp P o gs e=true->ts.length=e->
  (∀(j:Nat) g x,gs[j]?=some g->xs[j]?=some x->((((ts.drop g.offset).take (P.cellsOf g.type)).map T.w).sum+1≤2*Rows.uptoBulk x))->((ts.drop o).map T.w).sum≤2*Rows.uptoBulkAll xs
 | [],[],o,e,ts,_,ht,hl,_=>by
   simp[zlp]at ht
   rw[qa1 (by omega)];simp
 | g::gs,x::xs,o,e,ts,hlen,ht,hl,h=>by
   simp only[zlp,qav,Nat.beq_eq]at ht
   obtain⟨h1,h2⟩:=ht
   have ih:=zlq gs xs (o+P.cellsOf g.type) e ts (by simpa using hlen) h2 hl (fun j g x hg hx=>h (j+1) g x (by simpa using hg) (by simpa using hx))
   have h0:=h 0 g x rfl rfl
   rw[h1]at h0
   have hs:ts.drop o=(ts.drop o).take (P.cellsOf g.type)++ts.drop (o+P.cellsOf g.type):=by
    rw[<-List.drop_drop,qaS]
   rw[hs,qan,qbL]
   simp only[Rows.uptoBulkAll]
   omega
 | [],_::_,_,_,_,hlen,_,_,_=>by simp at hlen
 | _::_,[],_,_,_,hlen,_,_,_=>by simp at hlen
theorem ztv{P:Program}{l:List TypeId}(hP:zbH P l=true)(hT:∀t∈l,zqF P t=true):∀(n:Nat) (t:TypeId),t∈l->∀(d:DataW H) (ts:List T),TyD P n t d ts->(ts.map T.w).sum+1≤2*Rows.uptoBulk d
 | 0,_,_,_,_,h=>h.elim
 | n+1,t,htl,d,ts,h=>by
   unfold TyD at h
   have ht:=hT t htl
   have hcl:=qaw.1 hP t htl
   unfold zqF at ht
   split at h
   ·obtain⟨b,rfl,rfl⟩:=h;simp[Rows.uptoBulk,T.w,strW]
   ·obtain⟨i,rfl,rfl,_⟩:=h;simp[Rows.uptoBulk,T.w,strW]
   ·obtain⟨l,rfl,rfl,_⟩:=h
    have:(T.v (str l)).w=1+l.length:=w_s l
    simp only[qak,qay,qat,qaK,Rows.uptoBulk]
    omega
   ·rename_i e hu
    have hel:e∈l:=by rw[hu]at hcl;simp at hcl;exact hcl.1.2
    obtain⟨els,sp,es,hd,rfl,hl,_,he⟩:=h
    have key:∀(es:List T) (els:List (DataW H)),es.length=els.length->(∀(i:Nat) x y,els[i]?=some x->es[i]?=some y->y=mkT (aggB P e) y.cells/\TyD P n e x y.cells)->(es.map T.w).sum≤2*Rows.uptoBulkAll els:=by
     intro es
     induction es with
     | nil=>intro els hl _;simp
     | cons y es ih=>
       intro els hl he
       cases els with
       | nil=>simp at hl
       | cons x els=>
         have h1:=ih els (by simpa using hl) (fun i x y hx hy=>he (i+1) x y (by simpa using hx) (by simpa using hy))
         obtain⟨g1,g2⟩:=he 0 x y rfl rfl
         have h2:=ztv hP hT n e hel x y.cells g2
         have h3:y.w≤(y.cells.map T.w).sum+1:=by
          cases y with
          | ag cs=>rw[w_ag];simp[T.cells];omega
          | v x=>simp[T.cells]
          | sl sz es=>simp[T.cells]
         simp only[qak,qat,Rows.uptoBulkAll]
         omega
    have hk:=key es els hl he
    have hw:((T.sl (P.cellsOf e) es).w)=1+(es.map T.w).sum:=w_sl _ _
    simp only[qak,qay,qat,qaK]
    rcases hd with ⟨rfl,rfl⟩|rfl
    ·simp[Rows.uptoBulkAll]at hk
     simp only[Rows.uptoBulk];omega
    ·simp only[Rows.uptoBulk];omega
   ·rename_i fs hu
    obtain⟨xs,rfl,hl,hx,hf⟩:=h
    rw[hu]at ht
    have:=zlq fs.toList xs 0 (P.cellsOf t) ts (by simpa using hx.symm) ht hl (fun j g x hg hx=>ztv hP hT n g.type (by rw[hu]at hcl;exact qbJ.1 (qaw.1 hcl g (qas hg))) x _ (hf j g x (by simpa using hg) hx))
    simp only[qbc]at this
    simp only[Rows.uptoBulk];omega
   ·exact h.elim
end Go.Proofs.YtpnnpgbaiobbjaaGreatDoor
namespace Go.Proofs.YtpnnpgbaiobbjaaGreatDoor
open Go Go.TL
variable {H:Type}
def zrI:List TypeId:=[25,22,45,23,38,33,51,49,170,34,55,36,53,35,79,77,82,80,98,43,9,3,4,5]
theorem zpP:zbH Tryz.prog zrI=true:=by kernel_rfl
theorem zuk:∀t∈zrI,zqF Tryz.prog t=true:=qaw.1 (by kernel_rfl)
theorem zkD{P:Program}{t:TypeId}{ts:List TypeId}{ds:List (DataW H)}{ys:List T}(h:Fits P (t::ts) ds ys):∃d ds' y ys',ds=d::ds'/\ys=y::ys'/\(y=mkT (aggB P t) y.cells/\∃n,TyD P n t d y.cells)/\Fits P ts ds' ys':=by
 cases ds with
 | nil=>cases ys <;> exact h.elim
 | cons d ds=>cases ys with
   | nil=>exact h.elim
   | cons y ys=>exact⟨d,ds,y,ys,rfl,rfl,h.1,h.2⟩
theorem zng{P:Program}{ds:List (DataW H)}{ys:List T}(h:Fits P [] ds ys):ds=[]/\ys=[]:=by
 cases ds <;> cases ys <;> first|exact⟨rfl,rfl⟩|exact h.elim
theorem zkg(d:DataW H)(ds:List (DataW H)):Rows.uptoBulkAll (d::ds)=Rows.uptoBulk d+Rows.uptoBulkAll ds:=by simp[Rows.uptoBulkAll]
theorem zpS{d:DataW H}{y:T}(h:y=mkT (aggB Tryz.prog 25) y.cells/\∃n,TyD Tryz.prog n 25 d y.cells):∃p:Prog,y= .ag (zay p)/\(T.ag (zay p)).w≤2*Rows.uptoBulk d:=by
 obtain⟨h1,n,h2⟩:=h
 obtain⟨p,hp⟩:=ztx h2
 rw[zqW,hp]at h1
 have:=ztv zpP zuk n _ (by decide +kernel) d y.cells h2
 refine⟨p,h1,?_⟩
 have hc:y.cells=zay p:=by rw[h1];rfl
 rw[hc]at this
 rw[w_ag];omega
end Go.Proofs.YtpnnpgbaiobbjaaGreatDoor
namespace Go.Proofs.YtpnnpgbaiobbjaaGreatDoor
open Go Go.TL
abbrev zt1:List (String×DataW Unit):=[("math/bits.deBruijn32tab",Rows.laid_math_bits_deBruijn32tab),("math/bits.deBruijn64tab",Rows.laid_math_bits_deBruijn64tab),("internal/strconv.uint64pow10",Rows.laid_internal_strconv_uint64pow10)]
def powL:List Int:=[1,10,100,1000,10000,100000,1000000,10000000,100000000,1000000000,10000000000,100000000000,1000000000000,10000000000000,100000000000000,1000000000000000,10000000000000000,100000000000000000,1000000000000000000,10000000000000000000]
theorem zkJ{W:World}(h:laidMetH Tryz.prog zt1 W):Glob (fun b _=>b<W.heap.size) W:=by
 have h1:laidMet Tryz.prog zt1 W:=h
 have h2:laidMet Tryz.prog [("internal/strconv.uint64pow10",Lib.tabData .u64 powL)] W:=laidMet.tail (laidMet.tail h1)
 have h3:Lib.TabIs Tryz.prog W "internal/strconv.uint64pow10" .u64 powL:=Lib.tabIs_of_head (g:=gPow) (t:=318) (e:=285) (n:=20) (by kernel_rfl) (by kernel_rfl) Tryz.underlying318 Tryz.underlying285 (by kernel_rfl) (by kernel_rfl) h2
 unfold Lib.TabIs World.var? at h3
 rw[show Tryz.prog.globalNamed "internal/strconv.uint64pow10"=some gPow by kernel_rfl]at h3
 simp only[Option.bind_some]at h3
 intro b cs hb
 obtain⟨rfl,rfl⟩:=zs3 hb
 cases hq:W.heap[gPow]? with
 | none=>rw[hq]at h3;cases h3
 | some o=>
   rw[hq]at h3
   cases o with
   | cells c e f=>
     simp only[qaB]at h3
     refine⟨fun _=>?_,e,f,?_⟩
     ·exact(qaj.1 hq).1
     ·rw[h3];rfl
   | _=>cases h3
def litV:DataW Unit->Value
 | .lit (.int k z)=>.int k z
 | _=>.bool false
def tabC:DataW Unit->Array Value
 | .agg l=>(l.map litV).toArray
 | _=>#[]
def tabO(d:DataW Unit):Obj->Obj
 | .cells _ t frozen=>.cells (tabC d) t frozen
 | o=>o
noncomputable def zfk (os:Os):World:=
 { World.holding Tryz.prog os ⟨#[],#[],[]⟩ with heap:=(((World.holding Tryz.prog os ⟨#[],#[],[]⟩).heap.modify 1 (tabO Rows.laid_math_bits_deBruijn32tab)).modify 2 (tabO Rows.laid_math_bits_deBruijn64tab)).modify gPow (tabO Rows.laid_internal_strconv_uint64pow10) }
end Go.Proofs.YtpnnpgbaiobbjaaGreatDoor
namespace Go.TL
open Go
section rules
variable {P:Program}{n:Nat}{env:Env}{H:Heap}{K:TK}{all:Array Oper}{rest:List Oper}{tab:Tab}{q:Bool}{d:Nat}{ty:TypeId}{pos:String}{aft:Array Edge}
theorem Fit.array{t:TypeId}{i:TyI}{c:Nat}{e:TypeId}(h:Fit P t i)(hk:i.k= .array c e):P.underlying t=some (.array c e):=by
 exact zwdr
end rules
end Go.TL
namespace Go.Proofs.YtpnnpgbaiobbjaaGreatDoor
open Go Go.TL
attribute [local irreducible] TR TO Then zam RetK Sound zab Kf GG zaX
theorem zjb(fid:FuncId)(p:Nod->Bool)(l:List Nod)(hl:l.length≤1000000000)(hp:∀d,Pure Tryz.prog fid [.t (nodT d)] (.b (p d))):
  Pure Tryz.prog 45 [.t (zax l),.fn fid []] (.b (l.any p)):=by
 have hs:=zfh fid [] rfl p l hl hp
 have ha:=zer p l
 generalize idxI p l=z at*
 have hu:unders 0 [.t (zax l),.fn fid []]=true:=rfl
 refine so Tryz.func45 ?_
 repeat' (first|refine wk ?_|exact wkc|intro hc|refine wk2 ?_ ?_|(apply TO.zdN hs;(iterate 3 exact rfl);exact Les.refl _;exact hu;exact rfl)|fail)
 all_goals
  refine RetK.pure rfl (Le.of_eq ?_) rfl
  refine congrArg (fun b=>SV.t (T.v (Value.bool b))) ?_
  rw[<-ha];simp;omega
theorem zla(n:Nod):Pure Tryz.prog 46 [.t (nodT n)] (.b (decide (0<n.autos.length))):=by
 have hm:(n.autos.map zae).length=n.autos.length:=qaa _
 show Pure _ _ [.t (.ag (nodC n))] _
 unfold nodC
 by_cases h:0<n.autos.length
 ·rw[decide_eq_true h]
  exact zwcr
 ·rw[decide_eq_false h]
  exact zwcr
theorem zpQ(p:Prog):zlb p= !(p.nodes.any fun n=>decide (0<n.autos.length)):=by
 unfold zlb
 rw[qcn]
 congr 2
 funext n
 simp[Nat.pos_iff_ne_zero]
theorem zmv(p:Prog)(hp:p.nodes.length≤1000000000):Pure Tryz.prog 21 [.t (.ag (zay p))] (.b (zlb p)):=by
 have hs:=zjb 46 _ p.nodes hp zla
 rw[zpQ]
 generalize (p.nodes.any fun n=>decide (0<n.autos.length))=z at*
 unfold zay
 refine so Tryz.func21 ?_
 repeat' (first|refine wu ?_|exact wkc|intro hc|refine wk2 ?_ ?_|(apply TO.zdN hs;(iterate 3 exact rfl);exact Les.refl _;exact rfl;exact rfl)|fail)
 exact wkr
theorem zkr(l:List Nod):countP (l.map plnN)=0:=by
 rw[countP_eq]
 induction l with
 | nil=>rfl
 | cons n l ih=>rw[qak,qak,qat,ih];rfl
theorem zrD(l:List Nod):zdl (l.map plnN)=0:=by
 have h:=znx (l.map plnN)
 rw[zkr]at h
 have:¬0<zdl (l.map plnN):=by rw[<-h];omega
 omega
theorem zpR(es:List En)(l:List Nod):zlb ⟨es,l.map plnN⟩=true:=by
 unfold zlb
 simp[plnN]
theorem zlS{l:List Nod}{j:Nat}(h:j<l.length):countP (l.take (j+1))=countP (l.take j)+countP [l[j]]:=by
 rw[countP_eq,countP_eq,countP_eq,qar h,qan,qbL]
theorem zoj{l:List Nod}{j:Nat}(h:j<l.length):zdl (l.take (j+1))=max (zdl (l.take j)) (zdl [l[j]]):=by
 unfold zdl
 rw[qar h,qbd]
 simp
set_option maxHeartbeats 16000000 in
theorem zjz (p:Prog) (hw:(T.ag (zay p)).w≤4000000):Pure Tryz.prog 7 [.t (.ag (zay p))] (.b true):=by
 have hh:=zff p (by omega)
 have ha:=zeV
 have c1:=zcg p (by omega)
 have c3:=zcB p (by omega)
 have hpr:zay p=[.sl 2 (p.enums.map enT),.sl 8 (p.nodes.map nodT)]:=rfl
 have hwP:(T.ag (zay p)).w=1+((T.sl 2 (p.enums.map enT)).w+((T.sl 8 (p.nodes.map nodT)).w+0)):=by rw[hpr,w_ag];rfl
 have hnl:=zai nodT 8 p.nodes
 have hmN:(p.nodes.map nodT).length=p.nodes.length:=qaa _
 have hqw:(T.ag (zay ⟨p.enums,p.nodes.map plnN⟩)).w≤100000000:=by
  have h1:∀l:List Nod,(((l.map plnN).map nodT).map T.w).sum≤((l.map nodT).map T.w).sum:=by
   intro l
   induction l with
   | nil=>exact qae _
   | cons n l ih=>
     simp only[qak,qat]
     have h2:(nodT (plnN n)).w≤(nodT n).w:=by
      unfold nodT plnN
      simp only[w_ag,qak,qay,qat,qaK,w_sl]
      omega
     omega
  have h2:(T.ag (zay ⟨p.enums,p.nodes.map plnN⟩)).w=1+((T.sl 2 (p.enums.map enT)).w+((T.sl 8 ((p.nodes.map plnN).map nodT)).w+0)):=by
   rw[show zay ⟨p.enums,p.nodes.map plnN⟩=[.sl 2 (p.enums.map enT),.sl 8 ((p.nodes.map plnN).map nodT)] from rfl,w_ag];rfl
  have h3:=h1 p.nodes
  rw[h2,w_sl 8]
  rw[hwP,w_sl 8]at hw
  omega
 have c5:=zcg ⟨p.enums,p.nodes.map plnN⟩ hqw
 have c6:=zcB ⟨p.enums,p.nodes.map plnN⟩ hqw
 have c7:=zmv ⟨p.enums,p.nodes.map plnN⟩ (by rw[qaa];omega)
 rw[zkr]at c5
 rw[zrD]at c6
 rw[zpR]at c7
 have hone:∀x∈p.nodes,(T.ag (zay ⟨[],[x]⟩)).w≤100000000:=fun x hx=>by
  have h1:=zaw (f:=nodT) (sz:=8) hx
  rw[show zay ⟨[],[x]⟩=[.sl 2 [],.sl 8 [nodT x]] from rfl,w_ag]
  simp only[qak,qay,qat,qaK,w_sl]
  omega
 have hcb:=fun j=>(countP_le (p.nodes.take j))
 have hnb:∀l:List Nod,zdl l≤100000001:=fun l=>zjB l 0 (by decide)
 have hcb2:∀j,countP (p.nodes.take j)≤4000000:=fun j=>by
  have h1:=zeL p.nodes j
  have h2:=countP_le p.nodes
  have h3:countP (p.nodes.take j)=(p.nodes.take j).foldl (fun n x=>n+zaO 100000001 x.autos) 0:=rfl
  omega
 generalize zjo p=z at hh
 cases z
 ·unfold zay at hh c1 c3 c5 c6 c7⊢
  dsimp only at c5 c6 c7
  refine so Tryz.func7 ?_
  repeat' (first|refine zqw ?_|refine wkt ?_|refine wv hh ?_|exact wkc|intro hc|refine wk2 ?_ ?_|fail)
  refine TR.zbK 8 0 1 rfl rfl rfl ?_
  refine TR.zak p.nodes.length (fun _=>True) (fun j=>[(1,.cp [.sl 2 (p.enums.map enT),zax p.nodes] 0),(3,.i (countP (p.nodes.take j):Nat)),(4,.i (zdl (p.nodes.take j):Nat)),(5,.ref 0 0),(6,.i j)]) (fun j=>[.cells [.t (.sl 2 (p.enums.map enT)),.sl 8 (((p.nodes.take j).map plnN).map nodT) 1],.tail (((p.nodes.take j).map plnN).map nodT).length]) trivial (fun j hlt _=>?_) (fun _=>?_) ⟨rfl,rfl,rfl,rfl,rfl,trivial⟩ rfl
  ·have hx:=zdQ hlt
   have d1:=zcg ⟨[],[p.nodes[j]]⟩ (hone _ (qad hlt))
   have d2:=zcB ⟨[],[p.nodes[j]]⟩ (hone _ (qad hlt))
   have e1:=zlS hlt
   have e2:=zoj hlt
   have b1:=hcb2 j
   have b2:=hcb2 (j+1)
   have b3:=hnb (p.nodes.take j)
   have b4:=hnb [p.nodes[j]]
   have hT:(p.nodes.take (j+1)).map plnN=(p.nodes.take j).map plnN++[plnN p.nodes[j]]:=by rw[qar hlt,qan];rfl
   have hml:(((p.nodes.take j).map plnN).map nodT).length≤p.nodes.length:=by simp;omega
   rw[e1]at b2
   unfold zay zax at d1 d2
   dsimp only at d1 d2
   clear hone hcb hcb2 hnb c5 c6 c7 hh c1 c3
   generalize countP (p.nodes.take j)=a1 at*
   generalize zdl (p.nodes.take j)=a2 at*
   generalize countP [p.nodes[j]]=a3 at*
   generalize zdl [p.nodes[j]]=a4 at*
   have hnT:nodT p.nodes[j]= .ag [.s p.nodes[j].name,zad p.nodes[j].ins,zad p.nodes[j].outs,zad p.nodes[j].locals,.sl 7 (p.nodes[j].eqs.map equT),.sl 1 (p.nodes[j].autos.map zae),.sl 6 (p.nodes[j].assume.map exT),.sl 6 (p.nodes[j].ensure.map exT)]:=rfl
   have hnP:nodT (plnN p.nodes[j])= .ag [.s p.nodes[j].name,zad p.nodes[j].ins,zad p.nodes[j].outs,zad p.nodes[j].locals,.sl 7 (p.nodes[j].eqs.map equT),.sl 1 [],.sl 6 (p.nodes[j].assume.map exT),.sl 6 (p.nodes[j].ensure.map exT)]:=rfl
   simp only[qak,qay,hnT]at d1 d2
   unfold nodC at hx
   repeat' (first|exact wkc|intro hc|refine wk2 ?_ ?_|refine wkt ?_|refine zqo ?_|refine wvS d1 ?_|refine wvS d2 ?_|refine zqv ?_|fail)
   apply TO.maxi;(iterate 3 exact rfl)
   repeat' (first|refine zqi ?_|refine zqh ?_|refine zqj ?_|refine zqg ?_|fail)
   apply TO.indexAddr zah;(iterate 8 exact rfl);omega;exact hx
   iterate 11 (first|refine zqw ?_|refine zqi ?_|refine zqh ?_|refine zqj ?_|refine zqg ?_)
   refine TR.zbK 1 2 5 rfl rfl rfl ?_
   refine TR.forget 2 5 rfl rfl rfl ?_
   repeat' (first|refine wkt ?_|refine zqe ?_|refine zqv ?_|exact wkc|intro hc|refine wk2 ?_ ?_|refine wk ?_|fail)
   exact zab.zk0 2 hlt trivial rfl rfl (by(try dsimp only);rw[hT,qan,qai];rfl) rfl rfl (by(try dsimp only);rw[e1,e2,qbB,zeJ];exact⟨rfl,rfl,rfl,rfl,rfl,trivial⟩)
  ·refine TR.forget 0 1 rfl rfl rfl ?_
   simp only[qag]
   generalize countP p.nodes=a1 at*
   generalize zdl p.nodes=a2 at*
   repeat' (first|exact wkc|(intro hc;exact absurd rfl hc)|intro hc|refine wk2 ?_ ?_|refine wkt ?_|refine wv c1 ?_|refine wv c3 ?_|refine wv c5 ?_|refine wv c6 ?_|refine wv c7 ?_|refine wv ha ?_|refine wk ?_|fail)
   exact wkr
 ·unfold zay at*
  refine so Tryz.func7 ?_
  repeat' (first|refine wu ?_|exact wkc|intro hc|refine wk2 ?_ ?_|refine wv hh ?_|refine wv ha ?_|fail)
  exact wkr
end Go.Proofs.YtpnnpgbaiobbjaaGreatDoor
