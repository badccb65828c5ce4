/- Parts. -/
import Derived.Test.YtfdohkdifdemeaaGreatDoorQdub
import Derived.RowKit
import Derived.ChangeSame
import Derived.Carry
import Derived.OpenShut
import Derived.Deep.Slices
import Derived.Deep.Fields
import Derived.Lib.LaidTab
import Derived.Laws.OwnMore
set_option linter.all false
section
namespace bt
open Go Go.RowKit
structure Tok{α:Type}(a:α):Type where
def dZ(P:Program)(c:fa)(Q:eb->Fr->World->Prop)(S:Fr)(w:World)(_:Tok (P,c,Q)):Prop:=dT P c Q S w
def jI(P:Program)(b6:List Step)(S:Fr)(w:World)(K:Fr->World->Prop)(_:Tok (P,b6,K)):Prop:=steps P b6 S w K
def l1(P:Program)(b6:List Step)(S:Fr)(w:World)(K:Fr->Prop)(_:Tok (P,b6,K)):Prop:=sb P b6 S w K
def fK(P:Program)(w0:World)(x:eX)(S:Fr)(w:World)(K:Fr->World->Prop)(_:Tok (P,w0,x,K)):Prop:=nU P w0 x S w K
def yS(P:Program)(w0:World)(s:Step)(S:Fr)(K:Fr->Prop)(_:Tok (P,w0,s,K)):Prop:=Fo P w0 s S K
def rK(P:Program)(s:Step)(S:Fr)(w:World)(K:Fr->World->Prop)(_:Tok (P,s,K)):Prop:=om P s S w K
def rF(P:Program)(w0:World)(s:Step)(S:Fr)(w:World)(K:Fr->World->Prop)(_:Tok (P,w0,s,K)):Prop:=B1 P w0 s S w K
def pw(P:Program)(i:Ins)(S:Fr)(w:World)(K:Value->World->Prop)(_:Tok (P,i,K)):Prop:=lL P i S w K
def mF(P:Program)(i:Ins)(S:Fr)(w:World)(K:Value->World->Prop)(_:Tok (P,i,K)):Prop:=nw P i S w K
def w6(P:Program)(i:pt)(S:Fr)(w:World)(K:Value->World->Prop)(_:Tok (P,i,K)):Prop:=Pd P i S w K
def w7(P:Program)(x:Value)(l:List Value)(w:World)(K:Value->World->Prop)(_:Tok (P,K)):Prop:=Pe P x l w K
def n4(P:Program)(i:Ins)(S:Fr)(w:World)(K:Value->Prop)(_:Tok (P,i,K)):Prop:=l5 P i S w K
def xi(P:Program)(i:pt)(S:Fr)(w:World)(K:Value->Prop)(_:Tok (P,i,K)):Prop:=Zz P i S w K
def F5(P:Program)(f:FuncId)(l:List Value)(w:World)(K:Value->Prop)(_:Tok (P,f,K)):Prop:=QO P f l w K
def BS(P:Program)(x:Value)(l:List Value)(w:World)(K:Value->Prop)(_:Tok (P,K)):Prop:=ZA P x l w K
def eJ(P:Program)(i:vo)(S:Fr)(K:Value->Prop)(_:Tok (P,i,K)):Prop:=n3 P i S K
def oa(i:tA)(S:Fr)(w:World)(K:Value->Prop)(_:Tok (i,K)):Prop:=mJ i S w K
def h9(P:Program)(i:rn)(S:Fr)(w:World)(K:Value->World->Prop)(_:Tok (P,i,K)):Prop:=mD P i S w K
def w5(P:Program)(i:pt)(S:Fr)(w:World)(K:Value->World->Prop)(_:Tok (P,i,K)):Prop:=rl P i S w K
def gq(P:Program)(op:BinOp)(t:TypeId)(c3:Operand)(c6:Operand)(x:Value)(y:Value)(K:Value->Prop)(_:Tok (P,op,t,c3,c6,K)):Prop:=nu P op t c3 c6 x y K
def xq(op:UnOp)(x:Value)(K:Value->Prop)(_:Tok (op,K)):Prop:=zl op x K
def BD(k:IntKind)(x:Value)(K:Value->Prop)(_:Tok (k,K)):Prop:=FH k x K
def nC(k:IntKind)(n:Int)(K:Value->Prop)(_:Tok (k,K)):Prop:=rC k n K
def j3(v:Value)(A:Prop)(B:Prop)(_:Tok (A,B)):Prop:=lK v A B
def jn(v:Value)(b:Bool)(A:Prop)(B:Prop)(C:Prop)(_:Tok (b,A,B,C)):Prop:=k8 v b A B C
def BH(off:Nat)(x:Value)(K:Value->Prop)(_:Tok (off,K)):Prop:=FI off x K
def za(sz:Nat)(x:Value)(i:Value)(K:Value->Prop)(_:Tok (sz,K)):Prop:=FN sz x i K
def FM(len:Nat)(sz:Nat)(x:Value)(i:Value)(K:Value->Prop)(_:Tok (len,sz,K)):Prop:=Jl len sz x i K
def FQ(x:Value)(i:Value)(K:Value->Prop)(_:Tok (K)):Prop:=Jn x i K
def FP(len:Nat)(x:Value)(i:Value)(K:Value->Prop)(_:Tok (len,K)):Prop:=Jm len x i K
def FK(off:Nat)(x:Value)(K:Value->Prop)(_:Tok (off,K)):Prop:=Jk off x K
def BI(off:Nat)(n:Nat)(x:Value)(K:Value->Prop)(_:Tok (off,n,K)):Prop:=FJ off n x K
def FC(S:Fr)(z:List Value)(pl:List (Nat×Nat))(dy:List (Nat×Operand))(K:Value->Prop)(_:Tok (z,pl,dy,K)):Prop:=Jd S z pl dy K
def tC(S:Fr)(sz:Nat)(x:Value)(bf:Option Operand)(ad:Option Operand)(mx:Option Operand)(K:Value->Prop)(_:Tok (sz,bf,ad,mx,K)):Prop:=Jz S sz x bf ad mx K
def F7(S:Fr)(x:Value)(bf:Option Operand)(ad:Option Operand)(K:Value->Prop)(_:Tok (bf,ad,K)):Prop:=Jy S x bf ad K
def tw(x:Value)(i:Nat)(K:Value->Prop)(_:Tok (i,K)):Prop:=vi x i K
def BL(x:Value)(K:Value->Prop)(_:Tok (K)):Prop:=FW x K
def BK(x:Value)(K:Value->Prop)(_:Tok (K)):Prop:=FU x K
def BB(x:Value)(K:Value->Prop)(_:Tok (K)):Prop:=FG x K
def BM(x:Value)(y:Value)(K:Value->Prop)(_:Tok (K)):Prop:=FZ x y K
def BN(x:Value)(y:Value)(K:Value->Prop)(_:Tok (K)):Prop:=F0 x y K
def xg(x:Value)(K:Value->Prop)(_:Tok (K)):Prop:=xf x K
def qp(x:Value)(w:World)(K:Value->Prop)(_:Tok (K)):Prop:=FT x w K
def sk(n:Nat)(x:Value)(w:World)(K:Value->Prop)(_:Tok (n,K)):Prop:=FR n x w K
def zb(d:TypeDesc)(z:Value)(ok:Bool)(m:Value)(k:Value)(w:World)(K:Value->Prop)(_:Tok (d,z,ok,K)):Prop:=Jq d z ok m k w K
def FV(m:Value)(w:World)(K:Value->Prop)(_:Tok (K)):Prop:=Jp m w K
def qw(x:Value)(v:Value)(w:World)(K:World->Prop)(_:Tok (K)):Prop:=xo x v w K
def zk(n:Nat)(x:Value)(v:Value)(w:World)(K:World->Prop)(_:Tok (n,K)):Prop:=zj n x v w K
def xc(e:TypeId)(sz:Nat)(b:Nat)(z:Value)(l:Value)(c:Value)(w:World)(K:Value->World->Prop)(_:Tok (e,sz,b,z,K)):Prop:=Jr e sz b z l c w K
def BA(S:Fr)(e:TypeId)(len:Nat)(sz:Nat)(z:List Value)(dy:List (Nat×Operand))(w:World)(K:Value->World->Prop)(_:Tok (e,len,sz,z,dy,K)):Prop:=FB S e len sz z dy w K
def k4(P:Program)(t:TypeId)(e:TypeId)(sz:Nat)(b:Nat)(s:Value)(x:Value)(w:World)(K:Value->World->Prop)(_:Tok (P,t,e,sz,b,K)):Prop:=w4 P t e sz b s x w K
def xd(d:TypeDesc)(m:Value)(k:Value)(v:Value)(w:World)(K:World->Prop)(_:Tok (d,K)):Prop:=Js d m k v w K
def F3(x:Value)(w:World)(K:Value->World->Prop)(_:Tok (K)):Prop:=Ju x w K
def F6(x:Value)(w:World)(K:Value->World->Prop)(_:Tok (K)):Prop:=QZ x w K
def tB(P:Program)(op:Op)(ty:TypeId)(S:Fr)(w:World)(K:Value->World->Prop)(_:Tok (P,op,ty,K)):Prop:=QX P op ty S w K
def y5(P:Program)(f:FuncId)(l:List Value)(w:World)(K:Value->World->Prop)(_:Tok (P,f,K)):Prop:=FF P f l w K
def F8(P:Program)(f:FuncId)(l:List Value)(w:World)(K:Value->World->Prop)(Z:List PanicEntry->World->Prop)(_:Tok (P,f,K,Z)):Prop:=xp P f l w K Z
def BR(v:Value)(Z:List PanicEntry->Prop)(_:Tok (Z)):Prop:=tz v Z
def vf(P:Program)(x:Value)(l:List Value)(w:World)(K:Value->World->Prop)(_:Tok (P,K)):Prop:=y4 P x l w K
def xe(t:TypeId)(cs:Array Value)(w:World)(K:Value->World->Prop)(_:Tok (t,K)):Prop:=Zs t cs w K
def F1(w:World)(K:Value->World->Prop)(_:Tok (K)):Prop:=Zr w K
def xb(P:Program)(b:fa)(Q:eb->Fr->World->Prop)(S:Fr)(w:World)(_:Tok (P,b,Q)):Prop:=P9 P b Q S w
def iv(r:List l3)(S:Fr)(w:World)(K:List Value->Prop)(_:Tok (r,K)):Prop:=oJ r S w K
def hr(N:Fr->World->Prop)(Q:eb->Fr->World->Prop)(_:Tok (N,Q)):eb->Fr->World->Prop:=tr N Q
def pJ(i:Nat)(Q:eb->Fr->World->Prop)(_:Tok (i,Q)):eb->Fr->World->Prop:=zx i Q
def rJ(r:List l3)(R:Value->World->Prop)(_:Tok (r,R)):eb->Fr->World->Prop:=CB r R
def vR(r:List l3)(R:Value->World->Prop)(Z:List PanicEntry->World->Prop)(_:Tok (r,R,Z)):eb->Fr->World->Prop:=SM r R Z
section
variable{P:Program}{Q:eb->Fr->World->Prop}{N c0:Fr->World->Prop}{hg:Fr->Prop}{aI:Value->Prop}{K:Value->World->Prop}{k9:List Value->Prop}{R:Value->World->Prop}{Z:List PanicEntry->World->Prop}{zn:List PanicEntry->Prop}{S:Fr}{w:World}{A B C:Prop}
set_option linter.unusedVariables false
theorem OJ  {t}:dZ P .skip Q S w t=Q .normal S w:=propext Iff.rfl
theorem OK  {b6}{t}:dZ P (.bN b6) Q S w t=jI P b6 S w (fun S w=>Q .normal S w) ⟨⟩:=propext Iff.rfl
theorem OL  {b6}{t}:dZ P (.dV b6) Q S w t=l1 P b6 S w (fun S => ∀w',Ext w w'->Q .normal S w') ⟨⟩:=propext Iff.rfl
theorem OM  {x}{t}:dZ P (.ed x) Q S w t=(∀av,Ext w av->fK P av x S av (fun S w=>Q .normal S w) ⟨⟩):=propext Iff.rfl
theorem ON  {w0}{t}:fK P w0 .done S w c0 t=c0 S w:=propext Iff.rfl
theorem OO  {w0}{t}:fK P w0 .nil S w c0 t=True:=propext Iff.rfl
theorem OP  {w0 s r}{t}:fK P w0 (.take s r) S w c0 t=yS P w0 s S (fun S=>fK P w0 r S w c0 ⟨⟩) ⟨⟩:=propext Iff.rfl
theorem OQ  {w0 s r}{t}:fK P w0 (.alt s r .nil) S w c0 t=rF P w0 s S w (fun S w=>fK P w0 r S w c0 ⟨⟩) ⟨⟩:=and_true _
theorem OR  {w0 s r hP gw km}{t}:fK P w0 (.alt s r (.alt hP gw km)) S w c0 t=(rF P w0 s S w (fun S w=>fK P w0 r S w c0 ⟨⟩) ⟨⟩/\fK P w0 (.alt hP gw km) S w c0 ⟨⟩):=propext Iff.rfl
theorem OS  {w0 s r hP gw km}{t}:fK P w0 (.alt s r (.bZ hP gw km)) S w c0 t=(rF P w0 s S w (fun S w=>fK P w0 r S w c0 ⟨⟩) ⟨⟩/\fK P w0 (.bZ hP gw km) S w c0 ⟨⟩):=propext Iff.rfl
theorem OU  {w0 s r}{t}:fK P w0 (.bZ s r .nil) S w c0 t=rK P s S w (fun S w=>fK P w0 r S w c0 ⟨⟩) ⟨⟩:=and_true _
theorem OV  {w0 s r hP gw km}{t}:fK P w0 (.bZ s r (.alt hP gw km)) S w c0 t=(rK P s S w (fun S w=>fK P w0 r S w c0 ⟨⟩) ⟨⟩/\fK P w0 (.alt hP gw km) S w c0 ⟨⟩):=propext Iff.rfl
theorem OW  {w0 s r hP gw km}{t}:fK P w0 (.bZ s r (.bZ hP gw km)) S w c0 t=(rK P s S w (fun S w=>fK P w0 r S w c0 ⟨⟩) ⟨⟩/\fK P w0 (.bZ hP gw km) S w c0 ⟨⟩):=propext Iff.rfl
theorem OX  {d i}{t}:rK P ⟨d,none,i⟩ S w c0 t=mF P i S w (fun v w'=>c0 (put S d v) w') ⟨⟩:=propext Iff.rfl
theorem OY  {d j b i}{t}:rK P ⟨d,some (j,b),i⟩ S w c0 t=jn (S j) b (mF P i (cq S j (.bool b)) w (fun v w'=>c0 (put (cq S j (.bool b)) d v) w') ⟨⟩) (c0 (put (cq S j (.bool (!b))) d undef) w) (c0 (put S d undef) w) ⟨⟩:=propext Iff.rfl
theorem OZ  {w0 d i}{t}:yS P w0 ⟨d,none,i⟩ S hg t=n4 P i S w0 (fun v=>hg (put S d v)) ⟨⟩:=propext Iff.rfl
theorem O0  {w0 d j b i}{t}:yS P w0 ⟨d,some (j,b),i⟩ S hg t=jn (S j) b (n4 P i (cq S j (.bool b)) w0 (fun v=>hg (put (cq S j (.bool b)) d v)) ⟨⟩) (hg (put (cq S j (.bool (!b))) d undef)) (hg (put S d undef)) ⟨⟩:=propext Iff.rfl
theorem O1  {w0 d i}{t}:rF P w0 ⟨d,none,i⟩ S w c0 t=pw P i S w (fun v w'=>Ext w0 w'/\c0 (put S d v) w') ⟨⟩:=propext Iff.rfl
theorem O2  {w0 d j b i}{t}:rF P w0 ⟨d,some (j,b),i⟩ S w c0 t=jn (S j) b (pw P i (cq S j (.bool b)) w (fun v w'=>Ext w0 w'/\c0 (put (cq S j (.bool b)) d v) w') ⟨⟩) (c0 (put (cq S j (.bool (!b))) d undef) w) (c0 (put S d undef) w) ⟨⟩:=propext Iff.rfl
theorem cF  {a b}{t}:dZ P (.seq a b) Q S w t=dZ P a (hr (fun S w=>dZ P b Q S w ⟨⟩) Q ⟨⟩) S w ⟨⟩:=propext Iff.rfl
theorem O3  {c x y}{t}:dZ P (.cond c x y) Q S w t=j3 (bn S c) (dZ P x Q S w ⟨⟩) (dZ P y Q S w ⟨⟩) ⟨⟩:=propext Iff.rfl
theorem O4  {id b}{t}:dZ P (.aV id b) Q S w t=dZ P b (pJ id Q ⟨⟩) S w ⟨⟩:=propext Iff.rfl
theorem O5  {id}{t}:dZ P (.exit id) Q S w t=Q (.exit id) S w:=propext Iff.rfl
theorem O6  {t}:dZ P .ret Q S w t=Q .ret S w:=propext Iff.rfl
theorem O7  {b6 d f l}{t}:dZ P (.ff b6 d f l) Q S w t=jI P b6 S w (fun S w=>F8 P f (l.map (bn S)) w (fun v w'=>Q .normal (put S d v) w') (fun c w'=>Q (.fS c) S w') ⟨⟩) ⟨⟩:=propext Iff.rfl
theorem O8  {b6 x}{t}:dZ P (.q9 b6 x) Q S w t=jI P b6 S w (fun S w=>BR (bn S x) (fun c=>Q (.fS c) S w) ⟨⟩) ⟨⟩:=propext Iff.rfl
theorem O9  {i:TypeId}{v:Value}{t}:BR (.iface i v) zn t=zn [{ v:=.iface i v,recovered:=false }]:=bt.aja i v zn
theorem Pa  {c}{t}:hr N Q t (.fS c) S w=Q (.fS c) S w:=propext Iff.rfl
theorem Pb{i}{c}{t}:pJ i Q t (.fS c) S w=Q (.fS c) S w:=propext Iff.rfl
theorem Pc{r}{t}:vR r R Z t .normal S w=iv r S w (fun vs=>R (gC vs) w) ⟨⟩:=propext Iff.rfl
theorem si{r}{t}:vR r R Z t .ret S w=iv r S w (fun vs=>R (gC vs) w) ⟨⟩:=propext Iff.rfl
theorem Pf{r}{c}{t}:vR r R Z t (.fS c) S w=Z c w:=propext Iff.rfl
theorem Pg  {b}{t}:dZ P (.loop b) Q S w t=xb P b Q S w ⟨⟩:=propext Iff.rfl
theorem Ph  {t}:hr N Q t .normal S w=N S w:=propext Iff.rfl
theorem Pj  {i}{t}:hr N Q t (.exit i) S w=Q (.exit i) S w:=propext Iff.rfl
theorem Pk  {t}:hr N Q t .ret S w=Q .ret S w:=propext Iff.rfl
theorem Pl{i}{t}:pJ i Q t .normal S w=Q .normal S w:=propext Iff.rfl
theorem Pm{i}{t}:pJ i Q t .ret S w=Q .ret S w:=propext Iff.rfl
theorem Pn{i}{j}{t}:pJ i Q t (.exit j) S w=if j=i then Q .normal S w else Q (.exit j) S w:=propext Iff.rfl
theorem Po{r}{t}:rJ r R t .normal S w=iv r S w (fun vs=>R (gC vs) w) ⟨⟩:=propext Iff.rfl
theorem w9{r}{t}:rJ r R t .ret S w=iv r S w (fun vs=>R (gC vs) w) ⟨⟩:=propext Iff.rfl
theorem iK  {t}:jI P [] S w c0 t=c0 S w:=propext Iff.rfl
theorem c9  {d i r}{t}:jI P (⟨d,none,i⟩ :: r) S w c0 t=mF P i S w (fun v w'=>jI P r (put S d v) w' c0 ⟨⟩) ⟨⟩:=propext Iff.rfl
theorem fj  {d j b i r}{t}:jI P (⟨d,some (j,b),i⟩ :: r) S w c0 t=jn (S j) b (mF P i (cq S j (.bool b)) w (fun v w'=>jI P r (put (cq S j (.bool b)) d v) w' c0 ⟨⟩) ⟨⟩) (jI P r (put (cq S j (.bool (!b))) d undef) w c0 ⟨⟩) (jI P r (put S d undef) w c0 ⟨⟩) ⟨⟩:=propext Iff.rfl
theorem et  {t}:l1 P [] S w hg t=hg S:=propext Iff.rfl
theorem hS  {d i r}{t}:l1 P (⟨d,none,i⟩ :: r) S w hg t=n4 P i S w (fun v=>l1 P r (put S d v) w hg ⟨⟩) ⟨⟩:=propext Iff.rfl
theorem k6  {d j b i r}{t}:l1 P (⟨d,some (j,b),i⟩ :: r) S w hg t=jn (S j) b (n4 P i (cq S j (.bool b)) w (fun v=>l1 P r (put (cq S j (.bool b)) d v) w hg ⟨⟩) ⟨⟩) (l1 P r (put (cq S j (.bool (!b))) d undef) w hg ⟨⟩) (l1 P r (put S d undef) w hg ⟨⟩) ⟨⟩:=propext Iff.rfl
theorem jL  {i}{t}:pw P (.p i) S w K t=eJ P i S (fun v=>K v w) ⟨⟩:=propext Iff.rfl
theorem kJ  {i}{t}:pw P (.r i) S w K t=oa i S w (fun v=>K v w) ⟨⟩:=propext Iff.rfl
theorem jM  {i}{t}:pw P (.e i) S w K t=h9 P i S w K ⟨⟩:=propext Iff.rfl
theorem Pt  {i}{t}:pw P (.c i) S w K t=w5 P i S w K ⟨⟩:=propext Iff.rfl
theorem Pu  {i}{t}:mF P (.p i) S w K t=eJ P i S (fun v=>K v w) ⟨⟩:=propext Iff.rfl
theorem Pv  {i}{t}:mF P (.r i) S w K t=oa i S w (fun v=>K v w) ⟨⟩:=propext Iff.rfl
theorem Pw  {i}{t}:mF P (.e i) S w K t=h9 P i S w K ⟨⟩:=propext Iff.rfl
theorem Px  {i}{t}:mF P (.c i) S w K t=w6 P i S w K ⟨⟩:=propext Iff.rfl
theorem Py  {i}{t}:n4 P (.p i) S w aI t=eJ P i S aI ⟨⟩:=propext Iff.rfl
theorem Pz  {i}{t}:n4 P (.r i) S w aI t=oa i S w aI ⟨⟩:=propext Iff.rfl
theorem PA  {i}{t}:n4 P (.c i) S w aI t=xi P i S w aI ⟨⟩:=propext Iff.rfl
theorem PB  {f l}{t}:xi P (.fn f l) S w aI t=F5 P f (l.map (bn S)) w aI ⟨⟩:=propext Iff.rfl
theorem PC  {x l}{t}:xi P (.val x l) S w aI t=BS P (bn S x) (l.map (bn S)) w aI ⟨⟩:=propext Iff.rfl
theorem PD  {t}:jn (.bool true) true A B C t=A:=bt.adf A B C
theorem H1  {t}:jn (.bool true) false A B C t=B:=bt.ade A B C
theorem PE  {t}:jn (.bool false) true A B C t=B:=bt.adb A B C
theorem PF  {t}:jn (.bool false) false A B C t=A:=bt.ada A B C
theorem PG  (u:Bool){t}:jn undef u A B C t=C:=bt.adg u A B C
theorem PH  (u:Bool){t}:jn (.bool u) true A B C t=j3 (.bool u) A B ⟨⟩:=(bt.Tl u true A B C).trans (by rfl)
theorem PI  (u:Bool){t}:jn (.bool u) false A B C t=j3 (.bool u) B A ⟨⟩:=(bt.Tl u false A B C).trans (by rfl)
theorem PJ  {t}:j3 (.bool true) A B t=A:=aaV A B
theorem PK  {t}:j3 (.bool false) A B t=B:=aaT A B
theorem PL  (u:Bool){t}:j3 (.bool (!u)) A B t=j3 (.bool u) B A ⟨⟩:=aaU u A B
theorem PM  {x}{t}:eJ P (.p8 x) S aI t=aI (bn S x):=propext Iff.rfl
theorem PN  {c x y}{t}:eJ P (.pick c x y) S aI t=j3 (bn S c) (aI (bn S x)) (aI (bn S y)) ⟨⟩:=propext Iff.rfl
theorem PO  {op ty x y}{t}:eJ P (.bin op ty x y) S aI t=gq P op ty x y (bn S x) (bn S y) aI ⟨⟩:=propext Iff.rfl
theorem PQ  {op x}{t}:eJ P (.un op x) S aI t=xq op (bn S x) aI ⟨⟩:=propext Iff.rfl
theorem PR  {k x}{t}:eJ P (.tN k x) S aI t=BD k (bn S x) aI ⟨⟩:=propext Iff.rfl
theorem PS  {n x}{t}:eJ P (.iA n x) S aI t=BH n (bn S x) aI ⟨⟩:=propext Iff.rfl
theorem PT  {n x y}{t}:eJ P (.gz n x y) S aI t=za n (bn S x) (bn S y) aI ⟨⟩:=propext Iff.rfl
theorem PU  {m n x y}{t}:eJ P (.Av m n x y) S aI t=FM m n (bn S x) (bn S y) aI ⟨⟩:=propext Iff.rfl
theorem PV  {x y}{t}:eJ P (.lB x y) S aI t=FQ (bn S x) (bn S y) aI ⟨⟩:=propext Iff.rfl
theorem PW  {n x y}{t}:eJ P (.wB n x y) S aI t=FP n (bn S x) (bn S y) aI ⟨⟩:=propext Iff.rfl
theorem PX  {n x}{t}:eJ P (.jf n x) S aI t=FK n (bn S x) aI ⟨⟩:=propext Iff.rfl
theorem PY  {n m x}{t}:eJ P (.CN n m x) S aI t=BI n m (bn S x) aI ⟨⟩:=propext Iff.rfl
theorem PZ  {z pl dy}{t}:eJ P (.cY z pl dy) S aI t=FC S z pl dy aI ⟨⟩:=propext Iff.rfl
theorem P0  {f a b}{t}:eJ P (.jF f a b) S aI t=aI (.func (.func f) (a.map (bn S)).toArray (b.map (bn S)).toArray):=propext Iff.rfl
theorem P1  {n x bf ad mx}{t}:eJ P (.hQ n x bf ad mx) S aI t=tC S n (bn S x) bf ad mx aI ⟨⟩:=propext Iff.rfl
theorem P2  {x bf ad}{t}:eJ P (.wW x bf ad) S aI t=F7 S (bn S x) bf ad aI ⟨⟩:=propext Iff.rfl
theorem P3  {x n}{t}:eJ P (.ext x n) S aI t=tw (bn S x) n aI ⟨⟩:=propext Iff.rfl
theorem P4  {x}{t}:eJ P (.ng x) S aI t=BL (bn S x) aI ⟨⟩:=propext Iff.rfl
theorem P5  {x}{t}:eJ P (.AE x) S aI t=BK (bn S x) aI ⟨⟩:=propext Iff.rfl
theorem P6  {x}{t}:eJ P (.Cd x) S aI t=BB (bn S x) aI ⟨⟩:=propext Iff.rfl
theorem Qa  {v}{t}:eJ P (.D2 v) S aI t=aI v:=propext Iff.rfl
theorem Qb  {x y}{t}:eJ P (.te x y) S aI t=BM (bn S x) (bn S y) aI ⟨⟩:=propext Iff.rfl
theorem M2  {x y}{t}:eJ P (.uT x y) S aI t=BN (bn S x) (bn S y) aI ⟨⟩:=propext Iff.rfl
theorem Qc  {n x}{t}:eJ P (.AY n x) S aI t=aI (.iface n (bn S x)):=propext Iff.rfl
theorem Qd  {x}{t}:eJ P (.A2 x) S aI t=xg (bn S x) aI ⟨⟩:=propext Iff.rfl
theorem Qe  {x}{t}:oa (.ld x) S w aI t=qp (bn S x) w aI ⟨⟩:=propext Iff.rfl
theorem Qf  {n x}{t}:oa (.jX n x) S w aI t=sk n (bn S x) w aI ⟨⟩:=propext Iff.rfl
theorem Qg  {d z ok m k}{t}:oa (.mv d z ok m k) S w aI t=zb d z ok (bn S m) (bn S k) w aI ⟨⟩:=propext Iff.rfl
theorem Qh  {x}{t}:oa (.yq x) S w aI t=FV (bn S x) w aI ⟨⟩:=propext Iff.rfl
theorem Qi  {n x}{t}:h9 P (.box n x) S w K t=xe n (bn S x).cells w K ⟨⟩:=propext Iff.rfl
theorem Qj  {n z}{t}:h9 P (.new n z) S w K t=xe n z.cells w K ⟨⟩:=propext Iff.rfl
theorem Qk  {x v}{t}:h9 P (.st x v) S w K t=qw (bn S x) (bn S v) w (K undef) ⟨⟩:=propext Iff.rfl
theorem Ql  {n x v}{t}:h9 P (.rh n x v) S w K t=zk n (bn S x) (bn S v) w (K undef) ⟨⟩:=propext Iff.rfl
theorem Qm  {t}:h9 P .r0 S w K t=F1 w K ⟨⟩:=propext Iff.rfl
theorem Qn  {e n b z l c}{t}:h9 P (.p7 e n b z l c) S w K t=xc e n b z (bn S l) (bn S c) w K ⟨⟩:=propext Iff.rfl
theorem Qo  {e l n z dy}{t}:h9 P (.dk e l n z dy) S w K t=BA S e l n z dy w K ⟨⟩:=propext Iff.rfl
theorem Qp  {ty e n b s x}{t}:h9 P (.app ty e n b s x) S w K t=k4 P ty e n b (bn S s) (bn S x) w K ⟨⟩:=propext Iff.rfl
theorem Qq  {d m k v}{t}:h9 P (.iS d m k v) S w K t=xd d (bn S m) (bn S k) (bn S v) w (K undef) ⟨⟩:=propext Iff.rfl
theorem Qr  {x}{t}:h9 P (.wS x) S w K t=F6 (bn S x) w K ⟨⟩:=propext Iff.rfl
theorem Qs  {x}{t}:h9 P (.wK x) S w K t=F3 (bn S x) w K ⟨⟩:=propext Iff.rfl
theorem Qu  {op ty}{t}:h9 P (.raw op ty) S w K t=tB P op ty S w K ⟨⟩:=propext Iff.rfl
theorem Qv  {f l}{t}:w5 P (.fn f l) S w K t=y5 P f (l.map (bn S)) w K ⟨⟩:=propext Iff.rfl
theorem Qw  {x l}{t}:w5 P (.val x l) S w K t=vf P (bn S x) (l.map (bn S)) w K ⟨⟩:=propext Iff.rfl
theorem Qx  {f l}{t}:w6 P (.fn f l) S w K t=y5 P f (l.map (bn S)) w K ⟨⟩:=propext Iff.rfl
theorem Qy  {x l}{t}:w6 P (.val x l) S w K t=w7 P (bn S x) (l.map (bn S)) w K ⟨⟩:=propext Iff.rfl
theorem Qz  {ty c3 c6}(k:IntKind)(a b:Int){t}:gq P .lss ty c3 c6 (.int k a) (.int k b) aI t=aI (.bool (decide (a<b))):=aat k a b
theorem QA  {ty c3 c6}(k:IntKind)(a b:Int){t}:gq P .leq ty c3 c6 (.int k a) (.int k b) aI t=aI (.bool (decide (a<=b))):=aas k a b
theorem QB  {ty c3 c6}(k:IntKind)(a b:Int){t}:gq P .gtr ty c3 c6 (.int k a) (.int k b) aI t=aI (.bool (decide (b<a))):=aar k a b
theorem QC  {ty c3 c6}(k:IntKind)(a b:Int){t}:gq P .geq ty c3 c6 (.int k a) (.int k b) aI t=aI (.bool (decide (b<=a))):=aaq k a b
theorem QD  {ty c3 c6}(k:IntKind)(a b:Int){t}:gq P .eql ty c3 c6 (.int k a) (.int k b) aI t=aI (.bool (decide (a=b))):=aap k a b
theorem QE  {ty c3 c6}(k:IntKind)(a b:Int){t}:gq P .neq ty c3 c6 (.int k a) (.int k b) aI t=aI (.bool (!decide (a=b))):=(aav k a b).trans (by simp)
theorem QF  {ty c3 c6}(k:IntKind)(a b:Int){t}:gq P .add ty c3 c6 (.int k a) (.int k b) aI t=nC k (a+b) aI ⟨⟩:=aao k a b
theorem QG  {ty c3 c6}(k:IntKind)(a b:Int){t}:gq P .sub ty c3 c6 (.int k a) (.int k b) aI t=nC k (a - b) aI ⟨⟩:=aaA k a b
theorem QH  {ty c3 c6}(k:IntKind)(a b:Int){t}:gq P .mul ty c3 c6 (.int k a) (.int k b) aI t=nC k (a*b) aI ⟨⟩:=aau k a b
theorem QI  {ty c3 c6}(a b:ByteArray){t}:gq P .eql ty c3 c6 (.string a) (.string b) aI t=aI (.bool (decide (a=b))):=aay a b
theorem QJ  {ty c3 c6}(a b:ByteArray){t}:gq P .neq ty c3 c6 (.string a) (.string b) aI t=aI (.bool (!decide (a=b))):=(aaz a b).trans (by simp)
theorem QK  (b:Bool){t}:xq .not (.bool b) aI t=aI (.bool (!b)):=propext Iff.rfl
theorem QL  (k:IntKind)(n:Int){t}:xq .neg (.int k n) aI t=nC k (0 - n) aI ⟨⟩:=propext Iff.rfl
theorem QM  (k q:IntKind)(n:Int){t}:BD k (.int q n) aI t=nC k n aI ⟨⟩:=abA k q n aI
theorem QN  (n:Nat)(a:Addr){t}:BH n (.pointer (some a)) aI t=aI (.pointer (some (a.add n))):=acW n a aI
theorem QP  (v:Value)(vs:List Value){t}:tw (.tuple (v :: vs).toArray) 0 aI t=aI v:=acK v vs aI
theorem BU  (v u:Value)(vs:List Value){t}:tw (.tuple (v :: u :: vs).toArray) 1 aI t=aI u:=acL v u vs aI
theorem BV  (v u x:Value)(vs:List Value){t}:tw (.tuple (v :: u :: x :: vs).toArray) 2 aI t=aI x:=acM v u x vs aI
theorem QQ  (s:ByteArray){t}:BL (.string s) aI t=aI (.int .i64 s.size):=ahD s aI
theorem QR  (a:Option Addr)(n c:Nat){t}:BK (.slice a n c) aI t=aI (.int .i64 n):=ahB a n c aI
theorem QS  (a:Option Addr)(n c:Nat){t}:BB (.slice a n c) aI t=aI (.int .i64 c):=aaO a n c aI
theorem QT  (k q:IntKind)(a b:Int){t}:BM (.int k a) (.int q b) aI t=aI (.int k (max a b)):=ahX k q a b aI
theorem QU  (k q:IntKind)(a b:Int){t}:BN (.int k a) (.int q b) aI t=aI (.int k (min a b)):=ah1 k q a b aI
theorem QV  (m n:Nat)(cs:Array Value){t}:BI m n (.agg cs) aI t=aI (.agg (cs.extract m (m+n))):=ac1 m n cs aI
theorem QW  (a:Addr){t}:xg (.pointer (some a)) aI t=aI (.pointer (some a)):=propext Iff.rfl
theorem Q1  (f:FuncId)(a b:Array Value){t}:xg (.func (.func f) a b) aI t=aI (.func (.func f) a b):=propext Iff.rfl
theorem Q2  {t}:iv [] S w k9 t=k9 []:=propext Iff.rfl
theorem Q3  {n r}{t}:iv (.tmp n :: r) S w k9 t=iv r S w (fun vs=>k9 (S n :: vs)) ⟨⟩:=propext Iff.rfl
theorem Q4  {n r}{t}:iv (.cell n :: r) S w k9 t=qp (S n) w (fun v=>iv r S w (fun vs=>k9 (v :: vs)) ⟨⟩) ⟨⟩:=propext Iff.rfl
theorem Q5  {m n r}{t}:iv (.ic m n :: r) S w k9 t=sk m (S n) w (fun v=>iv r S w (fun vs=>k9 (v :: vs)) ⟨⟩) ⟨⟩:=propext Iff.rfl
theorem Q6{S:Fr}{d:Nat}{v:Value}:put S (some d) v=cq S d v:=eq_of_heq (heq_of_eq (h4 S d v))
theorem Q7{S:Fr}{v:Value}:put S none v=S:=eq_of_heq (heq_of_eq (Xh S v))
theorem Q8{S:Fr}{d t:Nat}{v:Value}:cq S d v t=if t=d then v else S t:=eq_of_heq (heq_of_eq (cu S d t v))
theorem Q9{S:Fr}{t:Nat}:bn S (.tmp t)=S t:=eq_of_heq (heq_of_eq (ft S t))
theorem Ra{S:Fr}{v:Value}:bn S (.const v)=v:=eq_of_heq (heq_of_eq (o2 S v))
theorem Rc{S:Fr}{g:Nat}:bn S (.global g) = .pointer (some ⟨g,0,none⟩):=eq_of_heq (heq_of_eq (acn S g))
theorem Re{S:Fr}{f:Nat}:bn S (.func f) = .func (.func f) #[] #[]:=eq_of_heq (heq_of_eq (tS S f))
theorem Rf{k:Nat}:hY [] k=fun _=>undef:=eq_of_heq (heq_of_eq (me k))
theorem Rg{v:Value}{vs:List Value}{k:Nat}:hY (v :: vs) k=cq (hY vs (k+1)) k v:=eq_of_heq (heq_of_eq (jg v vs k))
theorem Rh  : gC [] = .tuple #[]:=eq_of_heq (heq_of_eq (alV ..))
theorem Ri  (v:Value):gC [v]=v:=eq_of_heq (heq_of_eq (alW ..))
theorem Rj  (v u:Value):gC [v,u] = .tuple #[v,u]:=eq_of_heq (heq_of_eq (alX ..))
theorem Rk  (v u x:Value):gC [v,u,x] = .tuple #[v,u,x]:=eq_of_heq (heq_of_eq (alY ..))
theorem Rl  (a:Option Addr)(n c:Nat):(Value.slice a n c).cells=#[.slice a n c]:=eq_of_heq (heq_of_eq (aa7 ..))
theorem Rm  (k:IntKind)(n:Int):(Value.int k n).cells=#[.int k n]:=eq_of_heq (heq_of_eq (aa2 ..))
theorem Rn  (b:Bool):(Value.bool b).cells=#[.bool b]:=eq_of_heq (heq_of_eq (aaZ ..))
theorem Ro  (s:ByteArray):(Value.string s).cells=#[.string s]:=eq_of_heq (heq_of_eq (aa8 ..))
theorem Rp  (a:Option Addr):(Value.pointer a).cells=#[.pointer a]:=eq_of_heq (heq_of_eq (aa6 ..))
theorem Rq  (a:Option Nat):(Value.map a).cells=#[.map a]:=eq_of_heq (heq_of_eq (aa3 ..))
theorem Rr  (f:Fn)(a b:Array Value):(Value.func f a b).cells=#[.func f a b]:=eq_of_heq (heq_of_eq (aa1 ..))
theorem Rs  (cs:Array Value):(Value.agg cs).cells=cs:=eq_of_heq (heq_of_eq (aaY ..))
theorem Rt{α β:Type}{f:α->β}{a:α}{l:List α}:(a :: l).map f=f a :: l.map f:=eq_of_heq (heq_of_eq (List.map_cons))
theorem Ru{α β:Type}{f:α->β}:([]:List α).map f=[]:=eq_of_heq (heq_of_eq (List.map_nil))
theorem Rv  : (!true)=false:=eq_of_heq (heq_of_eq (Bool.not_true))
theorem Rw  : (!false)=true:=eq_of_heq (heq_of_eq (Bool.not_false))
theorem Rx{h:Decidable True}:decide True=true:=eq_of_heq (heq_of_eq (decide_true h))
theorem hV{h:Decidable False}:decide False=false:=eq_of_heq (heq_of_eq (decide_false h))
theorem eK{α:Type}{a b:α}{h:Decidable True}:(if True then a else b)=a:=eq_of_heq (heq_of_eq (if_true a b))
theorem mN{α:Type}{a b:α}{h:Decidable False}:(if False then a else b)=b:=eq_of_heq (heq_of_eq (if_false a b))
end
theorem c4:((((((((∀{P:Program} {Q:eb->Fr->World->Prop} {S:Fr} {w:World}  {t},dZ P .skip Q S w t=Q .normal S w) /\
(∀{P:Program} {Q:eb->Fr->World->Prop} {S:Fr} {w:World}  {b6} {t},dZ P (.bN b6) Q S w t=jI P b6 S w (fun S w=>Q .normal S w) ⟨⟩)) /\
((∀{P:Program} {Q:eb->Fr->World->Prop} {S:Fr} {w:World}  {b6} {t},dZ P (.dV b6) Q S w t=l1 P b6 S w (fun S => ∀w',Ext w w'->Q .normal S w') ⟨⟩) /\
((∀{P:Program} {Q:eb->Fr->World->Prop} {S:Fr} {w:World}  {x} {t},dZ P (.ed x) Q S w t=(∀av,Ext w av->fK P av x S av (fun S w=>Q .normal S w) ⟨⟩)) /\
(∀{P:Program} {c0:Fr->World->Prop} {S:Fr} {w:World}  {w0} {t},fK P w0 .done S w c0 t=c0 S w)))) /\
(((∀{P:Program} {c0:Fr->World->Prop} {S:Fr} {w:World}  {w0} {t},fK P w0 .nil S w c0 t=True) /\
(∀{P:Program} {c0:Fr->World->Prop} {S:Fr} {w:World}  {w0 s r} {t},fK P w0 (.take s r) S w c0 t=yS P w0 s S (fun S=>fK P w0 r S w c0 ⟨⟩) ⟨⟩)) /\
((∀{P:Program} {c0:Fr->World->Prop} {S:Fr} {w:World}  {w0 s r} {t},fK P w0 (.alt s r .nil) S w c0 t=rF P w0 s S w (fun S w=>fK P w0 r S w c0 ⟨⟩) ⟨⟩) /\
((∀{P:Program} {c0:Fr->World->Prop} {S:Fr} {w:World}  {w0 s r hP gw km} {t},fK P w0 (.alt s r (.alt hP gw km)) S w c0 t=(rF P w0 s S w (fun S w=>fK P w0 r S w c0 ⟨⟩) ⟨⟩/\fK P w0 (.alt hP gw km) S w c0 ⟨⟩)) /\
(∀{P:Program} {c0:Fr->World->Prop} {S:Fr} {w:World}  {w0 s r hP gw km} {t},fK P w0 (.alt s r (.bZ hP gw km)) S w c0 t=(rF P w0 s S w (fun S w=>fK P w0 r S w c0 ⟨⟩) ⟨⟩/\fK P w0 (.bZ hP gw km) S w c0 ⟨⟩)))))) /\
((((∀{P:Program} {c0:Fr->World->Prop} {S:Fr} {w:World}  {w0 s r} {t},fK P w0 (.bZ s r .nil) S w c0 t=rK P s S w (fun S w=>fK P w0 r S w c0 ⟨⟩) ⟨⟩) /\
(∀{P:Program} {c0:Fr->World->Prop} {S:Fr} {w:World}  {w0 s r hP gw km} {t},fK P w0 (.bZ s r (.alt hP gw km)) S w c0 t=(rK P s S w (fun S w=>fK P w0 r S w c0 ⟨⟩) ⟨⟩/\fK P w0 (.alt hP gw km) S w c0 ⟨⟩))) /\
((∀{P:Program} {c0:Fr->World->Prop} {S:Fr} {w:World}  {w0 s r hP gw km} {t},fK P w0 (.bZ s r (.bZ hP gw km)) S w c0 t=(rK P s S w (fun S w=>fK P w0 r S w c0 ⟨⟩) ⟨⟩/\fK P w0 (.bZ hP gw km) S w c0 ⟨⟩)) /\
((∀{P:Program} {c0:Fr->World->Prop} {S:Fr} {w:World}  {d i} {t},rK P ⟨d,none,i⟩ S w c0 t=mF P i S w (fun v w'=>c0 (put S d v) w') ⟨⟩) /\
(∀{P:Program} {c0:Fr->World->Prop} {S:Fr} {w:World}  {d j b i} {t},rK P ⟨d,some (j,b),i⟩ S w c0 t=jn (S j) b (mF P i (cq S j (.bool b)) w (fun v w'=>c0 (put (cq S j (.bool b)) d v) w') ⟨⟩) (c0 (put (cq S j (.bool (!b))) d undef) w) (c0 (put S d undef) w) ⟨⟩)))) /\
(((∀{P:Program} {hg:Fr->Prop} {S:Fr}  {w0 d i} {t},yS P w0 ⟨d,none,i⟩ S hg t=n4 P i S w0 (fun v=>hg (put S d v)) ⟨⟩) /\
((∀{P:Program} {hg:Fr->Prop} {S:Fr}  {w0 d j b i} {t},yS P w0 ⟨d,some (j,b),i⟩ S hg t=jn (S j) b (n4 P i (cq S j (.bool b)) w0 (fun v=>hg (put (cq S j (.bool b)) d v)) ⟨⟩) (hg (put (cq S j (.bool (!b))) d undef)) (hg (put S d undef)) ⟨⟩) /\
(∀{P:Program} {c0:Fr->World->Prop} {S:Fr} {w:World}  {w0 d i} {t},rF P w0 ⟨d,none,i⟩ S w c0 t=pw P i S w (fun v w'=>Ext w0 w'/\c0 (put S d v) w') ⟨⟩))) /\
((∀{P:Program} {c0:Fr->World->Prop} {S:Fr} {w:World}  {w0 d j b i} {t},rF P w0 ⟨d,some (j,b),i⟩ S w c0 t=jn (S j) b (pw P i (cq S j (.bool b)) w (fun v w'=>Ext w0 w'/\c0 (put (cq S j (.bool b)) d v) w') ⟨⟩) (c0 (put (cq S j (.bool (!b))) d undef) w) (c0 (put S d undef) w) ⟨⟩) /\
((∀{P:Program} {Q:eb->Fr->World->Prop} {S:Fr} {w:World}  {c x y} {t},dZ P (.cond c x y) Q S w t=j3 (bn S c) (dZ P x Q S w ⟨⟩) (dZ P y Q S w ⟨⟩) ⟨⟩) /\
(∀{P:Program} {Q:eb->Fr->World->Prop} {S:Fr} {w:World}  {id b} {t},dZ P (.aV id b) Q S w t=dZ P b (pJ id Q ⟨⟩) S w ⟨⟩)))))) /\
(((((∀{P:Program} {Q:eb->Fr->World->Prop} {S:Fr} {w:World}  {id} {t},dZ P (.exit id) Q S w t=Q (.exit id) S w) /\
(∀{P:Program} {Q:eb->Fr->World->Prop} {S:Fr} {w:World}  {t},dZ P .ret Q S w t=Q .ret S w)) /\
((∀{P:Program} {Q:eb->Fr->World->Prop} {S:Fr} {w:World}  {b6 d f l} {t},dZ P (.ff b6 d f l) Q S w t=jI P b6 S w (fun S w=>F8 P f (l.map (bn S)) w (fun v w'=>Q .normal (put S d v) w') (fun c w'=>Q (.fS c) S w') ⟨⟩) ⟨⟩) /\
((∀{P:Program} {Q:eb->Fr->World->Prop} {S:Fr} {w:World}  {b6 x} {t},dZ P (.q9 b6 x) Q S w t=jI P b6 S w (fun S w=>BR (bn S x) (fun c=>Q (.fS c) S w) ⟨⟩) ⟨⟩) /\
(∀{zn:List PanicEntry->Prop}  {i:TypeId} {v:Value} {t},BR (.iface i v) zn t=zn [{ v:=.iface i v,recovered:=false }])))) /\
(((∀{Q:eb->Fr->World->Prop} {N:Fr->World->Prop} {S:Fr} {w:World}  {c} {t},hr N Q t (.fS c) S w=Q (.fS c) S w) /\
((∀{Q:eb->Fr->World->Prop} {S:Fr} {w:World} {i} {c} {t},pJ i Q t (.fS c) S w=Q (.fS c) S w) /\
(∀{Z:List PanicEntry->World->Prop} {R:Value->World->Prop} {S:Fr} {w:World} {r} {t},vR r R Z t .normal S w=iv r S w (fun vs=>R (gC vs) w) ⟨⟩))) /\
((∀{Z:List PanicEntry->World->Prop} {R:Value->World->Prop} {S:Fr} {w:World} {r} {t},vR r R Z t .ret S w=iv r S w (fun vs=>R (gC vs) w) ⟨⟩) /\
((∀{Z:List PanicEntry->World->Prop} {R:Value->World->Prop} {S:Fr} {w:World} {r} {c} {t},vR r R Z t (.fS c) S w=Z c w) /\
(∀{P:Program} {Q:eb->Fr->World->Prop} {S:Fr} {w:World}  {b} {t},dZ P (.loop b) Q S w t=xb P b Q S w ⟨⟩))))) /\
((((∀{Q:eb->Fr->World->Prop} {N:Fr->World->Prop} {S:Fr} {w:World}  {t},hr N Q t .normal S w=N S w) /\
(∀{Q:eb->Fr->World->Prop} {N:Fr->World->Prop} {S:Fr} {w:World}  {i} {t},hr N Q t (.exit i) S w=Q (.exit i) S w)) /\
((∀{Q:eb->Fr->World->Prop} {N:Fr->World->Prop} {S:Fr} {w:World}  {t},hr N Q t .ret S w=Q .ret S w) /\
((∀{Q:eb->Fr->World->Prop} {S:Fr} {w:World} {i} {t},pJ i Q t .normal S w=Q .normal S w) /\
(∀{Q:eb->Fr->World->Prop} {S:Fr} {w:World} {i} {t},pJ i Q t .ret S w=Q .ret S w)))) /\
(((∀{Q:eb->Fr->World->Prop} {S:Fr} {w:World} {i} {j} {t},pJ i Q t (.exit j) S w=if j=i then Q .normal S w else Q (.exit j) S w) /\
((∀{R:Value->World->Prop} {S:Fr} {w:World} {r} {t},rJ r R t .normal S w=iv r S w (fun vs=>R (gC vs) w) ⟨⟩) /\
(∀{R:Value->World->Prop} {S:Fr} {w:World} {r} {t},rJ r R t .ret S w=iv r S w (fun vs=>R (gC vs) w) ⟨⟩))) /\
((∀{P:Program} {c0:Fr->World->Prop} {S:Fr} {w:World}  {t},jI P [] S w c0 t=c0 S w) /\
((∀{P:Program} {c0:Fr->World->Prop} {S:Fr} {w:World}  {d i r} {t},jI P (⟨d,none,i⟩ :: r) S w c0 t=mF P i S w (fun v w'=>jI P r (put S d v) w' c0 ⟨⟩) ⟨⟩) /\
(∀{P:Program} {c0:Fr->World->Prop} {S:Fr} {w:World}  {d j b i r} {t},jI P (⟨d,some (j,b),i⟩ :: r) S w c0 t=jn (S j) b (mF P i (cq S j (.bool b)) w (fun v w'=>jI P r (put (cq S j (.bool b)) d v) w' c0 ⟨⟩) ⟨⟩) (jI P r (put (cq S j (.bool (!b))) d undef) w c0 ⟨⟩) (jI P r (put S d undef) w c0 ⟨⟩) ⟨⟩))))))) /\
((((((∀{P:Program} {hg:Fr->Prop} {S:Fr} {w:World}  {t},l1 P [] S w hg t=hg S) /\
(∀{P:Program} {hg:Fr->Prop} {S:Fr} {w:World}  {d i r} {t},l1 P (⟨d,none,i⟩ :: r) S w hg t=n4 P i S w (fun v=>l1 P r (put S d v) w hg ⟨⟩) ⟨⟩)) /\
((∀{P:Program} {hg:Fr->Prop} {S:Fr} {w:World}  {d j b i r} {t},l1 P (⟨d,some (j,b),i⟩ :: r) S w hg t=jn (S j) b (n4 P i (cq S j (.bool b)) w (fun v=>l1 P r (put (cq S j (.bool b)) d v) w hg ⟨⟩) ⟨⟩) (l1 P r (put (cq S j (.bool (!b))) d undef) w hg ⟨⟩) (l1 P r (put S d undef) w hg ⟨⟩) ⟨⟩) /\
((∀{P:Program} {K:Value->World->Prop} {S:Fr} {w:World}  {i} {t},pw P (.p i) S w K t=eJ P i S (fun v=>K v w) ⟨⟩) /\
(∀{P:Program} {K:Value->World->Prop} {S:Fr} {w:World}  {i} {t},pw P (.r i) S w K t=oa i S w (fun v=>K v w) ⟨⟩)))) /\
(((∀{P:Program} {K:Value->World->Prop} {S:Fr} {w:World}  {i} {t},pw P (.e i) S w K t=h9 P i S w K ⟨⟩) /\
(∀{P:Program} {K:Value->World->Prop} {S:Fr} {w:World}  {i} {t},pw P (.c i) S w K t=w5 P i S w K ⟨⟩)) /\
((∀{P:Program} {K:Value->World->Prop} {S:Fr} {w:World}  {i} {t},mF P (.p i) S w K t=eJ P i S (fun v=>K v w) ⟨⟩) /\
((∀{P:Program} {K:Value->World->Prop} {S:Fr} {w:World}  {i} {t},mF P (.r i) S w K t=oa i S w (fun v=>K v w) ⟨⟩) /\
(∀{P:Program} {K:Value->World->Prop} {S:Fr} {w:World}  {i} {t},mF P (.e i) S w K t=h9 P i S w K ⟨⟩))))) /\
((((∀{P:Program} {K:Value->World->Prop} {S:Fr} {w:World}  {i} {t},mF P (.c i) S w K t=w6 P i S w K ⟨⟩) /\
(∀{P:Program} {aI:Value->Prop} {S:Fr} {w:World}  {i} {t},n4 P (.p i) S w aI t=eJ P i S aI ⟨⟩)) /\
((∀{P:Program} {aI:Value->Prop} {S:Fr} {w:World}  {i} {t},n4 P (.r i) S w aI t=oa i S w aI ⟨⟩) /\
((∀{P:Program} {aI:Value->Prop} {S:Fr} {w:World}  {i} {t},n4 P (.c i) S w aI t=xi P i S w aI ⟨⟩) /\
(∀{P:Program} {aI:Value->Prop} {S:Fr} {w:World}  {f l} {t},xi P (.fn f l) S w aI t=F5 P f (l.map (bn S)) w aI ⟨⟩)))) /\
(((∀{P:Program} {aI:Value->Prop} {S:Fr} {w:World}  {x l} {t},xi P (.val x l) S w aI t=BS P (bn S x) (l.map (bn S)) w aI ⟨⟩) /\
((∀{A:Prop} {B:Prop} {C:Prop}  {t},jn (.bool true) true A B C t=A) /\
(∀{A:Prop} {B:Prop} {C:Prop}  {t},jn (.bool true) false A B C t=B))) /\
((∀{A:Prop} {B:Prop} {C:Prop}  {t},jn (.bool false) true A B C t=B) /\
((∀{A:Prop} {B:Prop} {C:Prop}  {t},jn (.bool false) false A B C t=A) /\
(∀{A:Prop} {B:Prop} {C:Prop}  (u:Bool) {t},jn undef u A B C t=C)))))) /\
(((((∀{A:Prop} {B:Prop} {C:Prop}  (u:Bool) {t},jn (.bool u) true A B C t=j3 (.bool u) A B ⟨⟩) /\
(∀{A:Prop} {B:Prop} {C:Prop}  (u:Bool) {t},jn (.bool u) false A B C t=j3 (.bool u) B A ⟨⟩)) /\
((∀{A:Prop} {B:Prop}  {t},j3 (.bool true) A B t=A) /\
((∀{A:Prop} {B:Prop}  {t},j3 (.bool false) A B t=B) /\
(∀{A:Prop} {B:Prop}  (u:Bool) {t},j3 (.bool (!u)) A B t=j3 (.bool u) B A ⟨⟩)))) /\
(((∀{P:Program} {aI:Value->Prop} {S:Fr}  {x} {t},eJ P (.p8 x) S aI t=aI (bn S x)) /\
((∀{P:Program} {aI:Value->Prop} {S:Fr}  {c x y} {t},eJ P (.pick c x y) S aI t=j3 (bn S c) (aI (bn S x)) (aI (bn S y)) ⟨⟩) /\
(∀{P:Program} {aI:Value->Prop} {S:Fr}  {op ty x y} {t},eJ P (.bin op ty x y) S aI t=gq P op ty x y (bn S x) (bn S y) aI ⟨⟩))) /\
((∀{P:Program} {aI:Value->Prop} {S:Fr}  {op x} {t},eJ P (.un op x) S aI t=xq op (bn S x) aI ⟨⟩) /\
((∀{P:Program} {aI:Value->Prop} {S:Fr}  {k x} {t},eJ P (.tN k x) S aI t=BD k (bn S x) aI ⟨⟩) /\
(∀{P:Program} {aI:Value->Prop} {S:Fr}  {n x} {t},eJ P (.iA n x) S aI t=BH n (bn S x) aI ⟨⟩))))) /\
((((∀{P:Program} {aI:Value->Prop} {S:Fr}  {n x y} {t},eJ P (.gz n x y) S aI t=za n (bn S x) (bn S y) aI ⟨⟩) /\
(∀{P:Program} {aI:Value->Prop} {S:Fr}  {m n x y} {t},eJ P (.Av m n x y) S aI t=FM m n (bn S x) (bn S y) aI ⟨⟩)) /\
((∀{P:Program} {aI:Value->Prop} {S:Fr}  {x y} {t},eJ P (.lB x y) S aI t=FQ (bn S x) (bn S y) aI ⟨⟩) /\
((∀{P:Program} {aI:Value->Prop} {S:Fr}  {n x y} {t},eJ P (.wB n x y) S aI t=FP n (bn S x) (bn S y) aI ⟨⟩) /\
(∀{P:Program} {aI:Value->Prop} {S:Fr}  {n x} {t},eJ P (.jf n x) S aI t=FK n (bn S x) aI ⟨⟩)))) /\
(((∀{P:Program} {aI:Value->Prop} {S:Fr}  {n m x} {t},eJ P (.CN n m x) S aI t=BI n m (bn S x) aI ⟨⟩) /\
((∀{P:Program} {aI:Value->Prop} {S:Fr}  {z pl dy} {t},eJ P (.cY z pl dy) S aI t=FC S z pl dy aI ⟨⟩) /\
(∀{P:Program} {aI:Value->Prop} {S:Fr}  {f a b} {t},eJ P (.jF f a b) S aI t=aI (.func (.func f) (a.map (bn S)).toArray (b.map (bn S)).toArray)))) /\
((∀{P:Program} {aI:Value->Prop} {S:Fr}  {n x bf ad mx} {t},eJ P (.hQ n x bf ad mx) S aI t=tC S n (bn S x) bf ad mx aI ⟨⟩) /\
((∀{P:Program} {aI:Value->Prop} {S:Fr}  {x bf ad} {t},eJ P (.wW x bf ad) S aI t=F7 S (bn S x) bf ad aI ⟨⟩) /\
(∀{P:Program} {aI:Value->Prop} {S:Fr}  {x n} {t},eJ P (.ext x n) S aI t=tw (bn S x) n aI ⟨⟩)))))))) /\
(((((((∀{P:Program} {aI:Value->Prop} {S:Fr}  {x} {t},eJ P (.ng x) S aI t=BL (bn S x) aI ⟨⟩) /\
(∀{P:Program} {aI:Value->Prop} {S:Fr}  {x} {t},eJ P (.AE x) S aI t=BK (bn S x) aI ⟨⟩)) /\
((∀{P:Program} {aI:Value->Prop} {S:Fr}  {x} {t},eJ P (.Cd x) S aI t=BB (bn S x) aI ⟨⟩) /\
((∀{P:Program} {aI:Value->Prop} {S:Fr}  {v} {t},eJ P (.D2 v) S aI t=aI v) /\
(∀{P:Program} {aI:Value->Prop} {S:Fr}  {x y} {t},eJ P (.te x y) S aI t=BM (bn S x) (bn S y) aI ⟨⟩)))) /\
(((∀{P:Program} {aI:Value->Prop} {S:Fr}  {x y} {t},eJ P (.uT x y) S aI t=BN (bn S x) (bn S y) aI ⟨⟩) /\
(∀{P:Program} {aI:Value->Prop} {S:Fr}  {n x} {t},eJ P (.AY n x) S aI t=aI (.iface n (bn S x)))) /\
((∀{P:Program} {aI:Value->Prop} {S:Fr}  {x} {t},eJ P (.A2 x) S aI t=xg (bn S x) aI ⟨⟩) /\
((∀{aI:Value->Prop} {S:Fr} {w:World}  {x} {t},oa (.ld x) S w aI t=qp (bn S x) w aI ⟨⟩) /\
(∀{aI:Value->Prop} {S:Fr} {w:World}  {n x} {t},oa (.jX n x) S w aI t=sk n (bn S x) w aI ⟨⟩))))) /\
((((∀{aI:Value->Prop} {S:Fr} {w:World}  {d z ok m k} {t},oa (.mv d z ok m k) S w aI t=zb d z ok (bn S m) (bn S k) w aI ⟨⟩) /\
(∀{aI:Value->Prop} {S:Fr} {w:World}  {x} {t},oa (.yq x) S w aI t=FV (bn S x) w aI ⟨⟩)) /\
((∀{P:Program} {K:Value->World->Prop} {S:Fr} {w:World}  {n x} {t},h9 P (.box n x) S w K t=xe n (bn S x).cells w K ⟨⟩) /\
((∀{P:Program} {K:Value->World->Prop} {S:Fr} {w:World}  {n z} {t},h9 P (.new n z) S w K t=xe n z.cells w K ⟨⟩) /\
(∀{P:Program} {K:Value->World->Prop} {S:Fr} {w:World}  {x v} {t},h9 P (.st x v) S w K t=qw (bn S x) (bn S v) w (K undef) ⟨⟩)))) /\
(((∀{P:Program} {K:Value->World->Prop} {S:Fr} {w:World}  {n x v} {t},h9 P (.rh n x v) S w K t=zk n (bn S x) (bn S v) w (K undef) ⟨⟩) /\
((∀{P:Program} {K:Value->World->Prop} {S:Fr} {w:World}  {t},h9 P .r0 S w K t=F1 w K ⟨⟩) /\
(∀{P:Program} {K:Value->World->Prop} {S:Fr} {w:World}  {e n b z l c} {t},h9 P (.p7 e n b z l c) S w K t=xc e n b z (bn S l) (bn S c) w K ⟨⟩))) /\
((∀{P:Program} {K:Value->World->Prop} {S:Fr} {w:World}  {e l n z dy} {t},h9 P (.dk e l n z dy) S w K t=BA S e l n z dy w K ⟨⟩) /\
((∀{P:Program} {K:Value->World->Prop} {S:Fr} {w:World}  {ty e n b s x} {t},h9 P (.app ty e n b s x) S w K t=k4 P ty e n b (bn S s) (bn S x) w K ⟨⟩) /\
(∀{P:Program} {K:Value->World->Prop} {S:Fr} {w:World}  {d m k v} {t},h9 P (.iS d m k v) S w K t=xd d (bn S m) (bn S k) (bn S v) w (K undef) ⟨⟩)))))) /\
(((((∀{P:Program} {K:Value->World->Prop} {S:Fr} {w:World}  {x} {t},h9 P (.wS x) S w K t=F6 (bn S x) w K ⟨⟩) /\
(∀{P:Program} {K:Value->World->Prop} {S:Fr} {w:World}  {x} {t},h9 P (.wK x) S w K t=F3 (bn S x) w K ⟨⟩)) /\
((∀{P:Program} {K:Value->World->Prop} {S:Fr} {w:World}  {op ty} {t},h9 P (.raw op ty) S w K t=tB P op ty S w K ⟨⟩) /\
((∀{P:Program} {K:Value->World->Prop} {S:Fr} {w:World}  {f l} {t},w5 P (.fn f l) S w K t=y5 P f (l.map (bn S)) w K ⟨⟩) /\
(∀{P:Program} {K:Value->World->Prop} {S:Fr} {w:World}  {x l} {t},w5 P (.val x l) S w K t=vf P (bn S x) (l.map (bn S)) w K ⟨⟩)))) /\
(((∀{P:Program} {K:Value->World->Prop} {S:Fr} {w:World}  {f l} {t},w6 P (.fn f l) S w K t=y5 P f (l.map (bn S)) w K ⟨⟩) /\
((∀{P:Program} {K:Value->World->Prop} {S:Fr} {w:World}  {x l} {t},w6 P (.val x l) S w K t=w7 P (bn S x) (l.map (bn S)) w K ⟨⟩) /\
(∀{P:Program} {aI:Value->Prop}  {ty c3 c6} (k:IntKind) (a b:Int) {t},gq P .lss ty c3 c6 (.int k a) (.int k b) aI t=aI (.bool (decide (a<b)))))) /\
((∀{P:Program} {aI:Value->Prop}  {ty c3 c6} (k:IntKind) (a b:Int) {t},gq P .leq ty c3 c6 (.int k a) (.int k b) aI t=aI (.bool (decide (a<=b)))) /\
((∀{P:Program} {aI:Value->Prop}  {ty c3 c6} (k:IntKind) (a b:Int) {t},gq P .gtr ty c3 c6 (.int k a) (.int k b) aI t=aI (.bool (decide (b<a)))) /\
(∀{P:Program} {aI:Value->Prop}  {ty c3 c6} (k:IntKind) (a b:Int) {t},gq P .geq ty c3 c6 (.int k a) (.int k b) aI t=aI (.bool (decide (b<=a)))))))) /\
((((∀{P:Program} {aI:Value->Prop}  {ty c3 c6} (k:IntKind) (a b:Int) {t},gq P .eql ty c3 c6 (.int k a) (.int k b) aI t=aI (.bool (decide (a=b)))) /\
(∀{P:Program} {aI:Value->Prop}  {ty c3 c6} (k:IntKind) (a b:Int) {t},gq P .neq ty c3 c6 (.int k a) (.int k b) aI t=aI (.bool (!decide (a=b))))) /\
((∀{P:Program} {aI:Value->Prop}  {ty c3 c6} (k:IntKind) (a b:Int) {t},gq P .add ty c3 c6 (.int k a) (.int k b) aI t=nC k (a+b) aI ⟨⟩) /\
((∀{P:Program} {aI:Value->Prop}  {ty c3 c6} (k:IntKind) (a b:Int) {t},gq P .sub ty c3 c6 (.int k a) (.int k b) aI t=nC k (a - b) aI ⟨⟩) /\
(∀{P:Program} {aI:Value->Prop}  {ty c3 c6} (k:IntKind) (a b:Int) {t},gq P .mul ty c3 c6 (.int k a) (.int k b) aI t=nC k (a*b) aI ⟨⟩)))) /\
(((∀{P:Program} {aI:Value->Prop}  {ty c3 c6} (a b:ByteArray) {t},gq P .eql ty c3 c6 (.string a) (.string b) aI t=aI (.bool (decide (a=b)))) /\
((∀{P:Program} {aI:Value->Prop}  {ty c3 c6} (a b:ByteArray) {t},gq P .neq ty c3 c6 (.string a) (.string b) aI t=aI (.bool (!decide (a=b)))) /\
(∀{aI:Value->Prop}  (b:Bool) {t},xq .not (.bool b) aI t=aI (.bool (!b))))) /\
((∀{aI:Value->Prop}  (k:IntKind) (n:Int) {t},xq .neg (.int k n) aI t=nC k (0 - n) aI ⟨⟩) /\
((∀{aI:Value->Prop}  (k q:IntKind) (n:Int) {t},BD k (.int q n) aI t=nC k n aI ⟨⟩) /\
(∀{aI:Value->Prop}  (n:Nat) (a:Addr) {t},BH n (.pointer (some a)) aI t=aI (.pointer (some (a.add n)))))))))) /\
((((((∀{aI:Value->Prop}  (v:Value) (vs:List Value) {t},tw (.tuple (v :: vs).toArray) 0 aI t=aI v) /\
(∀{aI:Value->Prop}  (v u:Value) (vs:List Value) {t},tw (.tuple (v :: u :: vs).toArray) 1 aI t=aI u)) /\
((∀{aI:Value->Prop}  (v u x:Value) (vs:List Value) {t},tw (.tuple (v :: u :: x :: vs).toArray) 2 aI t=aI x) /\
((∀{aI:Value->Prop}  (s:ByteArray) {t},BL (.string s) aI t=aI (.int .i64 s.size)) /\
(∀{aI:Value->Prop}  (a:Option Addr) (n c:Nat) {t},BK (.slice a n c) aI t=aI (.int .i64 n))))) /\
(((∀{aI:Value->Prop}  (a:Option Addr) (n c:Nat) {t},BB (.slice a n c) aI t=aI (.int .i64 c)) /\
((∀{aI:Value->Prop}  (k q:IntKind) (a b:Int) {t},BM (.int k a) (.int q b) aI t=aI (.int k (max a b))) /\
(∀{aI:Value->Prop}  (k q:IntKind) (a b:Int) {t},BN (.int k a) (.int q b) aI t=aI (.int k (min a b))))) /\
((∀{aI:Value->Prop}  (m n:Nat) (cs:Array Value) {t},BI m n (.agg cs) aI t=aI (.agg (cs.extract m (m+n)))) /\
((∀{aI:Value->Prop}  (a:Addr) {t},xg (.pointer (some a)) aI t=aI (.pointer (some a))) /\
(∀{aI:Value->Prop}  (f:FuncId) (a b:Array Value) {t},xg (.func (.func f) a b) aI t=aI (.func (.func f) a b)))))) /\
((((∀{k9:List Value->Prop} {S:Fr} {w:World}  {t},iv [] S w k9 t=k9 []) /\
(∀{k9:List Value->Prop} {S:Fr} {w:World}  {n r} {t},iv (.tmp n :: r) S w k9 t=iv r S w (fun vs=>k9 (S n :: vs)) ⟨⟩)) /\
((∀{k9:List Value->Prop} {S:Fr} {w:World}  {n r} {t},iv (.cell n :: r) S w k9 t=qp (S n) w (fun v=>iv r S w (fun vs=>k9 (v :: vs)) ⟨⟩) ⟨⟩) /\
((∀{k9:List Value->Prop} {S:Fr} {w:World}  {m n r} {t},iv (.ic m n :: r) S w k9 t=sk m (S n) w (fun v=>iv r S w (fun vs=>k9 (v :: vs)) ⟨⟩) ⟨⟩) /\
(∀{S:Fr} {d:Nat} {v:Value},put S (some d) v=cq S d v)))) /\
(((∀{S:Fr} {v:Value},put S none v=S) /\
((∀{S:Fr} {d t:Nat} {v:Value},cq S d v t=if t=d then v else S t) /\
(∀{S:Fr} {t:Nat},bn S (.tmp t)=S t))) /\
((∀{S:Fr} {v:Value},bn S (.const v)=v) /\
((∀{S:Fr} {g:Nat},bn S (.global g) = .pointer (some ⟨g,0,none⟩)) /\
(∀{S:Fr} {f:Nat},bn S (.func f) = .func (.func f) #[] #[])))))) /\
(((((∀{k:Nat},hY [] k=fun _=>undef) /\
(∀{v:Value} {vs:List Value} {k:Nat},hY (v :: vs) k=cq (hY vs (k+1)) k v)) /\
((gC [] = .tuple #[]) /\
((∀(v:Value),gC [v]=v) /\
(∀(v u:Value),gC [v,u] = .tuple #[v,u])))) /\
(((∀(v u x:Value),gC [v,u,x] = .tuple #[v,u,x]) /\
((∀(a:Option Addr) (n c:Nat),(Value.slice a n c).cells=#[.slice a n c]) /\
(∀(k:IntKind) (n:Int),(Value.int k n).cells=#[.int k n]))) /\
((∀(b:Bool),(Value.bool b).cells=#[.bool b]) /\
((∀(s:ByteArray),(Value.string s).cells=#[.string s]) /\
(∀(a:Option Addr),(Value.pointer a).cells=#[.pointer a]))))) /\
((((∀(a:Option Nat),(Value.map a).cells=#[.map a]) /\
(∀(f:Fn) (a b:Array Value),(Value.func f a b).cells=#[.func f a b])) /\
((∀(cs:Array Value),(Value.agg cs).cells=cs) /\
((∀{α β:Type} {f:α->β} {a:α} {l:List α},(a :: l).map f=f a :: l.map f) /\
(∀{α β:Type} {f:α->β},([]:List α).map f=[])))) /\
((((!true)=false) /\
(((!false)=true) /\
(∀{h:Decidable True},decide True=true))) /\
((∀{h:Decidable False},decide False=false) /\
((∀{α:Type} {a b:α} {h:Decidable True},(if True then a else b)=a) /\
(∀{α:Type} {a b:α} {h:Decidable False},(if False then a else b)=b))))))))) :=
 ⟨⟨⟨⟨⟨⟨⟨(by intros;apply OJ),(by intros;apply OK)⟩,⟨(by intros;apply OL),⟨(by intros;apply OM),(by intros;apply ON)⟩⟩⟩,⟨⟨(by intros;apply OO),(by intros;apply OP)⟩,⟨(by intros;apply OQ),⟨(by intros;apply OR),(by intros;apply OS)⟩⟩⟩⟩,⟨⟨⟨(by intros;apply OU),(by intros;apply OV)⟩,⟨(by intros;apply OW),⟨(by intros;apply OX),(by intros;apply OY)⟩⟩⟩,⟨⟨(by intros;apply OZ),⟨(by intros;apply O0),(by intros;apply O1)⟩⟩,⟨(by intros;apply O2),⟨(by intros;apply O3),(by intros;apply O4)⟩⟩⟩⟩⟩,⟨⟨⟨⟨(by intros;apply O5),(by intros;apply O6)⟩,⟨(by intros;apply O7),⟨(by intros;apply O8),(by intros;apply O9)⟩⟩⟩,⟨⟨(by intros;apply Pa),⟨(by intros;apply Pb),(by intros;apply Pc)⟩⟩,⟨(by intros;apply si),⟨(by intros;apply Pf),(by intros;apply Pg)⟩⟩⟩⟩,⟨⟨⟨(by intros;apply Ph),(by intros;apply Pj)⟩,⟨(by intros;apply Pk),⟨(by intros;apply Pl),(by intros;apply Pm)⟩⟩⟩,⟨⟨(by intros;apply Pn),⟨(by intros;apply Po),(by intros;apply w9)⟩⟩,⟨(by intros;apply iK),⟨(by intros;apply c9),(by intros;apply fj)⟩⟩⟩⟩⟩⟩,⟨⟨⟨⟨⟨(by intros;apply et),(by intros;apply hS)⟩,⟨(by intros;apply k6),⟨(by intros;apply jL),(by intros;apply kJ)⟩⟩⟩,⟨⟨(by intros;apply jM),(by intros;apply Pt)⟩,⟨(by intros;apply Pu),⟨(by intros;apply Pv),(by intros;apply Pw)⟩⟩⟩⟩,⟨⟨⟨(by intros;apply Px),(by intros;apply Py)⟩,⟨(by intros;apply Pz),⟨(by intros;apply PA),(by intros;apply PB)⟩⟩⟩,⟨⟨(by intros;apply PC),⟨(by intros;apply PD),(by intros;apply H1)⟩⟩,⟨(by intros;apply PE),⟨(by intros;apply PF),(by intros;apply PG)⟩⟩⟩⟩⟩,⟨⟨⟨⟨(by intros;apply PH),(by intros;apply PI)⟩,⟨(by intros;apply PJ),⟨(by intros;apply PK),(by intros;apply PL)⟩⟩⟩,⟨⟨(by intros;apply PM),⟨(by intros;apply PN),(by intros;apply PO)⟩⟩,⟨(by intros;apply PQ),⟨(by intros;apply PR),(by intros;apply PS)⟩⟩⟩⟩,⟨⟨⟨(by intros;apply PT),(by intros;apply PU)⟩,⟨(by intros;apply PV),⟨(by intros;apply PW),(by intros;apply PX)⟩⟩⟩,⟨⟨(by intros;apply PY),⟨(by intros;apply PZ),(by intros;apply P0)⟩⟩,⟨(by intros;apply P1),⟨(by intros;apply P2),(by intros;apply P3)⟩⟩⟩⟩⟩⟩⟩,⟨⟨⟨⟨⟨⟨(by intros;apply P4),(by intros;apply P5)⟩,⟨(by intros;apply P6),⟨(by intros;apply Qa),(by intros;apply Qb)⟩⟩⟩,⟨⟨(by intros;apply M2),(by intros;apply Qc)⟩,⟨(by intros;apply Qd),⟨(by intros;apply Qe),(by intros;apply Qf)⟩⟩⟩⟩,⟨⟨⟨(by intros;apply Qg),(by intros;apply Qh)⟩,⟨(by intros;apply Qi),⟨(by intros;apply Qj),(by intros;apply Qk)⟩⟩⟩,⟨⟨(by intros;apply Ql),⟨(by intros;apply Qm),(by intros;apply Qn)⟩⟩,⟨(by intros;apply Qo),⟨(by intros;apply Qp),(by intros;apply Qq)⟩⟩⟩⟩⟩,⟨⟨⟨⟨(by intros;apply Qr),(by intros;apply Qs)⟩,⟨(by intros;apply Qu),⟨(by intros;apply Qv),(by intros;apply Qw)⟩⟩⟩,⟨⟨(by intros;apply Qx),⟨(by intros;apply Qy),(by intros;apply Qz)⟩⟩,⟨(by intros;apply QA),⟨(by intros;apply QB),(by intros;apply QC)⟩⟩⟩⟩,⟨⟨⟨(by intros;apply QD),(by intros;apply QE)⟩,⟨(by intros;apply QF),⟨(by intros;apply QG),(by intros;apply QH)⟩⟩⟩,⟨⟨(by intros;apply QI),⟨(by intros;apply QJ),(by intros;apply QK)⟩⟩,⟨(by intros;apply QL),⟨(by intros;apply QM),(by intros;apply QN)⟩⟩⟩⟩⟩⟩,⟨⟨⟨⟨⟨(by intros;apply QP),(by intros;apply BU)⟩,⟨(by intros;apply BV),⟨(by intros;apply QQ),(by intros;apply QR)⟩⟩⟩,⟨⟨(by intros;apply QS),⟨(by intros;apply QT),(by intros;apply QU)⟩⟩,⟨(by intros;apply QV),⟨(by intros;apply QW),(by intros;apply Q1)⟩⟩⟩⟩,⟨⟨⟨(by intros;apply Q2),(by intros;apply Q3)⟩,⟨(by intros;apply Q4),⟨(by intros;apply Q5),(by intros;apply Q6)⟩⟩⟩,⟨⟨(by intros;apply Q7),⟨(by intros;apply Q8),(by intros;apply Q9)⟩⟩,⟨(by intros;apply Ra),⟨(by intros;apply Rc),(by intros;apply Re)⟩⟩⟩⟩⟩,⟨⟨⟨⟨(by intros;apply Rf),(by intros;apply Rg)⟩,⟨(by intros;apply Rh),⟨(by intros;apply Ri),(by intros;apply Rj)⟩⟩⟩,⟨⟨(by intros;apply Rk),⟨(by intros;apply Rl),(by intros;apply Rm)⟩⟩,⟨(by intros;apply Rn),⟨(by intros;apply Ro),(by intros;apply Rp)⟩⟩⟩⟩,⟨⟨⟨(by intros;apply Rq),(by intros;apply Rr)⟩,⟨(by intros;apply Rs),⟨(by intros;apply Rt),(by intros;apply Ru)⟩⟩⟩,⟨⟨(by intros;apply Rv),⟨(by intros;apply Rw),(by intros;apply Rx)⟩⟩,⟨(by intros;apply hV),⟨(by intros;apply eK),(by intros;apply mN)⟩⟩⟩⟩⟩⟩⟩⟩
section
variable{P:Program}{Q:eb->Fr->World->Prop}{aI:Value->Prop}{K:Value->World->Prop}{gm:World->Prop}{S:Fr}{w:World}{A B:Prop}
theorem K.cond{p:Prop}[Decidable p]{t}(h1:p->A)(U:¬p->B):j3 (.bool (decide p)) A B t:=aaS h1 U
theorem K.du{u:Bool}{t}(h1:u=true->A)(U:u=false->B):j3 (.bool u) A B t:=aaR h1 U
theorem K.wrap{n:Int}{t}(h : -9223372036854775808<=n/\n<=9223372036854775807)(hk:aI (.int .i64 n)):nC .i64 n aI t:=wrap_i64 h hk
theorem K.I4{k:IntKind}{n:Int}{t}(h:aI (.int k (k.wrap n))):nC k n aI t:=Y3 h
theorem K.Y4{k:IntKind}{n:Int}{t}(h:k.wrap n=n)(hk:aI (.int k n)):nC k n aI t:=Y3 (by rw[h];exact hk)
theorem K.quo{ty:TypeId}{c3 c6:Operand}{k:IntKind}{a b:Int}{t}(aC:b≠0)(h:nC k (a.tdiv b) aI ⟨⟩):gq P .quo ty c3 c6 (.int k a) (.int k b) aI t:=aaw aC h
theorem K.rem{ty:TypeId}{c3 c6:Operand}{k:IntKind}{a b:Int}{t}(aC:b≠0)(h:aI (.int k (a.tmod b))):gq P .rem ty c3 c6 (.int k a) (.int k b) aI t:=aax aC h
theorem K.bin{op:BinOp}{ty:TypeId}{c3 c6:Operand}{x y v:Value}{t}(h:∀w,(do eqGuard op ty c3 c6 x y;binOp op ty x y:Sem Value).run P w = .ok v w)(hk:aI v):gq P op ty c3 c6 x y aI t:=⟨v,h,hk⟩
theorem K.gz{sz:Nat}{a:Addr}{len cap:Nat}{k:IntKind}{n:Int}{t}(h:0<=n/\n<len)(hk:aI (.pointer (some (a.add (n.toNat*sz))))):za sz (.slice (some a) len cap) (.int k n) aI t:=agL h hk
theorem K.dp{sz:Nat}{a:Addr}{len cap:Nat}{k:IntKind}{n:Int}{t}(i:Nat)(ad:n=i)(h:i<len)(hk:aI (.pointer (some (a.add (i*sz))))):za sz (.slice (some a) len cap) (.int k n) aI t:=agK i ad h hk
theorem K.Av{sz:Nat}{a:Addr}{len:Nat}{k:IntKind}{n:Int}{t}(h:0<=n/\n<len)(hk:aI (.pointer (some (a.add (n.toNat*sz))))):FM len sz (.pointer (some a)) (.int k n) aI t:=agJ h hk
theorem K.lB{s:ByteArray}{k:IntKind}{n:Int}{t}(c:UInt8)(ak:0<=n)(h:s[n.toNat]? = some c)(hk:aI (.int .u8 c.toNat)):FQ (.string s) (.int k n) aI t:=agZ c ak h hk
theorem K.wB{len:Nat}{cs:Array Value}{k:IntKind}{n:Int}{t}(v:Value)(ak:0<=n/\n<len)(h:cs[n.toNat]? = some v)(hk:aI v):FP len (.agg cs) (.int k n) aI t:=agY v ak h hk
theorem K.jf{off:Nat}{cs:Array Value}{v:Value}{t}(h:cs[off]? = some v)(hk:aI v):FK off (.agg cs) aI t:=ac2 h hk
theorem K.cY{z cs:List Value}{pl:List (Nat×Nat)}{dy:List (Nat×Operand)}{t}(h:eQ S pl dy z=some cs)(hk:aI (.agg cs.toArray)):FC S z pl dy aI t:=aaD h hk
theorem K.hQ{sz:Nat}{a:Option Addr}{len cap:Nat}{bf ad mx:Option Operand}{t}(l h m:Nat)(h1:fl S bf 0=some l)(U:fl S ad len=some h)(ag:fl S mx cap=some m)
  (aJ:l<=h/\h<=m/\m<=cap)(bg:mx.isSome=true->ad.isSome=true)(hk:aI (.slice (if m=l then a else a.map (·.add (l*sz))) (h - l) (m - l))):tC S sz (.slice a len cap) bf ad mx aI t:=ak4 l h m h1 U ag aJ bg hk
theorem K.wW{s:ByteArray}{bf ad:Option Operand}{t}(l h:Nat)(h1:fl S bf 0=some l)(U:fl S ad s.size=some h)(aJ:l<=h/\h<=s.size)(hk:aI (.string (s.extract l h))):F7 S (.string s) bf ad aI t:=ak2 l h h1 U aJ hk
theorem K.ld{a:Addr}{c:Value}{t}(h:w.cell? a=some c)(hk:aI c):qp (.pointer (some a)) w aI t:=ahw h hk
theorem K.jX{n:Nat}{a:Addr}{cs:List Value}{t}(h:fg w a cs)(aD:cs.length=n)(hk:aI (.agg cs.toArray)):sk n (.pointer (some a)) w aI t:=ahv h aD hk
theorem K.mv{d:TypeDesc}{z:Value}{ok:Bool}{m k:Value}{es:Array MapEntry}{r:Option (Nat×Value)}{t}(h1:qs w m es)(U:Instr.findNow d k es.toList 0=some r)(hk:aI (lY z ok r)):zb d z ok m k w aI t:=ahL h1 U hk
theorem K.yq{m:Value}{es:Array MapEntry}{t}(h:qs w m es)(hk:aI (.int .i64 es.size)):FV m w aI t:=ahC h hk
theorem K.st{a:Addr}{v kC:Value}{t}(h:w.cell? a=some kC)(aK:w.frozen? a=false)(aT:v.oneCell'=true)(hk:gm (w.setCell a v)):qw (.pointer (some a)) v w gm t:=Yp h aK aT hk
theorem K.rh{n:Nat}{a:Addr}{cs:Array Value}{t}(aD:cs.size=n)(h:∀j,j<n->(∃kC,w.cell? (a.add j)=some kC)/\w.frozen? (a.add j)=false)(h1:∀c∈cs.toList,c.oneCell'=true)(hk:gm (kG w a cs.toList 0)):zk n (.pointer (some a)) (.agg cs) w gm t:=N9 aD h h1 hk
theorem K.p7{e:TypeId}{sz bytes:Nat}{z:Value}{k q:IntKind}{n m:Int}{t}(h:0<=n/\n<=m/\m<=9223372036854775807/\bytes*m<=281474976710656)(hk:K (.slice (some ⟨w.heap.size,0,none⟩) n.toNat m.toNat) (w.alloc (.cells (n1 z.cells (m.toNat*sz)) e))) :
  xc e sz bytes z (.int k n) (.int q m) w K t:=ah4 h hk
theorem K.dk{e:TypeId}{len sz:Nat}{z cs:List Value}{dy:List (Nat×Operand)}{t}(h:eQ S ((List.range len).map fun i=>(i*sz,sz)) dy z=some cs)(hk:K (.slice (some ⟨w.heap.size,0,none⟩) len len) (w.alloc (.cells cs.toArray e))):BA S e len sz z dy w K t:=B9 h hk
theorem K.app{ty e:TypeId}{sz b:Nat}{s x:Value}{t}(h:Q0 P ty e sz b->∃u ck w',(Builtin.append_ #[ty,ty] u #[s,x]).run P w = .ok ck w'/\K ck w'):k4 P ty e sz b s x w K t:=h
theorem K.iS{d:TypeDesc}{r:Nat}{k v:Value}{es:Array MapEntry}{c:Nat}{q:Option (Nat×Value)}{t}(h1:w.heap[r]? = some (.map es c))(U:Instr.findNow d k es.toList 0=some q)(hk:gm (fe w r (q3 es c k v q))):xd d (.map (some r)) k v w gm t:=aia h1 U hk
theorem K.wK{r pos:Nat}{s:ByteArray}{t}(h:w.heap[r]? = some (.stringIter s pos))(h1:pos<s.size->K (.tuple #[.bool true,.int .i64 pos,.int .i32 (Utf8.decode s pos).1]) (fe w r (.stringIter s (pos+(Utf8.decode s pos).2))))
  (U:¬pos<s.size->K (.tuple #[.bool false]) w):F3 (.pointer (some ⟨r,0,none⟩)) w K t:=aiu h h1 U
theorem K.raw{op:Op}{ty:TypeId}{v:Value}{w':World}{t}(h:(execOp (bn S) ⟨none,op,ty, "",#[],none⟩).run P w = .ok (.value v) w')(hk:K v w'):tB P op ty S w K t:=⟨v,w',.inl h,hk⟩
theorem K.call{f:FuncId}{args:List Value}{R:Value->World->Prop}{t}(h:bu P f args.toArray w R)(hk:∀v w',R v w'->K v w'):y5 P f args w K t:=aaN h hk
theorem K.ff{f:FuncId}{args:List Value}{R:Value->World->Prop}{Z rD:List PanicEntry->World->Prop}{t}(h:qu P f args.toArray w R Z)(hk:∀v w',R v w'->K v w')(bQ:∀c w',Z c w'->rD c w'):F8 P f args w K rD t:=qu.mono h hk bQ
theorem K.Fi{f:FuncId}{L:nx}(hm:P.follows .mixedOrders=true)(aw:lQ P f=some L){args:List Value}{R:Value->World->Prop}{Z:List PanicEntry->World->Prop}(bo:args.length<=L.n)(h:dZ P L.code (vR L.res R Z ⟨⟩) (hY args 0) w ⟨⟩):qu P f args.toArray w R Z:=acg hm aw bo h
theorem K.mS{f:FuncId}{first cap:List Value}{args:List Value}{R:Value->World->Prop}{t}(aK:okF P f=true)(h:bu P f (first++args++cap).toArray w R)(hk:∀v w',R v w'->K v w'):w7 P (.func (.func f) first.toArray cap.toArray) args w K t:=Or.inl (JT aK h hk)
theorem K.JS{f:FuncId}{first cap:List Value}{args:List Value}{R:Value->World->Prop}{t}(aK:okF P f=true)(h:bu P f (first++args++cap).toArray w R)(hk:∀v w',R v w'->K v w'):vf P (.func (.func f) first.toArray cap.toArray) args w K t:=JT aK h hk
theorem K.yield{l:Nat}{args:List Value}{R:Ending->World->Prop}{t}(h:YieldAt Fence.wide 0 P l args.toArray w R)(hk:∀e w',R e w'->∃v,e = .returned v/\K v w'):w7 P (.func (.yield l) #[] #[]) args w K t :=
 Or.inr ⟨l,rfl,let ⟨fn,tmps,assign,body,h1,U⟩:=h; ⟨fn,tmps,assign,body,h1,U.mono hk⟩⟩
theorem K.gB{f:FuncId}{args:List Value}{t}(v:Value)(h:∀w',Ext w w'->bu P f args.toArray w' fun u b2=>u=v/\Ext w' b2)(hk:aI v):F5 P f args w aI t:=ajs v h hk
theorem K.new{n:TypeId}{cs:Array Value}{t}(hk:∀av b,w.heap.size<=b->Ext w av->av.heap[b]? = some (.cells cs n)->K (.pointer (some ⟨b,0,none⟩)) av):xe n cs w K t :=
 hk _ _ (Nat.le_refl _) ((Ext.refl w).alloc _) (heap_alloc_new w _)
theorem K.A1{t}(hk:∀av b,w.heap.size<=b->Ext w av->av.heap[b]? = some (.map #[] 0)->K (.map (some b)) av):F1 w K t:=hk _ _ (Nat.le_refl _) ((Ext.refl w).alloc _) (heap_alloc_new w _)
theorem K.wS{s:ByteArray}{t}(hk:∀av b,w.heap.size<=b->Ext w av->av.heap[b]? = some (.stringIter s 0)->K (.pointer (some ⟨b,0,none⟩)) av):F6 (.string s) w K t :=
 ⟨s,rfl,hk _ _ (Nat.le_refl _) ((Ext.refl w).alloc _) (heap_alloc_new w _)⟩
theorem K.lk{e:TypeId}{len sz:Nat}{z cs:List Value}{dy:List (Nat×Operand)}{t}(h:eQ S ((List.range len).map fun i=>(i*sz,sz)) dy z=some cs)
  (hk:∀av b,w.heap.size<=b->Ext w av->av.heap[b]? = some (.cells cs.toArray e)->K (.slice (some ⟨b,0,none⟩) len len) av):BA S e len sz z dy w K t :=
 B9 h (hk _ _ (Nat.le_refl _) ((Ext.refl w).alloc _) (heap_alloc_new w _))
theorem K.st1{b j:Nat}{c:Array Value}{e:TypeId}{v:Value}{t}(aC:w.heap[b]? = some (.cells c e))(aR:j<c.size)(aT:v.oneCell'=true)
  (hk:∀av,dC b w av->av.heap[b]? = some (.cells (c.set j v aR) e)->gm av):qw (.pointer (some (Addr.add ⟨b,0,none⟩ j))) v w gm t :=
 Yp (e8 aC (Array.getElem?_eq_getElem aR)) (by rw[add_eq];simp[World.frozen?,aC]) aT (hk _ (by have h:=dC.setCell w (Addr.add ⟨b,0,none⟩ j) v;rwa[Gd] at h) (Fb aC aR v))
theorem K.tp{b:Nat}{c:Array Value}{e:TypeId}{v:Value}{t}(aC:w.heap[b]? = some (.cells c e))(aR:0<c.size)(aT:v.oneCell'=true)
  (hk:∀av,dC b w av->av.heap[b]? = some (.cells (c.set 0 v aR) e)->gm av):qw (.pointer (some ⟨b,0,none⟩)) v w gm t :=
 K.st1 (j:=0) (t:=⟨⟩) aC aR aT hk
theorem K.h6{b n:Nat}{c cs:Array Value}{e:TypeId}{t}(aC:w.heap[b]? = some (.cells c e))(aw:c.size=n)(aD:cs.size=n)(h1:∀x∈cs.toList,x.oneCell'=true)
  (hk:∀av,dC b w av->av.heap[b]? = some (.cells cs e)->gm av):zk n (.pointer (some ⟨b,0,none⟩)) (.agg cs) w gm t :=
 N9 aD (fun j aR=>⟨⟨_,e8 aC (Array.getElem?_eq_getElem (by omega))⟩,by rw[add_eq];simp[World.frozen?,aC]⟩) h1 (hk _ (dC.kG cs.toList w ⟨b,0,none⟩ 0) (X8 aC (by omega)))
theorem K.loop{b:fa}{t}(eu:Fr->World->Prop)(jK:Fr->World->Nat)(ak:eu S w)
  (ba:∀bh w',(∀t,b.fw.contains t=false->bh t=S t)->eu bh w'->dZ P b (hr (fun fu b2=>eu fu b2/\jK fu b2<jK bh w') Q ⟨⟩) bh w' ⟨⟩):xb P b Q S w t:=ahP eu jK ak ba
theorem K.start{f:FuncId}{L:nx}(hm:P.follows .mixedOrders=true)(aw:lQ P f=some L){args:List Value}{R:Value->World->Prop}(bo:args.length<=L.n)(h:dZ P L.code (rJ L.res R ⟨⟩) (hY args 0) w ⟨⟩):bu P f args.toArray w R:=enter hm aw bo h
end
attribute [irreducible] dZ
attribute [irreducible] jI
attribute [irreducible] l1
attribute [irreducible] fK
attribute [irreducible] yS
attribute [irreducible] rK
attribute [irreducible] rF
attribute [irreducible] pw
attribute [irreducible] mF
attribute [irreducible] w6
attribute [irreducible] w7
attribute [irreducible] n4
attribute [irreducible] xi
attribute [irreducible] F5
attribute [irreducible] BS
attribute [irreducible] eJ
attribute [irreducible] oa
attribute [irreducible] h9
attribute [irreducible] w5
attribute [irreducible] gq
attribute [irreducible] xq
attribute [irreducible] BD
attribute [irreducible] nC
attribute [irreducible] j3
attribute [irreducible] jn
attribute [irreducible] BH
attribute [irreducible] za
attribute [irreducible] FM
attribute [irreducible] FQ
attribute [irreducible] FP
attribute [irreducible] FK
attribute [irreducible] BI
attribute [irreducible] FC
attribute [irreducible] tC
attribute [irreducible] F7
attribute [irreducible] tw
attribute [irreducible] BL
attribute [irreducible] BK
attribute [irreducible] BB
attribute [irreducible] BM
attribute [irreducible] BN
attribute [irreducible] xg
attribute [irreducible] qp
attribute [irreducible] sk
attribute [irreducible] zb
attribute [irreducible] FV
attribute [irreducible] qw
attribute [irreducible] zk
attribute [irreducible] xc
attribute [irreducible] BA
attribute [irreducible] k4
attribute [irreducible] xd
attribute [irreducible] F3
attribute [irreducible] F6
attribute [irreducible] tB
attribute [irreducible] y5
attribute [irreducible] F8
attribute [irreducible] BR
attribute [irreducible] vf
attribute [irreducible] xe
attribute [irreducible] F1
attribute [irreducible] xb
attribute [irreducible] iv
attribute [irreducible] hr pJ rJ vR
end bt
end
section
namespace bt
open Go Go.RowKit
structure bF{α:Type}(sz:Nat)(R:World->Addr->α->Prop)(w:World)(v:Value)(xs:List α):Prop where
 ex:∃bl cap,v = .slice bl xs.length cap/\xs.length<=cap/\cap<=maxLen/\(xs≠[]->bl.isSome=true)/\∀a,bl=some a->∀i (h:i<xs.length),R w (a.add (i*sz)) xs[i]
theorem bF.form{α:Type}{sz:Nat}{R:World->Addr->α->Prop}{w:World}{v:Value}{xs:List α}(h:bF sz R w v xs):∃bl cap,v = .slice bl xs.length cap/\xs.length<=9223372036854775807:=by
 obtain⟨bl,cap,h1,U,ag,_⟩:=h.ex;exact⟨bl,cap,h1,by unfold maxLen at ag;omega⟩
theorem bF.addr{α:Type}{sz:Nat}{R:World->Addr->α->Prop}{w:World}{bl:Option Addr}{n c:Nat}{xs:List α}(h:bF sz R w (.slice bl n c) xs)(aD:0<xs.length):∃a,bl=some a:=by
 obtain⟨jH,cap,h1,U,ag,aJ,_⟩:=h.ex;injection h1 with h1 _ _
 subst h1;exact Option.isSome_iff_exists.1 (aJ (by intro e;subst e;simp at aD))
theorem bF.at{α:Type}{sz:Nat}{R:World->Addr->α->Prop}{w:World}{a:Addr}{n c:Nat}{xs:List α}(h:bF sz R w (.slice (some a) n c) xs)(i:Nat)(ad:i<xs.length):R w (a.add (i*sz)) xs[i]:=by
 obtain⟨jH,cap,h1,U,ag,aJ,bg⟩:=h.ex;injection h1 with h1 _ _
 subst h1;exact bg a rfl i ad
theorem bF.ext{α:Type}{sz:Nat}{R:World->Addr->α->Prop}(dr:∀w w' a x,Ext w w'->R w a x->R w' a x){w w':World}{v:Value}{xs:List α}(he:Ext w w')(h:bF sz R w v xs):bF sz R w' v xs:=by
 obtain⟨bl,cap,h1,U,ag,aJ,bg⟩:=h.ex;exact⟨bl,cap,h1,U,ag,aJ,fun a bo i ad=>dr _ _ _ _ he (bg a bo i ad)⟩
def Flat{α:Type}(enc:α->List Value)(w:World)(a:Addr)(x:α):Prop:=fg w a (enc x)
theorem Flat.ext{α:Type}{enc:α->List Value}(w w':World)(a:Addr)(x:α)(he:Ext w w')(h:Flat enc w a x):Flat enc w' a x:=fg.ext he h
def hT{ns:Type}(enc:ns->Value)(es:List MapEntry)(m:List (ns×Value)):Prop:=es.map (fun e=>(e.key,e.val))=m.map (fun p=>(enc p.1,p.2))
theorem xR{ns:Type}[DecidableEq ns]{enc:ns->Value}{d:TypeDesc}(ay:∀x y,Instr.sameNow d (enc x) (enc y)=some (decide (x=y)))(x:ns):∀(es:List MapEntry) (m:List (ns×Value)) (i:Nat),hT enc es m ->
  ∃r,Instr.findNow d (enc x) es i=some r/\r.map (·.2)=(m.find? (fun p=>decide (x=p.1))).map (·.2)
 | [],m,i,h=>by
  have:m=[]:=by cases m with | nil=>rfl | cons _ _=>simp[hT] at h
  subst this;exact⟨none,rfl,rfl⟩
 | e :: es,m,i,h=>by
  cases m with
  | nil=>simp[hT] at h
  | cons p m =>
   simp only[hT,List.map_cons,List.cons.injEq,Prod.mk.injEq] at h;obtain⟨⟨h1,U⟩,ag⟩:=h;unfold Instr.findNow;rw[h1,ay];by_cases au:x=p.1
   .simp only[au,decide_true];exact⟨_,rfl,by simp[U]⟩
   .simp only[au,decide_false];obtain⟨r,aJ,bg⟩:=xR ay x es m (i+1) ag;exact⟨r,aJ,by rw[bg];simp[au]⟩
theorem IB(x y:ByteArray):Instr.sameNow .string (.string x) (.string y)=some (decide (x=y)):=by simp[Instr.sameNow,B6]
theorem IA(k q:IntKind)(x y:Int):Instr.sameNow (.int q) (.int k x) (.int k y)=some (decide (x=y)):=by simp[Instr.sameNow];rfl
theorem hT.push{ns:Type}{enc:ns->Value}{es:Array MapEntry}{m:List (ns×Value)}(h:hT enc es.toList m)(x:ns)(v:Value)(c:Nat):hT enc (es.push { key:=enc x,val:=v,born:=c }).toList (m++[(x,v)]):=by
 simp only[hT] at *;simp[h]
theorem KG{α:Type}{enc:α->List Value}{sz:Nat}(dn:∀x,(enc x).length=sz):∀(xs:List α) (i j:Nat) (h:i<xs.length),j<sz->(xs.flatMap enc)[i*sz+j]? = (enc xs[i])[j]?
 | [],i,j,h,_=>by simp at h
 | x :: xs,0,j,h,aR=>by
  simp only[List.flatMap_cons,Nat.zero_mul,Nat.zero_add,List.getElem_cons_zero];rw[List.getElem?_append_left (by rw[dn];exact aR)]
 | x :: xs,i+1,j,h,aR=>by
  simp only[List.flatMap_cons,List.getElem_cons_succ];rw[List.getElem?_append_right (by rw[dn,Nat.add_mul];omega),dn,show(i+1)*sz+j - sz=i*sz+j from by rw[Nat.add_mul];omega];exact KG dn xs i j (by simpa using h) aR
theorem aa0{α:Type}{enc:α->List Value}{sz:Nat}(dn:∀x,(enc x).length=sz){w:World}{b:Nat}{e:TypeId}{f:Nat×Nat}{xs:List α}(aC:w.heap[b]? = some (.cells (xs.flatMap enc).toArray e f))(i:Nat)(h:i<xs.length) :
  fg w (Addr.add ⟨b,0,none⟩ (i*sz)) (enc xs[i]):=fun j v aR=>by
 have Dr:j<sz:=by rw[<-dn xs[i]];exact(List.getElem?_eq_some_iff.1 aR).1
 rw[add_add];exact e8 aC (by rw[List.getElem?_toArray,KG dn xs i j h Dr];exact aR)
theorem bF.aV{α:Type}{enc:α->List Value}{sz:Nat}(dn:∀x,(enc x).length=sz){R:World->Addr->α->Prop}{w:World}{b n:Nat}{e:TypeId}{f:Nat×Nat}{xs:List α}(aC:w.heap[b]? = some (.cells (xs.flatMap enc).toArray e f))
  (aD:n=xs.length)(hm:xs.length<=maxLen)(dr:∀a x,x∈xs->fg w a (enc x)->R w a x):bF sz R w (.slice (some ⟨b,0,none⟩) n n) xs:=by
 subst aD;refine⟨_,_,rfl,Nat.le_refl _,hm,fun _=>rfl,fun a bo i ad=>?_⟩;injection bo with bo;subst bo
 exact dr _ _ (List.getElem_mem _) (aa0 dn aC i ad)
theorem bF.nil{α:Type}{sz:Nat}{R:World->Addr->α->Prop}{w:World}:bF sz R w (.slice none 0 0) ([]:List α):=⟨none,0,rfl,Nat.le_refl _,Nat.zero_le _,fun h=>absurd rfl h,fun a h=>by cases h⟩
end bt
end
section
namespace bt
open Go Go.RowKit Go.ChangeShapes Go.WideShapes Go.Deep
section
variable{H:Type}{enc:TypeId×Value->H}{P:Program}
theorem YI{w:World}:∀{cJ:List TypeId} {vs:List Value} {ds:List (DataW H)} {dy:List MemPlace},DataW.TrodAll enc P w 0 (fun _=>true) true cJ vs ds dy->∀x∈dy,x.block<w.heap.size
 | [],_,_,_,h=>by
  obtain⟨rfl,rfl,rfl⟩:=trodAll_nil h;intro x au;cases au
 | _ :: _,_,_,_,h=>by
  obtain⟨v,YR,d,St,a,b,rfl,rfl,rfl,⟨m,h1⟩,U⟩:=trodAll_cons h;intro x au;rcases List.mem_append.1 au with au | au
  .exact DataW.trod_lt m _ _ _ h1 x au
  .exact YI U x au
theorem YH{w:World}{sp:Nat->Bool}{bw:Bool}:∀{cJ:List TypeId} {vs:List Value} {ds:List (DataW H)} {dy:List MemPlace},DataW.TrodAll enc P w 0 sp bw cJ vs ds dy->ds.length=cJ.length
 | [],_,_,_,h=>by
  obtain⟨rfl,rfl,rfl⟩:=trodAll_nil h;rfl
 | _ :: _,_,_,_,h=>by
  obtain⟨v,YR,d,St,a,b,rfl,rfl,rfl,h1,U⟩:=trodAll_cons h;simp[YH U]
theorem YG(aS:laidOutB P=true){W b7:World}(aC:Below W.heap.size W b7):∀{cJ:List TypeId} {vs:List Value} {ds:List (DataW H)} {dy:List MemPlace},(cJ.all fun t=>P.readableRec t&&decide (t<P.types.size))=true ->
  DataW.TrodAll enc P W 0 (fun _=>true) true cJ vs ds dy->(∀x∈dy,x.block<W.heap.size)->DataW.TrodAll enc P b7 0 (fun b=>decide (b<W.heap.size)) true cJ vs ds dy
 | [],_,_,_,_,h,_=>by
  obtain⟨rfl,rfl,rfl⟩:=trodAll_nil h;exact trodAll_mk0
 | _ :: _,_,_,_,ba,h,cw=>by
  obtain⟨v,YR,d,St,a,b,rfl,rfl,rfl,h1,U⟩:=trodAll_cons h;simp only[List.all_cons,Bool.and_eq_true,decide_eq_true_eq] at ba;exact trodAll_cons_mk (Below.trod aS ba.1.1 ba.1.2 h1 aC fun x au=>cw x (List.mem_append_left _ au)) (YG aS aC ba.2 U fun x au=>cw x (List.mem_append_right _ au))
theorem ao9{s:ChangeSpec}{f:Func}{tb:TypeId}(aS:laidOutB P=true)(ba:(f.params.toList.all fun t=>P.readableRec t&&decide (t<P.types.size))=true)(aT:s.vars=[])
  (wo:f.resultTypes=#[tb])(aL:P.underlying tb=some .bool)(ay:∀ds:List (DataW H),ds.length=f.params.toList.length->s.fn H ds = { results:=[.lit (.bool true)],args:=ds })
  {W b7:World}{args:Array Value}{ds gs:List (DataW H)}{before:List MemPlace}(iO:DataW.Whole enc P f.params.toList s.vars false W args.toList ds gs before)(RS:Ext W b7) :
  s.post enc P f false true false false W args (.bool true) b7:=by
 have KY:=iO;obtain⟨p,q,eL,mV,rfl,aog,kV⟩:=iO;rw[aT] at mV;obtain⟨rfl,rfl⟩:=trodVars_none mV;have cw:=YI eL;have e:=ay ds (YH eL);refine⟨ds,[],_,[],p,[],KY,?_,?_,?_,RS.frame _,fun h=>by cases h⟩
 .rw[List.append_nil,e,wo];exact trodAll_mk1 (shut_bool aL _)
 .rw[List.append_nil,e];exact YG aS RS ba eL cw
 .rw[List.append_nil,e,aT];rfl
variable{w:World}{base:Nat}{spare:Nat->Bool}{held:Bool}
theorem MS{α:Type}(n:Nat)(R:Nat->α->Prop)(h:∀i,i<n->∃x,R i x):∃xs:List α,xs.length=n/\∀i (ad:i<xs.length),R i xs[i]:=by
 induction n with
 | zero=>exact⟨[],rfl,fun i ad=>absurd ad (Nat.not_lt_zero _)⟩
 | succ n eV =>
  obtain⟨xs,aS,au⟩:=eV fun i ad=>h i (by omega);obtain⟨x,s3⟩:=h n (by omega);refine⟨xs++[x],by simp[aS],fun i ad=>?_⟩;by_cases aD:i<xs.length
  .rw[List.getElem_append_left aD];exact au i aD
  .have:i=n:=by simp at ad;omega
   subst this;rw[List.getElem_append_right (by omega)];simpa[aS] using s3
end
theorem aa4{H:Type}{enc:TypeId×Value->H}{P:Program}{w:World}{base:Nat}{sp:Nat->Bool}{held:Bool}{fuel:Nat}{t e:TypeId}{n:Nat}{cs:List Value}{zs:List ByteArray}{p:List MemPlace}
  (aL:P.underlying t=some (.array n e))(he:P.underlying e=some .string)(fh:P.cellsOf e=1)(v7:P.cellsOf t=n)
  (h:DataW.trod enc P w base sp held fuel t cs=some (.agg (zs.map fun z=>.lit (.string z.data.toList)),p)):cs=zs.map Value.string:=by
 cases fuel with
 | zero=>simp[DataW.trod] at h
 | succ fuel =>
  simp only[DataW.trod,aL,fh,v7,Nat.mul_one] at h;split at h
  .rename_i aS;obtain⟨xs,hm,au⟩:=Option.map_eq_some_iff.1 h;have qY:xs.map (·.1)=zs.map fun z=>(DataW.lit (.string z.data.toList):DataW H):=by
    have:=congrArg Prod.fst au
    simpa using this
   have uC:xs.length=n:=by simpa using Lib.mapM_length hm
   have aoI:zs.length=n:=by
    have:=congrArg List.length qY
    simp at this;omega
   apply List.ext_getElem?;intro i;by_cases ad:i<n
   .obtain⟨b,aC,aK⟩:=Lib.mapM_at hm i i (by simp[ad]);obtain⟨z,aw,rfl,_⟩:=DataW.trod_string he aK;have h1:cs[i]? = some (.string z):=by
     have:=congrArg (·[0]?) aw
     simpa[List.getElem?_take,List.getElem?_drop] using this
    have U:(xs.map (·.1))[i]? = some (DataW.lit (.string z.data.toList):DataW H):=by simp[aC]
    rw[qY] at U;simp only[List.getElem?_map,Option.map_eq_some_iff,DataW.lit.injEq,Lit.string.injEq] at U;obtain⟨Zb,DS,e⟩:=U;have a6:Zb=z:=by
     cases Zb;cases z;simp at e;simp[e]
    simp[h1,DS,a6]
   .rw[List.getElem?_eq_none (by omega),List.getElem?_eq_none (by simp;omega)]
  .cases h
theorem apI{P:Program}{W:World}{name:String}{zs:List ByteArray}{rest:List (String×DataW Unit)}{g:Nat}{t e:TypeId}{n:Nat}
  (aZ:P.globalNamed name=some g)(agk:(P.globals[g]?).map (·.type)=some t)(aL:P.underlying t=some (.array n e))(he:P.underlying e=some .string)(fh:P.cellsOf e=1)(v7:P.cellsOf t=n)
  (h:laidMet P ((name,.agg (zs.map fun z=>.lit (.string z.data.toList))) :: rest) W):fg W ⟨g,0,none⟩ (zs.map Value.string):=by
 obtain⟨dy,⟨anx,hf,cs,fuel,p,q,ae3,wv,agm,bw,_,_⟩,_⟩:=h;obtain rfl:=Option.some.inj (aZ.symm.trans ae3);obtain rfl:=Option.some.inj (agk.symm.trans wv);have e:=aa4 aL he fh v7 bw;intro j v aR
 have:=World.var?_cell aZ agm j
 rw[show Addr.add ⟨g,0,none⟩ j=⟨g,j,none⟩ from by cases j<;>simp[Addr.add],this,Array.getElem?_toList.symm,e];exact aR
end bt
end
section
namespace bt
open Go Go.RowKit
theorem Ext.grown{w0 w w':World}{r:Option Nat}(he:Ext w0 w)(aZ:w.grownBy w' r)(ba:∀k,r=some k->w0.heap.size<=k):Ext w0 w':=Below.grown he aZ he.size ba
theorem aiY{w w':World}{base:Nat}{e:TypeId}{sz:Nat}{v:Value}{n:Nat}{xs:List Value}(he:Ext w w')(h:w.ownsRow base e sz v n xs):w'.ownsRow base e sz v n xs:=by
 refine⟨h.1,?_⟩;rcases h.2 with aD | ⟨g,cap,cur,rfl,aC,Ai,rest⟩
 .exact .inl aD
 .exact .inr ⟨g,cap,cur,rfl,aC,he.obj Ai,rest⟩
theorem aiZ{w:World}{base zt:Nat}{e:TypeId}{sz:Nat}{v:Value}{n:Nat}{xs:List Value}(aC:zt<=base)(h:w.ownsRow base e sz v n xs):w.ownsRow zt e sz v n xs:=by
 refine⟨h.1,?_⟩;rcases h.2 with aD | ⟨g,cap,cur,rfl,C3,rest⟩
 .exact .inl aD
 .exact .inr ⟨g,cap,cur,rfl,Nat.le_trans aC C3,rest⟩
theorem W2{w:World}{base:Nat}{e:TypeId}{sz:Nat}{v:Value}{n:Nat}{xs:List Value}(h:w.ownsRow base e sz v n xs):∃bl cap,v = .slice bl n cap/\n<=cap/\cap<=maxLen/\(n≠0->bl.isSome=true)/\∀a,bl=some a->fg w a xs:=by
 rcases h.2 with ⟨rfl,rfl⟩ | ⟨g,cap,cur,rfl,aC,Ai,h1,U,ag,aJ⟩
 .exact⟨none,0,rfl,Nat.le_refl _,Nat.zero_le _,fun h=>absurd rfl h,fun a bo=>by cases bo⟩
 .exact⟨_,cap,rfl,h1,U,fun _=>rfl,fun a bo=>by injection bo with bo;subst bo;exact fun j u aR=>h.cells (g:=g) rfl j u aR⟩
theorem ai0{α:Type}{enc:α->List Value}{w:World}{base:Nat}{e:TypeId}{sz:Nat}{v:Value}{xs:List α}(dn:∀x,(enc x).length=sz)(h:w.ownsRow base e sz v xs.length (xs.flatMap enc)):bF sz (Flat enc) w v xs:=by
 obtain⟨bl,cap,rfl,h1,U,ag,aJ⟩:=W2 h;refine⟨bl,cap,rfl,h1,U,fun aD=>ag (by intro e;exact aD (List.eq_nil_of_length_eq_zero e)),fun a bo i ad=>?_⟩;intro j u aR;have Dr:j<sz:=by rw[<-dn xs[i]];exact(List.getElem?_eq_some_iff.1 aR).1
 rw[add_add];exact aJ a bo _ _ (by rw[KG dn xs i j ad Dr];exact aR)
theorem K.Z3{P:Program}{da:Value->World->Prop}{w:World}{ty e:TypeId}{sz b:Nat}{s:Value}{a:Addr}{m c:Nat}{t}{base n:Nat}{xs news:List Value}(ay:w.ownsRow base e sz s n xs)(aw:fg w a news)(aS:news.length=m*sz)
  (h1:∀u∈news,u.oneCell'=true)(kb:n+m<=maxLen)(aC:(n+m)*b<=140737488355328)(jx:base<=w.heap.size)
  (hk:∀ck w',w'.ownsRow base e sz ck (n+m) (xs++news)->w.grownBy w' s.ownBlock->da ck w'):k4 P ty e sz b s (.slice (some a) m c) w da t :=
 K.app fun⟨aL,i,z,ad,bQ,Au,Aa,yl,dn⟩=>by
  obtain⟨ck,w',ba,U,ag,_⟩:=run_append_own (P:=P) w base ty ty e i z sz b aL ad bQ Au Aa yl dn s n xs ay a m c news aS aw h1 kb aC jx;exact⟨ty,ck,w',ba,hk ck w' U ag⟩
theorem add_zero(a:Addr):a.add 0=a:=by simp[Addr.add]
theorem bF.cap{α:Type}{sz:Nat}{R:World->Addr->α->Prop}{w:World}{bl:Option Addr}{n c:Nat}{xs:List α}(h:bF sz R w (.slice bl n c) xs):xs.length<=c:=by
 obtain⟨jH,cap,e,U,ag,aJ,bg⟩:=h.ex;injection e with bU a6 bK
 subst bK;exact U
theorem bF.take{α:Type}{sz:Nat}{R:World->Addr->α->Prop}{w:World}{bl:Option Addr}{n c:Nat}{xs:List α}(h:bF sz R w (.slice bl n c) xs)(k:Nat)(hk:k<=xs.length) :
  bF sz R w (.slice (if c=0 then bl else bl.map (·.add (0*sz))) (k - 0) (c - 0)) (xs.take k):=by
 obtain⟨jH,cap,e,U,ag,aJ,bg⟩:=h.ex;injection e with bU a6 bK
 subst bU a6 bK;have e:(if c=0 then bl else bl.map (·.add (0*sz)))=bl:=by
  split
  .rfl
  .cases bl with
   | none=>rfl
   | some a=>simp[add_zero]
 rw[e];refine⟨bl,c,by simp[List.length_take,Nat.min_eq_left hk],by simp[List.length_take];omega,ag,fun aD=>aJ (by intro e;subst e;simp at aD),fun a bo i ad=>?_⟩;have cO:i<xs.length:=by simp[List.length_take] at ad;omega
 rw[List.getElem_take];exact bg a bo i cO
theorem Tg{α:Type}{enc:α->List Value}{sz:Nat}(dn:∀x,(enc x).length=sz):∀(xs:List α) (p:Nat) (v:Value),(xs.flatMap enc)[p]? = some v->∃i j,∃h:i<xs.length,j<sz/\p=i*sz+j/\(enc xs[i])[j]? = some v
 | [],p,v,h=>by simp at h
 | x :: xs,p,v,h=>by
  rw[List.flatMap_cons] at h;by_cases aO:p<sz
  .rw[List.getElem?_append_left (by rw[dn];exact aO)] at h;exact⟨0,p,by simp,aO,by simp,h⟩
  .rw[List.getElem?_append_right (by rw[dn];omega),dn] at h;obtain⟨i,j,ad,aR,e,U⟩:=Tg dn xs (p - sz) v h;exact⟨i+1,j,by simpa using ad,aR,by rw[Nat.add_mul];omega,by simpa using U⟩
theorem bF.flat{α:Type}{enc:α->List Value}{sz:Nat}{R:World->Addr->α->Prop}{w:World}{a:Addr}{n c:Nat}{xs:List α}(dn:∀x,(enc x).length=sz)(dr:∀a x,R w a x->fg w a (enc x))
  (h:bF sz R w (.slice (some a) n c) xs):fg w a (xs.flatMap enc):=by
 intro p v aO;obtain⟨i,j,ad,aR,rfl,U⟩:=Tg dn xs p v aO
 have:=dr _ _ (h.at i ad) j v U
 rwa[add_add] at this
theorem xT{α:Type}{enc:α->List Value}{sz:Nat}(dn:∀x,(enc x).length=sz):∀(xs:List α),(xs.flatMap enc).length=xs.length*sz
 | []=>by simp
 | x :: xs=>by rw[List.flatMap_cons,List.length_append,xT dn xs,dn,List.length_cons,Nat.add_mul];omega
theorem K.cut{P:Program}{Q:eb->Fr->World->Prop}{S:Fr}{w:World}{a b:fa}{t}(N:Fr->World->Prop)(h1:dZ P a (hr N Q ⟨⟩) S w ⟨⟩)
  (U:∀bh w',(∀t,a.fw.contains t=false->bh t=S t)->N bh w'->dZ P b Q bh w' ⟨⟩):dZ P (.seq a b) Q S w t:=by
 unfold dZ hr at *;exact oM a _ _ S w (fun e bh w' ay h=>match e,h with | .normal,h=>U bh w' ay h | .exit _,h=>h | .ret,h=>h | .fS _,h=>h) h1
theorem K.WL{P:Program}{hf:TypeId}{c3 c6:Operand}{aI:Value->Prop}{a b:Bool}{t}(h:P.underlying hf=some .bool)(hk:aI (.bool (a != b))):gq P .neq hf c3 c6 (.bool a) (.bool b) aI t :=
 K.bin (v:=.bool (a != b)) (fun w=>by cases a<;>cases b<;>simp[eqGuard_at_bool,binOp,run_equal_bool w hf _ _ h]) hk
theorem aiX{w:World}{base:Nat}{e:TypeId}{sz b:Nat}(aC:base<=b)(h:w.heap[b]? = some (.cells #[] e)):w.ownsRow base e sz (.slice (some ⟨b,0,none⟩) 0 0) 0 [] :=
 ⟨by simp,.inr ⟨b,0,#[],rfl,aC,h,Nat.le_refl _,Nat.zero_le _,by simp,by simp⟩⟩
end bt
end
section
namespace bt
open Go Go.RowKit
class nv{α:Type}(R:World->Addr->α->Prop)(enc:outParam (α->List Value)):Prop where
 Gr:∀w a x,R w a x->fg w a (enc x)
instance aoK{α:Type}(enc:α->List Value):nv (Flat enc) enc:=⟨fun _ _ _ h=>h⟩
section
variable{P:Program}{Q:eb->Fr->World->Prop}{aI:Value->Prop}{K:Value->World->Prop}{S:Fr}{w w0:World}
theorem K.ta{b j:Nat}{c:List Value}{ty:TypeId}{f:Nat×Nat}{v:Value}{t}(aC:w0.heap[b]? = some (.cells c.toArray ty f))(he:Ext w0 w)(aR:c[j]? = some v)(hk:aI v):qp (.pointer (some (Addr.add ⟨b,0,none⟩ j))) w aI t :=
 K.ld (e8 (he.obj aC) (by simpa using aR)) hk
theorem K.q0{b:Nat}{c:List Value}{ty:TypeId}{f:Nat×Nat}{v:Value}{t}(aC:w0.heap[b]? = some (.cells c.toArray ty f))(he:Ext w0 w)(aR:c[0]? = some v)(hk:aI v):qp (.pointer (some ⟨b,0,none⟩)) w aI t :=
 K.ld (zE (he.obj aC) (by simpa using aR)) hk
theorem K.gS{b n:Nat}{c:List Value}{ty:TypeId}{f:Nat×Nat}{t}(aC:w0.heap[b]? = some (.cells c.toArray ty f))(he:Ext w0 w)(aD:c.length=n)(hk:aI (.agg c.toArray)):sk n (.pointer (some ⟨b,0,none⟩)) w aI t :=
 K.jX (hl (he.obj aC)) aD hk
theorem K.uM{α:Type}{sz i j n c:Nat}{R:World->Addr->α->Prop}{enc:α->List Value}[nv R enc]{a:Addr}{xs:List α}{v:Value}{t}(aS:bF sz R w0 (.slice (some a) n c) xs)(he:Ext w0 w)(ad:i<xs.length)(aR:(enc xs[i])[j]? = some v)
  (hk:aI v):qp (.pointer (some ((a.add (i*sz)).add j))) w aI t:=K.ld (he.cell (nv.Gr _ _ _ (aS.at i ad) j v aR)) hk
theorem K.uN{α:Type}{i n c:Nat}{R:World->Addr->α->Prop}{enc:α->List Value}[nv R enc]{a:Addr}{xs:List α}{v:Value}{t}(aS:bF 1 R w0 (.slice (some a) n c) xs)(he:Ext w0 w)(ad:i<xs.length)(aR:(enc xs[i])[0]? = some v)
  (hk:aI v):qp (.pointer (some (a.add (i*1)))) w aI t:=by
 have h:=nv.Gr (R:=R) _ _ _ (aS.at i ad) 0 v aR;rw[add_zero] at h;exact K.ld (he.cell h) hk
theorem K.uL{α:Type}{sz i n c m:Nat}{R:World->Addr->α->Prop}{enc:α->List Value}[nv R enc]{a:Addr}{xs:List α}{t}(aS:bF sz R w0 (.slice (some a) n c) xs)(he:Ext w0 w)(ad:i<xs.length)(aD:(enc xs[i]).length=m)
  (hk:aI (.agg (enc xs[i]).toArray)):sk m (.pointer (some (a.add (i*sz)))) w aI t:=K.jX ((nv.Gr _ _ _ (aS.at i ad)).ext he) aD hk
theorem K.sy{p:Prop}[Decidable p]{A B:Prop}{t}(h:p)(hk:A):j3 (.bool (decide p)) A B t:=K.cond (fun _=>hk) fun bE=>absurd h bE
theorem K.tO{p:Prop}[Decidable p]{A B:Prop}{t}(h:¬p)(hk:B):j3 (.bool (decide p)) A B t:=K.cond (fun bE=>absurd bE h) fun _=>hk
theorem K.qC{u:Bool}{A B:Prop}{t}(h:u=true)(hk:A):j3 (.bool u) A B t:=K.du (fun _=>hk) fun bE=>by rw[h] at bE;cases bE
theorem K.rI{u:Bool}{A B:Prop}{t}(h:u=false)(hk:B):j3 (.bool u) A B t:=K.du (fun bE=>by rw[h] at bE;cases bE) fun _=>hk
theorem K.uD{sz:Nat}{a:Addr}{len cap:Nat}{k:IntKind}{i:Nat}{t}(h:i<len)(hk:aI (.pointer (some (a.add (i*sz))))):za sz (.slice (some a) len cap) (.int k (i:Int)) aI t:=K.dp i rfl h hk
theorem K.tf{d n:Nat}{ty:TypeId}{cs:Array Value}{x:Operand}{r:List Step}{da:Fr->World->Prop}{vs:List Value}{t1 t}(au:∀v,bn (cq S d v) x = .agg vs.toArray)(aD:vs.length=n)(aw:cs.size=n)(h1:∀u∈vs,u.oneCell'=true)
  (hk:∀av b,w.heap.size<=b->Ext w av->av.heap[b]? = some (.cells vs.toArray ty)->jI P r (cq S d (.pointer (some ⟨b,0,none⟩))) av da ⟨⟩) :
  xe ty cs w (fun v w'=>jI P (⟨none,none,.e (.rh n (.tmp d) x)⟩ :: r) (put S (some d) v) w' da t1) t:=by
 refine K.new fun av b aC he dm=>?_;simp -dsimp only[OJ,OK,OL,OM,ON,OO,OP,OQ,OR,OS,OU,OV,OW,OX,OY,OZ,O0,O1,O2,cF,O3,O4,O5,O6,O7,O8,O9,Pa,Pb,Pc,si,Pf,Pg,Ph,Pj,Pk,Pl,Pm,Pn,Po,w9,iK,c9,fj,et,hS,k6,jL,kJ,jM,Pt,Pu,Pv,Pw,Px,Py,Pz,PA,PB,PC,PD,H1,PE,PF,PG,PH,PI,PJ,PK,PL,PM,PN,PO,PQ,PR,PS,PT,PU,PV,PW,PX,PY,PZ,P0,P1,P2,P3,P4,P5,P6,Qa,Qb,M2,Qc,Qd,Qe,Qf,Qg,Qh,Qi,Qj,Qk,Ql,Qm,Qn,Qo,Qp,Qq,Qr,Qs,Qu,Qv,Qw,Qx,Qy,Qz,QA,QB,QC,QD,QE,QF,QG,QH,QI,QJ,QK,QL,QM,QN,QP,BU,BV,QQ,QR,QS,QT,QU,QV,QW,Q1,Q2,Q3,Q4,Q5,Q6,Q7,Q8,Q9,Ra,Rc,Re,Rf,Rg,Rh,Ri,Rj,Rk,Rl,Rm,Rn,Ro,Rp,Rq,Rr,Rs,Rt,Ru,Rv,Rw,Rx,hV,eK,mN,Nat.reduceAdd,Nat.reduceEqDiff,reduceIte,reduceCtorEq,db,au];refine K.h6 (cs:=vs.toArray) dm aw (by simpa using aD) (by simpa using h1) fun aU hw aP=>?_;exact hk aU b aC (hw.ext he aC) aP
theorem K.zX{b:fa}{t}(i N:Nat)(ia:Nat->Fr->World->Prop)(LK:S i = .int .i64 0)(ak:ia 0 S w)
  (ba:∀(k:Nat) bh w',(∀t,b.fw.contains t=false->bh t=S t)->k<=N->bh i = .int .i64 k->ia k bh w' ->
   dZ P b (hr (fun fu b2=>k<N/\fu i = .int .i64 ((k:Int)+1)/\ia (k+1) fu b2) Q ⟨⟩) bh w' ⟨⟩):xb P b Q S w t:=by
 refine K.loop (fun S w => ∃k:Nat,k<=N/\S i = .int .i64 k/\ia k S w) (fun S _=>(N - intOf (S i)).toNat) ⟨0,Nat.zero_le _,by simpa using LK,ak⟩ ?_;rintro bh w' cg ⟨k,hk,ad,aR⟩;have h:=ba k bh w' cg hk ad aR;unfold dZ hr at *;refine oM b _ _ bh w' (fun e fu b2 _ h=>?_) h
 match e,h with
 | .normal,⟨h1,U,ag⟩=>exact⟨⟨k+1,h1,by simpa using U,ag⟩,by simp[ad,U,intOf];omega⟩
 | .exit _,h=>exact h
 | .ret,h=>exact h
 | .fS _,h=>exact h
theorem K.r2{gm:World->Prop}{d:TypeDesc}{r:Nat}{k v:Value}{es:Array MapEntry}{c:Nat}{t}(h1:w.heap[r]? = some (.map es c))(U:Instr.findNow d k es.toList 0=some none)
  (hk:∀av,dC r w av->av.heap[r]? = some (.map (es.push { key:=k,val:=v,born:=c }) (c+1))->gm av):xd d (.map (some r)) k v w gm t :=
 K.iS h1 U (hk _ (dC.fe _ _ _) (Bm (cH h1)))
theorem K.tm{sz:Nat}{bl:Option Addr}{n cap:Nat}{x:Operand}{k:IntKind}{t}(h:Nat)(au:bn S x = .int k (h:Int))(dm:h<=cap)(hk:aI (.slice bl h cap)):tC S sz (.slice bl n cap) none (some x) none aI t:=by
 refine K.hQ 0 h cap (by simp[fl]) (by simp[fl,au]) (by simp[fl]) ⟨Nat.zero_le _,dm,Nat.le_refl _⟩ (by simp) ?_;have e:(if cap=0 then bl else bl.map (·.add (0*sz)))=bl:=by
  split
  .rfl
  .cases bl with
   | none=>rfl
   | some a=>simp[add_zero]
 rw[e];exact hk
theorem K.ak1{sz:Nat}{bl:Option Addr}{n cap:Nat}{x:Operand}{k:IntKind}{t}(l:Nat)(au:bn S x = .int k (l:Int))(aS:l<=n/\n<=cap)(hk:aI (.slice (if cap=l then bl else bl.map (·.add (l*sz))) (n - l) (cap - l))) :
  tC S sz (.slice bl n cap) (some x) none none aI t :=
 K.hQ l n cap (by simp[fl,au]) (by simp[fl]) (by simp[fl]) ⟨aS.1,aS.2,Nat.le_refl _⟩ (by simp) hk
end
theorem bF.head{α:Type}{sz:Nat}{R:World->Addr->α->Prop}{w:World}{bl:Option Addr}{n c:Nat}{xs:List α}(h:bF sz R w (.slice bl n c) xs)(k:Nat)(hk:k<=xs.length):bF sz R w (.slice bl k c) (xs.take k):=by
 have:=h.take k hk
 have e:(if c=0 then bl else bl.map (·.add (0*sz)))=bl:=by
  split
  .rfl
  .cases bl with
   | none=>rfl
   | some a=>simp[add_zero]
 rw[e] at this;exact this
theorem bF.len{α:Type}{sz:Nat}{R:World->Addr->α->Prop}{w:World}{bl:Option Addr}{n c:Nat}{xs:List α}(h:bF sz R w (.slice bl n c) xs):n=xs.length/\n<=c/\c<=maxLen:=by
 obtain⟨jH,cap,e,U,ag,_⟩:=h.ex;injection e with bU a6 bK
 subst a6 bK;exact⟨rfl,U,ag⟩
theorem bF.tail{α:Type}{sz:Nat}{R:World->Addr->α->Prop}{w:World}{bl:Option Addr}{n c:Nat}{xs:List α}(h:bF sz R w (.slice bl n c) xs)(l:Nat)(aS:l<=xs.length) :
  bF sz R w (.slice (if c=l then bl else bl.map (·.add (l*sz))) (n - l) (c - l)) (xs.drop l):=by
 obtain⟨bU,a6,bK⟩:=h.len;subst bU;obtain⟨jH,cap,e,U,ag,aJ,bg⟩:=h.ex;injection e with bU a6 bK
 subst bU bK;refine⟨_,_,by rw[List.length_drop],by rw[List.length_drop];omega,by omega,fun aD=>?_,fun a bo i ad=>?_⟩
 .have:xs≠[]:=by intro e;subst e;simp at aD
  have:=aJ this
  split
  .exact this
  .cases bl with
   | none=>cases this
   | some a=>rfl
 .have cO:l+i<xs.length:=by rw[List.length_drop] at ad;omega
  rw[if_neg (by omega)] at bo;cases bl with
  | none=>cases bo
  | some b =>
   simp only[Option.map_some,Option.some.injEq] at bo;subst bo;rw[add_add,<-Nat.add_mul,List.getElem_drop];exact bg b rfl _ cO
structure Mod(A:Nat->Prop)(w w':World):Prop where
 os:w'.os=w.os
 tape:w'.tape=w.tape
 output:w'.output=w.output
 size:w.heap.size<=w'.heap.size
 block:∀k,k<w.heap.size->¬A k->w'.heap[k]? = w.heap[k]?
theorem Mod.refl(A:Nat->Prop)(w:World):Mod A w w:=⟨rfl,rfl,rfl,Nat.le_refl _,fun _ _ _=>rfl⟩
theorem Mod.trans{A:Nat->Prop}{a b c:World}(h:Mod A a b)(k:Mod A b c):Mod A a c :=
 ⟨k.os.trans h.os,k.tape.trans h.tape,k.output.trans h.output,Nat.le_trans h.size k.size,fun i ad aD=>(k.block i (Nat.lt_of_lt_of_le ad h.size) aD).trans (h.block i ad aD)⟩
theorem Mod.then{A B:Nat->Prop}{a b c:World}(h:Mod B a b)(k:Mod A b c)(ay:∀i,i<a.heap.size->A i->B i):Mod B a c :=
 ⟨k.os.trans h.os,k.tape.trans h.tape,k.output.trans h.output,Nat.le_trans h.size k.size,fun i ad aD=>(k.block i (Nat.lt_of_lt_of_le ad h.size) fun e=>aD (ay i ad e)).trans (h.block i ad aD)⟩
theorem Ext.mod{A:Nat->Prop}{w w':World}(h:Ext w w'):Mod A w w':=⟨h.os,h.tape,h.output,h.size,fun _ hk _=>h.heap hk⟩
theorem dC.mod{A:Nat->Prop}{b:Nat}{w w':World}(h:dC b w w')(aC:A b):Mod A w w':=⟨h.os,h.tape,h.output,by rw[h.size];exact Nat.le_refl _,fun k _ aD=>h.block k fun e=>aD (e ▸ aC)⟩
theorem Mod.grown{A:Nat->Prop}{w w':World}{row:Option Nat}(h:w.grownBy w' row)(ba:∀k,row=some k->A k):Mod A w w':=⟨h.os,h.tape,h.output,h.size,fun k hk aD=>h.block k hk fun e=>aD (ba k e.symm)⟩
theorem Mod.ext{A:Nat->Prop}{w0 w w':World}(h:Mod A w w')(he:Ext w0 w)(eL:∀k,k<w0.heap.size->¬A k):Ext w0 w' :=
 ⟨h.os.trans he.os,h.tape.trans he.tape,h.output.trans he.output,Nat.le_trans he.size h.size,fun k hk=>(h.block k (Nat.lt_of_lt_of_le hk he.size) (eL k hk)).trans (he.heap hk)⟩
theorem Mod.obj{A:Nat->Prop}{w w':World}{k:Nat}{al:Obj}(h:Mod A w w')(aD:¬A k)(hk:w.heap[k]? = some al):w'.heap[k]? = some al:=(h.block k (cH hk) aD).trans hk
theorem Mod.I3{A B:Nat->Prop}{w w':World}(h:Mod A w w')(ay:∀k,A k->B k):Mod B w w':=⟨h.os,h.tape,h.output,h.size,fun k hk aD=>h.block k hk fun e=>aD (ay k e)⟩
def bs{α:Type}(enc:α->List Value)(e:TypeId)(sz base:Nat)(w:World)(v:Value)(xs:List α):Prop:=w.ownsRow base e sz v xs.length (xs.flatMap enc)
section
variable{α:Type}{enc:α->List Value}{e:TypeId}{sz base:Nat}{w w':World}{v:Value}{xs:List α}
theorem bs.nil(enc:α->List Value)(e:TypeId)(sz base:Nat)(w:World):bs enc e sz base w (.slice none 0 0) []:=World.ownsRow_nil w base e sz
theorem bs.ext(he:Ext w w')(h:bs enc e sz base w v xs):bs enc e sz base w' v xs:=aiY he h
theorem bs.wr{b:Nat}(hw:dC b w w')(aC:b<base)(h:bs enc e sz base w v xs):bs enc e sz base w' v xs :=
 World.ownsRow.kept (row:=some b) h ⟨hw.os,hw.tape,hw.output,by rw[hw.size];exact Nat.le_refl _,fun k _ hk=>hw.block k (fun e=>hk (by rw[e]))⟩ (by
  cases aT:v.ownBlock with
  | none=>exact .inl rfl
  | some k=>exact .inr (by have:=(World.ownsRow.lt h k aT).1;intro e;injection e with e;omega))
theorem bs.lt(h:bs enc e sz base w v xs):∀k,v.ownBlock=some k->base<=k/\k<w.heap.size:=World.ownsRow.lt h
theorem bs.form(h:bs enc e sz base w v xs):∃bl cap,v = .slice bl xs.length cap/\xs.length<=cap/\cap<=maxLen:=by
 obtain⟨bl,cap,h1,U,ag,_⟩:=W2 h;exact⟨bl,cap,h1,U,ag⟩
theorem bs.pq(dn:∀x,(enc x).length=sz)(h:bs enc e sz base w v xs):bF sz (Flat enc) w v xs:=ai0 dn h
theorem bs.head{bl:Option Addr}{n cap:Nat}(dn:∀x,(enc x).length=sz)(h:bs enc e sz base w (.slice bl n cap) xs)(k:Nat)(hk:k<=xs.length):bs enc e sz base w (.slice bl k cap) (xs.take k):=by
 have nL:∀(xs:List α) (k:Nat),(xs.flatMap enc).take (k*sz)=(xs.take k).flatMap enc:=by
  intro xs
  induction xs with
  | nil=>intro k;simp
  | cons x xs eV =>
   intro k;cases k with
   | zero=>simp
   | succ k =>
    simp only[List.flatMap_cons,List.take_succ_cons];rw[List.take_append,dn,show(k+1)*sz - sz=k*sz from by rw[Nat.add_mul];omega,eV,List.take_of_length_le (by rw[dn,Nat.add_mul];omega)]
 have aS:(xs.take k).length=k:=by simp[List.length_take];omega
 refine⟨by rw[aS,xT dn,aS],?_⟩;rcases h.2 with ⟨h1,U⟩ | ⟨g,oZ,cur,h1,U,ag,aJ,bg,bO,cj⟩
 .injection h1 with bU a6 bK
  subst bU bK
  have:xs.length=0:=U
  exact .inl ⟨by congr 1;omega,by omega⟩
 .injection h1 with bU a6 bK
  subst bU bK;refine .inr ⟨g,cap,cur,by rw[aS],U,ag,by omega,bg,bO,?_⟩;rw[aS,<-nL,<-cj,List.take_take,Nat.min_eq_left (Nat.mul_le_mul_right _ hk)]
theorem K.su{P:Program}{da:Value->World->Prop}{ty:TypeId}{b:Nat}{s:Value}{a:Addr}{m c:Nat}{ys:List α}{t}(ay:bs enc e sz base w s xs)(dn:∀x,(enc x).length=sz)(aw:fg w a (ys.flatMap enc))(hm:m=ys.length)
  (h1:∀y,∀u∈enc y,u.oneCell'=true)(aC:(xs.length+ys.length)*b<=140737488355328)(kb:xs.length+ys.length<=maxLen)(jx:base<=w.heap.size)
  (hk:∀ck w',bs enc e sz base w' ck (xs++ys)->w.grownBy w' s.ownBlock->da ck w'):k4 P ty e sz b s (.slice (some a) m c) w da t:=by
 subst hm;refine K.Z3 ay aw (xT dn ys) (fun u hu=>by obtain⟨y,_,b8⟩:=List.mem_flatMap.1 hu;exact h1 y u b8) kb aC jx fun ck w' nP aZ=>hk ck w' ?_ aZ;unfold bs;rw[List.length_append,List.flatMap_append];exact nP
end
end bt
end
section
namespace bt
open Go Go.RowKit
section
variable{P:Program}{da:Value->World->Prop}{α:Type}{enc:α->List Value}{e:TypeId}{sz base zt:Nat}{w:World}{s x:Value}{xs ys:List α}
theorem K.zr{ty:TypeId}{b:Nat}{t}(ay:bs enc e sz base w s xs)(au:bs enc e sz zt w x ys)(dn:∀x,(enc x).length=sz)(h1:∀y,∀u∈enc y,u.oneCell'=true)(aC:(xs.length+ys.length)*b<=140737488355328)
  (kb:xs.length+ys.length<=maxLen)(jx:base<=w.heap.size)(hk:∀ck w',bs enc e sz base w' ck (xs++ys)->w.grownBy w' s.ownBlock->da ck w'):k4 P ty e sz b s x w da t:=by
 rcases au.2 with ⟨rfl,ak⟩ | ⟨g,cap,cur,rfl,Hd,aZ,ag,aJ,bg,bO⟩
 .have:ys=[]:=List.eq_nil_of_length_eq_zero ak
  subst this;rw[List.append_nil] at hk;refine K.app fun⟨aL,i,z,ad,bQ,Au,Aa,yl,HQ⟩=>?_;exact⟨ty,s,w,run_append_owned_none w base ty ty e i sz aL ad s _ _ ay,hk s w ay ⟨rfl,rfl,rfl,Nat.le_refl _,fun _ _ _=>rfl⟩⟩
 .exact K.su ay dn (fun j u aR=>World.ownsRow.cells au (g:=g) rfl j u aR) rfl h1 aC kb jx hk
theorem K.Z2{R:World->Addr->α->Prop}[nv R enc]{ty:TypeId}{b:Nat}{a:Addr}{m c:Nat}{t}(ay:bs enc e sz base w s xs)(au:bF sz R w (.slice (some a) m c) ys)(dn:∀x,(enc x).length=sz)(h1:∀y,∀u∈enc y,u.oneCell'=true)
  (aC:(xs.length+ys.length)*b<=140737488355328)(kb:xs.length+ys.length<=maxLen)(jx:base<=w.heap.size)(hk:∀ck w',bs enc e sz base w' ck (xs++ys)->w.grownBy w' s.ownBlock->da ck w'):k4 P ty e sz b s (.slice (some a) m c) w da t :=
 K.su ay dn (bF.flat (enc:=enc) dn (fun a x h=>nv.Gr _ a x h) au) au.len.1 h1 aC kb jx hk
theorem bs.empty{b:Nat}(aC:base<=b)(h:w.heap[b]? = some (.cells #[] e)):bs enc e sz base w (.slice (some ⟨b,0,none⟩) 0 0) ([]:List α):=aiX aC h
theorem bs.low{v:Value}(aC:zt<=base)(h:bs enc e sz base w v xs):bs enc e sz zt w v xs:=aiZ aC h
end
end bt
end
section
namespace bt
open Go
def ab(n:Nat):Operand:=.tmp n
def aj(n:Int):Operand:=.const (.int .i64 n)
def bT(b:Bool):Operand:=.const (.bool b)
def bd(d:Nat)(i:vo):Step:=⟨some d,none,.p i⟩
def n0(d:Nat)(i:tA):Step:=⟨some d,none,.r i⟩
def aF(d:Nat)(i:rn):Step:=⟨some d,none,.e i⟩
def dh(d:Nat)(i:pt):Step:=⟨some d,none,.c i⟩
def hF(i:rn):Step:=⟨none,none,.e i⟩
def vd(j:Nat)(b:Bool)(s:Step):Step:=⟨s.dst,some (j,b),s.i⟩
def I(d n:Nat):Step:=⟨some d,none,.p (.p8 (.tmp n))⟩
def ai(d:Nat)(x:Operand):Step:=⟨some d,none,.p (.p8 x)⟩
def ah(d k n:Nat):Step:=⟨some d,none,.p (.iA k (.tmp n))⟩
def af(d n:Nat):Step:=⟨some d,none,.r (.ld (.tmp n))⟩
def bj(d k a i:Nat):Step:=⟨some d,none,.p (.gz k (.tmp a) (.tmp i))⟩
def ys(a v:Nat):Step:=⟨none,none,.e (.st (.tmp a) (.tmp v))⟩
def bM(d n:Nat):Step:=⟨some d,none,.p (.AE (.tmp n))⟩
def ar:Value:=.int .i64 0
def aH:Value:=.slice none 0 0
def cG:Value:=.string ⟨#[]⟩
def bm(op:BinOp)(t:TypeId)(d a b:Nat):Step:=⟨some d,none,.p (.bin op t (.tmp a) (.tmp b))⟩
def az(op:BinOp)(t:TypeId)(d a:Nat)(n:Int):Step:=⟨some d,none,.p (.bin op t (.tmp a) (.const (.int .i64 n)))⟩
def dx(d a b:Nat):Step:=⟨some d,none,.p (.pick (.tmp a) (.tmp b) (.const (.bool false)))⟩
def cm(d a b:Nat):Step:=⟨some d,none,.p (.pick (.tmp a) (.const (.bool true)) (.tmp b))⟩
def J(b6:List Step)(b:fa):fa:=.seq (.bN b6) b
def aE(n:Nat)(a b:fa):fa:=.cond (.tmp n) a b
def a7(d k n:Nat):Step:=⟨some d,none,.r (.jX k (.tmp n))⟩
def ca(k a v:Nat):Step:=⟨none,none,.e (.rh k (.tmp a) (.tmp v))⟩
def hE(d n:Nat):Step:=⟨some d,none,.p (.A2 (.tmp n))⟩
def bD(d n i:Nat):Step:=⟨some d,none,.p (.ext (.tmp n) i)⟩
def aY(d:Nat)(f:FuncId)(l:List Nat):Step:=⟨some d,none,.c (.fn f (l.map .tmp))⟩
def eW(n m:Nat)(b:fa):fa:=.seq (.cond (.tmp n) .skip (.exit m)) b
def aX(n:Nat)(s:Step):Step:=vd n true s
def aq(n:Nat)(s:Step):Step:=vd n false s
def an(s:Step)(k:eX):eX:=.take s k
def e9(t:TypeId)(a b:Nat):fa:=.bN [⟨some a,none,.p (.bin .add t (.tmp b) (.const (.int .i64 1)))⟩,⟨some b,none,.p (.p8 (.tmp a))⟩]
theorem bG{A B:Prop}(k:B)(h:B->A:=by
 intro q;dsimp only[ab,aj,bT,bd,n0,aF,dh,hF,vd,I,ai,ah,af,bj,ys,bM,ar,aH,cG,bm,az,dx,cm,J,aE,a7,ca,hE,bD,aY,eW,e9,aX,aq,an,List.map_cons,List.map_nil];exact q):A:=h k
end bt
end