/- Parts. -/
import Derived.Test.YtfdohkdifdemeaaGreatDoorQdsb
import Derived.RowKit
import Derived.ChangeSame
import Derived.Carry
import Derived.OpenShut
import Derived.Deep.Slices
import Derived.Deep.Fields
import Derived.Lib.LaidTab
import Derived.Laws.OwnMore
set_option linter.all false
section
namespace bt
open Go Go.RowKit
structure Tok{α:Type}(a:α):Type where
def dV(P:Program)(c:fa)(Q:dW->Fr->World->Prop)(S:Fr)(w:World)(_:Tok (P,c,Q)):Prop:=dU P c Q S w
def jK(P:Program)(b7:List Step)(S:Fr)(w:World)(K:Fr->World->Prop)(_:Tok (P,b7,K)):Prop:=steps P b7 S w K
def mb(P:Program)(b7:List Step)(S:Fr)(w:World)(K:Fr->Prop)(_:Tok (P,b7,K)):Prop:=sj P b7 S w K
def fJ(P:Program)(w0:World)(x:eX)(S:Fr)(w:World)(K:Fr->World->Prop)(_:Tok (P,w0,x,K)):Prop:=nW P w0 x S w K
def yZ(P:Program)(w0:World)(s:Step)(S:Fr)(K:Fr->Prop)(_:Tok (P,w0,s,K)):Prop:=Fy P w0 s S K
def rO(P:Program)(s:Step)(S:Fr)(w:World)(K:Fr->World->Prop)(_:Tok (P,s,K)):Prop:=ou P s S w K
def rG(P:Program)(w0:World)(s:Step)(S:Fr)(w:World)(K:Fr->World->Prop)(_:Tok (P,w0,s,K)):Prop:=B7 P w0 s S w K
def pE(P:Program)(i:Ins)(S:Fr)(w:World)(K:Value->World->Prop)(_:Tok (P,i,K)):Prop:=lU P i S w K
def mN(P:Program)(i:Ins)(S:Fr)(w:World)(K:Value->World->Prop)(_:Tok (P,i,K)):Prop:=nC P i S w K
def xc(P:Program)(i:pC)(S:Fr)(w:World)(K:Value->World->Prop)(_:Tok (P,i,K)):Prop:=Pe P i S w K
def xd(P:Program)(x:Value)(l:List Value)(w:World)(K:Value->World->Prop)(_:Tok (P,K)):Prop:=Pf P x l w K
def oc(P:Program)(i:Ins)(S:Fr)(w:World)(K:Value->Prop)(_:Tok (P,i,K)):Prop:=mg P i S w K
def xo(P:Program)(i:pC)(S:Fr)(w:World)(K:Value->Prop)(_:Tok (P,i,K)):Prop:=ZB P i S w K
def Gf(P:Program)(f:FuncId)(l:List Value)(w:World)(K:Value->Prop)(_:Tok (P,f,K)):Prop:=QQ P f l w K
def BZ(P:Program)(x:Value)(l:List Value)(w:World)(K:Value->Prop)(_:Tok (P,K)):Prop:=ZC P x l w K
def eH(P:Program)(i:vB)(S:Fr)(K:Value->Prop)(_:Tok (P,i,K)):Prop:=ob P i S K
def od(i:tH)(S:Fr)(w:World)(K:Value->Prop)(_:Tok (i,K)):Prop:=mR i S w K
def ib(P:Program)(i:rq)(S:Fr)(w:World)(K:Value->World->Prop)(_:Tok (P,i,K)):Prop:=mL P i S w K
def xb(P:Program)(i:pC)(S:Fr)(w:World)(K:Value->World->Prop)(_:Tok (P,i,K)):Prop:=rn P i S w K
def gH(P:Program)(op:BinOp)(t:TypeId)(dh:Operand)(da:Operand)(x:Value)(y:Value)(K:Value->Prop)(_:Tok (P,op,t,dh,da,K)):Prop:=nA P op t dh da x y K
def xx(op:UnOp)(x:Value)(K:Value->Prop)(_:Tok (op,K)):Prop:=zt op x K
def BK(k:IntKind)(x:Value)(K:Value->Prop)(_:Tok (k,K)):Prop:=FR k x K
def oh(k:IntKind)(n:Int)(K:Value->Prop)(_:Tok (k,K)):Prop:=rD k n K
def ka(v:Value)(A:Prop)(B:Prop)(_:Tok (A,B)):Prop:=lT v A B
def jq(v:Value)(b:Bool)(A:Prop)(B:Prop)(C:Prop)(_:Tok (b,A,B,C)):Prop:=lj v b A B C
def BO(off:Nat)(x:Value)(K:Value->Prop)(_:Tok (off,K)):Prop:=FT off x K
def zg(sz:Nat)(x:Value)(i:Value)(K:Value->Prop)(_:Tok (sz,K)):Prop:=FY sz x i K
def FX(len:Nat)(sz:Nat)(x:Value)(i:Value)(K:Value->Prop)(_:Tok (len,sz,K)):Prop:=Jp len sz x i K
def F1(x:Value)(i:Value)(K:Value->Prop)(_:Tok (K)):Prop:=Jr x i K
def F0(len:Nat)(x:Value)(i:Value)(K:Value->Prop)(_:Tok (len,K)):Prop:=Jq len x i K
def FV(off:Nat)(x:Value)(K:Value->Prop)(_:Tok (off,K)):Prop:=Jo off x K
def BP(off:Nat)(n:Nat)(x:Value)(K:Value->Prop)(_:Tok (off,n,K)):Prop:=FU off n x K
def FM(S:Fr)(z:List Value)(pl:List (Nat×Nat))(dv:List (Nat×Operand))(K:Value->Prop)(_:Tok (z,pl,dv,K)):Prop:=Ji S z pl dv K
def tJ(S:Fr)(sz:Nat)(x:Value)(bf:Option Operand)(ad:Option Operand)(mx:Option Operand)(K:Value->Prop)(_:Tok (sz,bf,ad,mx,K)):Prop:=JD S sz x bf ad mx K
def Gh(S:Fr)(x:Value)(bf:Option Operand)(ad:Option Operand)(K:Value->Prop)(_:Tok (bf,ad,K)):Prop:=JC S x bf ad K
def tE(x:Value)(i:Nat)(K:Value->Prop)(_:Tok (i,K)):Prop:=vv x i K
def BS(x:Value)(K:Value->Prop)(_:Tok (K)):Prop:=F6 x K
def BR(x:Value)(K:Value->Prop)(_:Tok (K)):Prop:=F4 x K
def BI(x:Value)(K:Value->Prop)(_:Tok (K)):Prop:=FQ x K
def BT(x:Value)(y:Value)(K:Value->Prop)(_:Tok (K)):Prop:=F9 x y K
def BU(x:Value)(y:Value)(K:Value->Prop)(_:Tok (K)):Prop:=Ga x y K
def xm(x:Value)(K:Value->Prop)(_:Tok (K)):Prop:=xl x K
def qp(x:Value)(w:World)(K:Value->Prop)(_:Tok (K)):Prop:=F3 x w K
def ss(n:Nat)(x:Value)(w:World)(K:Value->Prop)(_:Tok (n,K)):Prop:=F2 n x w K
def zh(d:TypeDesc)(z:Value)(ok:Bool)(m:Value)(k:Value)(w:World)(K:Value->Prop)(_:Tok (d,z,ok,K)):Prop:=Ju d z ok m k w K
def F5(m:Value)(w:World)(K:Value->Prop)(_:Tok (K)):Prop:=Jt m w K
def qv(x:Value)(v:Value)(w:World)(K:World->Prop)(_:Tok (K)):Prop:=xv x v w K
def zr(n:Nat)(x:Value)(v:Value)(w:World)(K:World->Prop)(_:Tok (n,K)):Prop:=zq n x v w K
def xi(e:TypeId)(sz:Nat)(b:Nat)(z:Value)(l:Value)(c:Value)(w:World)(K:Value->World->Prop)(_:Tok (e,sz,b,z,K)):Prop:=Jv e sz b z l c w K
def BG(S:Fr)(e:TypeId)(len:Nat)(sz:Nat)(z:List Value)(dv:List (Nat×Operand))(w:World)(K:Value->World->Prop)(_:Tok (e,len,sz,z,dv,K)):Prop:=FL S e len sz z dv w K
def lf(P:Program)(t:TypeId)(e:TypeId)(sz:Nat)(b:Nat)(s:Value)(x:Value)(w:World)(K:Value->World->Prop)(_:Tok (P,t,e,sz,b,K)):Prop:=xa P t e sz b s x w K
def xj(d:TypeDesc)(m:Value)(k:Value)(v:Value)(w:World)(K:World->Prop)(_:Tok (d,K)):Prop:=Jw d m k v w K
def Gd(x:Value)(w:World)(K:Value->World->Prop)(_:Tok (K)):Prop:=Jy x w K
def Gg(x:Value)(w:World)(K:Value->World->Prop)(_:Tok (K)):Prop:=Q1 x w K
def tI(P:Program)(op:Op)(ty:TypeId)(S:Fr)(w:World)(K:Value->World->Prop)(_:Tok (P,op,ty,K)):Prop:=QZ P op ty S w K
def zb(P:Program)(f:FuncId)(l:List Value)(w:World)(K:Value->World->Prop)(_:Tok (P,f,K)):Prop:=FP P f l w K
def Gi(P:Program)(f:FuncId)(l:List Value)(w:World)(K:Value->World->Prop)(Z:List PanicEntry->World->Prop)(_:Tok (P,f,K,Z)):Prop:=xw P f l w K Z
def BY(v:Value)(Z:List PanicEntry->Prop)(_:Tok (Z)):Prop:=tG v Z
def vt(P:Program)(x:Value)(l:List Value)(w:World)(K:Value->World->Prop)(_:Tok (P,K)):Prop:=za P x l w K
def xk(t:TypeId)(cs:Array Value)(w:World)(K:Value->World->Prop)(_:Tok (t,K)):Prop:=Zt t cs w K
def Gb(w:World)(K:Value->World->Prop)(_:Tok (K)):Prop:=Zs w K
def xh(P:Program)(b:fa)(Q:dW->Fr->World->Prop)(S:Fr)(w:World)(_:Tok (P,b,Q)):Prop:=Qb P b Q S w
def iz(r:List me)(S:Fr)(w:World)(K:List Value->Prop)(_:Tok (r,K)):Prop:=oJ r S w K
def hr(N:Fr->World->Prop)(Q:dW->Fr->World->Prop)(_:Tok (N,Q)):dW->Fr->World->Prop:=tx N Q
def pR(i:Nat)(Q:dW->Fr->World->Prop)(_:Tok (i,Q)):dW->Fr->World->Prop:=zF i Q
def rM(r:List me)(R:Value->World->Prop)(_:Tok (r,R)):dW->Fr->World->Prop:=CH r R
def vZ(r:List me)(R:Value->World->Prop)(Z:List PanicEntry->World->Prop)(_:Tok (r,R,Z)):dW->Fr->World->Prop:=SU r R Z
section
variable{P:Program}{Q:dW->Fr->World->Prop}{N cY:Fr->World->Prop}{hh:Fr->Prop}{aI:Value->Prop}{K:Value->World->Prop}{lk:List Value->Prop}{R:Value->World->Prop}{Z:List PanicEntry->World->Prop}{zv:List PanicEntry->Prop}{S:Fr}{w:World}{A B C:Prop}
set_option linter.unusedVariables false
theorem OM  {t}:dV P .skip Q S w t=Q .normal S w:=propext Iff.rfl
theorem ON  {b7}{t}:dV P (.bO b7) Q S w t=jK P b7 S w (fun S w=>Q .normal S w) ⟨⟩:=propext Iff.rfl
theorem OO  {b7}{t}:dV P (.dP b7) Q S w t=mb P b7 S w (fun S => ∀w',Ext w w'->Q .normal S w') ⟨⟩:=propext Iff.rfl
theorem OP  {x}{t}:dV P (.ec x) Q S w t=(∀av,Ext w av->fJ P av x S av (fun S w=>Q .normal S w) ⟨⟩):=propext Iff.rfl
theorem OQ  {w0}{t}:fJ P w0 .done S w cY t=cY S w:=propext Iff.rfl
theorem OR  {w0}{t}:fJ P w0 .nil S w cY t=True:=propext Iff.rfl
theorem OS  {w0 s r}{t}:fJ P w0 (.take s r) S w cY t=yZ P w0 s S (fun S=>fJ P w0 r S w cY ⟨⟩) ⟨⟩:=propext Iff.rfl
theorem OT  {w0 s r}{t}:fJ P w0 (.alt s r .nil) S w cY t=rG P w0 s S w (fun S w=>fJ P w0 r S w cY ⟨⟩) ⟨⟩:=and_true _
theorem OU  {w0 s r hP gy kr}{t}:fJ P w0 (.alt s r (.alt hP gy kr)) S w cY t=(rG P w0 s S w (fun S w=>fJ P w0 r S w cY ⟨⟩) ⟨⟩/\fJ P w0 (.alt hP gy kr) S w cY ⟨⟩):=propext Iff.rfl
theorem OV  {w0 s r hP gy kr}{t}:fJ P w0 (.alt s r (.b0 hP gy kr)) S w cY t=(rG P w0 s S w (fun S w=>fJ P w0 r S w cY ⟨⟩) ⟨⟩/\fJ P w0 (.b0 hP gy kr) S w cY ⟨⟩):=propext Iff.rfl
theorem OX  {w0 s r}{t}:fJ P w0 (.b0 s r .nil) S w cY t=rO P s S w (fun S w=>fJ P w0 r S w cY ⟨⟩) ⟨⟩:=and_true _
theorem vp  {w0 s r hP gy kr}{t}:fJ P w0 (.b0 s r (.alt hP gy kr)) S w cY t=(rO P s S w (fun S w=>fJ P w0 r S w cY ⟨⟩) ⟨⟩/\fJ P w0 (.alt hP gy kr) S w cY ⟨⟩):=propext Iff.rfl
theorem vq  {w0 s r hP gy kr}{t}:fJ P w0 (.b0 s r (.b0 hP gy kr)) S w cY t=(rO P s S w (fun S w=>fJ P w0 r S w cY ⟨⟩) ⟨⟩/\fJ P w0 (.b0 hP gy kr) S w cY ⟨⟩):=propext Iff.rfl
theorem OY  {d i}{t}:rO P ⟨d,none,i⟩ S w cY t=mN P i S w (fun v w'=>cY (put S d v) w') ⟨⟩:=propext Iff.rfl
theorem OZ  {d j b i}{t}:rO P ⟨d,some (j,b),i⟩ S w cY t=jq (S j) b (mN P i (cm S j (.bool b)) w (fun v w'=>cY (put (cm S j (.bool b)) d v) w') ⟨⟩) (cY (put (cm S j (.bool (!b))) d undef) w) (cY (put S d undef) w) ⟨⟩:=propext Iff.rfl
theorem O0  {w0 d i}{t}:yZ P w0 ⟨d,none,i⟩ S hh t=oc P i S w0 (fun v=>hh (put S d v)) ⟨⟩:=propext Iff.rfl
theorem O1  {w0 d j b i}{t}:yZ P w0 ⟨d,some (j,b),i⟩ S hh t=jq (S j) b (oc P i (cm S j (.bool b)) w0 (fun v=>hh (put (cm S j (.bool b)) d v)) ⟨⟩) (hh (put (cm S j (.bool (!b))) d undef)) (hh (put S d undef)) ⟨⟩:=propext Iff.rfl
theorem O2  {w0 d i}{t}:rG P w0 ⟨d,none,i⟩ S w cY t=pE P i S w (fun v w'=>Ext w0 w'/\cY (put S d v) w') ⟨⟩:=propext Iff.rfl
theorem O3  {w0 d j b i}{t}:rG P w0 ⟨d,some (j,b),i⟩ S w cY t=jq (S j) b (pE P i (cm S j (.bool b)) w (fun v w'=>Ext w0 w'/\cY (put (cm S j (.bool b)) d v) w') ⟨⟩) (cY (put (cm S j (.bool (!b))) d undef) w) (cY (put S d undef) w) ⟨⟩:=propext Iff.rfl
theorem cF  {a b}{t}:dV P (.seq a b) Q S w t=dV P a (hr (fun S w=>dV P b Q S w ⟨⟩) Q ⟨⟩) S w ⟨⟩:=propext Iff.rfl
theorem O4  {c x y}{t}:dV P (.cond c x y) Q S w t=ka (bo S c) (dV P x Q S w ⟨⟩) (dV P y Q S w ⟨⟩) ⟨⟩:=propext Iff.rfl
theorem O5  {id b}{t}:dV P (.aX id b) Q S w t=dV P b (pR id Q ⟨⟩) S w ⟨⟩:=propext Iff.rfl
theorem O6  {id}{t}:dV P (.exit id) Q S w t=Q (.exit id) S w:=propext Iff.rfl
theorem O7  {t}:dV P .ret Q S w t=Q .ret S w:=propext Iff.rfl
theorem O8  {b7 d f l}{t}:dV P (.ff b7 d f l) Q S w t=jK P b7 S w (fun S w=>Gi P f (l.map (bo S)) w (fun v w'=>Q .normal (put S d v) w') (fun c w'=>Q (.fV c) S w') ⟨⟩) ⟨⟩:=propext Iff.rfl
theorem O9  {b7 x}{t}:dV P (.ra b7 x) Q S w t=jK P b7 S w (fun S w=>BY (bo S x) (fun c=>Q (.fV c) S w) ⟨⟩) ⟨⟩:=propext Iff.rfl
theorem Pa  {i:TypeId}{v:Value}{t}:BY (.iface i v) zv t=zv [{ v:=.iface i v,recovered:=false }]:=bt.ai4 i v zv
theorem Pb  {c}{t}:hr N Q t (.fV c) S w=Q (.fV c) S w:=propext Iff.rfl
theorem Pc{i}{c}{t}:pR i Q t (.fV c) S w=Q (.fV c) S w:=propext Iff.rfl
theorem Pd{r}{t}:vZ r R Z t .normal S w=iz r S w (fun vs=>R (gG vs) w) ⟨⟩:=propext Iff.rfl
theorem sq{r}{t}:vZ r R Z t .ret S w=iz r S w (fun vs=>R (gG vs) w) ⟨⟩:=propext Iff.rfl
theorem Pg{r}{c}{t}:vZ r R Z t (.fV c) S w=Z c w:=propext Iff.rfl
theorem Ph  {b}{t}:dV P (.loop b) Q S w t=xh P b Q S w ⟨⟩:=propext Iff.rfl
theorem Pj  {t}:hr N Q t .normal S w=N S w:=propext Iff.rfl
theorem Pk  {i}{t}:hr N Q t (.exit i) S w=Q (.exit i) S w:=propext Iff.rfl
theorem Pl  {t}:hr N Q t .ret S w=Q .ret S w:=propext Iff.rfl
theorem Pm{i}{t}:pR i Q t .normal S w=Q .normal S w:=propext Iff.rfl
theorem Pn{i}{t}:pR i Q t .ret S w=Q .ret S w:=propext Iff.rfl
theorem Po{i}{j}{t}:pR i Q t (.exit j) S w=if j=i then Q .normal S w else Q (.exit j) S w:=propext Iff.rfl
theorem Pp{r}{t}:rM r R t .normal S w=iz r S w (fun vs=>R (gG vs) w) ⟨⟩:=propext Iff.rfl
theorem xf{r}{t}:rM r R t .ret S w=iz r S w (fun vs=>R (gG vs) w) ⟨⟩:=propext Iff.rfl
theorem iP  {t}:jK P [] S w cY t=cY S w:=propext Iff.rfl
theorem c6  {d i r}{t}:jK P (⟨d,none,i⟩ :: r) S w cY t=mN P i S w (fun v w'=>jK P r (put S d v) w' cY ⟨⟩) ⟨⟩:=propext Iff.rfl
theorem fj  {d j b i r}{t}:jK P (⟨d,some (j,b),i⟩ :: r) S w cY t=jq (S j) b (mN P i (cm S j (.bool b)) w (fun v w'=>jK P r (put (cm S j (.bool b)) d v) w' cY ⟨⟩) ⟨⟩) (jK P r (put (cm S j (.bool (!b))) d undef) w cY ⟨⟩) (jK P r (put S d undef) w cY ⟨⟩) ⟨⟩:=propext Iff.rfl
theorem en  {t}:mb P [] S w hh t=hh S:=propext Iff.rfl
theorem hS  {d i r}{t}:mb P (⟨d,none,i⟩ :: r) S w hh t=oc P i S w (fun v=>mb P r (put S d v) w hh ⟨⟩) ⟨⟩:=propext Iff.rfl
theorem lg  {d j b i r}{t}:mb P (⟨d,some (j,b),i⟩ :: r) S w hh t=jq (S j) b (oc P i (cm S j (.bool b)) w (fun v=>mb P r (put (cm S j (.bool b)) d v) w hh ⟨⟩) ⟨⟩) (mb P r (put (cm S j (.bool (!b))) d undef) w hh ⟨⟩) (mb P r (put S d undef) w hh ⟨⟩) ⟨⟩:=propext Iff.rfl
theorem jN  {i}{t}:pE P (.p i) S w K t=eH P i S (fun v=>K v w) ⟨⟩:=propext Iff.rfl
theorem kP  {i}{t}:pE P (.r i) S w K t=od i S w (fun v=>K v w) ⟨⟩:=propext Iff.rfl
theorem jO  {i}{t}:pE P (.e i) S w K t=ib P i S w K ⟨⟩:=propext Iff.rfl
theorem Pv  {i}{t}:pE P (.c i) S w K t=xb P i S w K ⟨⟩:=propext Iff.rfl
theorem Pw  {i}{t}:mN P (.p i) S w K t=eH P i S (fun v=>K v w) ⟨⟩:=propext Iff.rfl
theorem Px  {i}{t}:mN P (.r i) S w K t=od i S w (fun v=>K v w) ⟨⟩:=propext Iff.rfl
theorem Py  {i}{t}:mN P (.e i) S w K t=ib P i S w K ⟨⟩:=propext Iff.rfl
theorem Pz  {i}{t}:mN P (.c i) S w K t=xc P i S w K ⟨⟩:=propext Iff.rfl
theorem PA  {i}{t}:oc P (.p i) S w aI t=eH P i S aI ⟨⟩:=propext Iff.rfl
theorem PB  {i}{t}:oc P (.r i) S w aI t=od i S w aI ⟨⟩:=propext Iff.rfl
theorem PC  {i}{t}:oc P (.c i) S w aI t=xo P i S w aI ⟨⟩:=propext Iff.rfl
theorem PD  {f l}{t}:xo P (.fn f l) S w aI t=Gf P f (l.map (bo S)) w aI ⟨⟩:=propext Iff.rfl
theorem PE  {x l}{t}:xo P (.val x l) S w aI t=BZ P (bo S x) (l.map (bo S)) w aI ⟨⟩:=propext Iff.rfl
theorem PF  {t}:jq (.bool true) true A B C t=A:=bt.adl A B C
theorem H1  {t}:jq (.bool true) false A B C t=B:=bt.adk A B C
theorem PG  {t}:jq (.bool false) true A B C t=B:=bt.adj A B C
theorem PH  {t}:jq (.bool false) false A B C t=A:=bt.adi A B C
theorem PI  (u:Bool){t}:jq undef u A B C t=C:=bt.adm u A B C
theorem PJ  (u:Bool){t}:jq (.bool u) true A B C t=ka (.bool u) A B ⟨⟩:=(bt.Tt u true A B C).trans (by rfl)
theorem PK  (u:Bool){t}:jq (.bool u) false A B C t=ka (.bool u) B A ⟨⟩:=(bt.Tt u false A B C).trans (by rfl)
theorem PL  {t}:ka (.bool true) A B t=A:=aa0 A B
theorem PM  {t}:ka (.bool false) A B t=B:=aaY A B
theorem PN  (u:Bool){t}:ka (.bool (!u)) A B t=ka (.bool u) B A ⟨⟩:=aaZ u A B
theorem PO  {x}{t}:eH P (.qd x) S aI t=aI (bo S x):=propext Iff.rfl
theorem PQ  {c x y}{t}:eH P (.pick c x y) S aI t=ka (bo S c) (aI (bo S x)) (aI (bo S y)) ⟨⟩:=propext Iff.rfl
theorem PR  {op ty x y}{t}:eH P (.bin op ty x y) S aI t=gH P op ty x y (bo S x) (bo S y) aI ⟨⟩:=propext Iff.rfl
theorem PS  {op x}{t}:eH P (.un op x) S aI t=xx op (bo S x) aI ⟨⟩:=propext Iff.rfl
theorem PT  {k x}{t}:eH P (.tR k x) S aI t=BK k (bo S x) aI ⟨⟩:=propext Iff.rfl
theorem PU  {n x}{t}:eH P (.iE n x) S aI t=BO n (bo S x) aI ⟨⟩:=propext Iff.rfl
theorem PV  {n x y}{t}:eH P (.gB n x y) S aI t=zg n (bo S x) (bo S y) aI ⟨⟩:=propext Iff.rfl
theorem PW  {m n x y}{t}:eH P (.Az m n x y) S aI t=FX m n (bo S x) (bo S y) aI ⟨⟩:=propext Iff.rfl
theorem PX  {x y}{t}:eH P (.lM x y) S aI t=F1 (bo S x) (bo S y) aI ⟨⟩:=propext Iff.rfl
theorem PY  {n x y}{t}:eH P (.wI n x y) S aI t=F0 n (bo S x) (bo S y) aI ⟨⟩:=propext Iff.rfl
theorem PZ  {n x}{t}:eH P (.jg n x) S aI t=FV n (bo S x) aI ⟨⟩:=propext Iff.rfl
theorem P0  {n m x}{t}:eH P (.CV n m x) S aI t=BP n m (bo S x) aI ⟨⟩:=propext Iff.rfl
theorem P1  {z pl dv}{t}:eH P (.cW z pl dv) S aI t=FM S z pl dv aI ⟨⟩:=propext Iff.rfl
theorem P2  {f a b}{t}:eH P (.jG f a b) S aI t=aI (.func (.func f) (a.map (bo S)).toArray (b.map (bo S)).toArray):=propext Iff.rfl
theorem P3  {n x bf ad mx}{t}:eH P (.hQ n x bf ad mx) S aI t=tJ S n (bo S x) bf ad mx aI ⟨⟩:=propext Iff.rfl
theorem P4  {x bf ad}{t}:eH P (.w4 x bf ad) S aI t=Gh S (bo S x) bf ad aI ⟨⟩:=propext Iff.rfl
theorem P5  {x n}{t}:eH P (.ext x n) S aI t=tE (bo S x) n aI ⟨⟩:=propext Iff.rfl
theorem P6  {x}{t}:eH P (.nn x) S aI t=BS (bo S x) aI ⟨⟩:=propext Iff.rfl
theorem P7  {x}{t}:eH P (.AI x) S aI t=BR (bo S x) aI ⟨⟩:=propext Iff.rfl
theorem P8  {x}{t}:eH P (.Cj x) S aI t=BI (bo S x) aI ⟨⟩:=propext Iff.rfl
theorem Qc  {v}{t}:eH P (.Eb v) S aI t=aI v:=propext Iff.rfl
theorem Qd  {x y}{t}:eH P (.tk x y) S aI t=BT (bo S x) (bo S y) aI ⟨⟩:=propext Iff.rfl
theorem M2  {x y}{t}:eH P (.u2 x y) S aI t=BU (bo S x) (bo S y) aI ⟨⟩:=propext Iff.rfl
theorem Qe  {n x}{t}:eH P (.A5 n x) S aI t=aI (.iface n (bo S x)):=propext Iff.rfl
theorem Qf  {x}{t}:eH P (.A9 x) S aI t=xm (bo S x) aI ⟨⟩:=propext Iff.rfl
theorem Qg  {x}{t}:od (.ld x) S w aI t=qp (bo S x) w aI ⟨⟩:=propext Iff.rfl
theorem Qh  {n x}{t}:od (.j3 n x) S w aI t=ss n (bo S x) w aI ⟨⟩:=propext Iff.rfl
theorem Qi  {d z ok m k}{t}:od (.mE d z ok m k) S w aI t=zh d z ok (bo S m) (bo S k) w aI ⟨⟩:=propext Iff.rfl
theorem Qj  {x}{t}:od (.yy x) S w aI t=F5 (bo S x) w aI ⟨⟩:=propext Iff.rfl
theorem Qk  {n x}{t}:ib P (.box n x) S w K t=xk n (bo S x).cells w K ⟨⟩:=propext Iff.rfl
theorem Ql  {n z}{t}:ib P (.new n z) S w K t=xk n z.cells w K ⟨⟩:=propext Iff.rfl
theorem Qm  {x v}{t}:ib P (.st x v) S w K t=qv (bo S x) (bo S v) w (K undef) ⟨⟩:=propext Iff.rfl
theorem Qn  {n x v}{t}:ib P (.ri n x v) S w K t=zr n (bo S x) (bo S v) w (K undef) ⟨⟩:=propext Iff.rfl
theorem Qo  {t}:ib P .r8 S w K t=Gb w K ⟨⟩:=propext Iff.rfl
theorem Qp  {e n b z l c}{t}:ib P (.qc e n b z l c) S w K t=xi e n b z (bo S l) (bo S c) w K ⟨⟩:=propext Iff.rfl
theorem Qq  {e l n z dv}{t}:ib P (.dj e l n z dv) S w K t=BG S e l n z dv w K ⟨⟩:=propext Iff.rfl
theorem Qr  {ty e n b s x}{t}:ib P (.app ty e n b s x) S w K t=lf P ty e n b (bo S s) (bo S x) w K ⟨⟩:=propext Iff.rfl
theorem Qs  {d m k v}{t}:ib P (.iX d m k v) S w K t=xj d (bo S m) (bo S k) (bo S v) w (K undef) ⟨⟩:=propext Iff.rfl
theorem Qt  {x}{t}:ib P (.wZ x) S w K t=Gg (bo S x) w K ⟨⟩:=propext Iff.rfl
theorem Qu  {x}{t}:ib P (.wR x) S w K t=Gd (bo S x) w K ⟨⟩:=propext Iff.rfl
theorem Qw  {op ty}{t}:ib P (.raw op ty) S w K t=tI P op ty S w K ⟨⟩:=propext Iff.rfl
theorem Qx  {f l}{t}:xb P (.fn f l) S w K t=zb P f (l.map (bo S)) w K ⟨⟩:=propext Iff.rfl
theorem Qy  {x l}{t}:xb P (.val x l) S w K t=vt P (bo S x) (l.map (bo S)) w K ⟨⟩:=propext Iff.rfl
theorem Qz  {f l}{t}:xc P (.fn f l) S w K t=zb P f (l.map (bo S)) w K ⟨⟩:=propext Iff.rfl
theorem QA  {x l}{t}:xc P (.val x l) S w K t=xd P (bo S x) (l.map (bo S)) w K ⟨⟩:=propext Iff.rfl
theorem QB  {ty dh da}(k:IntKind)(a b:Int){t}:gH P .lss ty dh da (.int k a) (.int k b) aI t=aI (.bool (decide (a<b))):=aaw k a b
theorem QC  {ty dh da}(k:IntKind)(a b:Int){t}:gH P .leq ty dh da (.int k a) (.int k b) aI t=aI (.bool (decide (a<=b))):=aav k a b
theorem QD  {ty dh da}(k:IntKind)(a b:Int){t}:gH P .gtr ty dh da (.int k a) (.int k b) aI t=aI (.bool (decide (b<a))):=aau k a b
theorem QE  {ty dh da}(k:IntKind)(a b:Int){t}:gH P .geq ty dh da (.int k a) (.int k b) aI t=aI (.bool (decide (b<=a))):=aat k a b
theorem QF  {ty dh da}(k:IntKind)(a b:Int){t}:gH P .eql ty dh da (.int k a) (.int k b) aI t=aI (.bool (decide (a=b))):=aas k a b
theorem QG  {ty dh da}(k:IntKind)(a b:Int){t}:gH P .neq ty dh da (.int k a) (.int k b) aI t=aI (.bool (!decide (a=b))):=(aay k a b).trans (by simp)
theorem QH  {ty dh da}(k:IntKind)(a b:Int){t}:gH P .add ty dh da (.int k a) (.int k b) aI t=oh k (a+b) aI ⟨⟩:=aar k a b
theorem QI  {ty dh da}(k:IntKind)(a b:Int){t}:gH P .sub ty dh da (.int k a) (.int k b) aI t=oh k (a - b) aI ⟨⟩:=aaD k a b
theorem QJ  {ty dh da}(k:IntKind)(a b:Int){t}:gH P .mul ty dh da (.int k a) (.int k b) aI t=oh k (a*b) aI ⟨⟩:=aax k a b
theorem QK  {ty dh da}(a b:ByteArray){t}:gH P .eql ty dh da (.string a) (.string b) aI t=aI (.bool (decide (a=b))):=aaB a b
theorem QL  {ty dh da}(a b:ByteArray){t}:gH P .neq ty dh da (.string a) (.string b) aI t=aI (.bool (!decide (a=b))):=(aaC a b).trans (by simp)
theorem QM  (b:Bool){t}:xx .not (.bool b) aI t=aI (.bool (!b)):=propext Iff.rfl
theorem QN  (k:IntKind)(n:Int){t}:xx .neg (.int k n) aI t=oh k (0 - n) aI ⟨⟩:=propext Iff.rfl
theorem QO  (k q:IntKind)(n:Int){t}:BK k (.int q n) aI t=oh k n aI ⟨⟩:=abF k q n aI
theorem QP  (n:Nat)(a:Addr){t}:BO n (.pointer (some a)) aI t=aI (.pointer (some (a.add n))):=ac1 n a aI
theorem QR  (v:Value)(vs:List Value){t}:tE (.tuple (v :: vs).toArray) 0 aI t=aI v:=acO v vs aI
theorem B1  (v u:Value)(vs:List Value){t}:tE (.tuple (v :: u :: vs).toArray) 1 aI t=aI u:=acP v u vs aI
theorem B2  (v u x:Value)(vs:List Value){t}:tE (.tuple (v :: u :: x :: vs).toArray) 2 aI t=aI x:=acQ v u x vs aI
theorem QS  (s:ByteArray){t}:BS (.string s) aI t=aI (.int .i64 s.size):=ahE s aI
theorem QT  (a:Option Addr)(n c:Nat){t}:BR (.slice a n c) aI t=aI (.int .i64 n):=ahC a n c aI
theorem QU  (a:Option Addr)(n c:Nat){t}:BI (.slice a n c) aI t=aI (.int .i64 c):=aaT a n c aI
theorem QV  (k q:IntKind)(a b:Int){t}:BT (.int k a) (.int q b) aI t=aI (.int k (max a b)):=ahU k q a b aI
theorem QW  (k q:IntKind)(a b:Int){t}:BU (.int k a) (.int q b) aI t=aI (.int k (min a b)):=ahZ k q a b aI
theorem QX  (m n:Nat)(cs:Array Value){t}:BP m n (.agg cs) aI t=aI (.agg (cs.extract m (m+n))):=ac7 m n cs aI
theorem QY  (a:Addr){t}:xm (.pointer (some a)) aI t=aI (.pointer (some a)):=propext Iff.rfl
theorem Q3  (f:FuncId)(a b:Array Value){t}:xm (.func (.func f) a b) aI t=aI (.func (.func f) a b):=propext Iff.rfl
theorem Q4  {t}:iz [] S w lk t=lk []:=propext Iff.rfl
theorem Q5  {n r}{t}:iz (.tmp n :: r) S w lk t=iz r S w (fun vs=>lk (S n :: vs)) ⟨⟩:=propext Iff.rfl
theorem Q6  {n r}{t}:iz (.cell n :: r) S w lk t=qp (S n) w (fun v=>iz r S w (fun vs=>lk (v :: vs)) ⟨⟩) ⟨⟩:=propext Iff.rfl
theorem Q7  {m n r}{t}:iz (.ie m n :: r) S w lk t=ss m (S n) w (fun v=>iz r S w (fun vs=>lk (v :: vs)) ⟨⟩) ⟨⟩:=propext Iff.rfl
theorem Q8{S:Fr}{d:Nat}{v:Value}:put S (some d) v=cm S d v:=eq_of_heq (heq_of_eq (h6 S d v))
theorem Q9{S:Fr}{v:Value}:put S none v=S:=eq_of_heq (heq_of_eq (Xh S v))
theorem Ra{S:Fr}{d t:Nat}{v:Value}:cm S d v t=if t=d then v else S t:=eq_of_heq (heq_of_eq (cu S d t v))
theorem Rb{S:Fr}{t:Nat}:bo S (.tmp t)=S t:=eq_of_heq (heq_of_eq (fu S t))
theorem Rc{S:Fr}{v:Value}:bo S (.const v)=v:=eq_of_heq (heq_of_eq (o7 S v))
theorem Rf{S:Fr}{g:Nat}:bo S (.global g) = .pointer (some ⟨g,0,none⟩):=eq_of_heq (heq_of_eq (acs S g))
theorem Rg{S:Fr}{f:Nat}:bo S (.func f) = .func (.func f) #[] #[]:=eq_of_heq (heq_of_eq (tX S f))
theorem Rh{k:Nat}:hY [] k=fun _=>undef:=eq_of_heq (heq_of_eq (mr k))
theorem Ri{v:Value}{vs:List Value}{k:Nat}:hY (v :: vs) k=cm (hY vs (k+1)) k v:=eq_of_heq (heq_of_eq (jh v vs k))
theorem Rj  : gG [] = .tuple #[]:=eq_of_heq (heq_of_eq (alJ ..))
theorem Rk  (v:Value):gG [v]=v:=eq_of_heq (heq_of_eq (alK ..))
theorem Rl  (v u:Value):gG [v,u] = .tuple #[v,u]:=eq_of_heq (heq_of_eq (alL ..))
theorem Rm  (v u x:Value):gG [v,u,x] = .tuple #[v,u,x]:=eq_of_heq (heq_of_eq (alM ..))
theorem Rn  (a:Option Addr)(n c:Nat):(Value.slice a n c).cells=#[.slice a n c]:=eq_of_heq (heq_of_eq (abc ..))
theorem Ro  (k:IntKind)(n:Int):(Value.int k n).cells=#[.int k n]:=eq_of_heq (heq_of_eq (aa7 ..))
theorem Rp  (b:Bool):(Value.bool b).cells=#[.bool b]:=eq_of_heq (heq_of_eq (aa4 ..))
theorem Rq  (s:ByteArray):(Value.string s).cells=#[.string s]:=eq_of_heq (heq_of_eq (abd ..))
theorem Rr  (a:Option Addr):(Value.pointer a).cells=#[.pointer a]:=eq_of_heq (heq_of_eq (abb ..))
theorem Rs  (a:Option Nat):(Value.map a).cells=#[.map a]:=eq_of_heq (heq_of_eq (aa8 ..))
theorem Rt  (f:Fn)(a b:Array Value):(Value.func f a b).cells=#[.func f a b]:=eq_of_heq (heq_of_eq (aa6 ..))
theorem Ru  (cs:Array Value):(Value.agg cs).cells=cs:=eq_of_heq (heq_of_eq (aa3 ..))
theorem Rv{α β:Type}{f:α->β}{a:α}{l:List α}:(a :: l).map f=f a :: l.map f:=eq_of_heq (heq_of_eq (List.map_cons))
theorem Rw{α β:Type}{f:α->β}:([]:List α).map f=[]:=eq_of_heq (heq_of_eq (List.map_nil))
theorem Rx  : (!true)=false:=eq_of_heq (heq_of_eq (Bool.not_true))
theorem Ry  : (!false)=true:=eq_of_heq (heq_of_eq (Bool.not_false))
theorem Rz{h:Decidable True}:decide True=true:=eq_of_heq (heq_of_eq (decide_true h))
theorem hV{h:Decidable False}:decide False=false:=eq_of_heq (heq_of_eq (decide_false h))
theorem eI{α:Type}{a b:α}{h:Decidable True}:(if True then a else b)=a:=eq_of_heq (heq_of_eq (if_true a b))
theorem mU{α:Type}{a b:α}{h:Decidable False}:(if False then a else b)=b:=eq_of_heq (heq_of_eq (if_false a b))
end
theorem c4:((((((((∀{P:Program} {Q:dW->Fr->World->Prop} {S:Fr} {w:World}  {t},dV P .skip Q S w t=Q .normal S w) /\
(∀{P:Program} {Q:dW->Fr->World->Prop} {S:Fr} {w:World}  {b7} {t},dV P (.bO b7) Q S w t=jK P b7 S w (fun S w=>Q .normal S w) ⟨⟩)) /\
((∀{P:Program} {Q:dW->Fr->World->Prop} {S:Fr} {w:World}  {b7} {t},dV P (.dP b7) Q S w t=mb P b7 S w (fun S => ∀w',Ext w w'->Q .normal S w') ⟨⟩) /\
((∀{P:Program} {Q:dW->Fr->World->Prop} {S:Fr} {w:World}  {x} {t},dV P (.ec x) Q S w t=(∀av,Ext w av->fJ P av x S av (fun S w=>Q .normal S w) ⟨⟩)) /\
(∀{P:Program} {cY:Fr->World->Prop} {S:Fr} {w:World}  {w0} {t},fJ P w0 .done S w cY t=cY S w)))) /\
(((∀{P:Program} {cY:Fr->World->Prop} {S:Fr} {w:World}  {w0} {t},fJ P w0 .nil S w cY t=True) /\
(∀{P:Program} {cY:Fr->World->Prop} {S:Fr} {w:World}  {w0 s r} {t},fJ P w0 (.take s r) S w cY t=yZ P w0 s S (fun S=>fJ P w0 r S w cY ⟨⟩) ⟨⟩)) /\
((∀{P:Program} {cY:Fr->World->Prop} {S:Fr} {w:World}  {w0 s r} {t},fJ P w0 (.alt s r .nil) S w cY t=rG P w0 s S w (fun S w=>fJ P w0 r S w cY ⟨⟩) ⟨⟩) /\
((∀{P:Program} {cY:Fr->World->Prop} {S:Fr} {w:World}  {w0 s r hP gy kr} {t},fJ P w0 (.alt s r (.alt hP gy kr)) S w cY t=(rG P w0 s S w (fun S w=>fJ P w0 r S w cY ⟨⟩) ⟨⟩/\fJ P w0 (.alt hP gy kr) S w cY ⟨⟩)) /\
(∀{P:Program} {cY:Fr->World->Prop} {S:Fr} {w:World}  {w0 s r hP gy kr} {t},fJ P w0 (.alt s r (.b0 hP gy kr)) S w cY t=(rG P w0 s S w (fun S w=>fJ P w0 r S w cY ⟨⟩) ⟨⟩/\fJ P w0 (.b0 hP gy kr) S w cY ⟨⟩)))))) /\
((((∀{P:Program} {cY:Fr->World->Prop} {S:Fr} {w:World}  {w0 s r} {t},fJ P w0 (.b0 s r .nil) S w cY t=rO P s S w (fun S w=>fJ P w0 r S w cY ⟨⟩) ⟨⟩) /\
(∀{P:Program} {cY:Fr->World->Prop} {S:Fr} {w:World}  {w0 s r hP gy kr} {t},fJ P w0 (.b0 s r (.alt hP gy kr)) S w cY t=(rO P s S w (fun S w=>fJ P w0 r S w cY ⟨⟩) ⟨⟩/\fJ P w0 (.alt hP gy kr) S w cY ⟨⟩))) /\
((∀{P:Program} {cY:Fr->World->Prop} {S:Fr} {w:World}  {w0 s r hP gy kr} {t},fJ P w0 (.b0 s r (.b0 hP gy kr)) S w cY t=(rO P s S w (fun S w=>fJ P w0 r S w cY ⟨⟩) ⟨⟩/\fJ P w0 (.b0 hP gy kr) S w cY ⟨⟩)) /\
((∀{P:Program} {cY:Fr->World->Prop} {S:Fr} {w:World}  {d i} {t},rO P ⟨d,none,i⟩ S w cY t=mN P i S w (fun v w'=>cY (put S d v) w') ⟨⟩) /\
(∀{P:Program} {cY:Fr->World->Prop} {S:Fr} {w:World}  {d j b i} {t},rO P ⟨d,some (j,b),i⟩ S w cY t=jq (S j) b (mN P i (cm S j (.bool b)) w (fun v w'=>cY (put (cm S j (.bool b)) d v) w') ⟨⟩) (cY (put (cm S j (.bool (!b))) d undef) w) (cY (put S d undef) w) ⟨⟩)))) /\
(((∀{P:Program} {hh:Fr->Prop} {S:Fr}  {w0 d i} {t},yZ P w0 ⟨d,none,i⟩ S hh t=oc P i S w0 (fun v=>hh (put S d v)) ⟨⟩) /\
((∀{P:Program} {hh:Fr->Prop} {S:Fr}  {w0 d j b i} {t},yZ P w0 ⟨d,some (j,b),i⟩ S hh t=jq (S j) b (oc P i (cm S j (.bool b)) w0 (fun v=>hh (put (cm S j (.bool b)) d v)) ⟨⟩) (hh (put (cm S j (.bool (!b))) d undef)) (hh (put S d undef)) ⟨⟩) /\
(∀{P:Program} {cY:Fr->World->Prop} {S:Fr} {w:World}  {w0 d i} {t},rG P w0 ⟨d,none,i⟩ S w cY t=pE P i S w (fun v w'=>Ext w0 w'/\cY (put S d v) w') ⟨⟩))) /\
((∀{P:Program} {cY:Fr->World->Prop} {S:Fr} {w:World}  {w0 d j b i} {t},rG P w0 ⟨d,some (j,b),i⟩ S w cY t=jq (S j) b (pE P i (cm S j (.bool b)) w (fun v w'=>Ext w0 w'/\cY (put (cm S j (.bool b)) d v) w') ⟨⟩) (cY (put (cm S j (.bool (!b))) d undef) w) (cY (put S d undef) w) ⟨⟩) /\
((∀{P:Program} {Q:dW->Fr->World->Prop} {S:Fr} {w:World}  {c x y} {t},dV P (.cond c x y) Q S w t=ka (bo S c) (dV P x Q S w ⟨⟩) (dV P y Q S w ⟨⟩) ⟨⟩) /\
(∀{P:Program} {Q:dW->Fr->World->Prop} {S:Fr} {w:World}  {id b} {t},dV P (.aX id b) Q S w t=dV P b (pR id Q ⟨⟩) S w ⟨⟩)))))) /\
(((((∀{P:Program} {Q:dW->Fr->World->Prop} {S:Fr} {w:World}  {id} {t},dV P (.exit id) Q S w t=Q (.exit id) S w) /\
(∀{P:Program} {Q:dW->Fr->World->Prop} {S:Fr} {w:World}  {t},dV P .ret Q S w t=Q .ret S w)) /\
((∀{P:Program} {Q:dW->Fr->World->Prop} {S:Fr} {w:World}  {b7 d f l} {t},dV P (.ff b7 d f l) Q S w t=jK P b7 S w (fun S w=>Gi P f (l.map (bo S)) w (fun v w'=>Q .normal (put S d v) w') (fun c w'=>Q (.fV c) S w') ⟨⟩) ⟨⟩) /\
((∀{P:Program} {Q:dW->Fr->World->Prop} {S:Fr} {w:World}  {b7 x} {t},dV P (.ra b7 x) Q S w t=jK P b7 S w (fun S w=>BY (bo S x) (fun c=>Q (.fV c) S w) ⟨⟩) ⟨⟩) /\
(∀{zv:List PanicEntry->Prop}  {i:TypeId} {v:Value} {t},BY (.iface i v) zv t=zv [{ v:=.iface i v,recovered:=false }])))) /\
(((∀{Q:dW->Fr->World->Prop} {N:Fr->World->Prop} {S:Fr} {w:World}  {c} {t},hr N Q t (.fV c) S w=Q (.fV c) S w) /\
((∀{Q:dW->Fr->World->Prop} {S:Fr} {w:World} {i} {c} {t},pR i Q t (.fV c) S w=Q (.fV c) S w) /\
(∀{Z:List PanicEntry->World->Prop} {R:Value->World->Prop} {S:Fr} {w:World} {r} {t},vZ r R Z t .normal S w=iz r S w (fun vs=>R (gG vs) w) ⟨⟩))) /\
((∀{Z:List PanicEntry->World->Prop} {R:Value->World->Prop} {S:Fr} {w:World} {r} {t},vZ r R Z t .ret S w=iz r S w (fun vs=>R (gG vs) w) ⟨⟩) /\
((∀{Z:List PanicEntry->World->Prop} {R:Value->World->Prop} {S:Fr} {w:World} {r} {c} {t},vZ r R Z t (.fV c) S w=Z c w) /\
(∀{P:Program} {Q:dW->Fr->World->Prop} {S:Fr} {w:World}  {b} {t},dV P (.loop b) Q S w t=xh P b Q S w ⟨⟩))))) /\
((((∀{Q:dW->Fr->World->Prop} {N:Fr->World->Prop} {S:Fr} {w:World}  {t},hr N Q t .normal S w=N S w) /\
(∀{Q:dW->Fr->World->Prop} {N:Fr->World->Prop} {S:Fr} {w:World}  {i} {t},hr N Q t (.exit i) S w=Q (.exit i) S w)) /\
((∀{Q:dW->Fr->World->Prop} {N:Fr->World->Prop} {S:Fr} {w:World}  {t},hr N Q t .ret S w=Q .ret S w) /\
((∀{Q:dW->Fr->World->Prop} {S:Fr} {w:World} {i} {t},pR i Q t .normal S w=Q .normal S w) /\
(∀{Q:dW->Fr->World->Prop} {S:Fr} {w:World} {i} {t},pR i Q t .ret S w=Q .ret S w)))) /\
(((∀{Q:dW->Fr->World->Prop} {S:Fr} {w:World} {i} {j} {t},pR i Q t (.exit j) S w=if j=i then Q .normal S w else Q (.exit j) S w) /\
((∀{R:Value->World->Prop} {S:Fr} {w:World} {r} {t},rM r R t .normal S w=iz r S w (fun vs=>R (gG vs) w) ⟨⟩) /\
(∀{R:Value->World->Prop} {S:Fr} {w:World} {r} {t},rM r R t .ret S w=iz r S w (fun vs=>R (gG vs) w) ⟨⟩))) /\
((∀{P:Program} {cY:Fr->World->Prop} {S:Fr} {w:World}  {t},jK P [] S w cY t=cY S w) /\
((∀{P:Program} {cY:Fr->World->Prop} {S:Fr} {w:World}  {d i r} {t},jK P (⟨d,none,i⟩ :: r) S w cY t=mN P i S w (fun v w'=>jK P r (put S d v) w' cY ⟨⟩) ⟨⟩) /\
(∀{P:Program} {cY:Fr->World->Prop} {S:Fr} {w:World}  {d j b i r} {t},jK P (⟨d,some (j,b),i⟩ :: r) S w cY t=jq (S j) b (mN P i (cm S j (.bool b)) w (fun v w'=>jK P r (put (cm S j (.bool b)) d v) w' cY ⟨⟩) ⟨⟩) (jK P r (put (cm S j (.bool (!b))) d undef) w cY ⟨⟩) (jK P r (put S d undef) w cY ⟨⟩) ⟨⟩))))))) /\
((((((∀{P:Program} {hh:Fr->Prop} {S:Fr} {w:World}  {t},mb P [] S w hh t=hh S) /\
(∀{P:Program} {hh:Fr->Prop} {S:Fr} {w:World}  {d i r} {t},mb P (⟨d,none,i⟩ :: r) S w hh t=oc P i S w (fun v=>mb P r (put S d v) w hh ⟨⟩) ⟨⟩)) /\
((∀{P:Program} {hh:Fr->Prop} {S:Fr} {w:World}  {d j b i r} {t},mb P (⟨d,some (j,b),i⟩ :: r) S w hh t=jq (S j) b (oc P i (cm S j (.bool b)) w (fun v=>mb P r (put (cm S j (.bool b)) d v) w hh ⟨⟩) ⟨⟩) (mb P r (put (cm S j (.bool (!b))) d undef) w hh ⟨⟩) (mb P r (put S d undef) w hh ⟨⟩) ⟨⟩) /\
((∀{P:Program} {K:Value->World->Prop} {S:Fr} {w:World}  {i} {t},pE P (.p i) S w K t=eH P i S (fun v=>K v w) ⟨⟩) /\
(∀{P:Program} {K:Value->World->Prop} {S:Fr} {w:World}  {i} {t},pE P (.r i) S w K t=od i S w (fun v=>K v w) ⟨⟩)))) /\
(((∀{P:Program} {K:Value->World->Prop} {S:Fr} {w:World}  {i} {t},pE P (.e i) S w K t=ib P i S w K ⟨⟩) /\
(∀{P:Program} {K:Value->World->Prop} {S:Fr} {w:World}  {i} {t},pE P (.c i) S w K t=xb P i S w K ⟨⟩)) /\
((∀{P:Program} {K:Value->World->Prop} {S:Fr} {w:World}  {i} {t},mN P (.p i) S w K t=eH P i S (fun v=>K v w) ⟨⟩) /\
((∀{P:Program} {K:Value->World->Prop} {S:Fr} {w:World}  {i} {t},mN P (.r i) S w K t=od i S w (fun v=>K v w) ⟨⟩) /\
(∀{P:Program} {K:Value->World->Prop} {S:Fr} {w:World}  {i} {t},mN P (.e i) S w K t=ib P i S w K ⟨⟩))))) /\
((((∀{P:Program} {K:Value->World->Prop} {S:Fr} {w:World}  {i} {t},mN P (.c i) S w K t=xc P i S w K ⟨⟩) /\
(∀{P:Program} {aI:Value->Prop} {S:Fr} {w:World}  {i} {t},oc P (.p i) S w aI t=eH P i S aI ⟨⟩)) /\
((∀{P:Program} {aI:Value->Prop} {S:Fr} {w:World}  {i} {t},oc P (.r i) S w aI t=od i S w aI ⟨⟩) /\
((∀{P:Program} {aI:Value->Prop} {S:Fr} {w:World}  {i} {t},oc P (.c i) S w aI t=xo P i S w aI ⟨⟩) /\
(∀{P:Program} {aI:Value->Prop} {S:Fr} {w:World}  {f l} {t},xo P (.fn f l) S w aI t=Gf P f (l.map (bo S)) w aI ⟨⟩)))) /\
(((∀{P:Program} {aI:Value->Prop} {S:Fr} {w:World}  {x l} {t},xo P (.val x l) S w aI t=BZ P (bo S x) (l.map (bo S)) w aI ⟨⟩) /\
((∀{A:Prop} {B:Prop} {C:Prop}  {t},jq (.bool true) true A B C t=A) /\
(∀{A:Prop} {B:Prop} {C:Prop}  {t},jq (.bool true) false A B C t=B))) /\
((∀{A:Prop} {B:Prop} {C:Prop}  {t},jq (.bool false) true A B C t=B) /\
((∀{A:Prop} {B:Prop} {C:Prop}  {t},jq (.bool false) false A B C t=A) /\
(∀{A:Prop} {B:Prop} {C:Prop}  (u:Bool) {t},jq undef u A B C t=C)))))) /\
(((((∀{A:Prop} {B:Prop} {C:Prop}  (u:Bool) {t},jq (.bool u) true A B C t=ka (.bool u) A B ⟨⟩) /\
(∀{A:Prop} {B:Prop} {C:Prop}  (u:Bool) {t},jq (.bool u) false A B C t=ka (.bool u) B A ⟨⟩)) /\
((∀{A:Prop} {B:Prop}  {t},ka (.bool true) A B t=A) /\
((∀{A:Prop} {B:Prop}  {t},ka (.bool false) A B t=B) /\
(∀{A:Prop} {B:Prop}  (u:Bool) {t},ka (.bool (!u)) A B t=ka (.bool u) B A ⟨⟩)))) /\
(((∀{P:Program} {aI:Value->Prop} {S:Fr}  {x} {t},eH P (.qd x) S aI t=aI (bo S x)) /\
((∀{P:Program} {aI:Value->Prop} {S:Fr}  {c x y} {t},eH P (.pick c x y) S aI t=ka (bo S c) (aI (bo S x)) (aI (bo S y)) ⟨⟩) /\
(∀{P:Program} {aI:Value->Prop} {S:Fr}  {op ty x y} {t},eH P (.bin op ty x y) S aI t=gH P op ty x y (bo S x) (bo S y) aI ⟨⟩))) /\
((∀{P:Program} {aI:Value->Prop} {S:Fr}  {op x} {t},eH P (.un op x) S aI t=xx op (bo S x) aI ⟨⟩) /\
((∀{P:Program} {aI:Value->Prop} {S:Fr}  {k x} {t},eH P (.tR k x) S aI t=BK k (bo S x) aI ⟨⟩) /\
(∀{P:Program} {aI:Value->Prop} {S:Fr}  {n x} {t},eH P (.iE n x) S aI t=BO n (bo S x) aI ⟨⟩))))) /\
((((∀{P:Program} {aI:Value->Prop} {S:Fr}  {n x y} {t},eH P (.gB n x y) S aI t=zg n (bo S x) (bo S y) aI ⟨⟩) /\
(∀{P:Program} {aI:Value->Prop} {S:Fr}  {m n x y} {t},eH P (.Az m n x y) S aI t=FX m n (bo S x) (bo S y) aI ⟨⟩)) /\
((∀{P:Program} {aI:Value->Prop} {S:Fr}  {x y} {t},eH P (.lM x y) S aI t=F1 (bo S x) (bo S y) aI ⟨⟩) /\
((∀{P:Program} {aI:Value->Prop} {S:Fr}  {n x y} {t},eH P (.wI n x y) S aI t=F0 n (bo S x) (bo S y) aI ⟨⟩) /\
(∀{P:Program} {aI:Value->Prop} {S:Fr}  {n x} {t},eH P (.jg n x) S aI t=FV n (bo S x) aI ⟨⟩)))) /\
(((∀{P:Program} {aI:Value->Prop} {S:Fr}  {n m x} {t},eH P (.CV n m x) S aI t=BP n m (bo S x) aI ⟨⟩) /\
((∀{P:Program} {aI:Value->Prop} {S:Fr}  {z pl dv} {t},eH P (.cW z pl dv) S aI t=FM S z pl dv aI ⟨⟩) /\
(∀{P:Program} {aI:Value->Prop} {S:Fr}  {f a b} {t},eH P (.jG f a b) S aI t=aI (.func (.func f) (a.map (bo S)).toArray (b.map (bo S)).toArray)))) /\
((∀{P:Program} {aI:Value->Prop} {S:Fr}  {n x bf ad mx} {t},eH P (.hQ n x bf ad mx) S aI t=tJ S n (bo S x) bf ad mx aI ⟨⟩) /\
((∀{P:Program} {aI:Value->Prop} {S:Fr}  {x bf ad} {t},eH P (.w4 x bf ad) S aI t=Gh S (bo S x) bf ad aI ⟨⟩) /\
(∀{P:Program} {aI:Value->Prop} {S:Fr}  {x n} {t},eH P (.ext x n) S aI t=tE (bo S x) n aI ⟨⟩)))))))) /\
(((((((∀{P:Program} {aI:Value->Prop} {S:Fr}  {x} {t},eH P (.nn x) S aI t=BS (bo S x) aI ⟨⟩) /\
(∀{P:Program} {aI:Value->Prop} {S:Fr}  {x} {t},eH P (.AI x) S aI t=BR (bo S x) aI ⟨⟩)) /\
((∀{P:Program} {aI:Value->Prop} {S:Fr}  {x} {t},eH P (.Cj x) S aI t=BI (bo S x) aI ⟨⟩) /\
((∀{P:Program} {aI:Value->Prop} {S:Fr}  {v} {t},eH P (.Eb v) S aI t=aI v) /\
(∀{P:Program} {aI:Value->Prop} {S:Fr}  {x y} {t},eH P (.tk x y) S aI t=BT (bo S x) (bo S y) aI ⟨⟩)))) /\
(((∀{P:Program} {aI:Value->Prop} {S:Fr}  {x y} {t},eH P (.u2 x y) S aI t=BU (bo S x) (bo S y) aI ⟨⟩) /\
(∀{P:Program} {aI:Value->Prop} {S:Fr}  {n x} {t},eH P (.A5 n x) S aI t=aI (.iface n (bo S x)))) /\
((∀{P:Program} {aI:Value->Prop} {S:Fr}  {x} {t},eH P (.A9 x) S aI t=xm (bo S x) aI ⟨⟩) /\
((∀{aI:Value->Prop} {S:Fr} {w:World}  {x} {t},od (.ld x) S w aI t=qp (bo S x) w aI ⟨⟩) /\
(∀{aI:Value->Prop} {S:Fr} {w:World}  {n x} {t},od (.j3 n x) S w aI t=ss n (bo S x) w aI ⟨⟩))))) /\
((((∀{aI:Value->Prop} {S:Fr} {w:World}  {d z ok m k} {t},od (.mE d z ok m k) S w aI t=zh d z ok (bo S m) (bo S k) w aI ⟨⟩) /\
(∀{aI:Value->Prop} {S:Fr} {w:World}  {x} {t},od (.yy x) S w aI t=F5 (bo S x) w aI ⟨⟩)) /\
((∀{P:Program} {K:Value->World->Prop} {S:Fr} {w:World}  {n x} {t},ib P (.box n x) S w K t=xk n (bo S x).cells w K ⟨⟩) /\
((∀{P:Program} {K:Value->World->Prop} {S:Fr} {w:World}  {n z} {t},ib P (.new n z) S w K t=xk n z.cells w K ⟨⟩) /\
(∀{P:Program} {K:Value->World->Prop} {S:Fr} {w:World}  {x v} {t},ib P (.st x v) S w K t=qv (bo S x) (bo S v) w (K undef) ⟨⟩)))) /\
(((∀{P:Program} {K:Value->World->Prop} {S:Fr} {w:World}  {n x v} {t},ib P (.ri n x v) S w K t=zr n (bo S x) (bo S v) w (K undef) ⟨⟩) /\
((∀{P:Program} {K:Value->World->Prop} {S:Fr} {w:World}  {t},ib P .r8 S w K t=Gb w K ⟨⟩) /\
(∀{P:Program} {K:Value->World->Prop} {S:Fr} {w:World}  {e n b z l c} {t},ib P (.qc e n b z l c) S w K t=xi e n b z (bo S l) (bo S c) w K ⟨⟩))) /\
((∀{P:Program} {K:Value->World->Prop} {S:Fr} {w:World}  {e l n z dv} {t},ib P (.dj e l n z dv) S w K t=BG S e l n z dv w K ⟨⟩) /\
((∀{P:Program} {K:Value->World->Prop} {S:Fr} {w:World}  {ty e n b s x} {t},ib P (.app ty e n b s x) S w K t=lf P ty e n b (bo S s) (bo S x) w K ⟨⟩) /\
(∀{P:Program} {K:Value->World->Prop} {S:Fr} {w:World}  {d m k v} {t},ib P (.iX d m k v) S w K t=xj d (bo S m) (bo S k) (bo S v) w (K undef) ⟨⟩)))))) /\
(((((∀{P:Program} {K:Value->World->Prop} {S:Fr} {w:World}  {x} {t},ib P (.wZ x) S w K t=Gg (bo S x) w K ⟨⟩) /\
(∀{P:Program} {K:Value->World->Prop} {S:Fr} {w:World}  {x} {t},ib P (.wR x) S w K t=Gd (bo S x) w K ⟨⟩)) /\
((∀{P:Program} {K:Value->World->Prop} {S:Fr} {w:World}  {op ty} {t},ib P (.raw op ty) S w K t=tI P op ty S w K ⟨⟩) /\
((∀{P:Program} {K:Value->World->Prop} {S:Fr} {w:World}  {f l} {t},xb P (.fn f l) S w K t=zb P f (l.map (bo S)) w K ⟨⟩) /\
(∀{P:Program} {K:Value->World->Prop} {S:Fr} {w:World}  {x l} {t},xb P (.val x l) S w K t=vt P (bo S x) (l.map (bo S)) w K ⟨⟩)))) /\
(((∀{P:Program} {K:Value->World->Prop} {S:Fr} {w:World}  {f l} {t},xc P (.fn f l) S w K t=zb P f (l.map (bo S)) w K ⟨⟩) /\
((∀{P:Program} {K:Value->World->Prop} {S:Fr} {w:World}  {x l} {t},xc P (.val x l) S w K t=xd P (bo S x) (l.map (bo S)) w K ⟨⟩) /\
(∀{P:Program} {aI:Value->Prop}  {ty dh da} (k:IntKind) (a b:Int) {t},gH P .lss ty dh da (.int k a) (.int k b) aI t=aI (.bool (decide (a<b)))))) /\
((∀{P:Program} {aI:Value->Prop}  {ty dh da} (k:IntKind) (a b:Int) {t},gH P .leq ty dh da (.int k a) (.int k b) aI t=aI (.bool (decide (a<=b)))) /\
((∀{P:Program} {aI:Value->Prop}  {ty dh da} (k:IntKind) (a b:Int) {t},gH P .gtr ty dh da (.int k a) (.int k b) aI t=aI (.bool (decide (b<a)))) /\
(∀{P:Program} {aI:Value->Prop}  {ty dh da} (k:IntKind) (a b:Int) {t},gH P .geq ty dh da (.int k a) (.int k b) aI t=aI (.bool (decide (b<=a)))))))) /\
((((∀{P:Program} {aI:Value->Prop}  {ty dh da} (k:IntKind) (a b:Int) {t},gH P .eql ty dh da (.int k a) (.int k b) aI t=aI (.bool (decide (a=b)))) /\
(∀{P:Program} {aI:Value->Prop}  {ty dh da} (k:IntKind) (a b:Int) {t},gH P .neq ty dh da (.int k a) (.int k b) aI t=aI (.bool (!decide (a=b))))) /\
((∀{P:Program} {aI:Value->Prop}  {ty dh da} (k:IntKind) (a b:Int) {t},gH P .add ty dh da (.int k a) (.int k b) aI t=oh k (a+b) aI ⟨⟩) /\
((∀{P:Program} {aI:Value->Prop}  {ty dh da} (k:IntKind) (a b:Int) {t},gH P .sub ty dh da (.int k a) (.int k b) aI t=oh k (a - b) aI ⟨⟩) /\
(∀{P:Program} {aI:Value->Prop}  {ty dh da} (k:IntKind) (a b:Int) {t},gH P .mul ty dh da (.int k a) (.int k b) aI t=oh k (a*b) aI ⟨⟩)))) /\
(((∀{P:Program} {aI:Value->Prop}  {ty dh da} (a b:ByteArray) {t},gH P .eql ty dh da (.string a) (.string b) aI t=aI (.bool (decide (a=b)))) /\
((∀{P:Program} {aI:Value->Prop}  {ty dh da} (a b:ByteArray) {t},gH P .neq ty dh da (.string a) (.string b) aI t=aI (.bool (!decide (a=b)))) /\
(∀{aI:Value->Prop}  (b:Bool) {t},xx .not (.bool b) aI t=aI (.bool (!b))))) /\
((∀{aI:Value->Prop}  (k:IntKind) (n:Int) {t},xx .neg (.int k n) aI t=oh k (0 - n) aI ⟨⟩) /\
((∀{aI:Value->Prop}  (k q:IntKind) (n:Int) {t},BK k (.int q n) aI t=oh k n aI ⟨⟩) /\
(∀{aI:Value->Prop}  (n:Nat) (a:Addr) {t},BO n (.pointer (some a)) aI t=aI (.pointer (some (a.add n)))))))))) /\
((((((∀{aI:Value->Prop}  (v:Value) (vs:List Value) {t},tE (.tuple (v :: vs).toArray) 0 aI t=aI v) /\
(∀{aI:Value->Prop}  (v u:Value) (vs:List Value) {t},tE (.tuple (v :: u :: vs).toArray) 1 aI t=aI u)) /\
((∀{aI:Value->Prop}  (v u x:Value) (vs:List Value) {t},tE (.tuple (v :: u :: x :: vs).toArray) 2 aI t=aI x) /\
((∀{aI:Value->Prop}  (s:ByteArray) {t},BS (.string s) aI t=aI (.int .i64 s.size)) /\
(∀{aI:Value->Prop}  (a:Option Addr) (n c:Nat) {t},BR (.slice a n c) aI t=aI (.int .i64 n))))) /\
(((∀{aI:Value->Prop}  (a:Option Addr) (n c:Nat) {t},BI (.slice a n c) aI t=aI (.int .i64 c)) /\
((∀{aI:Value->Prop}  (k q:IntKind) (a b:Int) {t},BT (.int k a) (.int q b) aI t=aI (.int k (max a b))) /\
(∀{aI:Value->Prop}  (k q:IntKind) (a b:Int) {t},BU (.int k a) (.int q b) aI t=aI (.int k (min a b))))) /\
((∀{aI:Value->Prop}  (m n:Nat) (cs:Array Value) {t},BP m n (.agg cs) aI t=aI (.agg (cs.extract m (m+n)))) /\
((∀{aI:Value->Prop}  (a:Addr) {t},xm (.pointer (some a)) aI t=aI (.pointer (some a))) /\
(∀{aI:Value->Prop}  (f:FuncId) (a b:Array Value) {t},xm (.func (.func f) a b) aI t=aI (.func (.func f) a b)))))) /\
((((∀{lk:List Value->Prop} {S:Fr} {w:World}  {t},iz [] S w lk t=lk []) /\
(∀{lk:List Value->Prop} {S:Fr} {w:World}  {n r} {t},iz (.tmp n :: r) S w lk t=iz r S w (fun vs=>lk (S n :: vs)) ⟨⟩)) /\
((∀{lk:List Value->Prop} {S:Fr} {w:World}  {n r} {t},iz (.cell n :: r) S w lk t=qp (S n) w (fun v=>iz r S w (fun vs=>lk (v :: vs)) ⟨⟩) ⟨⟩) /\
((∀{lk:List Value->Prop} {S:Fr} {w:World}  {m n r} {t},iz (.ie m n :: r) S w lk t=ss m (S n) w (fun v=>iz r S w (fun vs=>lk (v :: vs)) ⟨⟩) ⟨⟩) /\
(∀{S:Fr} {d:Nat} {v:Value},put S (some d) v=cm S d v)))) /\
(((∀{S:Fr} {v:Value},put S none v=S) /\
((∀{S:Fr} {d t:Nat} {v:Value},cm S d v t=if t=d then v else S t) /\
(∀{S:Fr} {t:Nat},bo S (.tmp t)=S t))) /\
((∀{S:Fr} {v:Value},bo S (.const v)=v) /\
((∀{S:Fr} {g:Nat},bo S (.global g) = .pointer (some ⟨g,0,none⟩)) /\
(∀{S:Fr} {f:Nat},bo S (.func f) = .func (.func f) #[] #[])))))) /\
(((((∀{k:Nat},hY [] k=fun _=>undef) /\
(∀{v:Value} {vs:List Value} {k:Nat},hY (v :: vs) k=cm (hY vs (k+1)) k v)) /\
((gG [] = .tuple #[]) /\
((∀(v:Value),gG [v]=v) /\
(∀(v u:Value),gG [v,u] = .tuple #[v,u])))) /\
(((∀(v u x:Value),gG [v,u,x] = .tuple #[v,u,x]) /\
((∀(a:Option Addr) (n c:Nat),(Value.slice a n c).cells=#[.slice a n c]) /\
(∀(k:IntKind) (n:Int),(Value.int k n).cells=#[.int k n]))) /\
((∀(b:Bool),(Value.bool b).cells=#[.bool b]) /\
((∀(s:ByteArray),(Value.string s).cells=#[.string s]) /\
(∀(a:Option Addr),(Value.pointer a).cells=#[.pointer a]))))) /\
((((∀(a:Option Nat),(Value.map a).cells=#[.map a]) /\
(∀(f:Fn) (a b:Array Value),(Value.func f a b).cells=#[.func f a b])) /\
((∀(cs:Array Value),(Value.agg cs).cells=cs) /\
((∀{α β:Type} {f:α->β} {a:α} {l:List α},(a :: l).map f=f a :: l.map f) /\
(∀{α β:Type} {f:α->β},([]:List α).map f=[])))) /\
((((!true)=false) /\
(((!false)=true) /\
(∀{h:Decidable True},decide True=true))) /\
((∀{h:Decidable False},decide False=false) /\
((∀{α:Type} {a b:α} {h:Decidable True},(if True then a else b)=a) /\
(∀{α:Type} {a b:α} {h:Decidable False},(if False then a else b)=b))))))))) :=
 ⟨⟨⟨⟨⟨⟨⟨(by intros;apply OM),(by intros;apply ON)⟩,⟨(by intros;apply OO),⟨(by intros;apply OP),(by intros;apply OQ)⟩⟩⟩,⟨⟨(by intros;apply OR),(by intros;apply OS)⟩,⟨(by intros;apply OT),⟨(by intros;apply OU),(by intros;apply OV)⟩⟩⟩⟩,⟨⟨⟨(by intros;apply OX),(by intros;apply vp)⟩,⟨(by intros;apply vq),⟨(by intros;apply OY),(by intros;apply OZ)⟩⟩⟩,⟨⟨(by intros;apply O0),⟨(by intros;apply O1),(by intros;apply O2)⟩⟩,⟨(by intros;apply O3),⟨(by intros;apply O4),(by intros;apply O5)⟩⟩⟩⟩⟩,⟨⟨⟨⟨(by intros;apply O6),(by intros;apply O7)⟩,⟨(by intros;apply O8),⟨(by intros;apply O9),(by intros;apply Pa)⟩⟩⟩,⟨⟨(by intros;apply Pb),⟨(by intros;apply Pc),(by intros;apply Pd)⟩⟩,⟨(by intros;apply sq),⟨(by intros;apply Pg),(by intros;apply Ph)⟩⟩⟩⟩,⟨⟨⟨(by intros;apply Pj),(by intros;apply Pk)⟩,⟨(by intros;apply Pl),⟨(by intros;apply Pm),(by intros;apply Pn)⟩⟩⟩,⟨⟨(by intros;apply Po),⟨(by intros;apply Pp),(by intros;apply xf)⟩⟩,⟨(by intros;apply iP),⟨(by intros;apply c6),(by intros;apply fj)⟩⟩⟩⟩⟩⟩,⟨⟨⟨⟨⟨(by intros;apply en),(by intros;apply hS)⟩,⟨(by intros;apply lg),⟨(by intros;apply jN),(by intros;apply kP)⟩⟩⟩,⟨⟨(by intros;apply jO),(by intros;apply Pv)⟩,⟨(by intros;apply Pw),⟨(by intros;apply Px),(by intros;apply Py)⟩⟩⟩⟩,⟨⟨⟨(by intros;apply Pz),(by intros;apply PA)⟩,⟨(by intros;apply PB),⟨(by intros;apply PC),(by intros;apply PD)⟩⟩⟩,⟨⟨(by intros;apply PE),⟨(by intros;apply PF),(by intros;apply H1)⟩⟩,⟨(by intros;apply PG),⟨(by intros;apply PH),(by intros;apply PI)⟩⟩⟩⟩⟩,⟨⟨⟨⟨(by intros;apply PJ),(by intros;apply PK)⟩,⟨(by intros;apply PL),⟨(by intros;apply PM),(by intros;apply PN)⟩⟩⟩,⟨⟨(by intros;apply PO),⟨(by intros;apply PQ),(by intros;apply PR)⟩⟩,⟨(by intros;apply PS),⟨(by intros;apply PT),(by intros;apply PU)⟩⟩⟩⟩,⟨⟨⟨(by intros;apply PV),(by intros;apply PW)⟩,⟨(by intros;apply PX),⟨(by intros;apply PY),(by intros;apply PZ)⟩⟩⟩,⟨⟨(by intros;apply P0),⟨(by intros;apply P1),(by intros;apply P2)⟩⟩,⟨(by intros;apply P3),⟨(by intros;apply P4),(by intros;apply P5)⟩⟩⟩⟩⟩⟩⟩,⟨⟨⟨⟨⟨⟨(by intros;apply P6),(by intros;apply P7)⟩,⟨(by intros;apply P8),⟨(by intros;apply Qc),(by intros;apply Qd)⟩⟩⟩,⟨⟨(by intros;apply M2),(by intros;apply Qe)⟩,⟨(by intros;apply Qf),⟨(by intros;apply Qg),(by intros;apply Qh)⟩⟩⟩⟩,⟨⟨⟨(by intros;apply Qi),(by intros;apply Qj)⟩,⟨(by intros;apply Qk),⟨(by intros;apply Ql),(by intros;apply Qm)⟩⟩⟩,⟨⟨(by intros;apply Qn),⟨(by intros;apply Qo),(by intros;apply Qp)⟩⟩,⟨(by intros;apply Qq),⟨(by intros;apply Qr),(by intros;apply Qs)⟩⟩⟩⟩⟩,⟨⟨⟨⟨(by intros;apply Qt),(by intros;apply Qu)⟩,⟨(by intros;apply Qw),⟨(by intros;apply Qx),(by intros;apply Qy)⟩⟩⟩,⟨⟨(by intros;apply Qz),⟨(by intros;apply QA),(by intros;apply QB)⟩⟩,⟨(by intros;apply QC),⟨(by intros;apply QD),(by intros;apply QE)⟩⟩⟩⟩,⟨⟨⟨(by intros;apply QF),(by intros;apply QG)⟩,⟨(by intros;apply QH),⟨(by intros;apply QI),(by intros;apply QJ)⟩⟩⟩,⟨⟨(by intros;apply QK),⟨(by intros;apply QL),(by intros;apply QM)⟩⟩,⟨(by intros;apply QN),⟨(by intros;apply QO),(by intros;apply QP)⟩⟩⟩⟩⟩⟩,⟨⟨⟨⟨⟨(by intros;apply QR),(by intros;apply B1)⟩,⟨(by intros;apply B2),⟨(by intros;apply QS),(by intros;apply QT)⟩⟩⟩,⟨⟨(by intros;apply QU),⟨(by intros;apply QV),(by intros;apply QW)⟩⟩,⟨(by intros;apply QX),⟨(by intros;apply QY),(by intros;apply Q3)⟩⟩⟩⟩,⟨⟨⟨(by intros;apply Q4),(by intros;apply Q5)⟩,⟨(by intros;apply Q6),⟨(by intros;apply Q7),(by intros;apply Q8)⟩⟩⟩,⟨⟨(by intros;apply Q9),⟨(by intros;apply Ra),(by intros;apply Rb)⟩⟩,⟨(by intros;apply Rc),⟨(by intros;apply Rf),(by intros;apply Rg)⟩⟩⟩⟩⟩,⟨⟨⟨⟨(by intros;apply Rh),(by intros;apply Ri)⟩,⟨(by intros;apply Rj),⟨(by intros;apply Rk),(by intros;apply Rl)⟩⟩⟩,⟨⟨(by intros;apply Rm),⟨(by intros;apply Rn),(by intros;apply Ro)⟩⟩,⟨(by intros;apply Rp),⟨(by intros;apply Rq),(by intros;apply Rr)⟩⟩⟩⟩,⟨⟨⟨(by intros;apply Rs),(by intros;apply Rt)⟩,⟨(by intros;apply Ru),⟨(by intros;apply Rv),(by intros;apply Rw)⟩⟩⟩,⟨⟨(by intros;apply Rx),⟨(by intros;apply Ry),(by intros;apply Rz)⟩⟩,⟨(by intros;apply hV),⟨(by intros;apply eI),(by intros;apply mU)⟩⟩⟩⟩⟩⟩⟩⟩
section
variable{P:Program}{Q:dW->Fr->World->Prop}{aI:Value->Prop}{K:Value->World->Prop}{gu:World->Prop}{S:Fr}{w:World}{A B:Prop}
theorem K.cond{p:Prop}[Decidable p]{t}(h1:p->A)(U:¬p->B):ka (.bool (decide p)) A B t:=aaX h1 U
theorem K.dp{u:Bool}{t}(h1:u=true->A)(U:u=false->B):ka (.bool u) A B t:=aaW h1 U
theorem K.wrap{n:Int}{t}(h : -9223372036854775808<=n/\n<=9223372036854775807)(hk:aI (.int .i64 n)):oh .i64 n aI t:=wrap_i64 h hk
theorem K.I9{k:IntKind}{n:Int}{t}(h:aI (.int k (k.wrap n))):oh k n aI t:=Y6 h
theorem K.amj{k:IntKind}{n:Int}{t}(h:k.wrap n=n)(hk:aI (.int k n)):oh k n aI t:=Y6 (by rw[h];exact hk)
theorem K.quo{ty:TypeId}{dh da:Operand}{k:IntKind}{a b:Int}{t}(aC:b≠0)(h:oh k (a.tdiv b) aI ⟨⟩):gH P .quo ty dh da (.int k a) (.int k b) aI t:=aaz aC h
theorem K.rem{ty:TypeId}{dh da:Operand}{k:IntKind}{a b:Int}{t}(aC:b≠0)(h:aI (.int k (a.tmod b))):gH P .rem ty dh da (.int k a) (.int k b) aI t:=aaA aC h
theorem K.bin{op:BinOp}{ty:TypeId}{dh da:Operand}{x y v:Value}{t}(h:∀w,(do eqGuard op ty dh da x y;binOp op ty x y:Sem Value).run P w = .ok v w)(hk:aI v):gH P op ty dh da x y aI t:=⟨v,h,hk⟩
theorem K.gB{sz:Nat}{a:Addr}{len cap:Nat}{k:IntKind}{n:Int}{t}(h:0<=n/\n<len)(hk:aI (.pointer (some (a.add (n.toNat*sz))))):zg sz (.slice (some a) len cap) (.int k n) aI t:=agM h hk
theorem K.dD{sz:Nat}{a:Addr}{len cap:Nat}{k:IntKind}{n:Int}{t}(i:Nat)(ad:n=i)(h:i<len)(hk:aI (.pointer (some (a.add (i*sz))))):zg sz (.slice (some a) len cap) (.int k n) aI t:=agL i ad h hk
theorem K.Az{sz:Nat}{a:Addr}{len:Nat}{k:IntKind}{n:Int}{t}(h:0<=n/\n<len)(hk:aI (.pointer (some (a.add (n.toNat*sz))))):FX len sz (.pointer (some a)) (.int k n) aI t:=agK h hk
theorem K.lM{s:ByteArray}{k:IntKind}{n:Int}{t}(c:UInt8)(ak:0<=n)(h:s[n.toNat]? = some c)(hk:aI (.int .u8 c.toNat)):F1 (.string s) (.int k n) aI t:=ag0 c ak h hk
theorem K.wI{len:Nat}{cs:Array Value}{k:IntKind}{n:Int}{t}(v:Value)(ak:0<=n/\n<len)(h:cs[n.toNat]? = some v)(hk:aI v):F0 len (.agg cs) (.int k n) aI t:=agZ v ak h hk
theorem K.jg{off:Nat}{cs:Array Value}{v:Value}{t}(h:cs[off]? = some v)(hk:aI v):FV off (.agg cs) aI t:=ac8 h hk
theorem K.cW{z cs:List Value}{pl:List (Nat×Nat)}{dv:List (Nat×Operand)}{t}(h:eP S pl dv z=some cs)(hk:aI (.agg cs.toArray)):FM S z pl dv aI t:=aaG h hk
theorem K.hQ{sz:Nat}{a:Option Addr}{len cap:Nat}{bf ad mx:Option Operand}{t}(l h m:Nat)(h1:fm S bf 0=some l)(U:fm S ad len=some h)(ag:fm S mx cap=some m)
  (aJ:l<=h/\h<=m/\m<=cap)(bg:mx.isSome=true->ad.isSome=true)(hk:aI (.slice (if m=l then a else a.map (·.add (l*sz))) (h - l) (m - l))):tJ S sz (.slice a len cap) bf ad mx aI t:=akV l h m h1 U ag aJ bg hk
theorem K.w4{s:ByteArray}{bf ad:Option Operand}{t}(l h:Nat)(h1:fm S bf 0=some l)(U:fm S ad s.size=some h)(aJ:l<=h/\h<=s.size)(hk:aI (.string (s.extract l h))):Gh S (.string s) bf ad aI t:=akT l h h1 U aJ hk
theorem K.ld{a:Addr}{c:Value}{t}(h:w.cell? a=some c)(hk:aI c):qp (.pointer (some a)) w aI t:=ahx h hk
theorem K.j3{n:Nat}{a:Addr}{cs:List Value}{t}(h:eS w a cs)(aE:cs.length=n)(hk:aI (.agg cs.toArray)):ss n (.pointer (some a)) w aI t:=ahw h aE hk
theorem K.mE{d:TypeDesc}{z:Value}{ok:Bool}{m k:Value}{es:Array MapEntry}{r:Option (Nat×Value)}{t}(h1:qs w m es)(U:Instr.findNow d k es.toList 0=some r)(hk:aI (l9 z ok r)):zh d z ok m k w aI t:=ahM h1 U hk
theorem K.yy{m:Value}{es:Array MapEntry}{t}(h:qs w m es)(hk:aI (.int .i64 es.size)):F5 m w aI t:=ahD h hk
theorem K.st{a:Addr}{v kG:Value}{t}(h:w.cell? a=some kG)(aK:w.frozen? a=false)(aT:v.oneCell'=true)(hk:gu (w.setCell a v)):qv (.pointer (some a)) v w gu t:=Yv h aK aT hk
theorem K.ri{n:Nat}{a:Addr}{cs:Array Value}{t}(aE:cs.size=n)(h:∀j,j<n->(∃kG,w.cell? (a.add j)=some kG)/\w.frozen? (a.add j)=false)(h1:∀c∈cs.toList,c.oneCell'=true)(hk:gu (kK w a cs.toList 0)):zr n (.pointer (some a)) (.agg cs) w gu t:=Ob aE h h1 hk
theorem K.qc{e:TypeId}{sz bytes:Nat}{z:Value}{k q:IntKind}{n m:Int}{t}(h:0<=n/\n<=m/\m<=9223372036854775807/\bytes*m<=281474976710656)(hk:K (.slice (some ⟨w.heap.size,0,none⟩) n.toNat m.toNat) (w.alloc (.cells (n3 z.cells (m.toNat*sz)) e))) :
  xi e sz bytes z (.int k n) (.int q m) w K t:=ah2 h hk
theorem K.dj{e:TypeId}{len sz:Nat}{z cs:List Value}{dv:List (Nat×Operand)}{t}(h:eP S ((List.range len).map fun i=>(i*sz,sz)) dv z=some cs)(hk:K (.slice (some ⟨w.heap.size,0,none⟩) len len) (w.alloc (.cells cs.toArray e))):BG S e len sz z dv w K t:=Cf h hk
theorem K.app{ty e:TypeId}{sz b:Nat}{s x:Value}{t}(h:Q2 P ty e sz b->∃u cf w',(Builtin.append_ #[ty,ty] u #[s,x]).run P w = .ok cf w'/\K cf w'):lf P ty e sz b s x w K t:=h
theorem K.iX{d:TypeDesc}{r:Nat}{k v:Value}{es:Array MapEntry}{c:Nat}{q:Option (Nat×Value)}{t}(h1:w.heap[r]? = some (.map es c))(U:Instr.findNow d k es.toList 0=some q)(hk:gu (fe w r (q4 es c k v q))):xj d (.map (some r)) k v w gu t:=ah8 h1 U hk
theorem K.wR{r pos:Nat}{s:ByteArray}{t}(h:w.heap[r]? = some (.stringIter s pos))(h1:pos<s.size->K (.tuple #[.bool true,.int .i64 pos,.int .i32 (Utf8.decode s pos).1]) (fe w r (.stringIter s (pos+(Utf8.decode s pos).2))))
  (U:¬pos<s.size->K (.tuple #[.bool false]) w):Gd (.pointer (some ⟨r,0,none⟩)) w K t:=aiq h h1 U
theorem K.raw{op:Op}{ty:TypeId}{v:Value}{w':World}{t}(h:(execOp (bo S) ⟨none,op,ty, "",#[],none⟩).run P w = .ok (.value v) w')(hk:K v w'):tI P op ty S w K t:=⟨v,w',.inl h,hk⟩
theorem K.call{f:FuncId}{args:List Value}{R:Value->World->Prop}{t}(h:bu P f args.toArray w R)(hk:∀v w',R v w'->K v w'):zb P f args w K t:=aaS h hk
theorem K.ff{f:FuncId}{args:List Value}{R:Value->World->Prop}{Z rE:List PanicEntry->World->Prop}{t}(h:qt P f args.toArray w R Z)(hk:∀v w',R v w'->K v w')(bN:∀c w',Z c w'->rE c w'):Gi P f args w K rE t:=qt.mono h hk bN
theorem K.Ft{f:FuncId}{L:nD}(hm:P.follows .mixedOrders=true)(aw:l3 P f=some L){args:List Value}{R:Value->World->Prop}{Z:List PanicEntry->World->Prop}(bj:args.length<=L.n)(h:dV P L.code (vZ L.res R Z ⟨⟩) (hY args 0) w ⟨⟩):qt P f args.toArray w R Z:=acn hm aw bj h
theorem K.mX{f:FuncId}{first cap:List Value}{args:List Value}{R:Value->World->Prop}{t}(aK:okF P f=true)(h:bu P f (first++args++cap).toArray w R)(hk:∀v w',R v w'->K v w'):xd P (.func (.func f) first.toArray cap.toArray) args w K t:=Or.inl (JX aK h hk)
theorem K.JW{f:FuncId}{first cap:List Value}{args:List Value}{R:Value->World->Prop}{t}(aK:okF P f=true)(h:bu P f (first++args++cap).toArray w R)(hk:∀v w',R v w'->K v w'):vt P (.func (.func f) first.toArray cap.toArray) args w K t:=JX aK h hk
theorem K.yield{l:Nat}{args:List Value}{R:Ending->World->Prop}{t}(h:YieldAt Fence.wide 0 P l args.toArray w R)(hk:∀e w',R e w'->∃v,e = .returned v/\K v w'):xd P (.func (.yield l) #[] #[]) args w K t :=
 Or.inr ⟨l,rfl,let ⟨fn,tmps,assign,body,h1,U⟩:=h; ⟨fn,tmps,assign,body,h1,U.mono hk⟩⟩
theorem K.gN{f:FuncId}{args:List Value}{t}(v:Value)(h:∀w',Ext w w'->bu P f args.toArray w' fun u b1=>u=v/\Ext w' b1)(hk:aI v):Gf P f args w aI t:=ajn v h hk
theorem K.new{n:TypeId}{cs:Array Value}{t}(hk:∀av b,w.heap.size<=b->Ext w av->av.heap[b]? = some (.cells cs n)->K (.pointer (some ⟨b,0,none⟩)) av):xk n cs w K t :=
 hk _ _ (Nat.le_refl _) ((Ext.refl w).alloc _) (heap_alloc_new w _)
theorem K.A8{t}(hk:∀av b,w.heap.size<=b->Ext w av->av.heap[b]? = some (.map #[] 0)->K (.map (some b)) av):Gb w K t:=hk _ _ (Nat.le_refl _) ((Ext.refl w).alloc _) (heap_alloc_new w _)
theorem K.wZ{s:ByteArray}{t}(hk:∀av b,w.heap.size<=b->Ext w av->av.heap[b]? = some (.stringIter s 0)->K (.pointer (some ⟨b,0,none⟩)) av):Gg (.string s) w K t :=
 ⟨s,rfl,hk _ _ (Nat.le_refl _) ((Ext.refl w).alloc _) (heap_alloc_new w _)⟩
theorem K.lv{e:TypeId}{len sz:Nat}{z cs:List Value}{dv:List (Nat×Operand)}{t}(h:eP S ((List.range len).map fun i=>(i*sz,sz)) dv z=some cs)
  (hk:∀av b,w.heap.size<=b->Ext w av->av.heap[b]? = some (.cells cs.toArray e)->K (.slice (some ⟨b,0,none⟩) len len) av):BG S e len sz z dv w K t :=
 Cf h (hk _ _ (Nat.le_refl _) ((Ext.refl w).alloc _) (heap_alloc_new w _))
theorem K.st1{b j:Nat}{c:Array Value}{e:TypeId}{v:Value}{t}(aC:w.heap[b]? = some (.cells c e))(aR:j<c.size)(aT:v.oneCell'=true)
  (hk:∀av,dA b w av->av.heap[b]? = some (.cells (c.set j v aR) e)->gu av):qv (.pointer (some (Addr.add ⟨b,0,none⟩ j))) v w gu t :=
 Yv (e2 aC (Array.getElem?_eq_getElem aR)) (by rw[add_eq];simp[World.frozen?,aC]) aT (hk _ (by have h:=dA.setCell w (Addr.add ⟨b,0,none⟩ j) v;rwa[Gp] at h) (Fl aC aR v))
theorem K.tv{b:Nat}{c:Array Value}{e:TypeId}{v:Value}{t}(aC:w.heap[b]? = some (.cells c e))(aR:0<c.size)(aT:v.oneCell'=true)
  (hk:∀av,dA b w av->av.heap[b]? = some (.cells (c.set 0 v aR) e)->gu av):qv (.pointer (some ⟨b,0,none⟩)) v w gu t :=
 K.st1 (j:=0) (t:=⟨⟩) aC aR aT hk
theorem K.jJ{b n:Nat}{c cs:Array Value}{e:TypeId}{t}(aC:w.heap[b]? = some (.cells c e))(aw:c.size=n)(aE:cs.size=n)(h1:∀x∈cs.toList,x.oneCell'=true)
  (hk:∀av,dA b w av->av.heap[b]? = some (.cells cs e)->gu av):zr n (.pointer (some ⟨b,0,none⟩)) (.agg cs) w gu t :=
 Ob aE (fun j aR=>⟨⟨_,e2 aC (Array.getElem?_eq_getElem (by omega))⟩,by rw[add_eq];simp[World.frozen?,aC]⟩) h1 (hk _ (dA.kK cs.toList w ⟨b,0,none⟩ 0) (Ye aC (by omega)))
theorem K.loop{b:fa}{t}(eo:Fr->World->Prop)(jM:Fr->World->Nat)(ak:eo S w)
  (a6:∀bh w',(∀t,b.fz.contains t=false->bh t=S t)->eo bh w'->dV P b (hr (fun fx b1=>eo fx b1/\jM fx b1<jM bh w') Q ⟨⟩) bh w' ⟨⟩):xh P b Q S w t:=ahQ eo jM ak a6
theorem K.start{f:FuncId}{L:nD}(hm:P.follows .mixedOrders=true)(aw:l3 P f=some L){args:List Value}{R:Value->World->Prop}(bj:args.length<=L.n)(h:dV P L.code (rM L.res R ⟨⟩) (hY args 0) w ⟨⟩):bu P f args.toArray w R:=enter hm aw bj h
end
attribute [irreducible] dV
attribute [irreducible] jK
attribute [irreducible] mb
attribute [irreducible] fJ
attribute [irreducible] yZ
attribute [irreducible] rO
attribute [irreducible] rG
attribute [irreducible] pE
attribute [irreducible] mN
attribute [irreducible] xc
attribute [irreducible] xd
attribute [irreducible] oc
attribute [irreducible] xo
attribute [irreducible] Gf
attribute [irreducible] BZ
attribute [irreducible] eH
attribute [irreducible] od
attribute [irreducible] ib
attribute [irreducible] xb
attribute [irreducible] gH
attribute [irreducible] xx
attribute [irreducible] BK
attribute [irreducible] oh
attribute [irreducible] ka
attribute [irreducible] jq
attribute [irreducible] BO
attribute [irreducible] zg
attribute [irreducible] FX
attribute [irreducible] F1
attribute [irreducible] F0
attribute [irreducible] FV
attribute [irreducible] BP
attribute [irreducible] FM
attribute [irreducible] tJ
attribute [irreducible] Gh
attribute [irreducible] tE
attribute [irreducible] BS
attribute [irreducible] BR
attribute [irreducible] BI
attribute [irreducible] BT
attribute [irreducible] BU
attribute [irreducible] xm
attribute [irreducible] qp
attribute [irreducible] ss
attribute [irreducible] zh
attribute [irreducible] F5
attribute [irreducible] qv
attribute [irreducible] zr
attribute [irreducible] xi
attribute [irreducible] BG
attribute [irreducible] lf
attribute [irreducible] xj
attribute [irreducible] Gd
attribute [irreducible] Gg
attribute [irreducible] tI
attribute [irreducible] zb
attribute [irreducible] Gi
attribute [irreducible] BY
attribute [irreducible] vt
attribute [irreducible] xk
attribute [irreducible] Gb
attribute [irreducible] xh
attribute [irreducible] iz
attribute [irreducible] hr pR rM vZ
end bt
end
section
namespace bt
open Go Go.RowKit
structure bE{α:Type}(sz:Nat)(R:World->Addr->α->Prop)(w:World)(v:Value)(xs:List α):Prop where
 ex:∃bm cap,v = .slice bm xs.length cap/\xs.length<=cap/\cap<=maxLen/\(xs≠[]->bm.isSome=true)/\∀a,bm=some a->∀i (h:i<xs.length),R w (a.add (i*sz)) xs[i]
theorem bE.form{α:Type}{sz:Nat}{R:World->Addr->α->Prop}{w:World}{v:Value}{xs:List α}(h:bE sz R w v xs):∃bm cap,v = .slice bm xs.length cap/\xs.length<=9223372036854775807:=by
 obtain⟨bm,cap,h1,U,ag,_⟩:=h.ex;exact⟨bm,cap,h1,by unfold maxLen at ag;omega⟩
theorem bE.addr{α:Type}{sz:Nat}{R:World->Addr->α->Prop}{w:World}{bm:Option Addr}{n c:Nat}{xs:List α}(h:bE sz R w (.slice bm n c) xs)(aE:0<xs.length):∃a,bm=some a:=by
 obtain⟨j5,cap,h1,U,ag,aJ,_⟩:=h.ex;injection h1 with h1 _ _
 subst h1;exact Option.isSome_iff_exists.1 (aJ (by intro e;subst e;simp at aE))
theorem bE.at{α:Type}{sz:Nat}{R:World->Addr->α->Prop}{w:World}{a:Addr}{n c:Nat}{xs:List α}(h:bE sz R w (.slice (some a) n c) xs)(i:Nat)(ad:i<xs.length):R w (a.add (i*sz)) xs[i]:=by
 obtain⟨j5,cap,h1,U,ag,aJ,bg⟩:=h.ex;injection h1 with h1 _ _
 subst h1;exact bg a rfl i ad
theorem bE.ext{α:Type}{sz:Nat}{R:World->Addr->α->Prop}(dE:∀w w' a x,Ext w w'->R w a x->R w' a x){w w':World}{v:Value}{xs:List α}(he:Ext w w')(h:bE sz R w v xs):bE sz R w' v xs:=by
 obtain⟨bm,cap,h1,U,ag,aJ,bg⟩:=h.ex;exact⟨bm,cap,h1,U,ag,aJ,fun a bj i ad=>dE _ _ _ _ he (bg a bj i ad)⟩
def Flat{α:Type}(enc:α->List Value)(w:World)(a:Addr)(x:α):Prop:=eS w a (enc x)
theorem Flat.ext{α:Type}{enc:α->List Value}(w w':World)(a:Addr)(x:α)(he:Ext w w')(h:Flat enc w a x):Flat enc w' a x:=eS.ext he h
def hT{ny:Type}(enc:ny->Value)(es:List MapEntry)(m:List (ny×Value)):Prop:=es.map (fun e=>(e.key,e.val))=m.map (fun p=>(enc p.1,p.2))
theorem xV{ny:Type}[DecidableEq ny]{enc:ny->Value}{d:TypeDesc}(ay:∀x y,Instr.sameNow d (enc x) (enc y)=some (decide (x=y)))(x:ny):∀(es:List MapEntry) (m:List (ny×Value)) (i:Nat),hT enc es m ->
  ∃r,Instr.findNow d (enc x) es i=some r/\r.map (·.2)=(m.find? (fun p=>decide (x=p.1))).map (·.2)
 | [],m,i,h=>by
  have:m=[]:=by cases m with | nil=>rfl | cons _ _=>simp[hT] at h
  subst this;exact⟨none,rfl,rfl⟩
 | e :: es,m,i,h=>by
  cases m with
  | nil=>simp[hT] at h
  | cons p m =>
   simp only[hT,List.map_cons,List.cons.injEq,Prod.mk.injEq] at h;obtain⟨⟨h1,U⟩,ag⟩:=h;unfold Instr.findNow;rw[h1,ay];by_cases ar:x=p.1
   .simp only[ar,decide_true];exact⟨_,rfl,by simp[U]⟩
   .simp only[ar,decide_false];obtain⟨r,aJ,bg⟩:=xV ay x es m (i+1) ag;exact⟨r,aJ,by rw[bg];simp[ar]⟩
theorem IF(x y:ByteArray):Instr.sameNow .string (.string x) (.string y)=some (decide (x=y)):=by simp[Instr.sameNow,Cc]
theorem IE(k q:IntKind)(x y:Int):Instr.sameNow (.int q) (.int k x) (.int k y)=some (decide (x=y)):=by simp[Instr.sameNow];rfl
theorem hT.push{ny:Type}{enc:ny->Value}{es:Array MapEntry}{m:List (ny×Value)}(h:hT enc es.toList m)(x:ny)(v:Value)(c:Nat):hT enc (es.push { key:=enc x,val:=v,born:=c }).toList (m++[(x,v)]):=by
 simp only[hT] at *;simp[h]
theorem KK{α:Type}{enc:α->List Value}{sz:Nat}(dm:∀x,(enc x).length=sz):∀(xs:List α) (i j:Nat) (h:i<xs.length),j<sz->(xs.flatMap enc)[i*sz+j]? = (enc xs[i])[j]?
 | [],i,j,h,_=>by simp at h
 | x :: xs,0,j,h,aR=>by
  simp only[List.flatMap_cons,Nat.zero_mul,Nat.zero_add,List.getElem_cons_zero];rw[List.getElem?_append_left (by rw[dm];exact aR)]
 | x :: xs,i+1,j,h,aR=>by
  simp only[List.flatMap_cons,List.getElem_cons_succ];rw[List.getElem?_append_right (by rw[dm,Nat.add_mul];omega),dm,show(i+1)*sz+j - sz=i*sz+j from by rw[Nat.add_mul];omega];exact KK dm xs i j (by simpa using h) aR
theorem aa5{α:Type}{enc:α->List Value}{sz:Nat}(dm:∀x,(enc x).length=sz){w:World}{b:Nat}{e:TypeId}{f:Nat×Nat}{xs:List α}(aC:w.heap[b]? = some (.cells (xs.flatMap enc).toArray e f))(i:Nat)(h:i<xs.length) :
  eS w (Addr.add ⟨b,0,none⟩ (i*sz)) (enc xs[i]):=fun j v aR=>by
 have DC:j<sz:=by rw[<-dm xs[i]];exact(List.getElem?_eq_some_iff.1 aR).1
 rw[add_add];exact e2 aC (by rw[List.getElem?_toArray,KK dm xs i j h DC];exact aR)
theorem bE.aX{α:Type}{enc:α->List Value}{sz:Nat}(dm:∀x,(enc x).length=sz){R:World->Addr->α->Prop}{w:World}{b n:Nat}{e:TypeId}{f:Nat×Nat}{xs:List α}(aC:w.heap[b]? = some (.cells (xs.flatMap enc).toArray e f))
  (aE:n=xs.length)(hm:xs.length<=maxLen)(dE:∀a x,x∈xs->eS w a (enc x)->R w a x):bE sz R w (.slice (some ⟨b,0,none⟩) n n) xs:=by
 subst aE;refine⟨_,_,rfl,Nat.le_refl _,hm,fun _=>rfl,fun a bj i ad=>?_⟩;injection bj with bj;subst bj
 exact dE _ _ (List.getElem_mem _) (aa5 dm aC i ad)
theorem bE.nil{α:Type}{sz:Nat}{R:World->Addr->α->Prop}{w:World}:bE sz R w (.slice none 0 0) ([]:List α):=⟨none,0,rfl,Nat.le_refl _,Nat.zero_le _,fun h=>absurd rfl h,fun a h=>by cases h⟩
end bt
end
section
namespace bt
open Go Go.RowKit Go.ChangeShapes Go.WideShapes Go.Deep
section
variable{H:Type}{enc:TypeId×Value->H}{P:Program}
theorem YL{w:World}:∀{cJ:List TypeId} {vs:List Value} {ds:List (DataW H)} {dv:List MemPlace},DataW.TrodAll enc P w 0 (fun _=>true) true cJ vs ds dv->∀x∈dv,x.block<w.heap.size
 | [],_,_,_,h=>by
  obtain⟨rfl,rfl,rfl⟩:=trodAll_nil h;intro x ar;cases ar
 | _ :: _,_,_,_,h=>by
  obtain⟨v,YW,d,SA,a,b,rfl,rfl,rfl,⟨m,h1⟩,U⟩:=trodAll_cons h;intro x ar;rcases List.mem_append.1 ar with ar | ar
  .exact DataW.trod_lt m _ _ _ h1 x ar
  .exact YL U x ar
theorem YK{w:World}{sp:Nat->Bool}{bx:Bool}:∀{cJ:List TypeId} {vs:List Value} {ds:List (DataW H)} {dv:List MemPlace},DataW.TrodAll enc P w 0 sp bx cJ vs ds dv->ds.length=cJ.length
 | [],_,_,_,h=>by
  obtain⟨rfl,rfl,rfl⟩:=trodAll_nil h;rfl
 | _ :: _,_,_,_,h=>by
  obtain⟨v,YW,d,SA,a,b,rfl,rfl,rfl,h1,U⟩:=trodAll_cons h;simp[YK U]
theorem YJ(aS:laidOutB P=true){W b8:World}(aC:Below W.heap.size W b8):∀{cJ:List TypeId} {vs:List Value} {ds:List (DataW H)} {dv:List MemPlace},(cJ.all fun t=>P.readableRec t&&decide (t<P.types.size))=true ->
  DataW.TrodAll enc P W 0 (fun _=>true) true cJ vs ds dv->(∀x∈dv,x.block<W.heap.size)->DataW.TrodAll enc P b8 0 (fun b=>decide (b<W.heap.size)) true cJ vs ds dv
 | [],_,_,_,_,h,_=>by
  obtain⟨rfl,rfl,rfl⟩:=trodAll_nil h;exact trodAll_mk0
 | _ :: _,_,_,_,a6,h,cv=>by
  obtain⟨v,YW,d,SA,a,b,rfl,rfl,rfl,h1,U⟩:=trodAll_cons h;simp only[List.all_cons,Bool.and_eq_true,decide_eq_true_eq] at a6;exact trodAll_cons_mk (Below.trod aS a6.1.1 a6.1.2 h1 aC fun x ar=>cv x (List.mem_append_left _ ar)) (YJ aS aC a6.2 U fun x ar=>cv x (List.mem_append_right _ ar))
theorem aoV{s:ChangeSpec}{f:Func}{tb:TypeId}(aS:laidOutB P=true)(a6:(f.params.toList.all fun t=>P.readableRec t&&decide (t<P.types.size))=true)(aT:s.vars=[])
  (wz:f.resultTypes=#[tb])(aO:P.underlying tb=some .bool)(ay:∀ds:List (DataW H),ds.length=f.params.toList.length->s.fn H ds = { results:=[.lit (.bool true)],args:=ds })
  {W b8:World}{args:Array Value}{ds gs:List (DataW H)}{before:List MemPlace}(hZ:DataW.Whole enc P f.params.toList s.vars false W args.toList ds gs before)(RY:Ext W b8) :
  s.post enc P f false true false false W args (.bool true) b8:=by
 have x6:=hZ;obtain⟨p,q,eJ,nb,rfl,an0,k0⟩:=hZ;rw[aT] at nb;obtain⟨rfl,rfl⟩:=trodVars_none nb;have cv:=YL eJ;have e:=ay ds (YK eJ);refine⟨ds,[],_,[],p,[],x6,?_,?_,?_,RY.frame _,fun h=>by cases h⟩
 .rw[List.append_nil,e,wz];exact trodAll_mk1 (shut_bool aO _)
 .rw[List.append_nil,e];exact YJ aS RY a6 eJ cv
 .rw[List.append_nil,e,aT];rfl
variable{w:World}{base:Nat}{spare:Nat->Bool}{held:Bool}
theorem MW{α:Type}(n:Nat)(R:Nat->α->Prop)(h:∀i,i<n->∃x,R i x):∃xs:List α,xs.length=n/\∀i (ad:i<xs.length),R i xs[i]:=by
 induction n with
 | zero=>exact⟨[],rfl,fun i ad=>absurd ad (Nat.not_lt_zero _)⟩
 | succ n e1 =>
  obtain⟨xs,aS,ar⟩:=e1 fun i ad=>h i (by omega);obtain⟨x,ta⟩:=h n (by omega);refine⟨xs++[x],by simp[aS],fun i ad=>?_⟩;by_cases aE:i<xs.length
  .rw[List.getElem_append_left aE];exact ar i aE
  .have:i=n:=by simp at ad;omega
   subst this;rw[List.getElem_append_right (by omega)];simpa[aS] using ta
end
theorem aa9{H:Type}{enc:TypeId×Value->H}{P:Program}{w:World}{base:Nat}{sp:Nat->Bool}{held:Bool}{fuel:Nat}{t e:TypeId}{n:Nat}{cs:List Value}{zs:List ByteArray}{p:List MemPlace}
  (aO:P.underlying t=some (.array n e))(he:P.underlying e=some .string)(fg:P.cellsOf e=1)(wi:P.cellsOf t=n)
  (h:DataW.trod enc P w base sp held fuel t cs=some (.agg (zs.map fun z=>.lit (.string z.data.toList)),p)):cs=zs.map Value.string:=by
 cases fuel with
 | zero=>simp[DataW.trod] at h
 | succ fuel =>
  simp only[DataW.trod,aO,fg,wi,Nat.mul_one] at h;split at h
  .rename_i aS;obtain⟨xs,hm,ar⟩:=Option.map_eq_some_iff.1 h;have uJ:xs.map (·.1)=zs.map fun z=>(DataW.lit (.string z.data.toList):DataW H):=by
    have:=congrArg Prod.fst ar
    simpa using this
   have te:xs.length=n:=by simpa using Lib.mapM_length hm
   have aot:zs.length=n:=by
    have:=congrArg List.length uJ
    simp at this;omega
   apply List.ext_getElem?;intro i;by_cases ad:i<n
   .obtain⟨b,aC,aK⟩:=Lib.mapM_at hm i i (by simp[ad]);obtain⟨z,aw,rfl,_⟩:=DataW.trod_string he aK;have h1:cs[i]? = some (.string z):=by
     have:=congrArg (·[0]?) aw
     simpa[List.getElem?_take,List.getElem?_drop] using this
    have U:(xs.map (·.1))[i]? = some (DataW.lit (.string z.data.toList):DataW H):=by simp[aC]
    rw[uJ] at U;simp only[List.getElem?_map,Option.map_eq_some_iff,DataW.lit.injEq,Lit.string.injEq] at U;obtain⟨Zc,D3,e⟩:=U;have aW:Zc=z:=by
     cases Zc;cases z;simp at e;simp[e]
    simp[h1,D3,aW]
   .rw[List.getElem?_eq_none (by omega),List.getElem?_eq_none (by simp;omega)]
  .cases h
theorem apw{P:Program}{W:World}{name:String}{zs:List ByteArray}{rest:List (String×DataW Unit)}{g:Nat}{t e:TypeId}{n:Nat}
  (a1:P.globalNamed name=some g)(agn:(P.globals[g]?).map (·.type)=some t)(aO:P.underlying t=some (.array n e))(he:P.underlying e=some .string)(fg:P.cellsOf e=1)(wi:P.cellsOf t=n)
  (h:laidMet P ((name,.agg (zs.map fun z=>.lit (.string z.data.toList))) :: rest) W):eS W ⟨g,0,none⟩ (zs.map Value.string):=by
 obtain⟨dv,⟨ani,hg,cs,fuel,p,q,ae8,wB,agp,bx,_,_⟩,_⟩:=h;obtain rfl:=Option.some.inj (a1.symm.trans ae8);obtain rfl:=Option.some.inj (agn.symm.trans wB);have e:=aa9 aO he fg wi bx;intro j v aR
 have:=World.var?_cell a1 agp j
 rw[show Addr.add ⟨g,0,none⟩ j=⟨g,j,none⟩ from by cases j<;>simp[Addr.add],this,Array.getElem?_toList.symm,e];exact aR
end bt
end
section
namespace bt
open Go Go.RowKit
theorem Ext.grown{w0 w w':World}{r:Option Nat}(he:Ext w0 w)(a1:w.grownBy w' r)(a6:∀k,r=some k->w0.heap.size<=k):Ext w0 w':=Below.grown he a1 he.size a6
theorem aiS{w w':World}{base:Nat}{e:TypeId}{sz:Nat}{v:Value}{n:Nat}{xs:List Value}(he:Ext w w')(h:w.ownsRow base e sz v n xs):w'.ownsRow base e sz v n xs:=by
 refine⟨h.1,?_⟩;rcases h.2 with aE | ⟨g,cap,cur,rfl,aC,Al,rest⟩
 .exact .inl aE
 .exact .inr ⟨g,cap,cur,rfl,aC,he.obj Al,rest⟩
theorem aiT{w:World}{base zB:Nat}{e:TypeId}{sz:Nat}{v:Value}{n:Nat}{xs:List Value}(aC:zB<=base)(h:w.ownsRow base e sz v n xs):w.ownsRow zB e sz v n xs:=by
 refine⟨h.1,?_⟩;rcases h.2 with aE | ⟨g,cap,cur,rfl,qL,rest⟩
 .exact .inl aE
 .exact .inr ⟨g,cap,cur,rfl,Nat.le_trans aC qL,rest⟩
theorem W4{w:World}{base:Nat}{e:TypeId}{sz:Nat}{v:Value}{n:Nat}{xs:List Value}(h:w.ownsRow base e sz v n xs):∃bm cap,v = .slice bm n cap/\n<=cap/\cap<=maxLen/\(n≠0->bm.isSome=true)/\∀a,bm=some a->eS w a xs:=by
 rcases h.2 with ⟨rfl,rfl⟩ | ⟨g,cap,cur,rfl,aC,Al,h1,U,ag,aJ⟩
 .exact⟨none,0,rfl,Nat.le_refl _,Nat.zero_le _,fun h=>absurd rfl h,fun a bj=>by cases bj⟩
 .exact⟨_,cap,rfl,h1,U,fun _=>rfl,fun a bj=>by injection bj with bj;subst bj;exact fun j u aR=>h.cells (g:=g) rfl j u aR⟩
theorem aiU{α:Type}{enc:α->List Value}{w:World}{base:Nat}{e:TypeId}{sz:Nat}{v:Value}{xs:List α}(dm:∀x,(enc x).length=sz)(h:w.ownsRow base e sz v xs.length (xs.flatMap enc)):bE sz (Flat enc) w v xs:=by
 obtain⟨bm,cap,rfl,h1,U,ag,aJ⟩:=W4 h;refine⟨bm,cap,rfl,h1,U,fun aE=>ag (by intro e;exact aE (List.eq_nil_of_length_eq_zero e)),fun a bj i ad=>?_⟩;intro j u aR;have DC:j<sz:=by rw[<-dm xs[i]];exact(List.getElem?_eq_some_iff.1 aR).1
 rw[add_add];exact aJ a bj _ _ (by rw[KK dm xs i j ad DC];exact aR)
theorem K.Z6{P:Program}{c9:Value->World->Prop}{w:World}{ty e:TypeId}{sz b:Nat}{s:Value}{a:Addr}{m c:Nat}{t}{base n:Nat}{xs news:List Value}(ay:w.ownsRow base e sz s n xs)(aw:eS w a news)(aS:news.length=m*sz)
  (h1:∀u∈news,u.oneCell'=true)(ki:n+m<=maxLen)(aC:(n+m)*b<=140737488355328)(jx:base<=w.heap.size)
  (hk:∀cf w',w'.ownsRow base e sz cf (n+m) (xs++news)->w.grownBy w' s.ownBlock->c9 cf w'):lf P ty e sz b s (.slice (some a) m c) w c9 t :=
 K.app fun⟨aO,i,z,ad,bN,Ay,Ad,yr,dm⟩=>by
  obtain⟨cf,w',a6,U,ag,_⟩:=run_append_own (P:=P) w base ty ty e i z sz b aO ad bN Ay Ad yr dm s n xs ay a m c news aS aw h1 ki aC jx;exact⟨ty,cf,w',a6,hk cf w' U ag⟩
theorem add_zero(a:Addr):a.add 0=a:=by simp[Addr.add]
theorem bE.cap{α:Type}{sz:Nat}{R:World->Addr->α->Prop}{w:World}{bm:Option Addr}{n c:Nat}{xs:List α}(h:bE sz R w (.slice bm n c) xs):xs.length<=c:=by
 obtain⟨j5,cap,e,U,ag,aJ,bg⟩:=h.ex;injection e with bR aW bJ
 subst bJ;exact U
theorem bE.take{α:Type}{sz:Nat}{R:World->Addr->α->Prop}{w:World}{bm:Option Addr}{n c:Nat}{xs:List α}(h:bE sz R w (.slice bm n c) xs)(k:Nat)(hk:k<=xs.length) :
  bE sz R w (.slice (if c=0 then bm else bm.map (·.add (0*sz))) (k - 0) (c - 0)) (xs.take k):=by
 obtain⟨j5,cap,e,U,ag,aJ,bg⟩:=h.ex;injection e with bR aW bJ
 subst bR aW bJ;have e:(if c=0 then bm else bm.map (·.add (0*sz)))=bm:=by
  split
  .rfl
  .cases bm with
   | none=>rfl
   | some a=>simp[add_zero]
 rw[e];refine⟨bm,c,by simp[List.length_take,Nat.min_eq_left hk],by simp[List.length_take];omega,ag,fun aE=>aJ (by intro e;subst e;simp at aE),fun a bj i ad=>?_⟩;have cO:i<xs.length:=by simp[List.length_take] at ad;omega
 rw[List.getElem_take];exact bg a bj i cO
theorem To{α:Type}{enc:α->List Value}{sz:Nat}(dm:∀x,(enc x).length=sz):∀(xs:List α) (p:Nat) (v:Value),(xs.flatMap enc)[p]? = some v->∃i j,∃h:i<xs.length,j<sz/\p=i*sz+j/\(enc xs[i])[j]? = some v
 | [],p,v,h=>by simp at h
 | x :: xs,p,v,h=>by
  rw[List.flatMap_cons] at h;by_cases aN:p<sz
  .rw[List.getElem?_append_left (by rw[dm];exact aN)] at h;exact⟨0,p,by simp,aN,by simp,h⟩
  .rw[List.getElem?_append_right (by rw[dm];omega),dm] at h;obtain⟨i,j,ad,aR,e,U⟩:=To dm xs (p - sz) v h;exact⟨i+1,j,by simpa using ad,aR,by rw[Nat.add_mul];omega,by simpa using U⟩
theorem bE.flat{α:Type}{enc:α->List Value}{sz:Nat}{R:World->Addr->α->Prop}{w:World}{a:Addr}{n c:Nat}{xs:List α}(dm:∀x,(enc x).length=sz)(dE:∀a x,R w a x->eS w a (enc x))
  (h:bE sz R w (.slice (some a) n c) xs):eS w a (xs.flatMap enc):=by
 intro p v aN;obtain⟨i,j,ad,aR,rfl,U⟩:=To dm xs p v aN
 have:=dE _ _ (h.at i ad) j v U
 rwa[add_add] at this
theorem xX{α:Type}{enc:α->List Value}{sz:Nat}(dm:∀x,(enc x).length=sz):∀(xs:List α),(xs.flatMap enc).length=xs.length*sz
 | []=>by simp
 | x :: xs=>by rw[List.flatMap_cons,List.length_append,xX dm xs,dm,List.length_cons,Nat.add_mul];omega
theorem K.cut{P:Program}{Q:dW->Fr->World->Prop}{S:Fr}{w:World}{a b:fa}{t}(N:Fr->World->Prop)(h1:dV P a (hr N Q ⟨⟩) S w ⟨⟩)
  (U:∀bh w',(∀t,a.fz.contains t=false->bh t=S t)->N bh w'->dV P b Q bh w' ⟨⟩):dV P (.seq a b) Q S w t:=by
 unfold dV hr at *;exact oM a _ _ S w (fun e bh w' ay h=>match e,h with | .normal,h=>U bh w' ay h | .exit _,h=>h | .ret,h=>h | .fV _,h=>h) h1
theorem K.WN{P:Program}{hg:TypeId}{dh da:Operand}{aI:Value->Prop}{a b:Bool}{t}(h:P.underlying hg=some .bool)(hk:aI (.bool (a != b))):gH P .neq hg dh da (.bool a) (.bool b) aI t :=
 K.bin (v:=.bool (a != b)) (fun w=>by cases a<;>cases b<;>simp[eqGuard_at_bool,binOp,run_equal_bool w hg _ _ h]) hk
theorem aiR{w:World}{base:Nat}{e:TypeId}{sz b:Nat}(aC:base<=b)(h:w.heap[b]? = some (.cells #[] e)):w.ownsRow base e sz (.slice (some ⟨b,0,none⟩) 0 0) 0 [] :=
 ⟨by simp,.inr ⟨b,0,#[],rfl,aC,h,Nat.le_refl _,Nat.zero_le _,by simp,by simp⟩⟩
end bt
end
section
namespace bt
open Go Go.RowKit
class nB{α:Type}(R:World->Addr->α->Prop)(enc:outParam (α->List Value)):Prop where
 Gz:∀w a x,R w a x->eS w a (enc x)
instance aov{α:Type}(enc:α->List Value):nB (Flat enc) enc:=⟨fun _ _ _ h=>h⟩
section
variable{P:Program}{Q:dW->Fr->World->Prop}{aI:Value->Prop}{K:Value->World->Prop}{S:Fr}{w w0:World}
theorem K.ti{b j:Nat}{c:List Value}{ty:TypeId}{f:Nat×Nat}{v:Value}{t}(aC:w0.heap[b]? = some (.cells c.toArray ty f))(he:Ext w0 w)(aR:c[j]? = some v)(hk:aI v):qp (.pointer (some (Addr.add ⟨b,0,none⟩ j))) w aI t :=
 K.ld (e2 (he.obj aC) (by simpa using aR)) hk
theorem K.q1{b:Nat}{c:List Value}{ty:TypeId}{f:Nat×Nat}{v:Value}{t}(aC:w0.heap[b]? = some (.cells c.toArray ty f))(he:Ext w0 w)(aR:c[0]? = some v)(hk:aI v):qp (.pointer (some ⟨b,0,none⟩)) w aI t :=
 K.ld (zK (he.obj aC) (by simpa using aR)) hk
theorem K.gV{b n:Nat}{c:List Value}{ty:TypeId}{f:Nat×Nat}{t}(aC:w0.heap[b]? = some (.cells c.toArray ty f))(he:Ext w0 w)(aE:c.length=n)(hk:aI (.agg c.toArray)):ss n (.pointer (some ⟨b,0,none⟩)) w aI t :=
 K.j3 (hj (he.obj aC)) aE hk
theorem K.uU{α:Type}{sz i j n c:Nat}{R:World->Addr->α->Prop}{enc:α->List Value}[nB R enc]{a:Addr}{xs:List α}{v:Value}{t}(aS:bE sz R w0 (.slice (some a) n c) xs)(he:Ext w0 w)(ad:i<xs.length)(aR:(enc xs[i])[j]? = some v)
  (hk:aI v):qp (.pointer (some ((a.add (i*sz)).add j))) w aI t:=K.ld (he.cell (nB.Gz _ _ _ (aS.at i ad) j v aR)) hk
theorem K.uV{α:Type}{i n c:Nat}{R:World->Addr->α->Prop}{enc:α->List Value}[nB R enc]{a:Addr}{xs:List α}{v:Value}{t}(aS:bE 1 R w0 (.slice (some a) n c) xs)(he:Ext w0 w)(ad:i<xs.length)(aR:(enc xs[i])[0]? = some v)
  (hk:aI v):qp (.pointer (some (a.add (i*1)))) w aI t:=by
 have h:=nB.Gz (R:=R) _ _ _ (aS.at i ad) 0 v aR;rw[add_zero] at h;exact K.ld (he.cell h) hk
theorem K.uT{α:Type}{sz i n c m:Nat}{R:World->Addr->α->Prop}{enc:α->List Value}[nB R enc]{a:Addr}{xs:List α}{t}(aS:bE sz R w0 (.slice (some a) n c) xs)(he:Ext w0 w)(ad:i<xs.length)(aE:(enc xs[i]).length=m)
  (hk:aI (.agg (enc xs[i]).toArray)):ss m (.pointer (some (a.add (i*sz)))) w aI t:=K.j3 ((nB.Gz _ _ _ (aS.at i ad)).ext he) aE hk
theorem K.sF{p:Prop}[Decidable p]{A B:Prop}{t}(h:p)(hk:A):ka (.bool (decide p)) A B t:=K.cond (fun _=>hk) fun bF=>absurd h bF
theorem K.tS{p:Prop}[Decidable p]{A B:Prop}{t}(h:¬p)(hk:B):ka (.bool (decide p)) A B t:=K.cond (fun bF=>absurd bF h) fun _=>hk
theorem K.qB{u:Bool}{A B:Prop}{t}(h:u=true)(hk:A):ka (.bool u) A B t:=K.dp (fun _=>hk) fun bF=>by rw[h] at bF;cases bF
theorem K.rL{u:Bool}{A B:Prop}{t}(h:u=false)(hk:B):ka (.bool u) A B t:=K.dp (fun bF=>by rw[h] at bF;cases bF) fun _=>hk
theorem K.uL{sz:Nat}{a:Addr}{len cap:Nat}{k:IntKind}{i:Nat}{t}(h:i<len)(hk:aI (.pointer (some (a.add (i*sz))))):zg sz (.slice (some a) len cap) (.int k (i:Int)) aI t:=K.dD i rfl h hk
theorem K.tm{d n:Nat}{ty:TypeId}{cs:Array Value}{x:Operand}{r:List Step}{c9:Fr->World->Prop}{vs:List Value}{t1 t}(ar:∀v,bo (cm S d v) x = .agg vs.toArray)(aE:vs.length=n)(aw:cs.size=n)(h1:∀u∈vs,u.oneCell'=true)
  (hk:∀av b,w.heap.size<=b->Ext w av->av.heap[b]? = some (.cells vs.toArray ty)->jK P r (cm S d (.pointer (some ⟨b,0,none⟩))) av c9 ⟨⟩) :
  xk ty cs w (fun v w'=>jK P (⟨none,none,.e (.ri n (.tmp d) x)⟩ :: r) (put S (some d) v) w' c9 t1) t:=by
 refine K.new fun av b aC he dt=>?_;simp -dsimp only[OM,ON,OO,OP,OQ,OR,OS,OT,OU,OV,OX,vp,vq,OY,OZ,O0,O1,O2,O3,cF,O4,O5,O6,O7,O8,O9,Pa,Pb,Pc,Pd,sq,Pg,Ph,Pj,Pk,Pl,Pm,Pn,Po,Pp,xf,iP,c6,fj,en,hS,lg,jN,kP,jO,Pv,Pw,Px,Py,Pz,PA,PB,PC,PD,PE,PF,H1,PG,PH,PI,PJ,PK,PL,PM,PN,PO,PQ,PR,PS,PT,PU,PV,PW,PX,PY,PZ,P0,P1,P2,P3,P4,P5,P6,P7,P8,Qc,Qd,M2,Qe,Qf,Qg,Qh,Qi,Qj,Qk,Ql,Qm,Qn,Qo,Qp,Qq,Qr,Qs,Qt,Qu,Qw,Qx,Qy,Qz,QA,QB,QC,QD,QE,QF,QG,QH,QI,QJ,QK,QL,QM,QN,QO,QP,QR,B1,B2,QS,QT,QU,QV,QW,QX,QY,Q3,Q4,Q5,Q6,Q7,Q8,Q9,Ra,Rb,Rc,Rf,Rg,Rh,Ri,Rj,Rk,Rl,Rm,Rn,Ro,Rp,Rq,Rr,Rs,Rt,Ru,Rv,Rw,Rx,Ry,Rz,hV,eI,mU,Nat.reduceAdd,Nat.reduceEqDiff,reduceIte,reduceCtorEq,db,ar];refine K.jJ (cs:=vs.toArray) dt aw (by simpa using aE) (by simpa using h1) fun aU hw aQ=>?_;exact hk aU b aC (hw.ext he aC) aQ
theorem K.zY{b:fa}{t}(i N:Nat)(ic:Nat->Fr->World->Prop)(LM:S i = .int .i64 0)(ak:ic 0 S w)
  (a6:∀(k:Nat) bh w',(∀t,b.fz.contains t=false->bh t=S t)->k<=N->bh i = .int .i64 k->ic k bh w' ->
   dV P b (hr (fun fx b1=>k<N/\fx i = .int .i64 ((k:Int)+1)/\ic (k+1) fx b1) Q ⟨⟩) bh w' ⟨⟩):xh P b Q S w t:=by
 refine K.loop (fun S w => ∃k:Nat,k<=N/\S i = .int .i64 k/\ic k S w) (fun S _=>(N - intOf (S i)).toNat) ⟨0,Nat.zero_le _,by simpa using LM,ak⟩ ?_;rintro bh w' cq ⟨k,hk,ad,aR⟩;have h:=a6 k bh w' cq hk ad aR;unfold dV hr at *;refine oM b _ _ bh w' (fun e fx b1 _ h=>?_) h
 match e,h with
 | .normal,⟨h1,U,ag⟩=>exact⟨⟨k+1,h1,by simpa using U,ag⟩,by simp[ad,U,intOf];omega⟩
 | .exit _,h=>exact h
 | .ret,h=>exact h
 | .fV _,h=>exact h
theorem K.sa{gu:World->Prop}{d:TypeDesc}{r:Nat}{k v:Value}{es:Array MapEntry}{c:Nat}{t}(h1:w.heap[r]? = some (.map es c))(U:Instr.findNow d k es.toList 0=some none)
  (hk:∀av,dA r w av->av.heap[r]? = some (.map (es.push { key:=k,val:=v,born:=c }) (c+1))->gu av):xj d (.map (some r)) k v w gu t :=
 K.iX h1 U (hk _ (dA.fe _ _ _) (Br (cG h1)))
theorem K.tt{sz:Nat}{bm:Option Addr}{n cap:Nat}{x:Operand}{k:IntKind}{t}(h:Nat)(ar:bo S x = .int k (h:Int))(dt:h<=cap)(hk:aI (.slice bm h cap)):tJ S sz (.slice bm n cap) none (some x) none aI t:=by
 refine K.hQ 0 h cap (by simp[fm]) (by simp[fm,ar]) (by simp[fm]) ⟨Nat.zero_le _,dt,Nat.le_refl _⟩ (by simp) ?_;have e:(if cap=0 then bm else bm.map (·.add (0*sz)))=bm:=by
  split
  .rfl
  .cases bm with
   | none=>rfl
   | some a=>simp[add_zero]
 rw[e];exact hk
theorem K.akS{sz:Nat}{bm:Option Addr}{n cap:Nat}{x:Operand}{k:IntKind}{t}(l:Nat)(ar:bo S x = .int k (l:Int))(aS:l<=n/\n<=cap)(hk:aI (.slice (if cap=l then bm else bm.map (·.add (l*sz))) (n - l) (cap - l))) :
  tJ S sz (.slice bm n cap) (some x) none none aI t :=
 K.hQ l n cap (by simp[fm,ar]) (by simp[fm]) (by simp[fm]) ⟨aS.1,aS.2,Nat.le_refl _⟩ (by simp) hk
end
theorem bE.head{α:Type}{sz:Nat}{R:World->Addr->α->Prop}{w:World}{bm:Option Addr}{n c:Nat}{xs:List α}(h:bE sz R w (.slice bm n c) xs)(k:Nat)(hk:k<=xs.length):bE sz R w (.slice bm k c) (xs.take k):=by
 have:=h.take k hk
 have e:(if c=0 then bm else bm.map (·.add (0*sz)))=bm:=by
  split
  .rfl
  .cases bm with
   | none=>rfl
   | some a=>simp[add_zero]
 rw[e] at this;exact this
theorem bE.len{α:Type}{sz:Nat}{R:World->Addr->α->Prop}{w:World}{bm:Option Addr}{n c:Nat}{xs:List α}(h:bE sz R w (.slice bm n c) xs):n=xs.length/\n<=c/\c<=maxLen:=by
 obtain⟨j5,cap,e,U,ag,_⟩:=h.ex;injection e with bR aW bJ
 subst aW bJ;exact⟨rfl,U,ag⟩
theorem bE.tail{α:Type}{sz:Nat}{R:World->Addr->α->Prop}{w:World}{bm:Option Addr}{n c:Nat}{xs:List α}(h:bE sz R w (.slice bm n c) xs)(l:Nat)(aS:l<=xs.length) :
  bE sz R w (.slice (if c=l then bm else bm.map (·.add (l*sz))) (n - l) (c - l)) (xs.drop l):=by
 obtain⟨bR,aW,bJ⟩:=h.len;subst bR;obtain⟨j5,cap,e,U,ag,aJ,bg⟩:=h.ex;injection e with bR aW bJ
 subst bR bJ;refine⟨_,_,by rw[List.length_drop],by rw[List.length_drop];omega,by omega,fun aE=>?_,fun a bj i ad=>?_⟩
 .have:xs≠[]:=by intro e;subst e;simp at aE
  have:=aJ this
  split
  .exact this
  .cases bm with
   | none=>cases this
   | some a=>rfl
 .have cO:l+i<xs.length:=by rw[List.length_drop] at ad;omega
  rw[if_neg (by omega)] at bj;cases bm with
  | none=>cases bj
  | some b =>
   simp only[Option.map_some,Option.some.injEq] at bj;subst bj;rw[add_add,<-Nat.add_mul,List.getElem_drop];exact bg b rfl _ cO
structure Mod(A:Nat->Prop)(w w':World):Prop where
 os:w'.os=w.os
 tape:w'.tape=w.tape
 output:w'.output=w.output
 size:w.heap.size<=w'.heap.size
 block:∀k,k<w.heap.size->¬A k->w'.heap[k]? = w.heap[k]?
theorem Mod.refl(A:Nat->Prop)(w:World):Mod A w w:=⟨rfl,rfl,rfl,Nat.le_refl _,fun _ _ _=>rfl⟩
theorem Mod.trans{A:Nat->Prop}{a b c:World}(h:Mod A a b)(k:Mod A b c):Mod A a c :=
 ⟨k.os.trans h.os,k.tape.trans h.tape,k.output.trans h.output,Nat.le_trans h.size k.size,fun i ad aE=>(k.block i (Nat.lt_of_lt_of_le ad h.size) aE).trans (h.block i ad aE)⟩
theorem Mod.then{A B:Nat->Prop}{a b c:World}(h:Mod B a b)(k:Mod A b c)(ay:∀i,i<a.heap.size->A i->B i):Mod B a c :=
 ⟨k.os.trans h.os,k.tape.trans h.tape,k.output.trans h.output,Nat.le_trans h.size k.size,fun i ad aE=>(k.block i (Nat.lt_of_lt_of_le ad h.size) fun e=>aE (ay i ad e)).trans (h.block i ad aE)⟩
theorem Ext.mod{A:Nat->Prop}{w w':World}(h:Ext w w'):Mod A w w':=⟨h.os,h.tape,h.output,h.size,fun _ hk _=>h.heap hk⟩
theorem dA.mod{A:Nat->Prop}{b:Nat}{w w':World}(h:dA b w w')(aC:A b):Mod A w w':=⟨h.os,h.tape,h.output,by rw[h.size];exact Nat.le_refl _,fun k _ aE=>h.block k fun e=>aE (e ▸ aC)⟩
theorem Mod.grown{A:Nat->Prop}{w w':World}{row:Option Nat}(h:w.grownBy w' row)(a6:∀k,row=some k->A k):Mod A w w':=⟨h.os,h.tape,h.output,h.size,fun k hk aE=>h.block k hk fun e=>aE (a6 k e.symm)⟩
theorem Mod.ext{A:Nat->Prop}{w0 w w':World}(h:Mod A w w')(he:Ext w0 w)(eJ:∀k,k<w0.heap.size->¬A k):Ext w0 w' :=
 ⟨h.os.trans he.os,h.tape.trans he.tape,h.output.trans he.output,Nat.le_trans he.size h.size,fun k hk=>(h.block k (Nat.lt_of_lt_of_le hk he.size) (eJ k hk)).trans (he.heap hk)⟩
theorem Mod.obj{A:Nat->Prop}{w w':World}{k:Nat}{al:Obj}(h:Mod A w w')(aE:¬A k)(hk:w.heap[k]? = some al):w'.heap[k]? = some al:=(h.block k (cG hk) aE).trans hk
theorem Mod.I8{A B:Nat->Prop}{w w':World}(h:Mod A w w')(ay:∀k,A k->B k):Mod B w w':=⟨h.os,h.tape,h.output,h.size,fun k hk aE=>h.block k hk fun e=>aE (ay k e)⟩
def bs{α:Type}(enc:α->List Value)(e:TypeId)(sz base:Nat)(w:World)(v:Value)(xs:List α):Prop:=w.ownsRow base e sz v xs.length (xs.flatMap enc)
section
variable{α:Type}{enc:α->List Value}{e:TypeId}{sz base:Nat}{w w':World}{v:Value}{xs:List α}
theorem bs.nil(enc:α->List Value)(e:TypeId)(sz base:Nat)(w:World):bs enc e sz base w (.slice none 0 0) []:=World.ownsRow_nil w base e sz
theorem bs.ext(he:Ext w w')(h:bs enc e sz base w v xs):bs enc e sz base w' v xs:=aiS he h
theorem bs.wr{b:Nat}(hw:dA b w w')(aC:b<base)(h:bs enc e sz base w v xs):bs enc e sz base w' v xs :=
 World.ownsRow.kept (row:=some b) h ⟨hw.os,hw.tape,hw.output,by rw[hw.size];exact Nat.le_refl _,fun k _ hk=>hw.block k (fun e=>hk (by rw[e]))⟩ (by
  cases aT:v.ownBlock with
  | none=>exact .inl rfl
  | some k=>exact .inr (by have:=(World.ownsRow.lt h k aT).1;intro e;injection e with e;omega))
theorem bs.lt(h:bs enc e sz base w v xs):∀k,v.ownBlock=some k->base<=k/\k<w.heap.size:=World.ownsRow.lt h
theorem bs.form(h:bs enc e sz base w v xs):∃bm cap,v = .slice bm xs.length cap/\xs.length<=cap/\cap<=maxLen:=by
 obtain⟨bm,cap,h1,U,ag,_⟩:=W4 h;exact⟨bm,cap,h1,U,ag⟩
theorem bs.py(dm:∀x,(enc x).length=sz)(h:bs enc e sz base w v xs):bE sz (Flat enc) w v xs:=aiU dm h
theorem bs.head{bm:Option Addr}{n cap:Nat}(dm:∀x,(enc x).length=sz)(h:bs enc e sz base w (.slice bm n cap) xs)(k:Nat)(hk:k<=xs.length):bs enc e sz base w (.slice bm k cap) (xs.take k):=by
 have nO:∀(xs:List α) (k:Nat),(xs.flatMap enc).take (k*sz)=(xs.take k).flatMap enc:=by
  intro xs
  induction xs with
  | nil=>intro k;simp
  | cons x xs e1 =>
   intro k;cases k with
   | zero=>simp
   | succ k =>
    simp only[List.flatMap_cons,List.take_succ_cons];rw[List.take_append,dm,show(k+1)*sz - sz=k*sz from by rw[Nat.add_mul];omega,e1,List.take_of_length_le (by rw[dm,Nat.add_mul];omega)]
 have aS:(xs.take k).length=k:=by simp[List.length_take];omega
 refine⟨by rw[aS,xX dm,aS],?_⟩;rcases h.2 with ⟨h1,U⟩ | ⟨g,o1,cur,h1,U,ag,aJ,bg,bS,cj⟩
 .injection h1 with bR aW bJ
  subst bR bJ
  have:xs.length=0:=U
  exact .inl ⟨by congr 1;omega,by omega⟩
 .injection h1 with bR aW bJ
  subst bR bJ;refine .inr ⟨g,cap,cur,by rw[aS],U,ag,by omega,bg,bS,?_⟩;rw[aS,<-nO,<-cj,List.take_take,Nat.min_eq_left (Nat.mul_le_mul_right _ hk)]
theorem K.sB{P:Program}{c9:Value->World->Prop}{ty:TypeId}{b:Nat}{s:Value}{a:Addr}{m c:Nat}{ys:List α}{t}(ay:bs enc e sz base w s xs)(dm:∀x,(enc x).length=sz)(aw:eS w a (ys.flatMap enc))(hm:m=ys.length)
  (h1:∀y,∀u∈enc y,u.oneCell'=true)(aC:(xs.length+ys.length)*b<=140737488355328)(ki:xs.length+ys.length<=maxLen)(jx:base<=w.heap.size)
  (hk:∀cf w',bs enc e sz base w' cf (xs++ys)->w.grownBy w' s.ownBlock->c9 cf w'):lf P ty e sz b s (.slice (some a) m c) w c9 t:=by
 subst hm;refine K.Z6 ay aw (xX dm ys) (fun u hu=>by obtain⟨y,_,b2⟩:=List.mem_flatMap.1 hu;exact h1 y u b2) ki aC jx fun cf w' nR a1=>hk cf w' ?_ a1;unfold bs;rw[List.length_append,List.flatMap_append];exact nR
end
end bt
end
section
namespace bt
open Go Go.RowKit
section
variable{P:Program}{c9:Value->World->Prop}{α:Type}{enc:α->List Value}{e:TypeId}{sz base zB:Nat}{w:World}{s x:Value}{xs ys:List α}
theorem K.zz{ty:TypeId}{b:Nat}{t}(ay:bs enc e sz base w s xs)(ar:bs enc e sz zB w x ys)(dm:∀x,(enc x).length=sz)(h1:∀y,∀u∈enc y,u.oneCell'=true)(aC:(xs.length+ys.length)*b<=140737488355328)
  (ki:xs.length+ys.length<=maxLen)(jx:base<=w.heap.size)(hk:∀cf w',bs enc e sz base w' cf (xs++ys)->w.grownBy w' s.ownBlock->c9 cf w'):lf P ty e sz b s x w c9 t:=by
 rcases ar.2 with ⟨rfl,ak⟩ | ⟨g,cap,cur,rfl,Hk,a1,ag,aJ,bg,bS⟩
 .have:ys=[]:=List.eq_nil_of_length_eq_zero ak
  subst this;rw[List.append_nil] at hk;refine K.app fun⟨aO,i,z,ad,bN,Ay,Ad,yr,HV⟩=>?_;exact⟨ty,s,w,run_append_owned_none w base ty ty e i sz aO ad s _ _ ay,hk s w ay ⟨rfl,rfl,rfl,Nat.le_refl _,fun _ _ _=>rfl⟩⟩
 .exact K.sB ay dm (fun j u aR=>World.ownsRow.cells ar (g:=g) rfl j u aR) rfl h1 aC ki jx hk
theorem K.Z5{R:World->Addr->α->Prop}[nB R enc]{ty:TypeId}{b:Nat}{a:Addr}{m c:Nat}{t}(ay:bs enc e sz base w s xs)(ar:bE sz R w (.slice (some a) m c) ys)(dm:∀x,(enc x).length=sz)(h1:∀y,∀u∈enc y,u.oneCell'=true)
  (aC:(xs.length+ys.length)*b<=140737488355328)(ki:xs.length+ys.length<=maxLen)(jx:base<=w.heap.size)(hk:∀cf w',bs enc e sz base w' cf (xs++ys)->w.grownBy w' s.ownBlock->c9 cf w'):lf P ty e sz b s (.slice (some a) m c) w c9 t :=
 K.sB ay dm (bE.flat (enc:=enc) dm (fun a x h=>nB.Gz _ a x h) ar) ar.len.1 h1 aC ki jx hk
theorem bs.empty{b:Nat}(aC:base<=b)(h:w.heap[b]? = some (.cells #[] e)):bs enc e sz base w (.slice (some ⟨b,0,none⟩) 0 0) ([]:List α):=aiR aC h
theorem bs.low{v:Value}(aC:zB<=base)(h:bs enc e sz base w v xs):bs enc e sz zB w v xs:=aiT aC h
end
end bt
end
section
namespace bt
open Go
def ab(n:Nat):Operand:=.tmp n
def aj(n:Int):Operand:=.const (.int .i64 n)
def bU(b:Bool):Operand:=.const (.bool b)
def bc(d:Nat)(i:vB):Step:=⟨some d,none,.p i⟩
def n2(d:Nat)(i:tH):Step:=⟨some d,none,.r i⟩
def aG(d:Nat)(i:rq):Step:=⟨some d,none,.e i⟩
def dd(d:Nat)(i:pC):Step:=⟨some d,none,.c i⟩
def hF(i:rq):Step:=⟨none,none,.e i⟩
def vo(j:Nat)(b:Bool)(s:Step):Step:=⟨s.dst,some (j,b),s.i⟩
def I(d n:Nat):Step:=⟨some d,none,.p (.qd (.tmp n))⟩
def ai(d:Nat)(x:Operand):Step:=⟨some d,none,.p (.qd x)⟩
def ah(d k n:Nat):Step:=⟨some d,none,.p (.iE k (.tmp n))⟩
def ae(d n:Nat):Step:=⟨some d,none,.r (.ld (.tmp n))⟩
def bn(d k a i:Nat):Step:=⟨some d,none,.p (.gB k (.tmp a) (.tmp i))⟩
def ys(a v:Nat):Step:=⟨none,none,.e (.st (.tmp a) (.tmp v))⟩
def bK(d n:Nat):Step:=⟨some d,none,.p (.AI (.tmp n))⟩
def au:Value:=.int .i64 0
def aH:Value:=.slice none 0 0
def cK:Value:=.string ⟨#[]⟩
def bl(op:BinOp)(t:TypeId)(d a b:Nat):Step:=⟨some d,none,.p (.bin op t (.tmp a) (.tmp b))⟩
def az(op:BinOp)(t:TypeId)(d a:Nat)(n:Int):Step:=⟨some d,none,.p (.bin op t (.tmp a) (.const (.int .i64 n)))⟩
def de(d a b:Nat):Step:=⟨some d,none,.p (.pick (.tmp a) (.tmp b) (.const (.bool false)))⟩
def ch(d a b:Nat):Step:=⟨some d,none,.p (.pick (.tmp a) (.const (.bool true)) (.tmp b))⟩
def J(b7:List Step)(b:fa):fa:=.seq (.bO b7) b
def aF(n:Nat)(a b:fa):fa:=.cond (.tmp n) a b
def bd(d k n:Nat):Step:=⟨some d,none,.r (.j3 k (.tmp n))⟩
def cg(k a v:Nat):Step:=⟨none,none,.e (.ri k (.tmp a) (.tmp v))⟩
def hE(d n:Nat):Step:=⟨some d,none,.p (.A9 (.tmp n))⟩
def bD(d n i:Nat):Step:=⟨some d,none,.p (.ext (.tmp n) i)⟩
def aY(d:Nat)(f:FuncId)(l:List Nat):Step:=⟨some d,none,.c (.fn f (l.map .tmp))⟩
def eW(n m:Nat)(b:fa):fa:=.seq (.cond (.tmp n) .skip (.exit m)) b
def aV(n:Nat)(s:Step):Step:=vo n true s
def ao(n:Nat)(s:Step):Step:=vo n false s
def an(s:Step)(k:eX):eX:=.take s k
def e9(t:TypeId)(a b:Nat):fa:=.bO [⟨some a,none,.p (.bin .add t (.tmp b) (.const (.int .i64 1)))⟩,⟨some b,none,.p (.qd (.tmp a))⟩]
theorem bG{A B:Prop}(k:B)(h:B->A:=by
 intro q;dsimp only[ab,aj,bU,bc,n2,aG,dd,hF,vo,I,ai,ah,ae,bn,ys,bK,au,aH,cK,bl,az,de,ch,J,aF,bd,cg,hE,bD,aY,eW,e9,aV,ao,an,List.map_cons,List.map_nil];exact q):A:=h k
end bt
end