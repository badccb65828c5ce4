/- Parts. -/
import Derived.Test.YtakmdjclehkglaaGreatDoorQasc
import Derived.Lib.RuneCount
import Derived.Lib.TrimU
import Derived.Laws.StructEq
import Derived.Laws.Cover3
import Derived.Maps.AppendAt
import Derived.Laws.Pointers
set_option linter.all false
set_option maxRecDepth 4000
section
namespace ba
open Go Go.RowKit
structure xG(p:Prop):Prop where out:p
theorem aA{A B:Prop}(k:B)(h:xG B->A:=by
 intro q
 (repeat' first
 | assumption
 | exact Ext.refl _
 | refine Ext.trans ?_ Bz
 | refine Q_ AK ?_
 | refine _L Bz ?_ rfl ?_
 | refine _C Bz ?_ rfl ?_
 | refine _Q Bz ?_ AK rfl ?_
 | refine _R Bz ?_ AK rfl ?_
 | refine _S Bz ?_ AK rfl ?_
 | refine _V AK ?_
 | refine _T (by first | assumption | omega) ?_
 | refine _U (by first | assumption | omega) ?_
 | refine _F Bz ?_
 | refine _G Bz ?_
 | simp -dsimp only[c7,cB,Nat.reduceAdd,Nat.reduceEqDiff,reduceIte,reduceCtorEq,df])
 exact q.out):A:=h ⟨k⟩
theorem dx{F A B:Prop}(f:F)(k:B)(h:F->xG B->A:=by
 intro f q
 (repeat' first
 | assumption
 | exact Ext.refl _
 | refine Ext.trans ?_ Bz
 | refine Q_ AK ?_
 | refine _L Bz ?_ rfl ?_
 | refine _C Bz ?_ rfl ?_
 | refine _Q Bz ?_ AK rfl ?_
 | refine _R Bz ?_ AK rfl ?_
 | refine _S Bz ?_ AK rfl ?_
 | refine _V AK ?_
 | refine _T (by first | assumption | omega) ?_
 | refine _U (by first | assumption | omega) ?_
 | refine _F Bz ?_
 | refine _G Bz ?_
 | simp -dsimp only[c7,cB,Nat.reduceAdd,Nat.reduceEqDiff,reduceIte,reduceCtorEq,df,f])
 exact q.out):A:=h f ⟨k⟩
theorem q0{A B:Prop}(k:B)(h:xG B->A:=by
 intro q
 (repeat' first
 | assumption
 | exact Ext.refl _
 | refine Ext.trans ?_ Bz
 | refine Q_ AK ?_
 | refine _L Bz ?_ rfl ?_
 | refine _C Bz ?_ rfl ?_
 | refine _Q Bz ?_ AK rfl ?_
 | refine _R Bz ?_ AK rfl ?_
 | refine _S Bz ?_ AK rfl ?_
 | refine _V AK ?_
 | refine _T (by first | assumption | omega) ?_
 | refine _U (by first | assumption | omega) ?_
 | refine _F Bz ?_
 | refine _G Bz ?_
 | simp -dsimp only[c7,Nat.reduceAdd,Nat.reduceEqDiff,reduceIte,reduceCtorEq,df])
 exact q.out):A:=h ⟨k⟩
theorem ck{F A B:Prop}(f:F)(k:B)(h:F->xG B->A:=by
 intro f q;simp -dsimp only[c7,cB,Nat.reduceAdd,Nat.reduceEqDiff,reduceIte,reduceCtorEq,df,f];exact q.out):A:=h f ⟨k⟩
def vk:C_ (Nat×B_)->Fr->Fr
 | [],S=>S
 | p :: r,S=>b4 (vk r S) p.1 p.2
theorem xm(S:Fr):vk [] S=S:=eq_of_heq (HEq.refl _)
theorem xl(t:Nat)(v:B_)(r:C_ (Nat×B_))(S:Fr):vk ((t,v) :: r) S=b4 (vk r S) t v:=eq_of_heq (HEq.refl _)
def Has(S:Fr):C_ (Nat×B_)->Prop
 | []=>True
 | p :: r=>S p.1=p.2/\Has S r
theorem wq(S:Fr):Has S []=True:=propext Iff.rfl
theorem wo(S:Fr)(t:Nat)(v:B_)(r:C_ (Nat×B_)):Has S ((t,v) :: r)=(S t=v/\Has S r):=propext Iff.rfl
theorem GB{S:Fr}:∀L,Has S L->vk L S=S
 | [],_=>rfl
 | p :: r,h=>by
  show b4 (vk r S) p.1 p.2=S;rw[GB r h.2];exact j9 S _ _ h.1
def u1(S:Fr):C_ Nat->Fr->Fr
 | [],a6=>a6
 | t :: r,a6=>b4 (u1 S r a6) t (S t)
theorem wZ(S a6:Fr):u1 S [] a6=a6:=eq_of_heq (HEq.refl _)
theorem wY(S a6:Fr)(t:Nat)(r:C_ Nat):u1 S (t :: r) a6=b4 (u1 S r a6) t (S t):=eq_of_heq (HEq.refl _)
theorem FF{S a6:Fr}:∀cD:C_ Nat,(∀t∈cD,a6 t=S t)->u1 S cD a6=a6
 | [],_=>rfl
 | t :: r,h=>by
  show b4 (u1 S r a6) t (S t)=a6;rw[FF r fun u hu=>h u (by simp[hu])];exact j9 a6 _ _ (h t Bs)
theorem bc{p:Prop}(h:p:=by first | trivial | rfl | exact⟨rfl,trivial⟩ | (simp -dsimp only[c7,xm,xl,wZ,wY,wq,wo,Nat.reduceAdd,Nat.reduceEqDiff,reduceIte,and_self];done) | (simp -dsimp only[c7,xm,xl,wZ,wY,wq,wo,Nat.reduceAdd,Nat.reduceEqDiff,reduceIte,and_self];exact⟨rfl,trivial⟩)):p:=h
theorem Ld{ds cD:C_ Nat}(h:(cD.all fun t => !ds.contains t)=true):∀t∈cD,ds.contains t=false:=fun t aB=>by
 have:=List.all_eq_true.1 h t aB
 simpa using this
theorem amT{p:Nat->Prop}:∀n,p n->∃m,p m/\∀k,p k->m<=k:=fun n=>by
 induction n using Nat.strongRecOn with
 | _ n fh =>
  intro h;by_cases hm:∃k,k<n/\p k
  .obtain⟨k,hk,au⟩:=hm;exact fh k hk au
  .exact⟨n,h,fun k hk=>Nat.le_of_not_lt fun cg=>hm ⟨k,cg,hk⟩⟩
noncomputable def least(p:Nat->Prop):Nat:=open Classical in if h:∃m,p m/\∀k,p k->m<=k then h.choose else 0
theorem aar{p:Nat->Prop}(h:∃n,p n):p (least p)/\∀k,p k->least p<=k:=by
 obtain⟨n,az⟩:=h;have hm:=amT n az;unfold least;rw[dif_pos hm];exact hm.choose_spec
section
variable{P:Program}{Q:eu->Fr->World->Prop}{S:Fr}{w:World}
theorem L_{β:Type}{b:eN}{t}(i N:Nat)(cD:C_ Nat)(M:β->C_ (Nat×B_))(mj:β)(jl:Nat->β->A_->Prop)(Pb:S i = .I 0)(aW:Has S (M mj))(af:jl 0 mj w)
  (aP:∀(k:Nat) x a6 w',k<=N->jl k x w' ->
   eg P b (ic (fun fT bO=>k<N/\fT i = .I ((k:Int)+1)/\∃AX,Has fT (M AX)/\jl (k+1) AX bO) Q ⟨⟩) (vk (M x) (b4 (u1 S cD a6) i (.I k))) w' ⟨⟩)
  (bb:(cD.all fun t => !b.fV.contains t)=true:=by rfl):y2 P b Q S w t:=by
 refine _i i N (fun k S w => ∃x,Has S (M x)/\jl k x w) Pb ⟨mj,aW,af⟩ ?_;rintro k a6 w' cc hk U ⟨x,Eo,rf⟩;have h:=aP k x a6 w' hk rf;rw[FF cD fun t aB=>cc t (Ld bb t aB),j9 a6 i _ U,GB _ Eo] at h;exact h
theorem S_{β:Type}{a b:eN}{t}(cD:C_ Nat)(M:β->C_ (Nat×B_))(N:β->A_->Prop)(h1:eg P a (ic (fun fT bO => ∃x,Has fT (M x)/\N x bO) Q ⟨⟩) S w ⟨⟩)
  (I:∀x a6 w',N x w'->eg P b Q (vk (M x) (u1 S cD a6)) w' ⟨⟩)(bb:(cD.all fun t => !a.fV.contains t)=true:=by rfl):eg P (.seq a b) Q S w t:=by
 refine _u _ h1 ?_;rintro a6 w' cc ⟨x,aW,fM⟩;have h:=I x a6 w' fM;rw[FF cD fun t aB=>cc t (Ld bb t aB),GB _ aW] at h;exact h
theorem _P{β:Type}{b:eN}{t}(cD:C_ Nat)(M:β->C_ (Nat×B_))(mj:β)(jl:β->A_->Prop)(kI:β->Nat)(aW:Has S (M mj))(af:jl mj w)
  (aP:∀x a6 w',jl x w' ->
   eg P b (ic (fun fT bO => ∃AX,Has fT (M AX)/\jl AX bO/\kI AX<kI x) Q ⟨⟩) (vk (M x) (u1 S cD a6)) w' ⟨⟩)
  (bb:(cD.all fun t => !b.fV.contains t)=true:=by rfl):y2 P b Q S w t:=by
 refine _A (fun S w => ∃x,Has S (M x)/\jl x w) (fun S w=>least fun n => ∃x,Has S (M x)/\jl x w/\kI x=n) ⟨mj,aW,af⟩ ?_;rintro a6 w' cc ⟨x,Eo,rf⟩;obtain⟨⟨y,h1,I,ab⟩,aH⟩:=aar (p:=fun n => ∃x,Has a6 (M x)/\jl x w'/\kI x=n) ⟨kI x,x,Eo,rf,rfl⟩;have h:=aP y a6 w' I;rw[FF cD fun t aB=>cc t (Ld bb t aB),GB _ h1] at h;unfold eg ic at *;refine p8 b _ _ a6 w' (fun e fT bO _ h=>?_) h
 match e,h with
 | .normal,⟨z,cE,cW,fz⟩ =>
  refine⟨⟨z,cE,cW⟩,?_⟩;have a8:=(aar (p:=fun n => ∃x,Has fT (M x)/\jl x bO/\kI x=n) ⟨kI z,z,cE,cW,rfl⟩).2 (kI z) ⟨z,cE,cW,rfl⟩;show least _<least _;rw[<-ab];omega
 | .exit _,h=>exact h
 | .ret,h=>exact h
 | .gx _,h=>exact h
end
end ba
end
section
namespace o
open Go
def letter(n:Int):Bool:=decide (97<=n/\n<=122\/65<=n/\n<=90)
def digit(n:Int):Bool:=decide (48<=n/\n<=57)
def part(n:Int):Bool:=letter n||digit n||decide (n=95)
def s7(s:ByteArray)(i:Nat):Nat:=(s.get! i).toNat
def run(p:Int->Bool)(s:ByteArray):Nat:=(s.data.toList.takeWhile fun b=>p b.toNat).length
theorem acM{α:Type}(p:α->Bool):∀(l:C_ α) (n:Nat) (h:n<l.length),(∀j (aF:j<n),p (l[j]' AK)=true)->p l[n]=false->(l.takeWhile p).length=n
 | [],n,h,_,_=>by simp at h
 | x :: l,0,h,_,I=>by simp at I;simp[I]
 | x :: l,n+1,h,h1,I=>by
  have ag:p x=true:=h1 0 AK;rw[List.takeWhile_cons,if_pos ag,AG2,acM p l n (by simpa using h) (fun j aF=>h1 (j+1) AK) (by simpa using I)]
theorem acL{α:Type}(p:α->Bool):∀(l:C_ α) (_:∀j (aF:j<l.length),p l[j]=true),(l.takeWhile p).length=l.length
 | [],_=>rfl
 | x :: l,h=>by
  have ag:p x=true:=h 0 Bs;rw[List.takeWhile_cons,if_pos ag,AG2,acL p l (fun j aF=>h (j+1) (by simpa using aF)),AG2]
theorem ace(p:Int->Bool)(s:ByteArray)(n:Nat)(h:n<s.size)(h1:∀j (aF:j<n),p (s[j]' AK).toNat=true)(I:p s[n].toNat=false):run p s=n :=
 acM (fun b:UInt8=>p b.toNat) s.data.toList n (by simpa using h) (fun j aF=>h1 j aF) I
theorem ab5(p:Int->Bool)(s:ByteArray)(h:∀j (aF:j<s.size),p s[j].toNat=true):run p s=s.size:=by
 have:=acL (fun b:UInt8=>p b.toNat) s.data.toList (fun j aF=>h j (by simpa using aF))
 rw[run,this];simp
theorem af1{p:Int->Bool}(au:∀r:Int,128<=r->p r=false)(s:ByteArray)(pos:Nat)(h:pos<s.size) :
  p (Utf8.decode s pos).1=p s[pos].toNat/\(p s[pos].toNat=true->(Utf8.decode s pos).2=1):=by
 by_cases aV:s[pos].toNat<128
 .rw[decode_ascii s pos h aV];exact⟨rfl,fun _=>rfl⟩
 .have h1:=decode_high s pos h AK;rw[au _ AK,au _ AK];exact⟨rfl,fun h=>by simp at h⟩
theorem amB(r:Int)(h:128<=r):letter r=false:=by simp[letter];omega
theorem af7(r:Int)(h:128<=r):digit r=false:=by simp[digit];omega
theorem aok(r:Int)(h:128<=r):part r=false:=by simp[part,amB r h,af7 r h];omega
instance aun:LawfulBEq ByteArray where
 eq_of_beq {a b} h:=by rw[ba.DK] at h;exact of_decide_eq_true h
 rfl {a}:=by rw[ba.DK];exact decide_eq_true rfl
def rG:C_ ByteArray:=[⟨#[115,101,108,102]⟩,⟨#[110,111,110,101]⟩,⟨#[108,101,110]⟩,⟨#[97,116]⟩]
def isName(s:ByteArray):Bool:=decide (s.size≠0)&&decide (s.size<=16)&&letter (s7 s 0)&&decide (run part s=s.size) && !decide (s∈rG)
theorem ap3(p:Int->Bool)(s:ByteArray):run p s<=s.size:=by
 have:=(List.takeWhile_sublist (fun b:UInt8=>p b.toNat) (l:=s.data.toList)).length_le
 simpa[run] using this
theorem get_eq(s:ByteArray)(i:Nat)(h:i<s.size):s.get! i=s[i]:=by
 obtain⟨d⟩:=s;show d[i]! = d[i];exact getElem!_pos d i h
theorem get?_eq(s:ByteArray)(i:Nat)(h:i<s.size):s[i]? = some (s.get! i):=by rw[get_eq s i h];exact getElem?_pos s i h
structure Scalar where
 name:ByteArray
 size:Int
structure Var where
 name:ByteArray
 scalar:Int
 over:Int
 aR:Int
 U:Int
 init:Int
structure dB where
 name:ByteArray
 scalar:Int
 cap:Int
 aR:Int
 U:Int
 aaA:Bool
def size(k:Int)(s:C_ Scalar):Int :=
 match s[(k - 1).toNat]? with
 | some x=>if 1<=k/\1<=x.size/\x.size<=4 then x.size else 0
 | none=>0
def narrow(aR U:Int):Bool:=decide (-1048576<=aR/\aR<=U/\U<=1048576/\U - aR<256)
def there(k:Int)(s:C_ Scalar):Bool:=decide (k=0\/size k s≠0)
def err(fP:Int)(gh:Nat->ByteArray)(mo:Nat->Int)(i:Nat):Int :=
 if fP<=i then 11 else if isName (gh i)=false then 6 else if ∃j,j<i/\gh j=gh i then 7 else mo i
def first(n:Nat)(e:Nat->Int):Int×Int:=match (List.range n).find? (fun i=>decide (e i≠0)) with | some i=>((i:Int),e i) | none=>(0,0)
theorem jH{n:Nat}{e:Nat->Int}{i:Nat}(U:i<n)(h1:∀j,j<i->e j=0)(I:e i≠0):first n e=((i:Int),e i):=by
 have:(List.range n).find? (fun i=>decide (e i≠0))=some i:=by
  rw[List.find?_range_eq_some];simp only[decide_eq_true_eq];exact⟨I,by simpa using U,fun j aF=>by simp[h1 j aF]⟩
 rw[first,this]
theorem pO{n:Nat}{e:Nat->Int}(h:∀j,j<n->e j=0):first n e=(0,0):=by
 have:(List.range n).find? (fun i=>decide (e i≠0))=none:=by
  rw[List.find?_range_eq_none];intro j aF;simp[h j aF]
 rw[first,this]
theorem W3{n:Nat}{e e':Nat->Int}(h:∀j,j<n->e j=e' j):first n e=first n e':=by
 by_cases ag:∃i,i<n/\e i≠0/\∀j,j<i->e j=0
 .obtain⟨i,U,h1,I⟩:=ag;rw[jH U I h1,jH U (fun j aF=>by rw[<-h j AK];exact I j aF) (by rw[<-h i U];exact h1),h i U]
 .have bI:∀j,j<n->e j=0:=by
   intro j
   induction j using Nat.strongRecOn with
   | _ j fh =>
    intro aF;by_cases af:e j=0
    .exact af
    .exact absurd ⟨j,aF,af,fun k hk=>fh k hk AK⟩ ag
  rw[pO bI,pO fun j aF=>by rw[<-h j aF];exact bI j aF]
def nameAt{α:Type}(f:α->ByteArray)(l:C_ α)(i:Nat):ByteArray:=(l[i]?.map f).getD ⟨#[]⟩
def vf(l:C_ Scalar)(i:Nat):Int:=match l[i]? with | some x=>if 1<=x.size/\x.size<=4 then 0 else 10 | none=>0
def scalars(l:C_ Scalar):Int×Int:=first l.length (err 2 (nameAt (·.name) l) (vf l))
def bounds(v:Var)(s:C_ Scalar):Int×Int:=if v.scalar=0 then (v.aR,v.U) else (0,size v.scalar s)
def cells(v:Var)(s:C_ Scalar):Int:=if v.over=0 then 1 else size v.over s
def p7(l:C_ Var)(s:C_ Scalar)(i:Nat):Int :=
 match l[i]? with
 | some v=>if there v.scalar s=false\/there v.over s=false then 8
  else if (v.scalar=0/\narrow v.aR v.U=false)\/v.init<(bounds v s).1\/v.init > (bounds v s).2 then 10 else 0
 | none=>0
def vars(l:C_ Var)(s:C_ Scalar)(fP:Int):Int×Int:=first l.length (err (max fP 0) (nameAt (·.name) l) (p7 l s))
def pL(l:C_ dB)(s:C_ Scalar)(i:Nat):Int :=
 match l[i]? with
 | some c=>if there c.scalar s=false then 8
  else if c.cap<1\/c.cap > 4\/(c.scalar=0/\narrow c.aR c.U=false) then 10 else 0
 | none=>0
def aw(l:C_ dB)(s:C_ Scalar):Int×Int:=first l.length (err 4 (nameAt (·.name) l) (pL l s))
end o
end
section
namespace o
open Go Go.RowKit ba
def Scalar.enc(x:Scalar):C_ B_:=[.string x.name,.int .i64 x.size]
def Var.enc(x:Var):C_ B_:=[.string x.name,.int .i64 x.scalar,.int .i64 x.over,.int .i64 x.aR,.int .i64 x.U,.int .i64 x.init]
def dB.enc(x:dB):C_ B_:=[.string x.name,.int .i64 x.scalar,.int .i64 x.cap,.int .i64 x.aR,.int .i64 x.U,.bool x.aaA]
def jN(s:ByteArray):Prop:=s.size<=9223372036854775807
instance auE(s:ByteArray):Decidable (jN s):=Nat.decLe _ _
structure kd(w:World)(a:Addr)(x:Scalar):Prop where
 cells:fi w a x.enc
 ok:jN x.name
structure qX(w:World)(a:Addr)(x:Var):Prop where
 cells:fi w a x.enc
 ok:jN x.name
structure qW(w:World)(a:Addr)(x:dB):Prop where
 cells:fi w a x.enc
 ok:jN x.name
theorem kd.ext(w w':A_)(a:Addr)(x:Scalar)(he:Ext w w')(h:kd w a x):kd w' a x:=⟨h.cells.ext he,h.ok⟩
theorem qX.ext(w w':A_)(a:Addr)(x:Var)(he:Ext w w')(h:qX w a x):qX w' a x:=⟨h.cells.ext he,h.ok⟩
theorem qW.ext(w w':A_)(a:Addr)(x:dB)(he:Ext w w')(h:qW w a x):qW w' a x:=⟨h.cells.ext he,h.ok⟩
abbrev ih(w:A_)(v:B_)(l:C_ Scalar):Prop:=bn 2 kd w v l
abbrev h3(w:A_)(v:B_)(l:C_ Var):Prop:=bn 6 qX w v l
abbrev mT(w:A_)(v:B_)(l:C_ dB):Prop:=bn 6 qW w v l
theorem h3.cx{w:A_}{b n:Nat}{e:F_}{f:Nat×Nat}{xs:C_ Var}(ao:w.heap[b]? = some (.cells (xs.flatMap Var.enc).toArray e f))(az:n=xs.length)(hm:xs.length<=maxLen)(dh:∀x∈xs,jN x.name) :
  h3 w (.slice (some ⟨b,0,none⟩) n n) xs:=bn.cx (enc:=Var.enc) (fun _=>rfl) ao az hm fun _ x ag an=>⟨an,dh x ag⟩
structure Node where
 op:Int
 n:Int
structure Act where
 kind:Int
 to:Int
 loc:Int
 index:List Node
 value:List Node
structure ea where
 name:ByteArray
 from_:Int
 to:Int
 guard:List Node
 bQ:List Act
 fair:Bool
structure dJ where
 name:ByteArray
 over:Int
 cp:Int
 vars:List Var
 cQ:List ea
structure lY where
 name:ByteArray
 expr:List Node
structure Model where
 scalars:List Scalar
 vars:List Var
 aw:List dB
 procs:List dJ
 props:List lY
structure cX where
 proc:Int
 elem:Int
deriving DecidableEq
structure Ref where
 inst:Int
 cmd:Int
deriving DecidableEq
def cX.enc(x:cX):C_ B_:=[.int .i64 x.proc,.int .i64 x.elem]
def Ref.enc(x:Ref):C_ B_:=[.int .i64 x.inst,.int .i64 x.cmd]
def Node.enc(x:Node):C_ B_:=[.int .i64 x.op,.int .i64 x.n]
def ee(n:Int):Prop := -9223372036854775808<=n/\n<=9223372036854775807
structure Node.ok(x:Node):Prop where
 op:ee x.op
 n:ee x.n
structure ze(w:World)(a:Addr)(x:Node):Prop where
 cells:fi w a x.enc
 ok:x.ok
theorem ze.ext(w w':A_)(a:Addr)(x:Node)(he:Ext w w')(h:ze w a x):ze w' a x:=⟨h.cells.ext he,h.ok⟩
abbrev eS(w:A_)(v:B_)(l:C_ Node):Prop:=bn 2 ze w v l
theorem eS.ext{w w':A_}{v:B_}{l:C_ Node}(he:Ext w w')(h:eS w v l):eS w' v l:=bn.ext ze.ext he h
def Act.enc(x:Act)(bL b2:B_):C_ B_:=[.int .i64 x.kind,.int .i64 x.to,.int .i64 x.loc,bL,b2]
def za(w:A_)(a:Addr)(x:Act):Prop := ∃bL b2,fi w a (x.enc bL b2)/\eS w bL x.index/\eS w b2 x.value
theorem za.ext(w w':A_)(a:Addr)(x:Act)(he:Ext w w')(h:za w a x):za w' a x:=let ⟨bL,b2,h1,I,ab⟩:=h; ⟨bL,b2,h1.ext he,I.ext he,ab.ext he⟩
abbrev lX(w:A_)(v:B_)(l:C_ Act):Prop:=bn 5 za w v l
theorem lX.ext{w w':A_}{v:B_}{l:C_ Act}(he:Ext w w')(h:lX w v l):lX w' v l:=bn.ext za.ext he h
def ea.enc(x:ea)(fq dH:B_):C_ B_:=[.string x.name,.int .i64 x.from_,.int .i64 x.to,fq,dH,.bool x.fair]
def zb(w:A_)(a:Addr)(x:ea):Prop:=jN x.name/\∃fq dH,fi w a (x.enc fq dH)/\eS w fq x.guard/\lX w dH x.bQ
theorem zb.ext(w w':A_)(a:Addr)(x:ea)(he:Ext w w')(h:zb w a x):zb w' a x:=let ⟨af,bL,b2,h1,I,ab⟩:=h; ⟨af,bL,b2,h1.ext he,I.ext he,ab.ext he⟩
abbrev rV(w:A_)(v:B_)(l:C_ ea):Prop:=bn 6 zb w v l
theorem rV.ext{w w':A_}{v:B_}{l:C_ ea}(he:Ext w w')(h:rV w v l):rV w' v l:=bn.ext zb.ext he h
theorem ih.ext{w w':A_}{v:B_}{l:C_ Scalar}(he:Ext w w')(h:ih w v l):ih w' v l:=bn.ext kd.ext he h
theorem h3.ext{w w':A_}{v:B_}{l:C_ Var}(he:Ext w w')(h:h3 w v l):h3 w' v l:=bn.ext qX.ext he h
theorem mT.ext{w w':A_}{v:B_}{l:C_ dB}(he:Ext w w')(h:mT w v l):mT w' v l:=bn.ext qW.ext he h
def dJ.enc(x:dJ)(b2 dV:B_):C_ B_:=[.string x.name,.int .i64 x.over,.int .i64 x.cp,b2,dV]
def Bh(w:A_)(a:Addr)(x:dJ):Prop:=jN x.name/\∃b2 dV,fi w a (x.enc b2 dV)/\h3 w b2 x.vars/\rV w dV x.cQ
theorem Bh.ext(w w':A_)(a:Addr)(x:dJ)(he:Ext w w')(h:Bh w a x):Bh w' a x:=let ⟨af,bL,b2,h1,I,ab⟩:=h; ⟨af,bL,b2,h1.ext he,I.ext he,ab.ext he⟩
abbrev qV(w:A_)(v:B_)(l:C_ dJ):Prop:=bn 5 Bh w v l
theorem qV.ext{w w':A_}{v:B_}{l:C_ dJ}(he:Ext w w')(h:qV w v l):qV w' v l:=bn.ext Bh.ext he h
def A4(w:A_)(cs:C_ B_)(c:ea):Prop:=jN c.name/\∃fq dH,cs=c.enc fq dH/\eS w fq c.guard/\lX w dH c.bQ
theorem A4.ext{w w':A_}{cs:C_ B_}{c:ea}(he:Ext w w')(h:A4 w cs c):A4 w' cs c:=let ⟨af,bL,b2,h1,I,ab⟩:=h; ⟨af,bL,b2,h1,I.ext he,ab.ext he⟩
def xK(w:A_)(cs:C_ B_)(p:dJ):Prop:=jN p.name/\∃b2 dV,cs=p.enc b2 dV/\h3 w b2 p.vars/\rV w dV p.cQ
theorem xK.ext{w w':A_}{cs:C_ B_}{p:dJ}(he:Ext w w')(h:xK w cs p):xK w' cs p:=let ⟨af,bL,b2,h1,I,ab⟩:=h; ⟨af,bL,b2,h1,I.ext he,ab.ext he⟩
def lY.enc(x:lY)(gZ:B_):C_ B_:=[.string x.name,gZ]
def Bi(w:A_)(a:Addr)(x:lY):Prop:=jN x.name/\∃gZ,fi w a (x.enc gZ)/\eS w gZ x.expr
theorem Bi.ext(w w':A_)(a:Addr)(x:lY)(he:Ext w w')(h:Bi w a x):Bi w' a x:=let ⟨af,bL,h1,I⟩:=h; ⟨af,bL,h1.ext he,I.ext he⟩
abbrev Bf(w:A_)(v:B_)(l:C_ lY):Prop:=bn 2 Bi w v l
theorem Bf.ext{w w':A_}{v:B_}{l:C_ lY}(he:Ext w w')(h:Bf w v l):Bf w' v l:=bn.ext Bi.ext he h
structure eh(w:World)(cs:List Value)(m:Model):Prop where
 ex:∃v0 v1 v2 v3 v4,cs=[v0,v1,v2,v3,v4]/\ih w v0 m.scalars/\h3 w v1 m.vars/\mT w v2 m.aw/\qV w v3 m.procs/\Bf w v4 m.props
theorem eh.ext{w w':A_}{cs:C_ B_}{m:Model}(he:Ext w w')(h:eh w cs m):eh w' cs m :=
 let ⟨v0,v1,v2,v3,v4,e,af,h1,I,ab,aH⟩:=h.ex
 ⟨v0,v1,v2,v3,v4,e,af.ext he,h1.ext he,I.ext he,ab.ext he,aH.ext he⟩
instance auk:oV ze Node.enc:=⟨fun _ _ _ h=>h.cells⟩
instance aul:oV kd Scalar.enc:=⟨fun _ _ _ h=>h.cells⟩
instance aum:oV qX Var.enc:=⟨fun _ _ _ h=>h.cells⟩
instance aug:oV qW dB.enc:=⟨fun _ _ _ h=>h.cells⟩
end o
end
section
namespace ba
open Go Go.RowKit
section
variable{P:Program}{aE:Value->Prop}{w w0:World}
theorem _3{a:Addr}{cs:C_ B_}{j:Nat}{v:B_}{t}(h:fi w0 a cs)(he:Ext w0 w)(aF:cs[j]? = some v)(hk:aE v):rW (.pointer (some (a.add j))) w aE t:=M_ (he.cell (h j v aF)) hk
theorem _4{a:Addr}{cs:C_ B_}{n:Nat}{t}(h:fi w0 a cs)(he:Ext w0 w)(az:cs.length=n)(hk:aE (.agg cs.toArray)):ui n (.pointer (some a)) w aE t:=Z_ (h.ext he) az hk
end
theorem aa{A B:Prop}(k:B)(h:xG B->A:=by
 intro q
 (repeat' first
 | assumption
 | exact Ext.refl _
 | refine Ext.trans ?_ Bz
 | simp -dsimp only[c7,cB,Nat.reduceAdd,Nat.reduceEqDiff,reduceIte,reduceCtorEq,df,xm,xl,wZ,wY,wq,wo,List.cons_append,List.nil_append]
 | refine Q_ AK ?_
 | refine _L Bz ?_ rfl ?_
 | refine _C Bz ?_ rfl ?_
 | refine _V AK ?_
 | refine _T (by first | assumption | omega) ?_
 | refine _U (by first | assumption | omega) ?_
 | refine _F Bz ?_
 | refine _G Bz ?_
 | refine _Q Bz ?_ AK rfl ?_
 | refine _R Bz ?_ AK rfl ?_
 | refine _S Bz ?_ AK rfl ?_
 | refine _3 Bz ?_ rfl ?_
 | refine _4 Bz ?_ rfl ?_
 | refine R_ Bz ?_ rfl ?_
 | refine _M (fun _=>by (simp -dsimp only[c7,Nat.reduceAdd,Nat.reduceEqDiff,reduceIte,reduceCtorEq,df]);rfl) rfl rfl (by first | assumption | (simp[Value.oneCell',o.cX.enc,o.Ref.enc,o.Node.enc,o.Scalar.enc,o.Var.enc,o.dB.enc,o.Act.enc,o.ea.enc,o.dJ.enc,o.lY.enc];done)) ?_
 | refine O_ ?_
 | refine T_ Bz rfl rfl (by first | assumption | (simp[Value.oneCell',o.cX.enc,o.Ref.enc,o.Node.enc,o.Scalar.enc,o.Var.enc,o.dB.enc,o.Act.enc,o.ea.enc,o.dJ.enc,o.lY.enc];done)) ?_
 | refine _E Bz (Nat.le_of_ble_eq_true rfl) rfl ?_
 | refine _W Bz (Nat.le_of_ble_eq_true rfl) rfl ?_
 | refine Y_ (by (simp only[fa,lay,ot,de,bN,Value.cells,Nat.reduceAdd,Nat.reduceEqDiff,reduceIte,List.range,List.range.loop,List.map_cons,List.map_nil]);rfl) ?_
 | refine W_ (by (simp only[fa,lay,ot,de,bN,Value.cells,Nat.reduceAdd,Nat.reduceEqDiff,reduceIte]);rfl) ?_)
 exact q.out):A:=h ⟨k⟩
theorem eb{A B:Prop}(k:B)(h:xG B->A:=by
 intro q
 (repeat' first
 | assumption
 | exact Ext.refl _
 | refine Ext.trans ?_ Bz
 | simp -dsimp only[c7,Nat.reduceAdd,Nat.reduceEqDiff,reduceIte,reduceCtorEq,df,xm,xl,wZ,wY,wq,wo,List.cons_append,List.nil_append]
 | refine Q_ AK ?_
 | refine _L Bz ?_ rfl ?_
 | refine _C Bz ?_ rfl ?_
 | refine _V AK ?_
 | refine _T (by first | assumption | omega) ?_
 | refine _U (by first | assumption | omega) ?_
 | refine _F Bz ?_
 | refine _G Bz ?_
 | refine _Q Bz ?_ AK rfl ?_
 | refine _R Bz ?_ AK rfl ?_
 | refine _S Bz ?_ AK rfl ?_
 | refine _3 Bz ?_ rfl ?_
 | refine _4 Bz ?_ rfl ?_
 | refine R_ Bz ?_ rfl ?_
 | refine _M (fun _=>by (simp -dsimp only[c7,Nat.reduceAdd,Nat.reduceEqDiff,reduceIte,reduceCtorEq,df]);rfl) rfl rfl (by first | assumption | (simp[Value.oneCell',o.cX.enc,o.Ref.enc,o.Node.enc,o.Scalar.enc,o.Var.enc,o.dB.enc,o.Act.enc,o.ea.enc,o.dJ.enc,o.lY.enc];done)) ?_
 | refine O_ ?_
 | refine T_ Bz rfl rfl (by first | assumption | (simp[Value.oneCell',o.cX.enc,o.Ref.enc,o.Node.enc,o.Scalar.enc,o.Var.enc,o.dB.enc,o.Act.enc,o.ea.enc,o.dJ.enc,o.lY.enc];done)) ?_
 | refine _E Bz (Nat.le_of_ble_eq_true rfl) rfl ?_
 | refine _W Bz (Nat.le_of_ble_eq_true rfl) rfl ?_
 | refine Y_ (by (simp only[fa,lay,ot,de,bN,Value.cells,Nat.reduceAdd,Nat.reduceEqDiff,reduceIte,List.range,List.range.loop,List.map_cons,List.map_nil]);rfl) ?_
 | refine W_ (by (simp only[fa,lay,ot,de,bN,Value.cells,Nat.reduceAdd,Nat.reduceEqDiff,reduceIte]);rfl) ?_)
 exact q.out):A:=h ⟨k⟩
end ba
end
section
namespace ba
open Go Go.RowKit
def hc(A:Nat->Prop)(p:A_->Prop)(w:A_):Prop := ∀w',Mod A w w'->p w'
theorem hc.here{A:Nat->Prop}{p:A_->Prop}{w:A_}(h:hc A p w):p w:=h w (Mod.refl A w)
theorem Mod.comp{A A' B:Nat->Prop}{a b c:A_}(h:Mod A a b)(k:Mod A' b c)(h1:∀i,i<a.heap.size->A i->B i)(I:∀i,i<a.heap.size->A' i->B i):Mod B a c :=
 ⟨k.os.trans h.os,k.tape.trans h.tape,k.output.trans h.output,QB h.size k.size,fun i U az=>(k.block i (AH4 U h.size) fun e=>az (I i U e)).trans (h.block i U fun e=>az (h1 i U e))⟩
theorem hc.move{A A' B:Nat->Prop}{p:A_->Prop}{w w':A_}(h:hc B p w)(m:Mod A w w')(h1:∀i,i<w.heap.size->A i->B i)(I:∀i,i<w.heap.size->A' i->B i):hc A' p w' :=
 fun bO k=>h bO (m.comp k h1 I)
theorem hc.mono{A B:Nat->Prop}{p:A_->Prop}{w:A_}(h:hc B p w)(I:∀i,i<w.heap.size->A i->B i):hc A p w:=h.move (Mod.refl A w) I I
theorem hc.ext{B:Nat->Prop}{p:A_->Prop}{w w':A_}(h:hc B p w)(e:Ext w w')(ki:∀i,w.heap.size<=i->¬B i):hc B p w' :=
 h.move (A:=fun _=>False) e.mod (fun _ _ h=>h.elim) (fun _ _ h=>h)
theorem hc.imp{A:Nat->Prop}{p q:A_->Prop}{w:A_}(h:hc A p w)(JK:∀w,p w->q w):hc A q w:=fun w' m=>JK w' (h w' m)
theorem hc.and{A:Nat->Prop}{p q:A_->Prop}{w:A_}(h:hc A p w)(k:hc A q w):hc A (fun w=>p w/\q w) w:=fun w' m=>⟨h w' m,k w' m⟩
theorem hc.of{A:Nat->Prop}{p:A_->Prop}{w:A_}(h:∀w',p w'):hc A p w:=fun w' _=>h w'
abbrev ey(w:A_)(p:A_->Prop)(w':A_):Prop:=hc (fun k=>k<w.heap.size) p w'
theorem ey.ext{w w1 aD:A_}{p:A_->Prop}(h:ey w p w1)(he:Ext w1 aD)(af:w.heap.size<=w1.heap.size):ey w p aD :=
 hc.ext h he fun i U hk=>AK
theorem ey.low{w w0 w1:A_}{p:A_->Prop}(h:ey w p w1)(af:w0.heap.size<=w.heap.size):ey w0 p w1:=h.mono fun i _ U=>AK
theorem ey.wr{w w1 aD:A_}{p:A_->Prop}{b:Nat}(h:ey w p w1)(hw:dy b w1 aD)(ao:b<w.heap.size):ey w p aD :=
 hc.move h (A:=fun k=>k=b) (hw.mod rfl) (fun i _ e=>AK) (fun i _ e=>e)
theorem ey.grown{w w1 aD:A_}{p:A_->Prop}{row:H_ Nat}(h:ey w p w1)(aK:w1.grownBy aD row)(ao:∀k,row=some k->k<w.heap.size):ey w p aD :=
 hc.move h (A:=fun k=>row=some k) (Mod.grown aK fun k hk=>hk) (fun i _ e=>ao i e) (fun i _ e=>e)
theorem ey.and{w w1:A_}{p q:A_->Prop}(h:ey w p w1)(k:ey w q w1):ey w (fun w=>p w/\q w) w1:=hc.and h k
theorem ey.imp{w w1:A_}{p q:A_->Prop}(h:ey w p w1)(JK:∀w,p w->q w):ey w q w1:=hc.imp h JK
class Rel{α:Type}(R:World->Addr->α->Prop)(C:outParam (World->List Value->α->Prop))(sz:outParam Nat):Prop where
 out:∀{w a x},R w a x->∃cs,fi w a cs/\C w cs x
 oG:∀{w a cs x},fi w a cs->C w cs x->R w a x
 len:∀{w cs x},C w cs x->cs.length=sz
 one:∀{w cs x},C w cs x->∀u∈cs,u.oneCell'=true
 ext:∀{w w' cs x},Ext w w'->C w cs x->C w' cs x
abbrev fj(sz:Nat):={cs:C_ B_ // cs.length=sz/\∀u∈cs,u.oneCell'=true}
def kf{sz:Nat}(c:fj sz):C_ B_:=c.1
theorem kg{sz:Nat}(c:fj sz):(kf c).length=sz:=c.2.1
theorem tj{sz:Nat}(c:fj sz):∀u∈kf c,u.oneCell'=true:=c.2.2
abbrev pw(e:F_)(sz base:Nat)(w:A_)(v:B_)(cq:C_ (fj sz)):Prop:=aS kf e sz base w v cq
theorem bn.cells{α:Type}{R:A_->Addr->α->Prop}{C:A_->C_ B_->α->Prop}{sz:Nat}[Rel R C sz]{w:A_}{v:B_}{xs:C_ α}(h:bn sz R w v xs) :
  ∃cq:C_ (fj sz),cq.length=xs.length/\bn sz (Flat kf) w v cq/\∀i (h1:i<cq.length) (I:i<xs.length),C w cq[i].1 xs[i]:=by
 obtain⟨aQ,cap,rfl,h1,I,ab,aH⟩:=h.ex;obtain⟨cq,aC,an⟩:=QD xs.length (fun i (c:fj sz)=>(∀a,aQ=some a->fi w (a.add (i*sz)) c.1)/\∀(h:i<xs.length),C w c.1 xs[i]) fun i U=>by
  obtain⟨a,rfl⟩:=Option.isSome_iff_exists.1 (ab (by intro e;subst e;simp at U));obtain⟨cs,c1,c2⟩:=Rel.out (aH a rfl i U);exact⟨⟨cs,Rel.len (R:=R) c2,Rel.one (R:=R) c2⟩,fun cF e=>by injection e with e;subst e;exact c1,fun _=>c2⟩
 refine⟨cq,aC,⟨aQ,cap,by rw[aC],AK,I,fun az=>ab (by intro e;subst e;simp at aC;exact az aC),fun a aV i U=>(an i U).1 a aV⟩,fun i h1 I=>(an i h1).2 I⟩
theorem bn.Gd{α:Type}{R:A_->Addr->α->Prop}{C:A_->C_ B_->α->Prop}{sz:Nat}[Rel R C sz]{w:A_}{v:B_}{xs:C_ α}{cq:C_ (fj sz)}(aC:cq.length=xs.length)(h:bn sz (Flat kf) w v cq)
  (an:∀i (h1:i<cq.length) (I:i<xs.length),C w cq[i].1 xs[i]):bn sz R w v xs:=by
 obtain⟨aQ,cap,rfl,h1,I,ab,aH⟩:=h.ex;refine⟨aQ,cap,by rw[aC],AK,I,fun az=>ab (by intro e;subst e;simp at aC;exact az (AF9 aC.symm)),fun a aV i U=>Rel.oG (aH a aV i AK) (an i AK U)⟩
theorem _X{P:D_}{cT:B_->A_->Prop}{α:Type}{enc:α->C_ B_}{e:F_}{sz base:Nat}{w:A_}{xs:C_ α}{ty:F_}{b:Nat}{s:B_}{a:Addr}{m c:Nat}{ys:C_ α}{t}(ak:aS enc e sz base w s xs)(dr:∀x,(enc x).length=sz)(an:fi w a (ys.flatMap enc))(hm:m=ys.length)
  (h1:∀y,∀u∈enc y,u.oneCell'=true)(ao:(xs.length+ys.length)*b<=140737488355328)(lp:xs.length+ys.length<=maxLen)(kC:base<=w.heap.size)
  (hk:∀b0 w',aS enc e sz base w' b0 (xs++ys)->w.grownBy w' s.ownBlock->(b0.ownBlock=s.ownBlock\/b0.ownBlock=some w.heap.size)->cT b0 w'):ml P ty e sz b s (.slice (some a) m c) w cT t:=by
 subst hm;refine _n fun⟨aB,i,z,U,bI,Cn,B0,Al,JR⟩=>?_;obtain⟨b0,w',aP,I,ab,_,a8⟩:=run_append_own_at (P:=P) w base ty ty e i z sz b aB U bI Cn B0 Al JR s _ _ ak a _ c _ (x8 dr ys) an (fun u hu=>by obtain⟨y,_,bV⟩:=List.mem_flatMap.1 hu;exact h1 y u bV) lp ao kC;refine⟨ty,b0,w',aP,hk b0 w' ?_ ab a8⟩;unfold aS;rw[Ln,AG8];exact I
def y9(v:B_)(base k:Nat):Prop:=v.ownBlock=some k\/k<base
structure eP{α:Type}(C:World->List Value->α->Prop)(e:TypeId)(sz base:Nat)(w:World)(v:Value)(xs:List α):Prop where
 ex:∃cq:List (fj sz),cq.length=xs.length/\pw e sz base w v cq/\∀i (h1:i<cq.length) (I:i<xs.length),hc (y9 v base) (fun w=>C w cq[i].1 xs[i]) w
section
variable{α:Type}{C:World->List Value->α->Prop}{e:TypeId}{sz base:Nat}{w w':World}{v:Value}{xs:List α}
theorem eP.nil(C:A_->C_ B_->α->Prop)(e:F_)(sz base:Nat)(w:A_):eP C e sz base w (.slice none 0 0) []:=⟨[],rfl,aS.nil _ _ _ _ _,fun i h=>by cases h⟩
theorem eP.form(h:eP C e sz base w v xs):∃aQ cap,v = .slice aQ xs.length cap/\xs.length<=cap/\cap<=maxLen:=by
 obtain⟨cq,aC,aO,_⟩:=h.ex;obtain⟨aQ,cap,h1,I,ab⟩:=aO.form;exact⟨aQ,cap,by rw[h1,aC],AK,ab⟩
theorem eP.lt(h:eP C e sz base w v xs):∀k,v.ownBlock=some k->base<=k/\k<w.heap.size:=by
 obtain⟨cq,aC,aO,_⟩:=h.ex;exact aO.lt
theorem aS.mod{enc:α->C_ B_}{A:Nat->Prop}(h:aS enc e sz base w v xs)(m:Mod A w w')(dg:∀k,v.ownBlock=some k->¬A k):aS enc e sz base w' v xs:=by
 refine⟨h.1,?_⟩;rcases h.2 with az | ⟨g,cap,cur,rfl,ao,aK,rest⟩
 .exact .inl az
 .exact .inr ⟨g,cap,cur,rfl,ao,m.obj (dg g rfl) aK,rest⟩
theorem aS.cx{enc:α->C_ B_}(h:aS enc e sz base w v xs):∀k,v.ownBlock=some k->∃cur,w.heap[k]? = some (.cells cur e):=fun k hk=>by
 rcases h.2 with ⟨rfl,_⟩ | ⟨g,cap,cur,rfl,ao,aK,rest⟩
 .cases hk
 .simp only[Value.ownBlock,Option.some.injEq] at hk;subst hk;exact⟨cur,aK⟩
theorem eP.mod{A:Nat->Prop}(h:eP C e sz base w v xs)(m:Mod A w w')(dg:∀k,k<w.heap.size->A k->k<base):eP C e sz base w' v xs:=by
 obtain⟨cq,aC,aO,an⟩:=h.ex;refine⟨cq,aC,aO.mod m fun k hk a=>?_,fun i h1 I=>(an i h1 I).move m (fun i U a=>.inr (dg i U a)) fun _ _ a=>a⟩
 have:=aO.lt k hk
 have:=dg k this.2 a
 omega
theorem eP.ext(h:eP C e sz base w v xs)(m:Ext w w'):eP C e sz base w' v xs:=h.mod (A:=fun _=>False) m.mod fun _ _ h=>h.elim
theorem eP.wr{b:Nat}(h:eP C e sz base w v xs)(m:dy b w w')(ao:b<base):eP C e sz base w' v xs:=h.mod (A:=fun k=>k=b) (m.mod rfl) fun k _ e=>AK
theorem eP.new{R:A_->Addr->α->Prop}[Rel R C sz](h:eP C e sz base w v xs):hc (fun k=>k<base) (fun w=>bn sz R w v xs) w:=fun w' m=>by
 have bo:=h.mod m fun k _ a=>a;obtain⟨cq,aC,aO,an⟩:=bo.ex;exact bn.Gd aC (aO.jD kg) fun i h1 I=>(an i h1 I).here
theorem eP.jD{R:A_->Addr->α->Prop}[Rel R C sz](h:eP C e sz base w v xs):bn sz R w v xs:=(h.new (R:=R)).here
theorem eP.under(h:eP C e sz base w v xs)(ao:base<=w.heap.size):∀k,y9 v base k->k<w.heap.size:=fun k hk=>by
 rcases hk with hk | hk
 .exact(h.lt k hk).2
 .omega
theorem ey.own{p:A_->Prop}{w1:A_}(az:ey w p w1)(h:eP C e sz base w v xs)(ao:base<=w.heap.size):hc (y9 v base) p w1:=az.mono fun i _ U=>h.under ao i U
theorem eP.box{t:F_}{k:Nat}{c:Array B_}(aO:eP C e sz base w v xs)(aK:w.grownBy w' v.ownBlock)(hk:w.heap[k]? = some (.cells c t))(aB:t≠e):w'.heap[k]? = some (.cells c t):=by
 obtain⟨cq,_,aO,_⟩:=aO.ex;rw[aK.block k (cA hk) fun e'=>?_]
 .exact hk
 rcases aO.2 with ⟨rfl,_⟩ | ⟨g,cap,c2,rfl,_,B9,_⟩
 .cases e'
 .simp only[Value.ownBlock,Option.some.injEq] at e';subst e';rw[B9] at hk;injection hk with hk
  injection hk with _ hk
  exact aB hk.symm
theorem eP.ln{w0:A_}(aO:eP C e sz base w v xs)(he:Ext w0 w)(aK:w.grownBy w' v.ownBlock)(ao:w0.heap.size<=base):Ext w0 w':=he.grown aK fun k hk=>QB ao (aO.lt k hk).1
theorem _I{P:D_}{cT:B_->A_->Prop}{ty:F_}{b:Nat}{a:Addr}{c:Nat}{cs:C_ B_}{x:α}{t}(ak:eP C e sz base w v xs)(an:fi w a cs)(bF:hc (y9 v base) (fun w=>C w cs x) w)
  (dr:cs.length=sz)(h1:∀u∈cs,u.oneCell'=true)(ao:(xs.length+1)*b<=140737488355328)(lp:xs.length+1<=maxLen)(kC:base<=w.heap.size)
  (hk:∀b0 w',eP C e sz base w' b0 (xs++[x])->w.grownBy w' v.ownBlock->cT b0 w'):ml P ty e sz b v (.slice (some a) 1 c) w cT t:=by
 obtain⟨cq,aC,aO,iL⟩:=ak.ex;refine _X (enc:=kf) (ys:=[(⟨cs,dr,h1⟩:fj sz)]) aO kg (by simpa[kf] using an) rfl tj (by rw[aC];exact ao) (by rw[aC];exact lp) kC fun b0 w' nh aK kB=>hk b0 w' ⟨cq++[⟨cs,dr,h1⟩],by simp[aC],nh,fun i h1 I=>?_⟩ aK;have hm:Mod (fun k=>v.ownBlock=some k) w w':=Mod.grown aK fun k hk=>hk;have fO:∀k,k<w.heap.size->b0.ownBlock=some k->y9 v base k:=fun k hk he=>by
  rcases kB with e | e
  .exact .inl (e ▸ he)
  .rw[e] at he;injection he with he;omega
 have key:∀{p:A_->Prop},hc (y9 v base) p w->hc (y9 b0 base) p w':=fun {p} h=>h.move hm (fun i _ a=>.inl a) fun i U a=>by
  rcases a with a | a
  .exact fO i U a
  .exact .inr a
 rw[Ln] at h1 I;by_cases U:i<cq.length
 .have qA:i<xs.length:=AK
  have:=key (iL i U qA)
  simpa[List.getElem_append,U,qA] using this
 .have bB:i=cq.length:=by simp at h1;omega
  subst bB;have aJ:¬cq.length<xs.length:=AK
  have:=key bF
  simpa[List.getElem_append,aJ] using this
end
section
variable{α:Type}{enc:α->List Value}{e:TypeId}{sz base:Nat}{w w':World}{v:Value}{xs:List α}
theorem aS.box{t:F_}{k:Nat}{c:Array B_}(aO:aS enc e sz base w v xs)(aK:w.grownBy w' v.ownBlock)(hk:w.heap[k]? = some (.cells c t))(aB:t≠e):w'.heap[k]? = some (.cells c t):=by
 rw[aK.block k (cA hk) fun e'=>?_]
 .exact hk
 .obtain⟨cur,h⟩:=aO.cx k e'.symm;rw[hk] at h;injection h with h;injection h with _ h;exact aB h
theorem aS.ln{w0:A_}(aO:aS enc e sz base w v xs)(he:Ext w0 w)(aK:w.grownBy w' v.ownBlock)(ao:w0.heap.size<=base):Ext w0 w':=he.grown aK fun k hk=>QB ao (aO.lt k hk).1
theorem U_{P:D_}{cT:B_->A_->Prop}{ty:F_}{hd b:Nat}{y:α}{cs:C_ B_}{t}(ak:aS enc e sz base w v xs)(an:w.heap[b]? = some (.cells cs.toArray e))(fx:cs=enc y)(dr:∀x,(enc x).length=sz)(h1:∀y,∀u∈enc y,u.oneCell'=true)
  (ao:(xs.length+1)*hd<=140737488355328)(lp:xs.length+1<=maxLen)(kC:base<=w.heap.size)
  (hk:∀aQ n c w',aS enc e sz base w' (.slice aQ n c) (xs++[y])->w.grownBy w' v.ownBlock->cT (.slice aQ n c) w'):ml P ty e sz hd v (.slice (some ⟨b,0,none⟩) 1 1) w cT t:=by
 refine _X (ys:=[y]) ak dr (by subst fx;simpa using gT an) rfl h1 ao lp kC fun b0 w' aO aK _=>?_;obtain⟨aQ,cap,rfl,_⟩:=aO.form;exact hk _ _ _ _ aO aK
end
theorem Rz{α:Type}{l:C_ α}{k b:Nat}(hk:k<l.length)(ao:l.length*b<=140737488351232)(hm:l.length<=9223372036854775807):((l.take k).length+1)*b<=140737488355328/\(l.take k).length+1<=maxLen:=by
 have e:(l.take k).length=k:=by rw[K9];omega
 rw[e]
 have:=AI9 b (show k+1<=l.length from hk)
 exact⟨AK,by unfold maxLen;omega⟩
theorem eP.snoc{α:Type}{C:A_->C_ B_->α->Prop}{e:F_}{sz base:Nat}{w:A_}{v:B_}{l:C_ α}{k:Nat}(hk:k<l.length)(h:eP C e sz base w v (l.take k++[l[k]])):eP C e sz base w v (l.take (k+1)):=by
 rw[Ly hk];exact h
theorem eP.done{α:Type}{C:A_->C_ B_->α->Prop}{e:F_}{sz base:Nat}{w:A_}{v:B_}{l:C_ α}{k:Nat}(hk:l.length<=k)(h:eP C e sz base w v (l.take k)):eP C e sz base w v l:=by
 rwa[LJ hk] at h
end ba
end
section
namespace ba
open Go Go.RowKit
inductive jS where
 | i
 | b
 | s
deriving DecidableEq
def jS.of:TypeDesc->H_ jS
 | .int .i64=>some .i
 | .bool=>some .b
 | .string=>some .s
 | _=>none
theorem jS.anF{sG:TypeDesc}(h:jS.of sG=some .i):sG = .int .i64:=by unfold jS.of at h;split at h<;>simp_all
theorem jS.anE{sG:TypeDesc}(h:jS.of sG=some .b):sG = .bool:=by unfold jS.of at h;split at h<;>simp_all
theorem jS.anG{sG:TypeDesc}(h:jS.of sG=some .s):sG = .string:=by unfold jS.of at h;split at h<;>simp_all
def jS.ok:jS->B_->Prop
 | .i,v => ∃n,v = .int .i64 n
 | .b,v => ∃n,v = .bool n
 | .s,v => ∃n,v = .string n
def r8:C_ jS->C_ B_->Prop
 | [],[]=>True
 | k :: sq,v :: vs=>k.ok v/\r8 sq vs
 | _,_=>False
theorem Nt:∀{sq:C_ jS} {vs:C_ B_},r8 sq vs->vs.length=sq.length
 | [],[],_=>rfl
 | _ :: _,_ :: _,h=>by simp[Nt h.2]
 | [],_ :: _,h=>h.elim
 | _ :: _,[],h=>h.elim
def BP(P:D_):C_ Field->C_ jS->Nat->Bool
 | [],[],_=>true
 | f :: gd,k :: sq,n=>f.name != "_" && f.offset == n&&((P.underlying f.type).bind jS.of == some k)&&BP P gd sq (n+1)
 | _,_,_=>false
def Il(P:D_)(t:F_)(sig:C_ jS):Bool :=
 match P.underlying t with
 | some (.struct gd) => !P.stoodInHeld t && !P.eqGuardType P.depth t&&BP P gd.toList sig 0
 | _=>false
theorem drop_cons{α:Type}{l:C_ α}{n:Nat}{x:α}{r:C_ α}(h:l.drop n=x :: r):l[n]? = some x/\l.drop (n+1)=r:=by
 have h1:l[n]? = some x:=by
  have:=congrArg (·[0]?) h
  simpa using this
 refine⟨h1,?_⟩
 have:=congrArg (List.drop 1) h
 simpa[List.drop_drop] using this
theorem WH{P:D_}(w:A_)(d:Nat)(xs ys:Array B_):∀(gd:C_ Field) (sq:C_ jS) (n:Nat),BP P gd sq n=true->r8 sq (xs.toList.drop n)->r8 sq (ys.toList.drop n) ->
  ∃r:Bool,(Op.eqFields (d+1) xs ys gd).run P w = .ok r w/\(r=true↔xs.toList.drop n=ys.toList.drop n)
 | [],[],n,_,ag,bV=>by
  refine⟨true,by simp[Op.eqFields],?_⟩;have h1:=Nt ag;have I:=Nt bV;rw[AF9 h1,AF9 I];simp
 | [],_ :: _,_,h,_,_=>by simp[BP] at h
 | _ :: _,[],_,h,_,_=>by simp[BP] at h
 | f :: gd,k :: sq,n,h,ag,bV=>by
  simp only[BP,Bool.and_eq_true,bne_iff_ne,ne_eq,beq_iff_eq] at h;obtain⟨⟨⟨h1,I⟩,ab⟩,aH⟩:=h;obtain⟨sG,hu,hk⟩:=Option.bind_eq_some_iff.1 ab;cases OW:xs.toList.drop n with
  | nil=>rw[OW] at ag;exact ag.elim
  | cons x rx =>
   cases OX:ys.toList.drop n with
   | nil=>rw[OX] at bV;exact bV.elim
   | cons y acg =>
    rw[OW] at ag;rw[OX] at bV;obtain⟨ex,WS⟩:=drop_cons OW;obtain⟨BK,WT⟩:=drop_cons OX;obtain⟨r,aP,YF⟩:=WH w d xs ys gd sq (n+1) aH (by rw[WS];exact ag.2) (by rw[WT];exact bV.2);have aV:sX P f.type=some false:=by
     unfold sX;rw[hu];cases sG<;>simp[jS.of] at hk<;>rfl
    have agJ:xs[n]? = some x:=by rw[<-Array.getElem?_toList];exact ex
    have ag6:ys[n]? = some y:=by rw[<-Array.getElem?_toList];exact BK
    have aoO:(part f.type xs f.offset).run P w = .ok x w:=by simp[part,yP aV,I,agJ]
    have aoR:(part f.type ys f.offset).run P w = .ok y w:=by simp[part,yP aV,I,ag6]
    have Q3:∃q:Bool,(Op.equalIn (d+1) f.type x y).run P w = .ok q w/\(q=true↔x=y):=by
     cases k with
     | i =>
      obtain⟨a,rfl⟩:=ag.1;obtain⟨b,rfl⟩:=bV.1;have aB:=jS.anF hk;subst aB;exact⟨_,run_equalIn_int w d f.type .i64 .i64 a b hu,Bs⟩
     | b =>
      obtain⟨a,rfl⟩:=ag.1;obtain⟨b,rfl⟩:=bV.1;have aB:=jS.anE hk;subst aB;exact⟨_,run_equalIn_bool' w d f.type a b hu,Bs⟩
     | s =>
      obtain⟨a,rfl⟩:=ag.1;obtain⟨b,rfl⟩:=bV.1;have aB:=jS.anG hk;subst aB;exact⟨_,run_equalIn_string w d f.type a b hu,by rw[<-beq_toListBytes];simp⟩
    obtain⟨q,ar,PC⟩:=Q3;refine⟨q&&r,?_,?_⟩
    .simp only[Op.eqFields,h1,ne_eq,not_false_eq_true,if_true,Sem.run_bind,aoO,aoR,ar,Result.andThen_ok];cases q
     .simp
     .simpa using aP
    .rw[WS,WT] at YF;simp only[Bool.and_eq_true,PC,YF,List.cons.injEq]
theorem ab7{P:D_}{t:F_}{sig:C_ jS}(h:Il P t sig=true)(w:A_){xs ys:C_ B_}(ag:r8 sig xs)(bV:r8 sig ys)(x y:G_) :
  ∃r:Bool,(r=true↔xs=ys)/\∀w,(do eqGuard .eql t x y (.agg xs.toArray) (.agg ys.toArray);binOp .eql t (.agg xs.toArray) (.agg ys.toArray):Sem B_).run P w = .ok (.bool r) w /\
   (do eqGuard .neq t x y (.agg xs.toArray) (.agg ys.toArray);binOp .neq t (.agg xs.toArray) (.agg ys.toArray):Sem B_).run P w = .ok (.bool (!r)) w:=by
 unfold Il at h;cases hu:P.underlying t with
 | none=>rw[hu] at h;cases h
 | some sG =>
  cases sG<;>simp[hu] at h;rename_i gd;obtain⟨⟨h1,I⟩,ab⟩:=h;have Yz:P.fieldsOf t=gd:=by simp[Program.fieldsOf,hu]
  have key:∀w,∃r:Bool,(Op.equalIn 10000 t (.agg xs.toArray) (.agg ys.toArray)).run P w = .ok r w/\(r=true↔xs=ys):=fun w=>by
   obtain⟨r,aP,U⟩:=WH (P:=P) w 9998 xs.toArray ys.toArray gd.toList sig 0 ab (by simpa using ag) (by simpa using bV);refine⟨r,?_,by simpa using U⟩;rw[run_equalIn_struct w 9999 t _ _ (by rw[Yz];exact hu) h1,Yz];exact aP
  obtain⟨r,_,U⟩:=key w;refine⟨r,U,fun w'=>?_⟩;obtain⟨hv,ry,cH⟩:=key w'
  have:hv=r:=by
   rcases Bool.eq_false_or_eq_true r with e | e
   .rw[e];exact cH.2 (U.1 e)
   .rw[e];exact Bool.eq_false_iff.2 fun h=>by rw[U.2 (cH.1 h)] at e;cases e
  subst this;refine⟨?_,?_⟩
  .simp only[Sem.run_bind,run_eqGuard_agg w' .eql t x y _ _ I,Result.andThen_ok,run_eql_struct,ry]
  .simp only[Sem.run_bind,run_eqGuard_agg w' .neq t x y _ _ I,Result.andThen_ok,run_neq_struct,ry]
section
variable{P:Program}{aE:Value->Prop}{dk dC:Operand}
theorem AB3{t:F_}{sig:C_ jS}{xs ys:C_ B_}{mQ}(h:Il P t sig=true)(ag:r8 sig xs)(bV:r8 sig ys)(hk:∀r:Bool,(r=true↔xs=ys)->aE (.bool r)):hb P .eql t dk dC (.agg xs.toArray) (.agg ys.toArray) aE mQ:=by
 obtain⟨r,h1,I⟩:=ab7 h default ag bV dk dC;exact _Z (fun w=>(I w).1) (hk r h1)
theorem _9{t:F_}{sig:C_ jS}{xs ys:C_ B_}{mQ}(h:Il P t sig=true)(ag:r8 sig xs)(bV:r8 sig ys)(hk:∀r:Bool,(r=true↔xs≠ys)->aE (.bool r)):hb P .neq t dk dC (.agg xs.toArray) (.agg ys.toArray) aE mQ:=by
 obtain⟨r,h1,I⟩:=ab7 h default ag bV dk dC;exact _Z (fun w=>(I w).2) (hk (!r) (by rw[ne_eq,<-h1];cases r<;>simp))
theorem AB4{t e:F_}{a:H_ Addr}{l c:Nat}{mQ}(h:P.underlying t=some (.slice e))(hk:aE (.bool a.isNone)):hb P .eql t dk dC (.slice a l c) (.slice none 0 0) aE mQ :=
 _Z (v:=.bool a.isNone) (fun w=>by simp[eqGuard_at_slice,binOp,run_equal_slice_nil w t e a l c h]) hk
end
end ba
end
section
namespace ba
open Go Go.RowKit
section
variable{P:Program}{w0 w:World}{S:Fr}{K:Fr->World->Prop}
def strip:eT->C_ Step×eT
 | .take s r=>(s :: (strip r).1,(strip r).2)
 | t=>([],t)
theorem CV:∀(t:eT) (S:Fr),tX P (strip t).1 S w0 (fun a6=>nt P w0 (strip t).2 a6 w K)->nt P w0 t S w K
 | .take ⟨d,none,i⟩ r,S,h=>by
  show mu P i S w0 fun v=>nt P w0 r (put S d v) w K;have bo:mu P i S w0 fun v=>tX P (strip r).1 (put S d v) w0 (fun a6=>nt P w0 (strip r).2 a6 w K):=h;exact mu.mono (fun v aG=>CV r _ aG) bo
 | .take ⟨d,some (j,b),i⟩ r,S,h=>by
  rcases h with ⟨t,aB,h1,I⟩ | ⟨hu,ab⟩
  .exact .inl ⟨t,aB,fun e=>mu.mono (fun v aG=>CV r _ aG) (h1 e),fun e=>CV r _ (I e)⟩
  .exact .inr ⟨hu,CV r _ ab⟩
 | .done,S,h=>h
 | .nil,S,h=>h
 | .alt _ _ _,S,h=>h
 | .bh _ _ _,S,h=>h
 | .wide _,S,h=>h
theorem acG{b n:Nat}{c cs:Array B_}{e:F_}{KW:A_->Prop}(ao:w.heap[b]? = some (.cells c e))(an:c.size=n)(az:cs.size=n)(h1:∀x∈cs.toList,x.oneCell'=true)
  (hk:∀w1,dy b w w1->w1.heap[b]? = some (.cells cs e)->KW w1):Bl n (.pointer (some ⟨b,0,none⟩)) (.agg cs) w KW :=
 RS az (fun j aF=>⟨⟨_,fW ao (Array.getElem?_eq_getElem AK)⟩,by rw[add_eq];simp[World.frozen?,ao]⟩) h1 (hk _ (dy.iC cs.toList w ⟨b,0,none⟩ 0) (aco ao AK))
structure uq where
 d:Nat
 ty:TypeId
 z:Array Value
 n:Nat
 x:Nat
def uq.new(v:uq):Step:=⟨some v.d,none,.e (.new v.ty (.agg v.z))⟩
def uq.st(v:uq):Step:=⟨none,none,.e (.gY v.n (.tmp v.d) (.tmp v.x))⟩
theorem aee(v:uq)(k:Fr->A_->Prop):DB P w0 v.st S w k=Bl v.n (S v.d) (S v.x) w (fun w'=>Ext w0 w'/\k S w'):=rfl
theorem ahF(v:uq)(k:Fr->A_->Prop):pP P v.st S w k=Bl v.n (S v.d) (S v.x) w (fun w'=>k S w'):=rfl
def acY(a b:uq):eT :=
 .alt a.new (.alt b.new (.alt a.st (.bh b.st .done .nil) .nil) .nil) (.alt b.new (.alt a.new (.alt a.st (.bh b.st .done .nil) .nil) .nil) .nil)
theorem arw(S:Fr){a b:Nat}(h:a≠b)(x y:B_):b4 (b4 S a x) b y=b4 (b4 S b y) a x:=by
 funext t;unfold b4;split<;>split<;>simp_all
theorem arq(a b:uq){oR pr:C_ B_}(bb:(a.d != b.d&&a.x != a.d&&a.x != b.d&&b.x != a.d&&b.x != b.d)=true)(Qg:a.z.size=a.n)(Qh:b.z.size=b.n)(aV:S a.x = .agg oR.toArray)(ao:S b.x = .agg pr.toArray)(akb:oR.length=a.n)(YQ:pr.length=b.n)
  (ah9:∀u∈oR,u.oneCell'=true)(aia:∀u∈pr,u.oneCell'=true)
  (hk:∀w' gD hd,Ext w0 w'->w0.heap.size<=gD->w0.heap.size<=hd->gD≠hd->w'.heap[gD]? = some (.cells oR.toArray a.ty)->w'.heap[hd]? = some (.cells pr.toArray b.ty) ->
   K (b4 (b4 S a.d (.pointer (some ⟨gD,0,none⟩))) b.d (.pointer (some ⟨hd,0,none⟩))) w'):nt P w0 (acY a b) S w0 K:=by
 simp only[Bool.and_eq_true,bne_iff_ne,ne_eq] at bb;obtain⟨⟨⟨⟨d1,d2⟩,d3⟩,d4⟩,d5⟩:=bb;have fin:∀(a6:Fr) (aD:A_) (gD hd:Nat),a6=b4 (b4 S a.d (.pointer (some ⟨gD,0,none⟩))) b.d (.pointer (some ⟨hd,0,none⟩))->Ext w0 aD->w0.heap.size<=gD->w0.heap.size<=hd->gD≠hd ->
   aD.heap[gD]? = some (.cells a.z a.ty)->aD.heap[hd]? = some (.cells b.z b.ty)->nt P w0 (.alt a.st (.bh b.st .done .nil) .nil) a6 aD K:=by
  rintro a6 aD gD hd rfl he h1 I cz EH o5;refine⟨?_,trivial⟩;have bB:b4 (b4 S a.d (.pointer (some ⟨gD,0,none⟩))) b.d (.pointer (some ⟨hd,0,none⟩)) a.d = .pointer (some ⟨gD,0,none⟩):=by simp[b4,d1]
  have aJ:b4 (b4 S a.d (.pointer (some ⟨gD,0,none⟩))) b.d (.pointer (some ⟨hd,0,none⟩)) a.x = .agg oR.toArray:=by simp[b4,d2,d3,aV]
  have a7:b4 (b4 S a.d (.pointer (some ⟨gD,0,none⟩))) b.d (.pointer (some ⟨hd,0,none⟩)) b.d = .pointer (some ⟨hd,0,none⟩):=by simp[b4]
  have bD:b4 (b4 S a.d (.pointer (some ⟨gD,0,none⟩))) b.d (.pointer (some ⟨hd,0,none⟩)) b.x = .agg pr.toArray:=by simp[b4,d4,d5,ao]
  rw[aee,bB,aJ];refine acG EH Qg (by simpa using akb) (by simpa using ah9) fun aN gg bl=>⟨gg.ext he h1,?_⟩;refine⟨?_,trivial⟩;rw[ahF,a7,bD];refine acG (gg.obj o5 (Ne.symm cz)) Qh (by simpa using YQ) (by simpa using aia) fun aU dE bp=>?_;exact hk aU gD hd (dE.ext (gg.ext he h1) I) h1 I cz (dE.obj bl cz) bp
 have m1:∀(ae o':Obj),((w0.alloc ae).alloc o').heap[w0.heap.size]? = some ae:=fun ae o'=>((Ext.refl (w0.alloc ae)).alloc o').obj (heap_alloc_new w0 ae);have m2:∀(ae o':Obj),((w0.alloc ae).alloc o').heap[w0.heap.size+1]? = some o':=fun ae o'=>by
  have:=heap_alloc_new (w0.alloc ae) o'
  rwa[World.size_alloc] at this
 refine⟨⟨(Ext.refl _).alloc _,⟨((Ext.refl _).alloc _).alloc _,?_⟩,trivial⟩,⟨(Ext.refl _).alloc _,⟨((Ext.refl _).alloc _).alloc _,?_⟩,trivial⟩,trivial⟩
 .refine fin _ _ w0.heap.size (w0.heap.size+1) ?_ (((Ext.refl _).alloc _).alloc _) (GA _) AK AK (m1 _ _) (m2 _ _);show b4 (b4 S a.d _) b.d (.pointer (some ⟨(w0.alloc _).heap.size,0,none⟩))=_;rw[World.size_alloc]
 .refine fin _ _ (w0.heap.size+1) w0.heap.size ?_ (((Ext.refl _).alloc _).alloc _) AK (GA _) AK (m2 _ _) (m1 _ _);show b4 (b4 S b.d _) a.d (.pointer (some ⟨(w0.alloc _).heap.size,0,none⟩))=_;rw[World.size_alloc,arw S (Ne.symm d1)]
theorem AE5{Q:eu->Fr->A_->Prop}{t:eT}{gS:eN}{mQ}(l:C_ Step)(th:Nat)(RV:F_)(GX:Array B_)(nV tU ti:Nat)(tb:F_)(GY:Array B_)(mf sA:Nat)(aB:strip t=(l,acY ⟨th,RV,GX,nV,tU⟩ ⟨ti,tb,GY,mf,sA⟩))(bb:(th != ti&&tU != th&&tU != ti&&sA != th&&sA != ti)=true)(Qg:GX.size=nV)(Qh:GY.size=mf)
  (hk:∀w1,Ext w w1->mg P l S w1 (fun a6 => ∃oR pr:C_ B_,a6 tU = .agg oR.toArray/\a6 sA = .agg pr.toArray/\oR.length=nV/\pr.length=mf/\(∀u∈oR,u.oneCell'=true)/\(∀u∈pr,u.oneCell'=true) /\
   ∀w' gD hd,Ext w1 w'->w1.heap.size<=gD->w1.heap.size<=hd->gD≠hd->w'.heap[gD]? = some (.cells oR.toArray RV)->w'.heap[hd]? = some (.cells pr.toArray tb) ->
    eg P gS Q (b4 (b4 a6 th (.pointer (some ⟨gD,0,none⟩))) ti (.pointer (some ⟨hd,0,none⟩))) w' ⟨⟩) ⟨⟩):eg P (.seq (.dp t) gS) Q S w mQ:=by
 unfold eg mg at *;show dV P (.dp t) _ S w;intro w1 he;refine CV t S ?_;have h:=hk w1 he;rw[aB];refine AI l S w1 _ _ (fun a6 _ bo=>?_) h;obtain⟨oR,pr,h1,I,ab,aH,a8,bE,cj⟩:=bo;exact arq ⟨th,RV,GX,nV,tU⟩ ⟨ti,tb,GY,mf,sA⟩ bb Qg Qh h1 I ab aH a8 bE fun w' gD hd bB aJ a7 bD bJ cv=>cj w' gD hd bB aJ a7 bD bJ cv
def iG(w0 w w':A_)(p:A_->Prop):Prop := ∀bO,Ext w0 bO->w'.heap.size<=bO.heap.size->(∀k,w.heap.size<=k->k<w'.heap.size->bO.heap[k]? = w'.heap[k]?)->p bO
structure ast(w0:World)(a b:uq)(S:Fr)(tU sA:List Value->World->Prop)(lo NP nV mf:Bool)(a6:Fr)(w:World)(oR pr:List Value)(hT aV hU ao xf xg:Nat):Prop where
 ext:Ext w0 w
 hG:∀t,t≠a.d->t≠b.d->t≠a.x->t≠b.x->a6 t=S t
 db:lo=true->a6 a.x = .agg oR.toArray/\oR.length=a.n/\(∀u∈oR,u.oneCell'=true)/\aV<=w.heap.size/\∀bO,Ext w0 bO->w.heap.size<=bO.heap.size->(∀k,hT<=k->k<aV->bO.heap[k]? = w.heap[k]?)->tU oR bO
 bw:NP=true->a6 b.x = .agg pr.toArray/\pr.length=b.n/\(∀u∈pr,u.oneCell'=true)/\ao<=w.heap.size/\∀bO,Ext w0 bO->w.heap.size<=bO.heap.size->(∀k,hU<=k->k<ao->bO.heap[k]? = w.heap[k]?)->sA pr bO
 a2:nV=true->a6 a.d = .pointer (some ⟨xf,0,none⟩)/\w0.heap.size<=xf/\xf<w.heap.size/\w.heap[xf]? = some (.cells a.z a.ty)
 bS:mf=true->a6 b.d = .pointer (some ⟨xg,0,none⟩)/\w0.heap.size<=xg/\xg<w.heap.size/\w.heap[xg]? = some (.cells b.z b.ty)
 oi:lo=true->nV=true->xf<hT\/aV<=xf
 zi:lo=true->mf=true->xg<hT\/aV<=xg
 gD:NP=true->nV=true->xf<hU\/ao<=xf
 hd:NP=true->mf=true->xg<hU\/ao<=xg
 auQ:nV=true->mf=true->xf≠xg
structure asp(a b:uq):Prop where
 d12:a.d≠b.d
 d13:a.d≠a.x
 d14:a.d≠b.x
 d23:b.d≠a.x
 d24:b.d≠b.x
 d34:a.x≠b.x
end
end ba
end
section
namespace ba
open Go Go.RowKit
def Step.num(s:Step):Nat:=match s.dst with | some d=>d | none=>100000
section
variable(P:Program)(w0:World)(c8:List Nat->Fr->World->Prop)
def sS(D:C_ Nat)(s:Step):Prop:=s.g=none/\∀S w,c8 D S w->kJ P s.i S w fun v w'=>Ext w0 w'/\c8 (s.num :: D) (put S s.dst v) w'
def RunT(D:C_ Nat)(s:Step):Prop:=s.g=none/\∀S w,c8 D S w->mu P s.i S w0 fun v=>c8 (s.num :: D) (put S s.dst v) w
def h2(fin:C_ Nat):C_ Nat->eT->Prop
 | D,.done => ∀d∈fin,d∈D
 | _,.nil=>True
 | D,.take s r=>RunT P w0 c8 D s/\h2 fin (s.num :: D) r
 | D,.alt s r m=>(sS P w0 c8 D s/\h2 fin (s.num :: D) r)/\h2 fin D m
 | D,.bh s r m=>(sS P w0 c8 D s/\h2 fin (s.num :: D) r)/\h2 fin D m
 | _,.wide _=>False
variable{P w0 c8}
theorem h2.alt{fin D:C_ Nat}{s:Step}{r m:eT}(h1:sS P w0 c8 D s)(I:h2 P w0 c8 fin (s.num :: D) r)(ab:h2 P w0 c8 fin D m):h2 P w0 c8 fin D (.alt s r m):=⟨⟨h1,I⟩,ab⟩
theorem h2.bh{fin D:C_ Nat}{s:Step}{r m:eT}(h1:sS P w0 c8 D s)(I:h2 P w0 c8 fin (s.num :: D) r)(ab:h2 P w0 c8 fin D m):h2 P w0 c8 fin D (.bh s r m):=⟨⟨h1,I⟩,ab⟩
theorem h2.take{fin D:C_ Nat}{s:Step}{r:eT}(h1:RunT P w0 c8 D s)(I:h2 P w0 c8 fin (s.num :: D) r):h2 P w0 c8 fin D (.take s r):=⟨h1,I⟩
theorem h2.nil{fin D:C_ Nat}:h2 P w0 c8 fin D .nil:=trivial
theorem h2.done{fin D:C_ Nat}(h:∀d∈fin,d∈D):h2 P w0 c8 fin D .done:=h
variable(P w0 c8)
theorem CO{fin:C_ Nat}{K:Fr->A_->Prop}(jr:∀D S w,(∀d∈fin,d∈D)->c8 D S w->K S w):∀(t:eT) (D:C_ Nat) (S:Fr) (w:A_),h2 P w0 c8 fin D t->c8 D S w->nt P w0 t S w K
 | .done,D,S,w,h,aZ=>jr D S w h aZ
 | .nil,_,_,_,_,_=>trivial
 | .take ⟨d,g,i⟩ r,D,S,w,h,aZ=>by
  obtain⟨⟨aK,h1⟩,I⟩:=h;cases aK;exact mu.mono (fun v aG=>CO jr r _ _ w I aG) (h1 S w aZ)
 | .alt ⟨d,g,i⟩ r m,D,S,w,h,aZ=>by
  obtain⟨⟨⟨aK,h1⟩,I⟩,ab⟩:=h;cases aK;refine⟨?_,CO jr m D S w ab aZ⟩;show kJ P i S w fun v w'=>Ext w0 w'/\nt P w0 r (put S d v) w' K;exact kJ.mono (fun v w' aG=>⟨aG.1,CO jr r _ _ w' I aG.2⟩) (h1 S w aZ)
 | .bh ⟨d,g,i⟩ r m,D,S,w,h,aZ=>by
  obtain⟨⟨⟨aK,h1⟩,I⟩,ab⟩:=h;cases aK;refine⟨?_,CO jr m D S w ab aZ⟩;show mq P i S w fun v w'=>nt P w0 r (put S d v) w' K;refine mq.of ?_;exact kJ.mono (fun v w' aG=>CO jr r _ _ w' I aG.2) (h1 S w aZ)
 | .wide _,_,_,_,h,_=>h.elim
end
theorem AB5{P:D_}{w:A_}{S:Fr}{Q:eu->Fr->A_->Prop}{t:eT}{mQ}(l:C_ Step)(hY:eT)(aB:strip t=(l,hY))
  (hk:∀w1,Ext w w1->mg P l S w1 (fun a6 => ∃c8 fin,h2 P w1 c8 fin [] hY/\c8 [] a6 w1/\∀D k7 aD,(∀d∈fin,d∈D)->c8 D k7 aD->Q .normal k7 aD) ⟨⟩):eg P (.dp t) Q S w mQ:=by
 unfold eg mg at *;show dV P (.dp t) _ S w;intro w1 he;refine CV t S ?_;have h:=hk w1 he;rw[aB];refine AI l S w1 _ _ (fun a6 _ bo=>?_) h;obtain⟨c8,fin,h1,I,ab⟩:=bo;exact CO P w1 c8 ab hY [] a6 w1 h1 I
end ba
end
section
namespace ba
open Go Go.RowKit
theorem _v{P:D_}{w1 w:A_}{S:Fr}{t:eT}{K:Fr->A_->Prop}{mQ}(h:∃C:A_->Prop,C w/\ev P C t S w K):gj P w1 (.wide t) S w K mQ:=by
 unfold gj;exact h
section
variable{P:Program}{C:World->Prop}{S:Fr}{w:World}{K:Fr->World->Prop}
theorem ev.lo{k d x:Nat}{r:eT}{a:Addr}(ag:S x = .pointer (some a))(h:ev P C r (b4 S d (.pointer (some (a.add k)))) w K):ev P C (.take ⟨some d,none,.p (.lo k (.tmp x))⟩ r) S w K:=⟨a,ag,h⟩
theorem ev.ld{d x:Nat}{r:eT}{a:Addr}{v:B_}(ag:S x = .pointer (some a))(aG:∀w,C w->w.cell? a=some v)(h:ev P C r (b4 S d v) w K):ev P C (.take ⟨some d,none,.r (.ld (.tmp x))⟩ r) S w K :=
 ⟨v,fun w hw=>⟨a,v,ag,aG w hw,rfl⟩,h⟩
theorem ev.Br{s:Step}{r:eT}(h:mw P C s S w fun S w=>ev P C r S w K):ev P C (.alt s r .nil) S w K:=⟨h,trivial⟩
theorem ev.zF{s:Step}{r:eT}(h:pP P s S w fun S w=>ev P C r S w K):ev P C (.bh s r .nil) S w K:=⟨h,trivial⟩
end
theorem mw.e{P:D_}{C:A_->Prop}{i:sK}{d:Nat}{S:Fr}{w:A_}{k:Fr->A_->Prop}(h:n2 P i S w fun v w'=>C w'/\k (put S (some d) v) w'):mw P C ⟨some d,none,.e i⟩ S w k:=h
theorem pP.e{P:D_}{i:sK}{d:Nat}{S:Fr}{w:A_}{k:Fr->A_->Prop}(h:n2 P i S w fun v w'=>k (put S (some d) v) w'):pP P ⟨some d,none,.e i⟩ S w k:=h
theorem aej{P:D_}{ty e:F_}{sz b:Nat}{s x:B_}{w:A_}{K:B_->A_->Prop}(h:∀t,ml P ty e sz b s x w K t):yX P ty e sz b s x w K:=by
 have:=h ⟨⟩
 unfold ml at this;exact this
theorem RT{x v:B_}{w:A_}{K:A_->Prop}(h:∀t,qZ x v w K t):vG x v w K:=by
 have:=h ⟨⟩
 unfold qZ at this;exact this
abbrev cw(s:H_ Addr×Nat×Nat):B_:=.slice s.1 s.2.1 s.2.2
def dZ{β:Type}(f:Nat->β)(i:Nat)(v:β):Nat->β:=fun j=>if j=i then v else f j
theorem Lk{β:Type}(f:Nat->β)(i:Nat)(v:β):dZ f i v i=v:=by simp[dZ]
theorem Gl{β:Type}(f:Nat->β){i j:Nat}(v:β)(h:j≠i):dZ f i v j=f j:=by simp[dZ,h]
structure iT{α:Type}(enc:α->List Value)(e:TypeId)(sz base:Nat)(w:World)(n:Nat)(vs:Nat->Option Addr×Nat×Nat)(xs:Nat->List α):Prop where
 own:∀i,i<n->aS enc e sz base w (cw (vs i)) (xs i)
 apart:∀i j k,i<n->j<n->i≠j->(cw (vs i)).ownBlock=some k->(cw (vs j)).ownBlock≠some k
section
variable{α:Type}{enc:α->List Value}{e:TypeId}{sz base n:Nat}{w w':World}{vs:Nat->Option Addr×Nat×Nat}{xs:Nat->List α}
theorem iT.mod{A:Nat->Prop}(h:iT enc e sz base w n vs xs)(m:Mod A w w')(dg:∀i k,i<n->(cw (vs i)).ownBlock=some k->¬A k):iT enc e sz base w' n vs xs :=
 ⟨fun i U=>(h.own i U).mod m (dg i · U),h.apart⟩
theorem iT.ext(h:iT enc e sz base w n vs xs)(m:Ext w w'):iT enc e sz base w' n vs xs:=h.mod (A:=fun _=>False) m.mod fun _ _ _ _ a=>a
theorem iT.not(h:iT enc e sz base w n vs xs){k:Nat}{c:Array B_}{t:F_}(hk:w.heap[k]? = some (.cells c t))(aB:t≠e):∀i,i<n->(cw (vs i)).ownBlock≠some k:=fun i U he=>by
 obtain⟨cur,I⟩:=(h.own i U).cx k he;rw[hk] at I;injection I with I;injection I with _ I;exact aB I
theorem iT.lt(h:iT enc e sz base w n vs xs):∀i k,i<n->(cw (vs i)).ownBlock=some k->base<=k/\k<w.heap.size:=fun i k U he=>(h.own i U).lt k he
theorem iT.app{P:D_}{cT:B_->A_->Prop}{ty:F_}{b:Nat}{a:Addr}{c:Nat}{y:α}(i:Nat)(U:i<n)(h:iT enc e sz base w n vs xs)(dr:∀x,(enc x).length=sz)(an:fi w a (enc y))(h1:∀y,∀u∈enc y,u.oneCell'=true)
  (ao:((xs i).length+1)*b<=140737488355328)(lp:(xs i).length+1<=maxLen)(kC:base<=w.heap.size)
  (hk:∀b0 w',iT enc e sz base w' n (dZ vs i b0) (dZ xs i (xs i++[y]))->w.grownBy w' (cw (vs i)).ownBlock->b0.2.1=(xs i).length+1->cT (cw b0) w'):yX P ty e sz b (cw (vs i)) (.slice (some a) 1 c) w cT:=by
 refine aej fun t=>_X (ys:=[y]) (h.own i U) dr (by simpa using an) rfl h1 ao lp kC fun b0 w' aO aK kB=>?_;obtain⟨aQ,cap,rfl,_⟩:=aO.form;refine hk (aQ,(xs i++[y]).length,cap) w' ⟨fun j aF=>?_,fun j Qp k aF ek cz he=>?_⟩ aK Bs
 .by_cases hM:j=i
  .subst hM;rw[Lk,Lk];exact aO
  .rw[Gl _ _ hM,Gl _ _ hM];exact(h.own j aF).mod (A:=fun k=>(cw (vs i)).ownBlock=some k) (Mod.grown aK fun k hk=>hk) fun k hk a=>h.apart j i k aF U hM hk a
 .have key:∀q,q<n->q≠i->∀k,(cw (vs q)).ownBlock=some k->(Value.slice aQ (xs i++[y]).length cap).ownBlock≠some k:=fun q ar PC k hk he=>by
   rcases kB with e | e
   .rw[e] at he;exact h.apart q i k ar U PC hk he
   .rw[e] at he;injection he with he;have:=(h.lt q k ar hk).2;omega
  by_cases hM:j=i
  .subst hM;rw[Lk] at he;rw[Gl _ _ (Ne.symm cz)];exact fun I=>key Qp ek (Ne.symm cz) k I he
  .rw[Gl _ _ hM] at he;by_cases YK:Qp=i
   .subst YK;rw[Lk];exact key j aF hM k he
   .rw[Gl _ _ YK];exact h.apart j Qp k aF ek cz he
end
end ba
end
section
namespace ba
open Go Go.RowKit
theorem bn.sub{α:Type}{sz:Nat}{R:A_->Addr->α->Prop}{w:A_}{aQ:H_ Addr}{n c:Nat}{xs:C_ α}(h:bn sz R w (.slice aQ n c) xs)(l u:Nat)(aC:l<=u)(hu:u<=xs.length) :
  bn sz R w (.slice (if c=l then aQ else aQ.map (·.add (l*sz))) (u - l) (c - l)) ((xs.drop l).take (u - l)) :=
 (h.tail l AK).head (u - l) (by rw[AF7];omega)
section
variable{P:Program}{aE:Value->Prop}{S:Fr}{w:World}
theorem _Y{α:Type}{sz n cap:Nat}{R:A_->Addr->α->Prop}{aQ:H_ Addr}{x y:G_}{k k':IntKind}{xs:C_ α}{t}(l u:Nat)(ak:bn sz R w (.slice aQ n cap) xs)(ag:aX S x = .int k (l:Int))(bV:aX S y = .int k' (u:Int))(aC:l<=u)(hu:u<=xs.length)
  (hk:∀ae c,bn sz R w (.slice ae (u - l) c) ((xs.drop l).take (u - l))->aE (.slice ae (u - l) c)):rZ S sz (.slice aQ n cap) (some x) (some y) none aE t:=by
 obtain⟨bB,aJ,a7⟩:=ak.len;refine _B l u cap (by simp[eG,ag]) (by simp[eG,bV]) (by simp[eG]) ⟨aC,AK,GA _⟩ Bs ?_;exact hk _ _ (ak.sub l u aC hu)
theorem AA0{b i j:Nat}{c:C_ B_}{ty:F_}{f:Nat×Nat}{v:B_}{w0:A_}{t}(ao:w0.heap[b]? = some (.cells c.toArray ty f))(he:Ext w0 w)(aF:c[i+j]? = some v)(hk:aE v):rW (.pointer (some ((Addr.add ⟨b,0,none⟩ i).add j))) w aE t:=by
 rw[add_add];exact _L ao he aF hk
end
theorem J{A B:Prop}(k:B)(h:xG B->A:=by
 intro q
 (repeat' first
 | assumption
 | exact Ext.refl _
 | refine Ext.trans ?_ Bz
 | simp -dsimp only[c7,cB,Nat.reduceAdd,Nat.reduceEqDiff,reduceIte,reduceCtorEq,df,xm,xl,wZ,wY,wq,wo,List.cons_append,List.nil_append]
 | refine Q_ AK ?_
 | refine _L Bz ?_ rfl ?_
 | refine _C Bz ?_ rfl ?_
 | refine _V AK ?_
 | refine _T (by first | assumption | omega) ?_
 | refine _U (by first | assumption | omega) ?_
 | refine _F Bz ?_
 | refine _G Bz ?_
 | refine _Q Bz ?_ AK rfl ?_
 | refine _R Bz ?_ AK rfl ?_
 | refine _S Bz ?_ AK rfl ?_
 | refine AA0 Bz ?_ rfl ?_
 | refine _3 Bz ?_ rfl ?_
 | refine _4 Bz ?_ rfl ?_
 | refine R_ Bz ?_ rfl ?_
 | refine _M (fun _=>by (simp -dsimp only[c7,Nat.reduceAdd,Nat.reduceEqDiff,reduceIte,reduceCtorEq,df]);rfl) rfl rfl (by first | assumption | (simp[Value.oneCell',o.cX.enc,o.Ref.enc,o.Node.enc,o.Scalar.enc,o.Var.enc,o.dB.enc,o.Act.enc,o.ea.enc,o.dJ.enc,o.lY.enc];done)) ?_
 | refine O_ ?_
 | refine T_ Bz rfl rfl (by first | assumption | (simp[Value.oneCell',o.cX.enc,o.Ref.enc,o.Node.enc,o.Scalar.enc,o.Var.enc,o.dB.enc,o.Act.enc,o.ea.enc,o.dJ.enc,o.lY.enc];done)) ?_
 | refine _E Bz (Nat.le_of_ble_eq_true rfl) rfl ?_
 | refine _W Bz (Nat.le_of_ble_eq_true rfl) rfl ?_
 | refine Y_ (by (simp only[fa,lay,ot,de,bN,Value.cells,Nat.reduceAdd,Nat.reduceEqDiff,reduceIte,List.range,List.range.loop,List.map_cons,List.map_nil]);rfl) ?_
 | refine W_ (by (simp only[fa,lay,ot,de,bN,Value.cells,Nat.reduceAdd,Nat.reduceEqDiff,reduceIte]);rfl) ?_)
 exact q.out):A:=h ⟨k⟩
end ba
namespace ba
open Go Go.RowKit
section
variable{P:Program}{aE:Value->Prop}{dk dC:Operand}
theorem AA1{t:F_}{p:H_ Addr}{mQ}(h:P.underlying t=some (.pointer (P.pointee t)))(hk:aE (.bool (!p.isNone))):hb P .neq t dk dC (.pointer p) (.pointer none) aE mQ :=
 _Z (v:=.bool (!p.isNone)) (fun w=>by simp[eqGuard_at_pointer,binOp,run_equal_pointer_nil w t p h]) hk
theorem AB6{t:F_}{mQ}(h:P.underlying t=some (.pointer (P.pointee t)))(hk:aE (.bool false)):hb P .neq t dk dC (.pointer none) (.pointer none) aE mQ:=AA1 h hk
theorem AB7{t:F_}{a:Addr}{mQ}(h:P.underlying t=some (.pointer (P.pointee t)))(hk:aE (.bool true)):hb P .neq t dk dC (.pointer (some a)) (.pointer none) aE mQ:=AA1 h hk
end
end ba
end
section
namespace o
open Go
structure Scope where
 scalars:List Scalar
 vars:List Var
 aw:List dB
 procs:List dJ
 locals:List Var
 self:Int
structure Env where
 vars:List (List Int)
 lens:List Int
 locals:List Int
 at_:List (List Int)
 self:Int
def nth{α:Type}(l:C_ α)(n:Int):H_ α:=if 0<=n then l[n.toNat]? else none
theorem iM{α:Type}{l:C_ α}{n:Int}(h:0<=n)(I:n<l.length):nth l n=some (l[n.toNat]' AK):=by
 unfold nth;rw[if_pos h,List.getElem?_eq_getElem]
theorem gX{α:Type}{l:C_ α}{n:Int}(h:n<0\/(l.length:Int)<=n):nth l n=none:=by
 unfold nth;split
 .rw[List.getElem?_eq_none AK]
 .rfl
def within(n:Int):Bool:=decide (-1048576<=n/\n<=1048576)
def tell(f:Int->Int->Int)(a b:Int):Int×Bool:=if within a&&within b&&within (f a b) then (f a b,true) else (0,false)
def bit(b:Bool):Int:=if b then 1 else 0
def fI(op:Int):Int:=if op=3 then 1 else if 1<=op/\op<=8 then 0 else if op=9\/op=10 then 1 else if 11<=op/\op<=19 then 2 else -1
def yx(op:Int):Bool:=decide (9<=op/\op<=19)
structure pv where
 parts:Int
 jO:Int
 makes:Int
 zx:Int->Int->Int×Bool
def AJ(jO:Int)(p:Int->Int->Bool):pv:=⟨2,jO,1,fun a b=>(bit (p a b),true)⟩
def hj(x:Int):H_ pv :=
 if x=9 then some ⟨1,1,1,fun a _=>(bit (decide (a=0)),true)⟩
 else if x=10 then some ⟨1,0,0,fun a _=>tell (· - ·) 0 a⟩
 else if x=11 then some ⟨2,0,0,tell (· + ·)⟩
 else if x=12 then some ⟨2,0,0,tell (· - ·)⟩
 else if x=13 then some ⟨2,0,0,tell (· * ·)⟩
 else if x=14 then some (AJ (-1) fun a b=>decide (a=b))
 else if x=15 then some (AJ (-1) fun a b => !decide (a=b))
 else if x=16 then some (AJ 0 fun a b=>decide (a<b))
 else if x=17 then some (AJ 0 fun a b=>decide (a<=b))
 else if x=18 then some (AJ 1 fun a b => !decide (a=0) && !decide (b=0))
 else if x=19 then some (AJ 1 fun a b => !decide (a=0) || !decide (b=0))
 else none
theorem QY{x:Int}(h:yx x=false):hj x=none:=by
 have bo:¬(9<=x/\x<=19):=by simpa[yx] using h
 unfold hj
 repeat rw[if_neg AK]
theorem Ge{x:Int}{ae:pv}(h:hj x=some ae):ae.parts=fI x/\yx x=true:=by
 unfold hj at h
 repeat' split at h
 all_goals first | (cases h;subst_vars;decide) | cases h
def stepG(f:Node->C_ Int->Int×Int)(x:Node)(st:C_ Int):Int×C_ Int :=
 if fI x.op<0 then (3,st) else if (st.length:Int)<fI x.op then (4,st)
 else if (f x st).2≠0 then ((f x st).2,st)
 else if (st.take (st.length - (fI x.op).toNat)++[(f x st).1]).length > 12 then (12,st) else (0,st.take (st.length - (fI x.op).toNat)++[(f x st).1])
def gi(f:Node->C_ Int->Int×Int):C_ Node->C_ Int->Int×C_ Int
 | [],st=>(0,st)
 | x :: r,st=>if (stepG f x st).1≠0 then stepG f x st else gi f r (stepG f x st).2
def mN(f:Node->C_ Int->Int×Int)(e:C_ Node):Int×Int :=
 if e.length > 24 then (0,5) else if e.length=0 then (0,4)
 else if (gi f e []).1≠0 then (0,(gi f e []).1) else if (gi f e []).2.length > 1 then (0,5) else ((gi f e []).2.headD 0,0)
theorem RD(f:Node->C_ Int->Int×Int):∀(a b:C_ Node) (st:C_ Int),gi f (a++b) st=if (gi f a st).1≠0 then gi f a st else gi f b (gi f a st).2
 | [],b,st=>by simp[gi]
 | x :: a,b,st=>by
  simp only[List.cons_append,gi];by_cases h:(stepG f x st).1=0
  .simp only[h,ne_eq,not_true_eq_false,if_false];exact RD f a b _
  .simp[h]
theorem CM{f:Node->C_ Int->Int×Int}{e:C_ Node}{k:Nat}{st:C_ Int}(hk:k<e.length)(h:gi f (e.take k) []=(0,st)):gi f (e.take (k+1)) []=stepG f e[k] st:=by
 rw[Ly hk,RD,h];simp only[ne_eq,not_true_eq_false,if_false,gi];split
 .rfl
 .rename_i I;simp at I;exact Prod.ext I.symm rfl
theorem RE{f:Node->C_ Int->Int×Int}{e:C_ Node}{k:Nat}{q:Int×C_ Int}(h:gi f (e.take k) []=q)(af:q.1≠0):gi f e []=q:=by
 have:=RD f (e.take k) (e.drop k) []
 rw[AH3,h,if_pos af] at this;exact this
theorem RC{f:Node->C_ Int->Int×Int}{e:C_ Node}(wi:e.length<=24){k:Nat}(hk:k<e.length){st:C_ Int}(h:gi f (e.take k) []=(0,st))(af:(stepG f e[k] st).1≠0):mN f e=(0,(stepG f e[k] st).1):=by
 have I:=CM hk h;have ab:=RE I af;unfold mN;rw[if_neg AK,if_neg AK,ab,if_pos af]
theorem aq1{f:Node->C_ Int->Int×Int}{x:Node}{st:C_ Int}(h:(stepG f x st).1=0):1<=(stepG f x st).2.length/\(stepG f x st).2.length<=12:=by
 unfold stepG at h ⊢
 repeat' split
 all_goals simp_all
def hC(n:Int)(s:Scope):Int×Bool:=if n=0 then (0,true) else if n<0\/(s.scalars.length:Int)<n then (0,false) else (1+n,true)
def gn(l:C_ Var)(n:Int)(s:Scope):Int×Int×Bool :=
 match nth l n with
 | some v=>((hC v.scalar s).1,(hC v.over s).1,(hC v.scalar s).2&&(hC v.over s).2)
 | none=>(0,0,false)
def kD(n:Int)(s:Scope):Int×Int:=match nth s.aw n with | some c=>if (hC c.scalar s).2 then (0,0) else (0,8) | none=>(0,8)
def Cr(n:Int)(s:Scope):Int×Int:=if 0<=n then (match nth s.procs (n.tdiv 16) with | some p=>if n.tmod 16<p.cp then (0,0) else (0,8) | none=>(0,8)) else (0,8)
def mJ(x:Node)(s:Scope):Int×Int :=
 if x.op=5 then (if 1<=s.self/\s.self<=s.scalars.length then (1+s.self,0) else (0,8))
 else if x.op=6 then kD x.n s
 else if x.op=7 then Cr x.n s
 else if x.op=8 then (if 0<=x.n/\x.n<s.scalars.length then (2+x.n,0) else (0,8))
 else (0,8)
def jw(x:Node)(s:Scope)(top:Int):Int×Int :=
 if x.op=1 then (if within x.n then (0,0) else (0,10))
 else if x.op=2\/x.op=3\/x.op=4 then
  (let q:=gn (if x.op=4 then s.locals else s.vars) x.n s
   if q.2.2=false then (0,8) else if (x.op=3/\(q.2.1=0\/top≠q.2.1))\/(x.op≠3/\q.2.1≠0) then (0,9) else (q.1,0))
 else mJ x s
def oI(ae:pv)(l:C_ Int):Int×Int:=if l.all (fun k=>(decide (ae.jO = -1)||decide (k=ae.jO))&&decide (k=l.headD 0)) then (ae.makes,0) else (0,9)
def fw(s:Scope)(x:Node)(st:C_ Int):Int×Int :=
 match hj x.op with
 | some ae=>oI ae (st.drop (st.length - ae.parts.toNat))
 | none=>jw x s (st.getLastD 0)
def kind(e:C_ Node)(s:Scope):Int×Int:=mN (fw s) e
def hZ(l:C_ Int)(n:Int):Int×Int:=match nth l n with | some x=>(x,0) | none=>(0,8)
def ha(x:Node)(v:Env)(top:Int):Int×Int :=
 if x.op=1 then (if within x.n then (x.n,0) else (0,10))
 else if x.op=2 then (match nth v.vars x.n with | some l=>hZ l 0 | none=>(0,8))
 else if x.op=3 then (match nth v.vars x.n with | some l=>(match nth l (top - 1) with | some y=>(y,0) | none=>(0,10)) | none=>(0,8))
 else if x.op=4 then hZ v.locals x.n
 else if x.op=6 then hZ v.lens x.n
 else if x.op=5 then (v.self,0)
 else if x.op=7 then (if 0<=x.n then (match nth v.at_ (x.n.tdiv 16) with | some l=>hZ l (x.n.tmod 16) | none=>(0,8)) else (0,8))
 else (0,0)
def xu(ae:pv)(l:C_ Int):Int×Int:=let r:=ae.zx (l.headD 0) (l.getLastD 0);if r.2 then (r.1,0) else (0,10)
def jn(v:Env)(x:Node)(st:C_ Int):Int×Int :=
 match hj x.op with
 | some ae=>xu ae (st.drop (st.length - ae.parts.toNat))
 | none=>ha x v (st.getLastD 0)
def eval(e:C_ Node)(v:Env):Int×Int:=mN (jn v) e
def lU(scalar over:Int)(s:Scope):Int×Bool :=
 if scalar<0\/(s.scalars.length:Int)<scalar\/over<0\/(s.scalars.length:Int)<over then (0,false) else if scalar=0 then (0,true) else (1+scalar,true)
theorem ard{a b:Int}{s:Scope}(h:(lU a b s).2=false):(lU a b s).1=0:=by
 unfold lU at h ⊢;by_cases q:a<0\/(s.scalars.length:Int)<a\/b<0\/(s.scalars.length:Int)<b
 .rw[if_pos q]
 .rw[if_neg q] at h;by_cases dt:a=0
  .rw[if_pos dt] at h;cases h
  .rw[if_neg dt] at h;cases h
def declared(l:C_ Var)(n:Int)(s:Scope):H_ (Var×Int) :=
 match nth l n with
 | some v=>if (lU v.scalar v.over s).2 then some (v,(lU v.scalar v.over s).1) else none
 | none=>none
theorem af0{l:C_ Var}{n:Int}{s:Scope}{q:Var×Int}(h:declared l n s=some q):0<=q.1.over/\q.1.over<=s.scalars.length:=by
 unfold declared at h;cases az:nth l n with
 | none=>rw[az] at h;cases h
 | some v =>
  rw[az] at h;simp only at h;by_cases aB:(lU v.scalar v.over s).2=true
  .rw[if_pos aB] at h;unfold lU at aB;by_cases cZ:v.scalar<0\/(s.scalars.length:Int)<v.scalar\/v.over<0\/(s.scalars.length:Int)<v.over
   .rw[if_pos cZ] at aB;cases aB
   .injection h with h
    subst h;simp only;omega
  .rw[if_neg aB] at h;cases h
def channel(n:Int)(s:Scope):H_ Int :=
 match nth s.aw n with
 | some c=>if (lU c.scalar 0 s).2 then some (lU c.scalar 0 s).1 else none
 | none=>none
def asked(e:C_ Node)(k:Int)(s:Scope):Int:=if (kind e s).2≠0 then (kind e s).2 else if (kind e s).1≠k then 9 else 0
def hx(a:Act):Bool:=decide (a.kind=4\/a.kind=5)
def Gr(a:Act)(k:Int)(s:Scope):Int:=match declared s.locals a.loc s with | some (v,k')=>if v.over≠0\/k'≠k then 9 else 0 | none=>8
def kL(a:Act)(s:Scope):Int :=
 if a.kind=1\/a.kind=2\/a.kind=3 then
  match declared (if a.kind=3 then s.locals else s.vars) a.to s with
  | none=>8
  | some (v,k) =>
   if (v.over≠0)≠(a.kind=2) then 9
   else if a.kind=2/\asked a.index (1+v.over) s≠0 then asked a.index (1+v.over) s
   else asked a.value k s
 else if a.kind=4\/a.kind=5 then
  match channel a.to s with
  | none=>8
  | some k=>if a.kind=5 then Gr a k s else asked a.value k s
 else 3
def head(c:ea)(cp:Int):Int :=
 if isName c.name=false then 6 else if c.from_<0\/cp<=c.from_\/c.to<0\/cp<=c.to then 10 else if c.bQ.length > 6 then 11 else 0
def k9(s:Scope):C_ Act->Nat->Bool->Int×Int
 | [],_,_=>(0,0)
 | a :: r,i,t=>if hx a&&t then (2+i,7) else if kL a s≠0 then (2+i,kL a s) else k9 s r (i+1) (t||hx a)
def jU(c:ea)(cp:Int)(s:Scope):Int×Int :=
 if head c cp≠0 then (0,head c cp) else if c.guard.length > 0/\asked c.guard 1 s≠0 then (1,asked c.guard 1 s) else k9 s c.bQ 0 false
def comm:C_ Act->Int×Int
 | []=>(0,0)
 | a :: r=>if hx a then (a.kind,a.to) else comm r
def ways(c:ea)(l:C_ dB):Int:=if (comm c.bQ).1=4 then (match nth l (comm c.bQ).2 with | some x=>if x.aaA then 2 else 1 | none=>1) else 1
def inner(p:dJ)(s:Scope):Scope:={ s with locals:=p.vars,self:=p.over }
def whole(p:dJ)(s:Scope):Int :=
 if isName p.name=false then 6 else if p.over<0\/(s.scalars.length:Int)<p.over then 8 else if p.cp<1\/12<p.cp then 10 else if p.cQ.length > 12 then 11 else 0
def qI(s:Scope):C_ Var->Nat->Int×Int
 | [],_=>(0,0)
 | v :: r,i=>if v.over≠0 then (i,9) else if s.vars.any (fun x=>decide (x.name=v.name)) then (i,7) else qI s r (i+1)
def lS(p:dJ)(s:Scope):Int×Int:=if (vars p.vars s.scalars 4).2≠0 then vars p.vars s.scalars 4 else qI s p.vars 0
def l1(own:Scope)(cp:Int)(all:C_ ea):C_ ea->Nat->Int×Int×Int
 | [],_=>(0,0,0)
 | c :: r,i=>if (jU c cp own).2≠0 then (2+(i:Int),(jU c cp own).1,(jU c cp own).2)
  else if (all.take i).any (fun x=>decide (x.name=c.name)) then (2+(i:Int),0,7) else l1 own cp all r (i+1)
def h9(p:dJ)(s:Scope):Int×Int×Int :=
 if whole p s≠0 then (0,0,whole p s) else if (lS p s).2≠0 then (1,(lS p s).1,(lS p s).2) else l1 (inner p s) p.cp p.cQ p.cQ 0
def eR(m:Model):Scope:=⟨m.scalars,m.vars,m.aw,m.procs,[],0⟩
def ht(m:Model)(i:Int):Scope:=match nth m.procs i with | some p=>inner p (eR m) | none=>eR m
def elems(m:Model)(p:dJ):Nat:=match nth m.scalars (p.over - 1) with | some s=>if s.size<1\/4<s.size then 0 else s.size.toNat | none=>0
theorem D1(m:Model)(p:dJ):elems m p<=4:=by
 unfold elems;split
 .split
  .omega
  .omega
 .omega
def j6(i:Nat)(n:Nat):C_ cX:=(List.range n).map fun(k:Nat)=>(⟨(i:Int),(k:Int)+1⟩:cX)
def jA(i:Nat)(p:dJ):C_ cX:=if p.over=0 then [(⟨(i:Int),0⟩:cX)] else []
def j1(m:Model):C_ dJ->Nat->C_ cX
 | [],_=>[]
 | p :: r,i=>jA i p++j6 i (elems m p)++j1 m r (i+1)
def insts(m:Model):C_ cX:=j1 m m.procs 0
theorem aa2(i n:Nat):j6 i (n+1)=j6 i n++[⟨(i:Int),(n:Int)+1⟩]:=by unfold j6;rw[AH5,AF4];rfl
theorem ZI{m:Model}{k:Nat}(h:k<m.procs.length):j1 m (m.procs.drop k) k=jA k m.procs[k]++j6 k (elems m m.procs[k])++j1 m (m.procs.drop (k+1)) (k+1):=by
 rw[AF2 h];rfl
theorem an3(i:Nat)(p:dJ):(jA i p).length<=1:=by unfold jA;split<;>simp
theorem ZK(m:Model):∀(l:C_ dJ) (i:Nat),(j1 m l i).length<=5*l.length
 | [],_=>by simp[j1]
 | p :: r,i=>by
  have:=ZK m r (i+1)
  have:=D1 m p
  have:=an3 i p
  simp only[j1,List.length_append,List.length_cons,j6,List.length_map,List.length_range];omega
theorem tH(m:Model):(insts m).length<=5*m.procs.length:=ZK m _ _
structure cX.of(m:Model)(x:cX):Prop where
 aR:0<=x.proc
 U:x.proc<m.procs.length
 elem:0<=x.elem/\x.elem<=4
theorem an2{m:Model}{i:Nat}(U:i<m.procs.length){n:Nat}(az:n<=4):∀x∈j6 i n,x.of m:=fun x ag=>by
 unfold j6 at ag;obtain⟨k,hk,rfl⟩:=List.mem_map.1 ag
 have:=List.mem_range.1 hk
 exact⟨Bs,by simpa using U,by constructor<;>simp<;>omega⟩
theorem an4{m:Model}{i:Nat}(U:i<m.procs.length){p:dJ}:∀x∈jA i p,x.of m:=fun x ag=>by
 unfold jA at ag;split at ag
 .rw[AG0] at ag;subst ag;exact⟨Bs,by simpa using U,Bs⟩
 .cases ag
theorem ZM{m:Model}:∀(l:C_ dJ) (i:Nat),i+l.length<=m.procs.length->∀x∈j1 m l i,x.of m
 | [],_,_,x,ag=>by simp[j1] at ag
 | p :: r,i,h,x,ag=>by
  simp only[j1,List.mem_append] at ag;simp only[List.length_cons] at h;rcases ag with (ag | ag) | ag
  .exact an4 AK x ag
  .exact an2 AK (D1 m p) x ag
  .exact ZM r (i+1) AK x ag
theorem rC{m:Model}:∀x∈insts m,x.of m:=ZM _ _ Bs
def qJ(m:Model)(x:cX):Nat:=match nth m.procs x.proc with | some p=>p.cQ.length | none=>0
def refsOf(i:Int)(n:Nat):C_ Ref:=(List.range n).map fun(k:Nat)=>(⟨i,(k:Int)⟩:Ref)
theorem abP(i:Int)(n:Nat):refsOf i (n+1)=refsOf i n++[⟨i,(n:Int)⟩]:=by unfold refsOf;rw[AH5,AF4];rfl
def nX(m:Model):C_ cX->Nat->C_ Ref
 | [],_=>[]
 | x :: r,i=>refsOf i (qJ m x)++nX m r (i+1)
def refs(m:Model):C_ Ref:=nX m (insts m) 0
theorem apH{m:Model}{l:C_ cX}{k:Nat}(h:k<l.length):nX m (l.drop k) k=refsOf k (qJ m l[k])++nX m (l.drop (k+1)) (k+1):=by
 rw[AF2 h];rfl
def mM(m:Model)(s:Int×cX×C_ Ref)(x:cX):Int×cX×C_ Ref:=((if x≠s.2.1 then s.1+1 else s.1),x,s.2.2++refsOf (if x≠s.2.1 then s.1+1 else s.1) (qJ m x))
structure sL where
 cN:Int
 part:Int
 item:Int
 sub:Int
deriving DecidableEq
def uH:sL:=⟨0,0,0,0⟩
abbrev Ga(m:Model):C_ ByteArray:=m.scalars.map (·.name)
abbrev AB(m:Model)(i:Nat):C_ ByteArray:=(m.vars.take i).map (·.name)
abbrev AA(m:Model)(i:Nat):C_ ByteArray:=(m.aw.take i).map (·.name)
abbrev yE(m:Model)(i:Nat):C_ ByteArray:=(m.procs.take i).map (·.name)
abbrev QJ(m:Model)(i:Nat):C_ ByteArray:=(m.props.take i).map (·.name)
abbrev sw(m:Model)(i:Nat):C_ ByteArray:=Ga m++AB m i
abbrev nU(m:Model)(i:Nat):C_ ByteArray:=sw m m.vars.length++AA m i
abbrev jz(m:Model)(i:Nat):C_ ByteArray:=nU m m.aw.length++yE m i
abbrev sv(m:Model)(i:Nat):C_ ByteArray:=jz m m.procs.length++QJ m i
def oN(m:Model):Nat->Int:=err 12 (nameAt (·.name) m.vars) (p7 m.vars m.scalars)
def oq(m:Model):Nat->Int:=err 4 (nameAt (·.name) m.aw) (pL m.aw m.scalars)
def jW(m:Model)(i:Nat):Int:=if oN m i≠0 then oN m i else if nameAt (·.name) m.vars i∈sw m i then 7 else 0
def kQ(m:Model)(i:Nat):Int:=if oq m i≠0 then oq m i else if nameAt (·.name) m.aw i∈nU m i then 7 else 0
def q9(m:Model)(p:dJ)(k:Nat):Int:=if nameAt (·.name) p.vars k∈jz m m.procs.length then 7 else 0
def iV(m:Model)(i:Nat):Int×Int :=
 match m.procs[i]? with
 | none=>(0,0)
 | some p=>if 6<=i then (11,0)
  else if (h9 p (ht m i)).2.2≠0 then ((h9 p (ht m i)).2.2,16*(h9 p (ht m i)).1+(h9 p (ht m i)).2.1)
  else if p.name∈jz m i then (7,0)
  else if (first p.vars.length (q9 m p)).2≠0 then (7,16+(first p.vars.length (q9 m p)).1)
  else (0,0)
def lA(m:Model)(p:dJ):Int:=if p.over=0 then 1 else size p.over m.scalars
def jh(l:C_ Int):Int:=l.foldl (· + ·) 0
def q4(c:dB):Int:=1+min (max c.cap 0) 4
def pieces(m:Model):Int×Int×Int :=
 (jh (m.procs.map (lA m)),jh (m.procs.map fun p=>lA m p*p.cQ.length),
  jh (m.vars.map (fun v=>cells v m.scalars))+jh (m.aw.map q4)+jh (m.procs.map fun p=>lA m p*(1+p.vars.length)))
def nF(m:Model)(i:Nat):Int :=
 match m.props[i]? with
 | none=>0
 | some p=>if 8<=i then 11 else if isName p.name=false then 6 else if p.name∈sv m i then 7
  else if (kind p.expr (eR m)).2≠0 then (kind p.expr (eR m)).2 else if (kind p.expr (eR m)).1≠1 then 9 else 0
def data(m:Model):sL :=
 if (scalars m.scalars).2≠0 then ⟨(scalars m.scalars).2,1,(scalars m.scalars).1,0⟩
 else if (first m.vars.length (jW m)).2≠0 then ⟨(first m.vars.length (jW m)).2,2,(first m.vars.length (jW m)).1,0⟩
 else if (first m.aw.length (kQ m)).2≠0 then ⟨(first m.aw.length (kQ m)).2,3,(first m.aw.length (kQ m)).1,0⟩
 else uH
def mL(m:Model):sL :=
 if (first m.procs.length fun i=>(iV m i).1).2≠0 then ⟨(first m.procs.length fun i=>(iV m i).1).2,4,(first m.procs.length fun i=>(iV m i).1).1,(iV m (first m.procs.length fun i=>(iV m i).1).1.toNat).2⟩
 else if 12<(pieces m).1\/64<(pieces m).2.2 then ⟨11,4,m.procs.length,0⟩ else uH
def p0(m:Model):sL:=if (first m.props.length (nF m)).2≠0 then ⟨(first m.props.length (nF m)).2,5,(first m.props.length (nF m)).1,0⟩ else uH
def check(m:Model):sL:=if (data m).cN≠0 then data m else if (mL m).cN≠0 then mL m else p0 m
theorem Cy{α:Type}{f:α->ByteArray}{l:C_ α}{i:Nat}(h:i<l.length):nameAt f l i=f l[i]:=by
 unfold nameAt;rw[List.getElem?_eq_getElem h];rfl
theorem amU{p:Nat->Prop}(h:∃j,p j):∃i,p i/\∀k,p k->i<=k:=by
 obtain⟨j,aF⟩:=h
 induction j using Nat.strongRecOn with
 | _ j fh =>
  by_cases ag:∃k,k<j/\p k
  .obtain⟨k,hk,au⟩:=ag;exact fh k hk au
  .exact⟨j,aF,fun k au=>Nat.le_of_not_lt fun cg=>ag ⟨k,cg,au⟩⟩
theorem we{n:Nat}{e:Nat->Int}(h:(first n e).2=0):∀j,j<n->e j=0:=by
 intro j aF;apply Classical.byContradiction;intro az;obtain⟨i,U,h1⟩:=amU (p:=fun j=>j<n/\e j≠0) ⟨j,aF,az⟩;rw[jH U.1 (fun k hk=>by
  apply Classical.byContradiction;intro cz;exact absurd (h1 k ⟨AK,cz⟩) AK) U.2] at h
 exact U.2 h
theorem W4{n:Nat}{e:Nat->Int}(h:(first n e).2≠0):∃i,i<n/\(first n e).1=(i:Int)/\(first n e).2=e i:=by
 unfold first at h ⊢
 split at h
 .rename_i i U;rw[List.find?_range_eq_some] at U;exact⟨i,by simpa using U.2.1,rfl,rfl⟩
 .exact absurd rfl h
theorem WI{α:Type}{f:α->ByteArray}{l:C_ α}{fP:Int}{mo mo':Nat->Int}{k i:Nat}(U:i<k)(hm:mo i=mo' i):err fP (nameAt f (l.take k)) mo i=err fP (nameAt f l) mo' i:=by
 have az:∀j,j<k->nameAt f (l.take k) j=nameAt f l j:=fun j aF=>by unfold nameAt;rw[List.getElem?_take_of_lt aF]
 unfold err;rw[az i U,hm];have he:(∃j,j<i/\nameAt f (l.take k) j=nameAt f l i)↔(∃j,j<i/\nameAt f l j=nameAt f l i) :=
  ⟨fun⟨j,h1,I⟩=>⟨j,h1,by rw[<-az j AK];exact I⟩,fun⟨j,h1,I⟩=>⟨j,h1,by rw[az j AK];exact I⟩⟩
 by_cases ag:∃j,j<i/\nameAt f l j=nameAt f l i
 .rw[if_pos (he.2 ag),if_pos ag]
 .rw[if_neg (fun h=>ag (he.1 h)),if_neg ag]
theorem arI{m:Model}{i:Nat}(U:i<m.vars.length)(bI:∀j,j<i->oN m j=0):(vars (m.vars.take (i+1)) m.scalars 12).2=oN m i:=by
 unfold vars;have aC:(m.vars.take (i+1)).length=i+1:=by simp;omega
 rw[aC,show(max 12 0:Int)=12 from rfl,W3 (e':=oN m) (fun j aF=>(WI (mo':=p7 m.vars m.scalars) aF (by unfold p7;rw[List.getElem?_take_of_lt aF]):_=oN m j))];by_cases af:oN m i=0
 .rw[pO fun j aF=>by
   by_cases hM:j=i
   .subst hM;exact af
   .exact bI j AK,af]
 .rw[jH AK bI af]
theorem afz{m:Model}{i:Nat}(U:i<m.aw.length)(bI:∀j,j<i->oq m j=0):(aw (m.aw.take (i+1)) m.scalars).2=oq m i:=by
 unfold aw;have aC:(m.aw.take (i+1)).length=i+1:=by simp;omega
 rw[aC,W3 (e':=oq m) (fun j aF=>(WI (mo':=pL m.aw m.scalars) aF (by unfold pL;rw[List.getElem?_take_of_lt aF]):_=oq m j))];by_cases af:oq m i=0
 .rw[pO fun j aF=>by
   by_cases hM:j=i
   .subst hM;exact af
   .exact bI j AK,af]
 .rw[jH AK bI af]
theorem arH(m:Model):vars m.vars m.scalars 12=first m.vars.length (oN m):=rfl
theorem afx(m:Model):aw m.aw m.scalars=first m.aw.length (oq m):=rfl
theorem L1{m:Model}{i:Nat}(h:jW m i=0):oN m i=0:=by
 apply Classical.byContradiction;intro az;unfold jW at h;rw[if_pos az] at h;exact az h
theorem HR{m:Model}{i:Nat}(h:kQ m i=0):oq m i=0:=by
 apply Classical.byContradiction;intro az;unfold kQ at h;rw[if_pos az] at h;exact az h
theorem WJ{m:Model}{i:Nat}(h:jW m i=0):i<12:=by
 have h:=L1 h;unfold oN err at h;split at h
 .cases h
 .omega
theorem agm{m:Model}{i:Nat}(h:kQ m i=0):i<4:=by
 have h:=HR h;unfold oq err at h;split at h
 .cases h
 .omega
theorem Ik{m:Model}{i:Nat}(U:i<m.procs.length)(h:(iV m i).1=0):i<6:=by
 unfold iV at h;rw[List.getElem?_eq_getElem U] at h;simp only at h;split at h
 .cases h
 .omega
theorem agC{m:Model}{i:Nat}(U:i<m.props.length)(h:nF m i=0):i<8:=by
 unfold nF at h;rw[List.getElem?_eq_getElem U] at h;simp only at h;split at h
 .cases h
 .omega
theorem ack{m:Model}(h:(scalars m.scalars).2=0):m.scalars.length<=2:=by
 unfold scalars at h
 have:=we h
 apply Classical.byContradiction;intro az;have I:=this 2 AK;unfold err at I;rw[if_pos AK] at I;cases I
theorem size_le(k:Int)(s:C_ Scalar):0<=size k s/\size k s<=4:=by
 unfold size;split
 .split<;>omega
 .omega
theorem r7(v:Var)(s:C_ Scalar):0<=cells v s/\cells v s<=4:=by
 have:=size_le v.over s
 unfold cells;split<;>omega
theorem Gg(m:Model)(p:dJ):0<=lA m p/\lA m p<=4:=by
 have:=size_le p.over m.scalars
 unfold lA;split<;>omega
theorem M8(c:dB):1<=q4 c/\q4 c<=5:=by unfold q4;omega
theorem aq6(l:C_ Int)(x:Int):jh (l++[x])=jh l+x:=by unfold jh;simp
theorem GI{α:Type}(f:α->Int)(l:C_ α){k:Nat}(h:k<l.length):jh ((l.take (k+1)).map f)=jh ((l.take k).map f)+f l[k]:=by
 rw[Ly h,AF4,AG1,AJ6,aq6]
theorem GH{α:Type}(f:α->Int)(B:Int)(ki:0<=B):∀(l:C_ α),(∀x∈l,0<=f x/\f x<=B)->0<=jh (l.map f)/\jh (l.map f)<=B*l.length:=by
 have key:∀(l:C_ α) (a:Int),(∀x∈l,0<=f x/\f x<=B)->a<=(l.map f).foldl (· + ·) a/\(l.map f).foldl (· + ·) a<=a+B*l.length:=by
  intro l
  induction l with
  | nil=>intro a _;simp
  | cons x r fh =>
   intro a h;have ag:=h x Bs;obtain⟨h1,I⟩:=fh (a+f x) fun y bV=>h y (by simp[bV]);simp only[List.map_cons,List.foldl_cons,List.length_cons];rw[Int.natCast_succ,Int.mul_add];omega
 intro l h;obtain⟨h1,I⟩:=key l 0 h;unfold jh;omega
end o
namespace o
theorem Wh{m:Model}(h:(scalars m.scalars).2≠0):data m=⟨(scalars m.scalars).2,1,(scalars m.scalars).1,0⟩:=by unfold data;rw[if_pos h]
theorem H2{m:Model}(ak:(scalars m.scalars).2=0){i:Nat}(U:i<m.vars.length)(bI:∀j,j<i->jW m j=0)(h:jW m i≠0):data m=⟨jW m i,2,i,0⟩:=by
 unfold data;rw[if_neg (by simpa using ak),jH U bI h,if_pos h]
theorem HZ{m:Model}(ak:(scalars m.scalars).2=0)(aG:∀j,j<m.vars.length->jW m j=0){i:Nat}(U:i<m.aw.length)(bI:∀j,j<i->kQ m j=0)(h:kQ m i≠0):data m=⟨kQ m i,3,i,0⟩:=by
 unfold data;rw[if_neg (by simpa using ak),pO aG,if_neg Bs,jH U bI h,if_pos h]
theorem Wf{m:Model}(ak:(scalars m.scalars).2=0)(aG:∀j,j<m.vars.length->jW m j=0)(an:∀j,j<m.aw.length->kQ m j=0):data m=uH:=by
 unfold data;rw[if_neg (by simpa using ak),pO aG,if_neg Bs,pO an,if_neg Bs]
theorem Wg{m:Model}(h:(data m).cN=0):(scalars m.scalars).2=0/\(∀j,j<m.vars.length->jW m j=0)/\(∀j,j<m.aw.length->kQ m j=0):=by
 unfold data at h;by_cases h1:(scalars m.scalars).2=0
 .rw[if_neg (by simpa using h1)] at h;by_cases I:(first m.vars.length (jW m)).2=0
  .rw[if_neg (by simpa using I)] at h;by_cases ab:(first m.aw.length (kQ m)).2=0
   .exact⟨h1,we I,we ab⟩
   .rw[if_pos ab] at h;exact absurd h ab
  .rw[if_pos I] at h;exact absurd h I
 .rw[if_pos h1] at h;exact absurd h h1
theorem H0{m:Model}(h:(data m).cN=0):m.scalars.length<=2/\m.vars.length<=12/\m.aw.length<=4:=by
 obtain⟨h1,I,ab⟩:=Wg h;refine⟨ack h1,?_,?_⟩
 .apply Classical.byContradiction;intro az
  have:=WJ (I 12 AK)
  omega
 .apply Classical.byContradiction;intro az
  have:=agm (ab 4 AK)
  omega
theorem Gi{m:Model}{i:Nat}(U:i<m.procs.length)(bI:∀j,j<i->(iV m j).1=0)(h:(iV m i).1≠0):mL m=⟨(iV m i).1,4,i,(iV m i).2⟩:=by
 unfold mL;rw[jH (e:=fun i=>(iV m i).1) U bI h];simp only;rw[if_pos h];simp
theorem Q9{m:Model}(bI:∀j,j<m.procs.length->(iV m j).1=0):mL m=if 12<(pieces m).1\/64<(pieces m).2.2 then ⟨11,4,m.procs.length,0⟩ else uH:=by
 unfold mL;rw[pO (e:=fun i=>(iV m i).1) bI,if_neg Bs]
theorem Ra{m:Model}(h:(mL m).cN=0):(∀j,j<m.procs.length->(iV m j).1=0)/\(pieces m).1<=12/\(pieces m).2.2<=64:=by
 by_cases h1:(first m.procs.length fun i=>(iV m i).1).2=0
 .have bI:=we h1;rw[Q9 bI] at h;refine⟨bI,?_⟩;by_cases I:12<(pieces m).1\/64<(pieces m).2.2
  .rw[if_pos I] at h;cases h
  .omega
 .unfold mL at h;rw[if_pos h1] at h;exact absurd h h1
theorem abj{m:Model}{i:Nat}(U:i<m.props.length)(bI:∀j,j<i->nF m j=0)(h:nF m i≠0):p0 m=⟨nF m i,5,i,0⟩:=by
 unfold p0;rw[jH U bI h,if_pos h]
theorem Rb{m:Model}(bI:∀j,j<m.props.length->nF m j=0):p0 m=uH:=by
 unfold p0;rw[pO bI,if_neg Bs]
theorem Lh{m:Model}(h:(p0 m).cN=0):∀j,j<m.props.length->nF m j=0:=by
 by_cases h1:(first m.props.length (nF m)).2=0
 .exact we h1
 .unfold p0 at h;rw[if_pos h1] at h;exact absurd h h1
theorem CX{α:Type}(f:α->ByteArray)(l:C_ α){k:Nat}(h:k<l.length):(l.take (k+1)).map f=(l.take k).map f++[f l[k]]:=by
 rw[Ly h,AF4];rfl
end o
namespace o
theorem NJ{m:Model}{i:Nat}(U:i<m.procs.length):iV m i=if 6<=i then (11,0)
  else if (h9 m.procs[i] (ht m i)).2.2≠0 then ((h9 m.procs[i] (ht m i)).2.2,16*(h9 m.procs[i] (ht m i)).1+(h9 m.procs[i] (ht m i)).2.1)
  else if m.procs[i].name∈jz m i then (7,0)
  else if (first m.procs[i].vars.length (q9 m m.procs[i])).2≠0 then (7,16+(first m.procs[i].vars.length (q9 m m.procs[i])).1)
  else (0,0):=by
 unfold iV;rw[List.getElem?_eq_getElem U]
theorem D7{m:Model}{i:Nat}(U:i<m.props.length):nF m i=if 8<=i then 11 else if isName m.props[i].name=false then 6 else if m.props[i].name∈sv m i then 7
  else if (kind m.props[i].expr (eR m)).2≠0 then (kind m.props[i].expr (eR m)).2 else if (kind m.props[i].expr (eR m)).1≠1 then 9 else 0:=by
 unfold nF;rw[List.getElem?_eq_getElem U]
theorem aht(n:Nat)(e:Nat->Int):0<=(first n e).1/\(first n e).1<=n:=by
 unfold first
 split
 .rename_i i U;rw[List.find?_range_eq_some] at U
  have:=U.2.1
  simp at this;constructor<;>simp<;>omega
 .simp
theorem aaz(s:Scope):∀(l:C_ Var) (i:Nat),0<=(qI s l i).1/\(qI s l i).1<=i+l.length
 | [],i=>by first | (simp[qI];done) | (simp[qI];omega)
 | v :: r,i=>by
  have:=aaz s r (i+1)
  unfold qI;split
  .simp;omega
  .split
   .simp;omega
   .simp only[List.length_cons];omega
theorem aox(p:dJ)(s:Scope):0<=(lS p s).1/\(lS p s).1<=p.vars.length:=by
 unfold lS;split
 .exact aht _ _
 .have:=aaz s p.vars 0;omega
theorem Vj(s:Scope):∀(l:C_ Act) (i:Nat) (t:Bool),0<=(k9 s l i t).1/\(k9 s l i t).1<=2+i+l.length
 | [],i,t=>by first | (simp[k9];done) | (simp[k9];omega)
 | a :: r,i,t=>by
  have:=Vj s r (i+1) (t||hx a)
  unfold k9;split
  .simp;omega
  .split
   .simp;omega
   .simp only[List.length_cons];omega
theorem afJ(c:ea)(cp:Int)(s:Scope):0<=(jU c cp s).1/\(jU c cp s).1<=2+c.bQ.length:=by
 unfold jU;split
 .simp;omega
 .split
  .simp;omega
  .have:=Vj s c.bQ 0 false;omega
theorem V2(own:Scope)(cp:Int)(all:C_ ea)(B:Nat):∀(l:C_ ea) (i:Nat),(∀c∈l,c.bQ.length<=B)->0<=(l1 own cp all l i).1/\(l1 own cp all l i).1<=2+i+l.length/\0<=(l1 own cp all l i).2.1/\(l1 own cp all l i).2.1<=2+B
 | [],i,_=>by first | (simp[l1];done) | (simp[l1];omega)
 | c :: r,i,h=>by
  have h1:=V2 own cp all B r (i+1) fun x ag=>h x (by simp[ag]);have I:=afJ c cp own;have ab:=h c Bs;unfold l1;split
  .simp only[List.length_cons];omega
  .split
   .simp only[List.length_cons];omega
   .simp only[List.length_cons];omega
theorem abg(p:dJ)(s:Scope)(B:Nat)(h:∀c∈p.cQ,c.bQ.length<=B):0<=(h9 p s).1/\(h9 p s).1<=2+p.cQ.length/\0<=(h9 p s).2.1/\(h9 p s).2.1<=2+B+p.vars.length:=by
 unfold h9;split
 .simp;omega
 .split
  .have:=aox p s
   simp only;omega
  .have:=V2 (inner p s) p.cp p.cQ B p.cQ 0 h
   omega
theorem Q8{p:dJ}{s:Scope}(h:(h9 p s).2.2=0):p.vars.length<=4/\p.cQ.length<=12/\whole p s=0/\(lS p s).2=0/\(l1 (inner p s) p.cp p.cQ p.cQ 0).2.2=0:=by
 unfold h9 at h;by_cases h1:whole p s=0
 .rw[if_neg (by simpa using h1)] at h;by_cases I:(lS p s).2=0
  .rw[if_neg (by simpa using I)] at h;refine⟨?_,?_,h1,I,h⟩
   .have ab:(vars p.vars s.scalars 4).2=0:=by
     apply Classical.byContradiction;intro az;unfold lS at I;rw[if_pos az] at I;exact az I
    apply Classical.byContradiction;intro az;have aH:=we ab 4 AK;unfold err at aH;rw[if_pos BN] at aH;cases aH
   .apply Classical.byContradiction;intro az;unfold whole at h1;split at h1
    .cases h1
    .split at h1
     .cases h1
     .split at h1
      .cases h1
      .rw[if_pos AK] at h1;cases h1
  .rw[if_pos I] at h;exact absurd h I
 .rw[if_pos h1] at h;exact absurd h h1
theorem D6{m:Model}{i:Nat}(U:i<m.procs.length)(h:(iV m i).1=0):i<6/\(h9 m.procs[i] (ht m i)).2.2=0/\¬m.procs[i].name∈jz m i/\(first m.procs[i].vars.length (q9 m m.procs[i])).2=0:=by
 rw[NJ U] at h;split at h
 .cases h
 .split at h
  .rename_i h1 I;exact absurd h I
  .split at h
   .cases h
   .split at h
    .cases h
    .rename_i h1 I ab aH;exact⟨AK,by simpa using I,ab,by simpa using aH⟩
end o
end