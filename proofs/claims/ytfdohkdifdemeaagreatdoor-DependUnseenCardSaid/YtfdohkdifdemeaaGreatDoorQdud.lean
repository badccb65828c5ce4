/- Parts. -/
import Derived.Test.YtfdohkdifdemeaaGreatDoorQduc
import Derived.Lib.RuneCount
import Derived.Lib.TrimU
import Derived.Laws.StructEq
import Derived.Laws.Cover3
import Derived.Maps.AppendAt
import Derived.Laws.Pointers
set_option linter.all false
set_option maxRecDepth 4000
section
namespace bt
open Go Go.RowKit
structure vk(p:Prop):Prop where out:p
theorem aQ{A B:Prop}(k:B)(h:vk B->A:=by
 intro q
 (repeat' first
 | assumption
 | exact Ext.refl _
 | refine Ext.trans ?_ (by assumption)
 | refine K.wrap (by omega) ?_
 | refine K.ta (by assumption) ?_ rfl ?_
 | refine K.q0 (by assumption) ?_ rfl ?_
 | refine K.uM (by assumption) ?_ (by omega) rfl ?_
 | refine K.uN (by assumption) ?_ (by omega) rfl ?_
 | refine K.uL (by assumption) ?_ (by omega) rfl ?_
 | refine K.uD (by omega) ?_
 | refine K.sy (by first | assumption | omega) ?_
 | refine K.tO (by first | assumption | omega) ?_
 | refine K.qC (by assumption) ?_
 | refine K.rI (by assumption) ?_
 | simp -dsimp only[c4,cF,Nat.reduceAdd,Nat.reduceEqDiff,reduceIte,reduceCtorEq,db])
 exact q.out):A:=h ⟨k⟩
theorem dq{F A B:Prop}(f:F)(k:B)(h:F->vk B->A:=by
 intro f q
 (repeat' first
 | assumption
 | exact Ext.refl _
 | refine Ext.trans ?_ (by assumption)
 | refine K.wrap (by omega) ?_
 | refine K.ta (by assumption) ?_ rfl ?_
 | refine K.q0 (by assumption) ?_ rfl ?_
 | refine K.uM (by assumption) ?_ (by omega) rfl ?_
 | refine K.uN (by assumption) ?_ (by omega) rfl ?_
 | refine K.uL (by assumption) ?_ (by omega) rfl ?_
 | refine K.uD (by omega) ?_
 | refine K.sy (by first | assumption | omega) ?_
 | refine K.tO (by first | assumption | omega) ?_
 | refine K.qC (by assumption) ?_
 | refine K.rI (by assumption) ?_
 | simp -dsimp only[c4,cF,Nat.reduceAdd,Nat.reduceEqDiff,reduceIte,reduceCtorEq,db,f])
 exact q.out):A:=h f ⟨k⟩
theorem pE{A B:Prop}(k:B)(h:vk B->A:=by
 intro q
 (repeat' first
 | assumption
 | exact Ext.refl _
 | refine Ext.trans ?_ (by assumption)
 | refine K.wrap (by omega) ?_
 | refine K.ta (by assumption) ?_ rfl ?_
 | refine K.q0 (by assumption) ?_ rfl ?_
 | refine K.uM (by assumption) ?_ (by omega) rfl ?_
 | refine K.uN (by assumption) ?_ (by omega) rfl ?_
 | refine K.uL (by assumption) ?_ (by omega) rfl ?_
 | refine K.uD (by omega) ?_
 | refine K.sy (by first | assumption | omega) ?_
 | refine K.tO (by first | assumption | omega) ?_
 | refine K.qC (by assumption) ?_
 | refine K.rI (by assumption) ?_
 | simp -dsimp only[c4,Nat.reduceAdd,Nat.reduceEqDiff,reduceIte,reduceCtorEq,db])
 exact q.out):A:=h ⟨k⟩
theorem ch{F A B:Prop}(f:F)(k:B)(h:F->vk B->A:=by
 intro f q;simp -dsimp only[c4,cF,Nat.reduceAdd,Nat.reduceEqDiff,reduceIte,reduceCtorEq,db,f];exact q.out):A:=h f ⟨k⟩
def tn:List (Nat×Value)->Fr->Fr
 | [],S=>S
 | p :: r,S=>cq (tn r S) p.1 p.2
theorem u5(S:Fr):tn [] S=S:=eq_of_heq (HEq.refl _)
theorem u4(t:Nat)(v:Value)(r:List (Nat×Value))(S:Fr):tn ((t,v) :: r) S=cq (tn r S) t v:=eq_of_heq (HEq.refl _)
def Has(S:Fr):List (Nat×Value)->Prop
 | []=>True
 | p :: r=>S p.1=p.2/\Has S r
theorem ud(S:Fr):Has S []=True:=propext Iff.rfl
theorem uc(S:Fr)(t:Nat)(v:Value)(r:List (Nat×Value)):Has S ((t,v) :: r)=(S t=v/\Has S r):=propext Iff.rfl
theorem Fe{S:Fr}:∀L,Has S L->tn L S=S
 | [],_=>rfl
 | p :: r,h=>by
  show cq (tn r S) p.1 p.2=S;rw[Fe r h.2];exact iY S _ _ h.1
def s7(S:Fr):List Nat->Fr->Fr
 | [],bh=>bh
 | t :: r,bh=>cq (s7 S r bh) t (S t)
theorem uI(S bh:Fr):s7 S [] bh=bh:=eq_of_heq (HEq.refl _)
theorem uH(S bh:Fr)(t:Nat)(r:List Nat):s7 S (t :: r) bh=cq (s7 S r bh) t (S t):=eq_of_heq (HEq.refl _)
theorem D1{S bh:Fr}:∀cJ:List Nat,(∀t∈cJ,bh t=S t)->s7 S cJ bh=bh
 | [],_=>rfl
 | t :: r,h=>by
  show cq (s7 S r bh) t (S t)=bh;rw[D1 r fun u hu=>h u (by simp[hu])];exact iY bh _ _ (h t (by simp))
theorem bx{p:Prop}(h:p:=by first | trivial | rfl | exact⟨rfl,trivial⟩ | (simp -dsimp only[c4,u5,u4,uI,uH,ud,uc,Nat.reduceAdd,Nat.reduceEqDiff,reduceIte,and_self];done) | (simp -dsimp only[c4,u5,u4,uI,uH,ud,uc,Nat.reduceAdd,Nat.reduceEqDiff,reduceIte,and_self];exact⟨rfl,trivial⟩)):p:=h
theorem Il{ds cJ:List Nat}(h:(cJ.all fun t => !ds.contains t)=true):∀t∈cJ,ds.contains t=false:=fun t aL=>by
 have:=List.all_eq_true.1 h t aL
 simpa using this
theorem ahZ{p:Nat->Prop}:∀n,p n->∃m,p m/\∀k,p k->m<=k:=fun n=>by
 induction n using Nat.strongRecOn with
 | _ n eV =>
  intro h;by_cases hm:∃k,k<n/\p k
  .obtain⟨k,hk,aO⟩:=hm;exact eV k hk aO
  .exact⟨n,h,fun k hk=>Nat.le_of_not_lt fun cw=>hm ⟨k,cw,hk⟩⟩
noncomputable def least(p:Nat->Prop):Nat:=open Classical in if h:∃m,p m/\∀k,p k->m<=k then h.choose else 0
theorem Wp{p:Nat->Prop}(h:∃n,p n):p (least p)/\∀k,p k->least p<=k:=by
 obtain⟨n,aD⟩:=h;have hm:=ahZ n aD;unfold least;rw[dif_pos hm];exact hm.choose_spec
section
variable{P:Program}{Q:eb->Fr->World->Prop}{S:Fr}{w:World}
theorem K.dj{β:Type}{b:fa}{t}(i N:Nat)(cJ:List Nat)(M:β->List (Nat×Value))(k3:β)(ia:Nat->β->World->Prop)(LK:S i = .int .i64 0)(bq:Has S (M k3))(ak:ia 0 k3 w)
  (ba:∀(k:Nat) x bh w',k<=N->ia k x w' ->
   dZ P b (hr (fun fu b2=>k<N/\fu i = .int .i64 ((k:Int)+1)/\∃yY,Has fu (M yY)/\ia (k+1) yY b2) Q ⟨⟩) (tn (M x) (cq (s7 S cJ bh) i (.int .i64 k))) w' ⟨⟩)
  (bw:(cJ.all fun t => !b.fw.contains t)=true:=by rfl):xb P b Q S w t:=by
 refine K.zX i N (fun k S w => ∃x,Has S (M x)/\ia k x w) LK ⟨k3,bq,ak⟩ ?_;rintro k bh w' cg hk ad ⟨x,CW,pT⟩;have h:=ba k x bh w' hk pT;rw[D1 cJ fun t aL=>cg t (Il bw t aL),iY bh i _ ad,Fe _ CW] at h;exact h
theorem K.gU{β:Type}{a b:fa}{t}(cJ:List Nat)(M:β->List (Nat×Value))(N:β->World->Prop)(h1:dZ P a (hr (fun fu b2 => ∃x,Has fu (M x)/\N x b2) Q ⟨⟩) S w ⟨⟩)
  (U:∀x bh w',N x w'->dZ P b Q (tn (M x) (s7 S cJ bh)) w' ⟨⟩)(bw:(cJ.all fun t => !a.fw.contains t)=true:=by rfl):dZ P (.seq a b) Q S w t:=by
 refine K.cut _ h1 ?_;rintro bh w' cg ⟨x,bq,gi⟩;have h:=U x bh w' gi;rw[D1 cJ fun t aL=>cg t (Il bw t aL),Fe _ bq] at h;exact h
theorem K.w3{β:Type}{b:fa}{t}(cJ:List Nat)(M:β->List (Nat×Value))(k3:β)(ia:β->World->Prop)(jK:β->Nat)(bq:Has S (M k3))(ak:ia k3 w)
  (ba:∀x bh w',ia x w' ->
   dZ P b (hr (fun fu b2 => ∃yY,Has fu (M yY)/\ia yY b2/\jK yY<jK x) Q ⟨⟩) (tn (M x) (s7 S cJ bh)) w' ⟨⟩)
  (bw:(cJ.all fun t => !b.fw.contains t)=true:=by rfl):xb P b Q S w t:=by
 refine K.loop (fun S w => ∃x,Has S (M x)/\ia x w) (fun S w=>least fun n => ∃x,Has S (M x)/\ia x w/\jK x=n) ⟨k3,bq,ak⟩ ?_;rintro bh w' cg ⟨x,CW,pT⟩;obtain⟨⟨y,h1,U,ag⟩,aJ⟩:=Wp (p:=fun n => ∃x,Has bh (M x)/\ia x w'/\jK x=n) ⟨jK x,x,CW,pT,rfl⟩;have h:=ba y bh w' U;rw[D1 cJ fun t aL=>cg t (Il bw t aL),Fe _ h1] at h;unfold dZ hr at *;refine oM b _ _ bh w' (fun e fu b2 _ h=>?_) h
 match e,h with
 | .normal,⟨z,dc,dd,gv⟩ =>
  refine⟨⟨z,dc,dd⟩,?_⟩;have bg:=(Wp (p:=fun n => ∃x,Has fu (M x)/\ia x b2/\jK x=n) ⟨jK z,z,dc,dd,rfl⟩).2 (jK z) ⟨z,dc,dd,rfl⟩;show least _<least _;rw[<-ag];omega
 | .exit _,h=>exact h
 | .ret,h=>exact h
 | .fS _,h=>exact h
end
end bt
end
section
namespace o
open Go
def letter(n:Int):Bool:=decide (97<=n/\n<=122\/65<=n/\n<=90)
def digit(n:Int):Bool:=decide (48<=n/\n<=57)
def part(n:Int):Bool:=letter n||digit n||decide (n=95)
def rG(s:ByteArray)(i:Nat):Nat:=(s.get! i).toNat
def run(p:Int->Bool)(s:ByteArray):Nat:=(s.data.toList.takeWhile fun b=>p b.toNat).length
theorem Yu{α:Type}(p:α->Bool):∀(l:List α) (n:Nat) (h:n<l.length),(∀j (aR:j<n),p (l[j]'(by omega))=true)->p l[n]=false->(l.takeWhile p).length=n
 | [],n,h,_,_=>by simp at h
 | x :: l,0,h,_,U=>by simp at U;simp[U]
 | x :: l,n+1,h,h1,U=>by
  have au:p x=true:=h1 0 (by omega);rw[List.takeWhile_cons,if_pos au,List.length_cons,Yu p l n (by simpa using h) (fun j aR=>h1 (j+1) (by omega)) (by simpa using U)]
theorem Yt{α:Type}(p:α->Bool):∀(l:List α) (_:∀j (aR:j<l.length),p l[j]=true),(l.takeWhile p).length=l.length
 | [],_=>rfl
 | x :: l,h=>by
  have au:p x=true:=h 0 (by simp);rw[List.takeWhile_cons,if_pos au,List.length_cons,Yt p l (fun j aR=>h (j+1) (by simpa using aR)),List.length_cons]
theorem X0(p:Int->Bool)(s:ByteArray)(n:Nat)(h:n<s.size)(h1:∀j (aR:j<n),p (s[j]'(by omega)).toNat=true)(U:p s[n].toNat=false):run p s=n :=
 Yu (fun b:UInt8=>p b.toNat) s.data.toList n (by simpa using h) (fun j aR=>h1 j aR) U
theorem XT(p:Int->Bool)(s:ByteArray)(h:∀j (aR:j<s.size),p s[j].toNat=true):run p s=s.size:=by
 have:=Yt (fun b:UInt8=>p b.toNat) s.data.toList (fun j aR=>h j (by simpa using aR))
 rw[run,this];simp
theorem abL{p:Int->Bool}(aO:∀r:Int,128<=r->p r=false)(s:ByteArray)(pos:Nat)(h:pos<s.size) :
  p (Utf8.decode s pos).1=p s[pos].toNat/\(p s[pos].toNat=true->(Utf8.decode s pos).2=1):=by
 by_cases bo:s[pos].toNat<128
 .rw[decode_ascii s pos h bo];exact⟨rfl,fun _=>rfl⟩
 .have h1:=decode_high s pos h (by omega);rw[aO _ (by omega),aO _ (by omega)];exact⟨rfl,fun h=>by simp at h⟩
theorem ahE(r:Int)(h:128<=r):letter r=false:=by simp[letter];omega
theorem abP(r:Int)(h:128<=r):digit r=false:=by simp[digit];omega
theorem ai3(r:Int)(h:128<=r):part r=false:=by simp[part,ahE r h,abP r h];omega
instance aoQ:LawfulBEq ByteArray where
 eq_of_beq {a b} h:=by rw[bt.B6] at h;exact of_decide_eq_true h
 rfl {a}:=by rw[bt.B6];exact decide_eq_true rfl
def p9:List ByteArray:=[⟨#[115,101,108,102]⟩,⟨#[110,111,110,101]⟩,⟨#[108,101,110]⟩,⟨#[97,116]⟩]
def isName(s:ByteArray):Bool:=decide (s.size≠0)&&decide (s.size<=16)&&letter (rG s 0)&&decide (run part s=s.size) && !decide (s∈p9)
theorem akt(p:Int->Bool)(s:ByteArray):run p s<=s.size:=by
 have:=(List.takeWhile_sublist (fun b:UInt8=>p b.toNat) (l:=s.data.toList)).length_le
 simpa[run] using this
theorem get_eq(s:ByteArray)(i:Nat)(h:i<s.size):s.get! i=s[i]:=by
 obtain⟨d⟩:=s;show d[i]! = d[i];exact getElem!_pos d i h
theorem get?_eq(s:ByteArray)(i:Nat)(h:i<s.size):s[i]? = some (s.get! i):=by rw[get_eq s i h];exact getElem?_pos s i h
structure Scalar where
 name:ByteArray
 size:Int
structure Var where
 name:ByteArray
 scalar:Int
 over:Int
 bf:Int
 ad:Int
 init:Int
structure dv where
 name:ByteArray
 scalar:Int
 cap:Int
 bf:Int
 ad:Int
 Wy:Bool
def size(k:Int)(s:List Scalar):Int :=
 match s[(k - 1).toNat]? with
 | some x=>if 1<=k/\1<=x.size/\x.size<=4 then x.size else 0
 | none=>0
def narrow(bf ad:Int):Bool:=decide (-1048576<=bf/\bf<=ad/\ad<=1048576/\ad - bf<256)
def there(k:Int)(s:List Scalar):Bool:=decide (k=0\/size k s≠0)
def err(fr:Int)(fJ:Nat->ByteArray)(mo:Nat->Int)(i:Nat):Int :=
 if fr<=i then 11 else if isName (fJ i)=false then 6 else if ∃j,j<i/\fJ j=fJ i then 7 else mo i
def first(n:Nat)(e:Nat->Int):Int×Int:=match (List.range n).find? (fun i=>decide (e i≠0)) with | some i=>((i:Int),e i) | none=>(0,0)
theorem iB{n:Nat}{e:Nat->Int}{i:Nat}(ad:i<n)(h1:∀j,j<i->e j=0)(U:e i≠0):first n e=((i:Int),e i):=by
 have:(List.range n).find? (fun i=>decide (e i≠0))=some i:=by
  rw[List.find?_range_eq_some];simp only[decide_eq_true_eq];exact⟨U,by simpa using ad,fun j aR=>by simp[h1 j aR]⟩
 rw[first,this]
theorem oj{n:Nat}{e:Nat->Int}(h:∀j,j<n->e j=0):first n e=(0,0):=by
 have:(List.range n).find? (fun i=>decide (e i≠0))=none:=by
  rw[List.find?_range_eq_none];intro j aR;simp[h j aR]
 rw[first,this]
theorem S7{n:Nat}{e e':Nat->Int}(h:∀j,j<n->e j=e' j):first n e=first n e':=by
 by_cases au:∃i,i<n/\e i≠0/\∀j,j<i->e j=0
 .obtain⟨i,ad,h1,U⟩:=au;rw[iB ad U h1,iB ad (fun j aR=>by rw[<-h j (by omega)];exact U j aR) (by rw[<-h i ad];exact h1),h i ad]
 .have bQ:∀j,j<n->e j=0:=by
   intro j
   induction j using Nat.strongRecOn with
   | _ j eV =>
    intro aR;by_cases ak:e j=0
    .exact ak
    .exact absurd ⟨j,aR,ak,fun k hk=>eV k hk (by omega)⟩ au
  rw[oj bQ,oj fun j aR=>by rw[<-h j aR];exact bQ j aR]
def nameAt{α:Type}(f:α->ByteArray)(l:List α)(i:Nat):ByteArray:=(l[i]?.map f).getD ⟨#[]⟩
def tj(l:List Scalar)(i:Nat):Int:=match l[i]? with | some x=>if 1<=x.size/\x.size<=4 then 0 else 10 | none=>0
def scalars(l:List Scalar):Int×Int:=first l.length (err 2 (nameAt (·.name) l) (tj l))
def bounds(v:Var)(s:List Scalar):Int×Int:=if v.scalar=0 then (v.bf,v.ad) else (0,size v.scalar s)
def cells(v:Var)(s:List Scalar):Int:=if v.over=0 then 1 else size v.over s
def oL(l:List Var)(s:List Scalar)(i:Nat):Int :=
 match l[i]? with
 | some v=>if there v.scalar s=false\/there v.over s=false then 8
  else if (v.scalar=0/\narrow v.bf v.ad=false)\/v.init<(bounds v s).1\/v.init > (bounds v s).2 then 10 else 0
 | none=>0
def vars(l:List Var)(s:List Scalar)(fr:Int):Int×Int:=first l.length (err (max fr 0) (nameAt (·.name) l) (oL l s))
def og(l:List dv)(s:List Scalar)(i:Nat):Int :=
 match l[i]? with
 | some c=>if there c.scalar s=false then 8
  else if c.cap<1\/c.cap > 4\/(c.scalar=0/\narrow c.bf c.ad=false) then 10 else 0
 | none=>0
def aM(l:List dv)(s:List Scalar):Int×Int:=first l.length (err 4 (nameAt (·.name) l) (og l s))
end o
end
section
namespace o
open Go Go.RowKit bt
def Scalar.enc(x:Scalar):List Value:=[.string x.name,.int .i64 x.size]
def Var.enc(x:Var):List Value:=[.string x.name,.int .i64 x.scalar,.int .i64 x.over,.int .i64 x.bf,.int .i64 x.ad,.int .i64 x.init]
def dv.enc(x:dv):List Value:=[.string x.name,.int .i64 x.scalar,.int .i64 x.cap,.int .i64 x.bf,.int .i64 x.ad,.bool x.Wy]
def hR(s:ByteArray):Prop:=s.size<=9223372036854775807
instance ao4(s:ByteArray):Decidable (hR s):=Nat.decLe _ _
structure jb(w:World)(a:Addr)(x:Scalar):Prop where
 cells:fg w a x.enc
 ok:hR x.name
structure pD(w:World)(a:Addr)(x:Var):Prop where
 cells:fg w a x.enc
 ok:hR x.name
structure pC(w:World)(a:Addr)(x:dv):Prop where
 cells:fg w a x.enc
 ok:hR x.name
theorem jb.ext(w w':World)(a:Addr)(x:Scalar)(he:Ext w w')(h:jb w a x):jb w' a x:=⟨h.cells.ext he,h.ok⟩
theorem pD.ext(w w':World)(a:Addr)(x:Var)(he:Ext w w')(h:pD w a x):pD w' a x:=⟨h.cells.ext he,h.ok⟩
theorem pC.ext(w w':World)(a:Addr)(x:dv)(he:Ext w w')(h:pC w a x):pC w' a x:=⟨h.cells.ext he,h.ok⟩
abbrev hI(w:World)(v:Value)(l:List Scalar):Prop:=bF 2 jb w v l
abbrev hh(w:World)(v:Value)(l:List Var):Prop:=bF 6 pD w v l
abbrev mC(w:World)(v:Value)(l:List dv):Prop:=bF 6 pC w v l
theorem hh.aV{w:World}{b n:Nat}{e:TypeId}{f:Nat×Nat}{xs:List Var}(aC:w.heap[b]? = some (.cells (xs.flatMap Var.enc).toArray e f))(aD:n=xs.length)(hm:xs.length<=maxLen)(dt:∀x∈xs,hR x.name) :
  hh w (.slice (some ⟨b,0,none⟩) n n) xs:=bF.aV (enc:=Var.enc) (fun _=>rfl) aC aD hm fun _ x au aw=>⟨aw,dt x au⟩
structure Node where
 op:Int
 n:Int
structure Act where
 kind:Int
 to:Int
 loc:Int
 index:List Node
 value:List Node
structure dI where
 name:ByteArray
 from_:Int
 to:Int
 guard:List Node
 cb:List Act
 fair:Bool
structure dz where
 name:ByteArray
 over:Int
 cx:Int
 vars:List Var
 cI:List dI
structure ks where
 name:ByteArray
 expr:List Node
structure Model where
 scalars:List Scalar
 vars:List Var
 aM:List dv
 procs:List dz
 props:List ks
structure c8 where
 proc:Int
 elem:Int
deriving DecidableEq
structure Ref where
 inst:Int
 cmd:Int
deriving DecidableEq
def c8.enc(x:c8):List Value:=[.int .i64 x.proc,.int .i64 x.elem]
def Ref.enc(x:Ref):List Value:=[.int .i64 x.inst,.int .i64 x.cmd]
def Node.enc(x:Node):List Value:=[.int .i64 x.op,.int .i64 x.n]
def ez(n:Int):Prop := -9223372036854775808<=n/\n<=9223372036854775807
structure Node.ok(x:Node):Prop where
 op:ez x.op
 n:ez x.n
structure xn(w:World)(a:Addr)(x:Node):Prop where
 cells:fg w a x.enc
 ok:x.ok
theorem xn.ext(w w':World)(a:Addr)(x:Node)(he:Ext w w')(h:xn w a x):xn w' a x:=⟨h.cells.ext he,h.ok⟩
abbrev fW(w:World)(v:Value)(l:List Node):Prop:=bF 2 xn w v l
theorem fW.ext{w w':World}{v:Value}{l:List Node}(he:Ext w w')(h:fW w v l):fW w' v l:=bF.ext xn.ext he h
def Act.enc(x:Act)(cy cE:Value):List Value:=[.int .i64 x.kind,.int .i64 x.to,.int .i64 x.loc,cy,cE]
def xj(w:World)(a:Addr)(x:Act):Prop := ∃cy cE,fg w a (x.enc cy cE)/\fW w cy x.index/\fW w cE x.value
theorem xj.ext(w w':World)(a:Addr)(x:Act)(he:Ext w w')(h:xj w a x):xj w' a x:=let ⟨cy,cE,h1,U,ag⟩:=h; ⟨cy,cE,h1.ext he,U.ext he,ag.ext he⟩
abbrev nt(w:World)(v:Value)(l:List Act):Prop:=bF 5 xj w v l
theorem nt.ext{w w':World}{v:Value}{l:List Act}(he:Ext w w')(h:nt w v l):nt w' v l:=bF.ext xj.ext he h
def dI.enc(x:dI)(fB ee:Value):List Value:=[.string x.name,.int .i64 x.from_,.int .i64 x.to,fB,ee,.bool x.fair]
def xk(w:World)(a:Addr)(x:dI):Prop:=hR x.name/\∃fB ee,fg w a (x.enc fB ee)/\fW w fB x.guard/\nt w ee x.cb
theorem xk.ext(w w':World)(a:Addr)(x:dI)(he:Ext w w')(h:xk w a x):xk w' a x:=let ⟨ak,cy,cE,h1,U,ag⟩:=h; ⟨ak,cy,cE,h1.ext he,U.ext he,ag.ext he⟩
abbrev oO(w:World)(v:Value)(l:List dI):Prop:=bF 6 xk w v l
theorem oO.ext{w w':World}{v:Value}{l:List dI}(he:Ext w w')(h:oO w v l):oO w' v l:=bF.ext xk.ext he h
theorem hI.ext{w w':World}{v:Value}{l:List Scalar}(he:Ext w w')(h:hI w v l):hI w' v l:=bF.ext jb.ext he h
theorem hh.ext{w w':World}{v:Value}{l:List Var}(he:Ext w w')(h:hh w v l):hh w' v l:=bF.ext pD.ext he h
theorem mC.ext{w w':World}{v:Value}{l:List dv}(he:Ext w w')(h:mC w v l):mC w' v l:=bF.ext pC.ext he h
def dz.enc(x:dz)(cE dT:Value):List Value:=[.string x.name,.int .i64 x.over,.int .i64 x.cx,cE,dT]
def zg(w:World)(a:Addr)(x:dz):Prop:=hR x.name/\∃cE dT,fg w a (x.enc cE dT)/\hh w cE x.vars/\oO w dT x.cI
theorem zg.ext(w w':World)(a:Addr)(x:dz)(he:Ext w w')(h:zg w a x):zg w' a x:=let ⟨ak,cy,cE,h1,U,ag⟩:=h; ⟨ak,cy,cE,h1.ext he,U.ext he,ag.ext he⟩
abbrev pB(w:World)(v:Value)(l:List dz):Prop:=bF 5 zg w v l
theorem pB.ext{w w':World}{v:Value}{l:List dz}(he:Ext w w')(h:pB w v l):pB w' v l:=bF.ext zg.ext he h
def w8(w:World)(cs:List Value)(c:dI):Prop:=hR c.name/\∃fB ee,cs=c.enc fB ee/\fW w fB c.guard/\nt w ee c.cb
theorem w8.ext{w w':World}{cs:List Value}{c:dI}(he:Ext w w')(h:w8 w cs c):w8 w' cs c:=let ⟨ak,cy,cE,h1,U,ag⟩:=h; ⟨ak,cy,cE,h1,U.ext he,ag.ext he⟩
def vp(w:World)(cs:List Value)(p:dz):Prop:=hR p.name/\∃cE dT,cs=p.enc cE dT/\hh w cE p.vars/\oO w dT p.cI
theorem vp.ext{w w':World}{cs:List Value}{p:dz}(he:Ext w w')(h:vp w cs p):vp w' cs p:=let ⟨ak,cy,cE,h1,U,ag⟩:=h; ⟨ak,cy,cE,h1,U.ext he,ag.ext he⟩
def ks.enc(x:ks)(ht:Value):List Value:=[.string x.name,ht]
def zh(w:World)(a:Addr)(x:ks):Prop:=hR x.name/\∃ht,fg w a (x.enc ht)/\fW w ht x.expr
theorem zh.ext(w w':World)(a:Addr)(x:ks)(he:Ext w w')(h:zh w a x):zh w' a x:=let ⟨ak,cy,h1,U⟩:=h; ⟨ak,cy,h1.ext he,U.ext he⟩
abbrev zf(w:World)(v:Value)(l:List ks):Prop:=bF 2 zh w v l
theorem zf.ext{w w':World}{v:Value}{l:List ks}(he:Ext w w')(h:zf w v l):zf w' v l:=bF.ext zh.ext he h
structure ec(w:World)(cs:List Value)(m:Model):Prop where
 ex:∃v0 v1 v2 v3 v4,cs=[v0,v1,v2,v3,v4]/\hI w v0 m.scalars/\hh w v1 m.vars/\mC w v2 m.aM/\pB w v3 m.procs/\zf w v4 m.props
theorem ec.ext{w w':World}{cs:List Value}{m:Model}(he:Ext w w')(h:ec w cs m):ec w' cs m :=
 let ⟨v0,v1,v2,v3,v4,e,ak,h1,U,ag,aJ⟩:=h.ex
 ⟨v0,v1,v2,v3,v4,e,ak.ext he,h1.ext he,U.ext he,ag.ext he,aJ.ext he⟩
instance aoN:nv xn Node.enc:=⟨fun _ _ _ h=>h.cells⟩
instance aoO:nv jb Scalar.enc:=⟨fun _ _ _ h=>h.cells⟩
instance aoP:nv pD Var.enc:=⟨fun _ _ _ h=>h.cells⟩
instance aoJ:nv pC dv.enc:=⟨fun _ _ _ h=>h.cells⟩
end o
end
section
namespace bt
open Go Go.RowKit
section
variable{P:Program}{aI:Value->Prop}{w w0:World}
theorem K.MQ{a:Addr}{cs:List Value}{j:Nat}{v:Value}{t}(h:fg w0 a cs)(he:Ext w0 w)(aR:cs[j]? = some v)(hk:aI v):qp (.pointer (some (a.add j))) w aI t:=K.ld (he.cell (h j v aR)) hk
theorem K.MP{a:Addr}{cs:List Value}{n:Nat}{t}(h:fg w0 a cs)(he:Ext w0 w)(aD:cs.length=n)(hk:aI (.agg cs.toArray)):sk n (.pointer (some a)) w aI t:=K.jX (h.ext he) aD hk
end
theorem aa{A B:Prop}(k:B)(h:vk B->A:=by
 intro q
 (repeat' first
 | assumption
 | exact Ext.refl _
 | refine Ext.trans ?_ (by assumption)
 | simp -dsimp only[c4,cF,Nat.reduceAdd,Nat.reduceEqDiff,reduceIte,reduceCtorEq,db,u5,u4,uI,uH,ud,uc,List.cons_append,List.nil_append]
 | refine K.wrap (by omega) ?_
 | refine K.ta (by assumption) ?_ rfl ?_
 | refine K.q0 (by assumption) ?_ rfl ?_
 | refine K.uD (by omega) ?_
 | refine K.sy (by first | assumption | omega) ?_
 | refine K.tO (by first | assumption | omega) ?_
 | refine K.qC (by assumption) ?_
 | refine K.rI (by assumption) ?_
 | refine K.uM (by assumption) ?_ (by omega) rfl ?_
 | refine K.uN (by assumption) ?_ (by omega) rfl ?_
 | refine K.uL (by assumption) ?_ (by omega) rfl ?_
 | refine K.MQ (by assumption) ?_ rfl ?_
 | refine K.MP (by assumption) ?_ rfl ?_
 | refine K.gS (by assumption) ?_ rfl ?_
 | refine K.tf (fun _=>by (simp -dsimp only[c4,Nat.reduceAdd,Nat.reduceEqDiff,reduceIte,reduceCtorEq,db]);rfl) rfl rfl (by first | assumption | (simp[Value.oneCell',o.c8.enc,o.Ref.enc,o.Node.enc,o.Scalar.enc,o.Var.enc,o.dv.enc,o.Act.enc,o.dI.enc,o.dz.enc,o.ks.enc];done)) ?_
 | refine K.new ?_
 | refine K.h6 (by assumption) rfl rfl (by first | assumption | (simp[Value.oneCell',o.c8.enc,o.Ref.enc,o.Node.enc,o.Scalar.enc,o.Var.enc,o.dv.enc,o.Act.enc,o.dI.enc,o.dz.enc,o.ks.enc];done)) ?_
 | refine K.st1 (by assumption) (Nat.le_of_ble_eq_true rfl) rfl ?_
 | refine K.tp (by assumption) (Nat.le_of_ble_eq_true rfl) rfl ?_
 | refine K.lk (by (simp only[eQ,lay,o2,ft,cu,Value.cells,Nat.reduceAdd,Nat.reduceEqDiff,reduceIte,List.range,List.range.loop,List.map_cons,List.map_nil]);rfl) ?_
 | refine K.cY (by (simp only[eQ,lay,o2,ft,cu,Value.cells,Nat.reduceAdd,Nat.reduceEqDiff,reduceIte]);rfl) ?_)
 exact q.out):A:=h ⟨k⟩
theorem ef{A B:Prop}(k:B)(h:vk B->A:=by
 intro q
 (repeat' first
 | assumption
 | exact Ext.refl _
 | refine Ext.trans ?_ (by assumption)
 | simp -dsimp only[c4,Nat.reduceAdd,Nat.reduceEqDiff,reduceIte,reduceCtorEq,db,u5,u4,uI,uH,ud,uc,List.cons_append,List.nil_append]
 | refine K.wrap (by omega) ?_
 | refine K.ta (by assumption) ?_ rfl ?_
 | refine K.q0 (by assumption) ?_ rfl ?_
 | refine K.uD (by omega) ?_
 | refine K.sy (by first | assumption | omega) ?_
 | refine K.tO (by first | assumption | omega) ?_
 | refine K.qC (by assumption) ?_
 | refine K.rI (by assumption) ?_
 | refine K.uM (by assumption) ?_ (by omega) rfl ?_
 | refine K.uN (by assumption) ?_ (by omega) rfl ?_
 | refine K.uL (by assumption) ?_ (by omega) rfl ?_
 | refine K.MQ (by assumption) ?_ rfl ?_
 | refine K.MP (by assumption) ?_ rfl ?_
 | refine K.gS (by assumption) ?_ rfl ?_
 | refine K.tf (fun _=>by (simp -dsimp only[c4,Nat.reduceAdd,Nat.reduceEqDiff,reduceIte,reduceCtorEq,db]);rfl) rfl rfl (by first | assumption | (simp[Value.oneCell',o.c8.enc,o.Ref.enc,o.Node.enc,o.Scalar.enc,o.Var.enc,o.dv.enc,o.Act.enc,o.dI.enc,o.dz.enc,o.ks.enc];done)) ?_
 | refine K.new ?_
 | refine K.h6 (by assumption) rfl rfl (by first | assumption | (simp[Value.oneCell',o.c8.enc,o.Ref.enc,o.Node.enc,o.Scalar.enc,o.Var.enc,o.dv.enc,o.Act.enc,o.dI.enc,o.dz.enc,o.ks.enc];done)) ?_
 | refine K.st1 (by assumption) (Nat.le_of_ble_eq_true rfl) rfl ?_
 | refine K.tp (by assumption) (Nat.le_of_ble_eq_true rfl) rfl ?_
 | refine K.lk (by (simp only[eQ,lay,o2,ft,cu,Value.cells,Nat.reduceAdd,Nat.reduceEqDiff,reduceIte,List.range,List.range.loop,List.map_cons,List.map_nil]);rfl) ?_
 | refine K.cY (by (simp only[eQ,lay,o2,ft,cu,Value.cells,Nat.reduceAdd,Nat.reduceEqDiff,reduceIte]);rfl) ?_)
 exact q.out):A:=h ⟨k⟩
end bt
end
section
namespace bt
open Go Go.RowKit
def gE(A:Nat->Prop)(p:World->Prop)(w:World):Prop := ∀w',Mod A w w'->p w'
theorem gE.here{A:Nat->Prop}{p:World->Prop}{w:World}(h:gE A p w):p w:=h w (Mod.refl A w)
theorem Mod.comp{A A' B:Nat->Prop}{a b c:World}(h:Mod A a b)(k:Mod A' b c)(h1:∀i,i<a.heap.size->A i->B i)(U:∀i,i<a.heap.size->A' i->B i):Mod B a c :=
 ⟨k.os.trans h.os,k.tape.trans h.tape,k.output.trans h.output,Nat.le_trans h.size k.size,fun i ad aD=>(k.block i (Nat.lt_of_lt_of_le ad h.size) fun e=>aD (U i ad e)).trans (h.block i ad fun e=>aD (h1 i ad e))⟩
theorem gE.move{A A' B:Nat->Prop}{p:World->Prop}{w w':World}(h:gE B p w)(m:Mod A w w')(h1:∀i,i<w.heap.size->A i->B i)(U:∀i,i<w.heap.size->A' i->B i):gE A' p w' :=
 fun b2 k=>h b2 (m.comp k h1 U)
theorem gE.mono{A B:Nat->Prop}{p:World->Prop}{w:World}(h:gE B p w)(U:∀i,i<w.heap.size->A i->B i):gE A p w:=h.move (Mod.refl A w) U U
theorem gE.ext{B:Nat->Prop}{p:World->Prop}{w w':World}(h:gE B p w)(e:Ext w w')(jh:∀i,w.heap.size<=i->¬B i):gE B p w' :=
 h.move (A:=fun _=>False) e.mod (fun _ _ h=>h.elim) (fun _ _ h=>h)
theorem gE.imp{A:Nat->Prop}{p q:World->Prop}{w:World}(h:gE A p w)(L6:∀w,p w->q w):gE A q w:=fun w' m=>L6 w' (h w' m)
theorem gE.and{A:Nat->Prop}{p q:World->Prop}{w:World}(h:gE A p w)(k:gE A q w):gE A (fun w=>p w/\q w) w:=fun w' m=>⟨h w' m,k w' m⟩
theorem gE.of{A:Nat->Prop}{p:World->Prop}{w:World}(h:∀w',p w'):gE A p w:=fun w' _=>h w'
abbrev eH(w:World)(p:World->Prop)(w':World):Prop:=gE (fun k=>k<w.heap.size) p w'
theorem eH.ext{w av aU:World}{p:World->Prop}(h:eH w p av)(he:Ext av aU)(ak:w.heap.size<=av.heap.size):eH w p aU :=
 gE.ext h he fun i ad hk=>by omega
theorem eH.low{w w0 av:World}{p:World->Prop}(h:eH w p av)(ak:w0.heap.size<=w.heap.size):eH w0 p av:=h.mono fun i _ ad=>by omega
theorem eH.wr{w av aU:World}{p:World->Prop}{b:Nat}(h:eH w p av)(hw:dC b av aU)(aC:b<w.heap.size):eH w p aU :=
 gE.move h (A:=fun k=>k=b) (hw.mod rfl) (fun i _ e=>by omega) (fun i _ e=>e)
theorem eH.and{w av:World}{p q:World->Prop}(h:eH w p av)(k:eH w q av):eH w (fun w=>p w/\q w) av:=gE.and h k
theorem eH.imp{w av:World}{p q:World->Prop}(h:eH w p av)(L6:∀w,p w->q w):eH w q av:=gE.imp h L6
class Rel{α:Type}(R:World->Addr->α->Prop)(C:outParam (World->List Value->α->Prop))(sz:outParam Nat):Prop where
 out:∀{w a x},R w a x->∃cs,fg w a cs/\C w cs x
 oA:∀{w a cs x},fg w a cs->C w cs x->R w a x
 len:∀{w cs x},C w cs x->cs.length=sz
 one:∀{w cs x},C w cs x->∀u∈cs,u.oneCell'=true
 ext:∀{w w' cs x},Ext w w'->C w cs x->C w' cs x
abbrev oP(sz:Nat):={cs:List Value // cs.length=sz/\∀u∈cs,u.oneCell'=true}
def sE{sz:Nat}(c:oP sz):List Value:=c.1
theorem vQ{sz:Nat}(c:oP sz):(sE c).length=sz:=c.2.1
theorem Kr{sz:Nat}(c:oP sz):∀u∈sE c,u.oneCell'=true:=c.2.2
abbrev vn(e:TypeId)(sz base:Nat)(w:World)(v:Value)(eY:List (oP sz)):Prop:=bs sE e sz base w v eY
theorem bF.cells{α:Type}{R:World->Addr->α->Prop}{C:World->List Value->α->Prop}{sz:Nat}[Rel R C sz]{w:World}{v:Value}{xs:List α}(h:bF sz R w v xs) :
  ∃eY:List (oP sz),eY.length=xs.length/\bF sz (Flat sE) w v eY/\∀i (h1:i<eY.length) (U:i<xs.length),C w eY[i].1 xs[i]:=by
 obtain⟨bl,cap,rfl,h1,U,ag,aJ⟩:=h.ex;obtain⟨eY,aS,aw⟩:=MS xs.length (fun i (c:oP sz)=>(∀a,bl=some a->fg w (a.add (i*sz)) c.1)/\∀(h:i<xs.length),C w c.1 xs[i]) fun i ad=>by
  obtain⟨a,rfl⟩:=Option.isSome_iff_exists.1 (ag (by intro e;subst e;simp at ad));obtain⟨cs,c1,c2⟩:=Rel.out (aJ a rfl i ad);exact⟨⟨cs,Rel.len (R:=R) c2,Rel.one (R:=R) c2⟩,fun di e=>by injection e with e;subst e;exact c1,fun _=>c2⟩
 refine⟨eY,aS,⟨bl,cap,by rw[aS],by omega,U,fun aD=>ag (by intro e;subst e;simp at aS;exact aD aS),fun a bo i ad=>(aw i ad).1 a bo⟩,fun i h1 U=>(aw i h1).2 U⟩
theorem bF.M7{α:Type}{R:World->Addr->α->Prop}{C:World->List Value->α->Prop}{sz:Nat}[Rel R C sz]{w:World}{v:Value}{xs:List α}{eY:List (oP sz)}(aS:eY.length=xs.length)(h:bF sz (Flat sE) w v eY)
  (aw:∀i (h1:i<eY.length) (U:i<xs.length),C w eY[i].1 xs[i]):bF sz R w v xs:=by
 obtain⟨bl,cap,rfl,h1,U,ag,aJ⟩:=h.ex;refine⟨bl,cap,by rw[aS],by omega,U,fun aD=>ag (by intro e;subst e;simp at aS;exact aD (List.eq_nil_of_length_eq_zero aS.symm)),fun a bo i ad=>Rel.oA (aJ a bo i (by omega)) (aw i (by omega) ad)⟩
theorem K.vw{P:Program}{da:Value->World->Prop}{α:Type}{enc:α->List Value}{e:TypeId}{sz base:Nat}{w:World}{xs:List α}{ty:TypeId}{b:Nat}{s:Value}{a:Addr}{m c:Nat}{ys:List α}{t}(ay:bs enc e sz base w s xs)(dn:∀x,(enc x).length=sz)(aw:fg w a (ys.flatMap enc))(hm:m=ys.length)
  (h1:∀y,∀u∈enc y,u.oneCell'=true)(aC:(xs.length+ys.length)*b<=140737488355328)(kb:xs.length+ys.length<=maxLen)(jx:base<=w.heap.size)
  (hk:∀ck w',bs enc e sz base w' ck (xs++ys)->w.grownBy w' s.ownBlock->(ck.ownBlock=s.ownBlock\/ck.ownBlock=some w.heap.size)->da ck w'):k4 P ty e sz b s (.slice (some a) m c) w da t:=by
 subst hm;refine K.app fun⟨aL,i,z,ad,bQ,Au,Aa,yl,HQ⟩=>?_;obtain⟨ck,w',ba,U,ag,_,bg⟩:=run_append_own_at (P:=P) w base ty ty e i z sz b aL ad bQ Au Aa yl HQ s _ _ ay a _ c _ (xT dn ys) aw (fun u hu=>by obtain⟨y,_,b8⟩:=List.mem_flatMap.1 hu;exact h1 y u b8) kb aC jx;refine⟨ty,ck,w',ba,hk ck w' ?_ ag bg⟩;unfold bs;rw[List.length_append,List.flatMap_append];exact U
def xh(v:Value)(base k:Nat):Prop:=v.ownBlock=some k\/k<base
structure fs{α:Type}(C:World->List Value->α->Prop)(e:TypeId)(sz base:Nat)(w:World)(v:Value)(xs:List α):Prop where
 ex:∃eY:List (oP sz),eY.length=xs.length/\vn e sz base w v eY/\∀i (h1:i<eY.length) (U:i<xs.length),gE (xh v base) (fun w=>C w eY[i].1 xs[i]) w
section
variable{α:Type}{C:World->List Value->α->Prop}{e:TypeId}{sz base:Nat}{w w':World}{v:Value}{xs:List α}
theorem fs.nil(C:World->List Value->α->Prop)(e:TypeId)(sz base:Nat)(w:World):fs C e sz base w (.slice none 0 0) []:=⟨[],rfl,bs.nil _ _ _ _ _,fun i h=>by cases h⟩
theorem fs.form(h:fs C e sz base w v xs):∃bl cap,v = .slice bl xs.length cap/\xs.length<=cap/\cap<=maxLen:=by
 obtain⟨eY,aS,bc,_⟩:=h.ex;obtain⟨bl,cap,h1,U,ag⟩:=bc.form;exact⟨bl,cap,by rw[h1,aS],by omega,ag⟩
theorem fs.lt(h:fs C e sz base w v xs):∀k,v.ownBlock=some k->base<=k/\k<w.heap.size:=by
 obtain⟨eY,aS,bc,_⟩:=h.ex;exact bc.lt
theorem bs.mod{enc:α->List Value}{A:Nat->Prop}(h:bs enc e sz base w v xs)(m:Mod A w w')(eL:∀k,v.ownBlock=some k->¬A k):bs enc e sz base w' v xs:=by
 refine⟨h.1,?_⟩;rcases h.2 with aD | ⟨g,cap,cur,rfl,aC,aZ,rest⟩
 .exact .inl aD
 .exact .inr ⟨g,cap,cur,rfl,aC,m.obj (eL g rfl) aZ,rest⟩
theorem bs.aV{enc:α->List Value}(h:bs enc e sz base w v xs):∀k,v.ownBlock=some k->∃cur,w.heap[k]? = some (.cells cur e):=fun k hk=>by
 rcases h.2 with ⟨rfl,_⟩ | ⟨g,cap,cur,rfl,aC,aZ,rest⟩
 .cases hk
 .simp only[Value.ownBlock,Option.some.injEq] at hk;subst hk;exact⟨cur,aZ⟩
theorem fs.mod{A:Nat->Prop}(h:fs C e sz base w v xs)(m:Mod A w w')(eL:∀k,k<w.heap.size->A k->k<base):fs C e sz base w' v xs:=by
 obtain⟨eY,aS,bc,aw⟩:=h.ex;refine⟨eY,aS,bc.mod m fun k hk a=>?_,fun i h1 U=>(aw i h1 U).move m (fun i ad a=>.inr (eL i ad a)) fun _ _ a=>a⟩
 have:=bc.lt k hk
 have:=eL k this.2 a
 omega
theorem fs.ext(h:fs C e sz base w v xs)(m:Ext w w'):fs C e sz base w' v xs:=h.mod (A:=fun _=>False) m.mod fun _ _ h=>h.elim
theorem fs.wr{b:Nat}(h:fs C e sz base w v xs)(m:dC b w w')(aC:b<base):fs C e sz base w' v xs:=h.mod (A:=fun k=>k=b) (m.mod rfl) fun k _ e=>by omega
theorem fs.new{R:World->Addr->α->Prop}[Rel R C sz](h:fs C e sz base w v xs):gE (fun k=>k<base) (fun w=>bF sz R w v xs) w:=fun w' m=>by
 have bE:=h.mod m fun k _ a=>a;obtain⟨eY,aS,bc,aw⟩:=bE.ex;exact bF.M7 aS (bc.pq vQ) fun i h1 U=>(aw i h1 U).here
theorem fs.pq{R:World->Addr->α->Prop}[Rel R C sz](h:fs C e sz base w v xs):bF sz R w v xs:=(h.new (R:=R)).here
theorem fs.under(h:fs C e sz base w v xs)(aC:base<=w.heap.size):∀k,xh v base k->k<w.heap.size:=fun k hk=>by
 rcases hk with hk | hk
 .exact(h.lt k hk).2
 .omega
theorem eH.own{p:World->Prop}{av:World}(aD:eH w p av)(h:fs C e sz base w v xs)(aC:base<=w.heap.size):gE (xh v base) p av:=aD.mono fun i _ ad=>h.under aC i ad
theorem fs.box{t:TypeId}{k:Nat}{c:Array Value}(bc:fs C e sz base w v xs)(aZ:w.grownBy w' v.ownBlock)(hk:w.heap[k]? = some (.cells c t))(aL:t≠e):w'.heap[k]? = some (.cells c t):=by
 obtain⟨eY,_,bc,_⟩:=bc.ex;rw[aZ.block k (cH hk) fun e'=>?_]
 .exact hk
 rcases bc.2 with ⟨rfl,_⟩ | ⟨g,cap,c2,rfl,_,Ai,_⟩
 .cases e'
 .simp only[Value.ownBlock,Option.some.injEq] at e';subst e';rw[Ai] at hk;injection hk with hk
  injection hk with _ hk
  exact aL hk.symm
theorem fs.mc{w0:World}(bc:fs C e sz base w v xs)(he:Ext w0 w)(aZ:w.grownBy w' v.ownBlock)(aC:w0.heap.size<=base):Ext w0 w':=he.grown aZ fun k hk=>Nat.le_trans aC (bc.lt k hk).1
theorem K.zq{P:Program}{da:Value->World->Prop}{ty:TypeId}{b:Nat}{a:Addr}{c:Nat}{cs:List Value}{x:α}{t}(ay:fs C e sz base w v xs)(aw:fg w a cs)(cf:gE (xh v base) (fun w=>C w cs x) w)
  (dn:cs.length=sz)(h1:∀u∈cs,u.oneCell'=true)(aC:(xs.length+1)*b<=140737488355328)(kb:xs.length+1<=maxLen)(jx:base<=w.heap.size)
  (hk:∀ck w',fs C e sz base w' ck (xs++[x])->w.grownBy w' v.ownBlock->da ck w'):k4 P ty e sz b v (.slice (some a) 1 c) w da t:=by
 obtain⟨eY,aS,bc,kB⟩:=ay.ex;refine K.vw (enc:=sE) (ys:=[(⟨cs,dn,h1⟩:oP sz)]) bc vQ (by simpa[sE] using aw) rfl Kr (by rw[aS];exact aC) (by rw[aS];exact kb) jx fun ck w' lV aZ kd=>hk ck w' ⟨eY++[⟨cs,dn,h1⟩],by simp[aS],lV,fun i h1 U=>?_⟩ aZ;have hm:Mod (fun k=>v.ownBlock=some k) w w':=Mod.grown aZ fun k hk=>hk;have gj:∀k,k<w.heap.size->ck.ownBlock=some k->xh v base k:=fun k hk he=>by
  rcases kd with e | e
  .exact .inl (e ▸ he)
  .rw[e] at he;injection he with he;omega
 have key:∀{p:World->Prop},gE (xh v base) p w->gE (xh ck base) p w':=fun {p} h=>h.move hm (fun i _ a=>.inl a) fun i ad a=>by
  rcases a with a | a
  .exact gj i ad a
  .exact .inr a
 rw[List.length_append] at h1 U;by_cases ad:i<eY.length
 .have ky:i<xs.length:=by omega
  have:=key (kB i ad ky)
  simpa[List.getElem_append,ad,ky] using this
 .have bU:i=eY.length:=by simp at h1;omega
  subst bU;have a6:¬eY.length<xs.length:=by omega
  have:=key cf
  simpa[List.getElem_append,a6] using this
end
section
variable{α:Type}{enc:α->List Value}{e:TypeId}{sz base:Nat}{w w':World}{v:Value}{xs:List α}
theorem bs.box{t:TypeId}{k:Nat}{c:Array Value}(bc:bs enc e sz base w v xs)(aZ:w.grownBy w' v.ownBlock)(hk:w.heap[k]? = some (.cells c t))(aL:t≠e):w'.heap[k]? = some (.cells c t):=by
 rw[aZ.block k (cH hk) fun e'=>?_]
 .exact hk
 .obtain⟨cur,h⟩:=bc.aV k e'.symm;rw[hk] at h;injection h with h;injection h with _ h;exact aL h
theorem bs.mc{w0:World}(bc:bs enc e sz base w v xs)(he:Ext w0 w)(aZ:w.grownBy w' v.ownBlock)(aC:w0.heap.size<=base):Ext w0 w':=he.grown aZ fun k hk=>Nat.le_trans aC (bc.lt k hk).1
theorem K.mQ{P:Program}{da:Value->World->Prop}{ty:TypeId}{hW b:Nat}{y:α}{cs:List Value}{t}(ay:bs enc e sz base w v xs)(aw:w.heap[b]? = some (.cells cs.toArray e))(gy:cs=enc y)(dn:∀x,(enc x).length=sz)(h1:∀y,∀u∈enc y,u.oneCell'=true)
  (aC:(xs.length+1)*hW<=140737488355328)(kb:xs.length+1<=maxLen)(jx:base<=w.heap.size)
  (hk:∀bl n c w',bs enc e sz base w' (.slice bl n c) (xs++[y])->w.grownBy w' v.ownBlock->da (.slice bl n c) w'):k4 P ty e sz hW v (.slice (some ⟨b,0,none⟩) 1 1) w da t:=by
 refine K.vw (ys:=[y]) ay dn (by subst gy;simpa using hl aw) rfl h1 aC kb jx fun ck w' bc aZ _=>?_;obtain⟨bl,cap,rfl,_⟩:=bc.form;exact hk _ _ _ _ bc aZ
end
theorem NQ{α:Type}{l:List α}{k b:Nat}(hk:k<l.length)(aC:l.length*b<=140737488351232)(hm:l.length<=9223372036854775807):((l.take k).length+1)*b<=140737488355328/\(l.take k).length+1<=maxLen:=by
 have e:(l.take k).length=k:=by rw[List.length_take];omega
 rw[e]
 have:=Nat.mul_le_mul_right b (show k+1<=l.length from hk)
 exact⟨by omega,by unfold maxLen;omega⟩
theorem fs.snoc{α:Type}{C:World->List Value->α->Prop}{e:TypeId}{sz base:Nat}{w:World}{v:Value}{l:List α}{k:Nat}(hk:k<l.length)(h:fs C e sz base w v (l.take k++[l[k]])):fs C e sz base w v (l.take (k+1)):=by
 rw[List.take_succ_eq_append_getElem hk];exact h
theorem fs.done{α:Type}{C:World->List Value->α->Prop}{e:TypeId}{sz base:Nat}{w:World}{v:Value}{l:List α}{k:Nat}(hk:l.length<=k)(h:fs C e sz base w v (l.take k)):fs C e sz base w v l:=by
 rwa[List.take_of_length_le hk] at h
end bt
end
section
namespace bt
open Go Go.RowKit
inductive iL where
 | i
 | b
 | s
deriving DecidableEq
def iL.of:TypeDesc->Option iL
 | .int .i64=>some .i
 | .bool=>some .b
 | .string=>some .s
 | _=>none
theorem iL.aiz{ri:TypeDesc}(h:iL.of ri=some .i):ri = .int .i64:=by unfold iL.of at h;split at h<;>simp_all
theorem iL.aiy{ri:TypeDesc}(h:iL.of ri=some .b):ri = .bool:=by unfold iL.of at h;split at h<;>simp_all
theorem iL.aiA{ri:TypeDesc}(h:iL.of ri=some .s):ri = .string:=by unfold iL.of at h;split at h<;>simp_all
def iL.ok:iL->Value->Prop
 | .i,v => ∃n,v = .int .i64 n
 | .b,v => ∃n,v = .bool n
 | .s,v => ∃n,v = .string n
def qD:List iL->List Value->Prop
 | [],[]=>True
 | k :: qZ,v :: vs=>k.ok v/\qD qZ vs
 | _,_=>False
theorem Kc:∀{qZ:List iL} {vs:List Value},qD qZ vs->vs.length=qZ.length
 | [],[],_=>rfl
 | _ :: _,_ :: _,h=>by simp[Kc h.2]
 | [],_ :: _,h=>h.elim
 | _ :: _,[],h=>h.elim
def zY(P:Program):List Field->List iL->Nat->Bool
 | [],[],_=>true
 | f :: fT,k :: qZ,n=>f.name != "_" && f.offset == n&&((P.underlying f.type).bind iL.of == some k)&&zY P fT qZ (n+1)
 | _,_,_=>false
def GM(P:Program)(t:TypeId)(sig:List iL):Bool :=
 match P.underlying t with
 | some (.struct fT) => !P.stoodInHeld t && !P.eqGuardType P.depth t&&zY P fT.toList sig 0
 | _=>false
theorem drop_cons{α:Type}{l:List α}{n:Nat}{x:α}{r:List α}(h:l.drop n=x :: r):l[n]? = some x/\l.drop (n+1)=r:=by
 have h1:l[n]? = some x:=by
  have:=congrArg (·[0]?) h
  simpa using this
 refine⟨h1,?_⟩
 have:=congrArg (List.drop 1) h
 simpa[List.drop_drop] using this
theorem SO{P:Program}(w:World)(d:Nat)(xs ys:Array Value):∀(fT:List Field) (qZ:List iL) (n:Nat),zY P fT qZ n=true->qD qZ (xs.toList.drop n)->qD qZ (ys.toList.drop n) ->
  ∃r:Bool,(Op.eqFields (d+1) xs ys fT).run P w = .ok r w/\(r=true↔xs.toList.drop n=ys.toList.drop n)
 | [],[],n,_,au,b8=>by
  refine⟨true,by simp[Op.eqFields],?_⟩;have h1:=Kc au;have U:=Kc b8;rw[List.eq_nil_of_length_eq_zero h1,List.eq_nil_of_length_eq_zero U];simp
 | [],_ :: _,_,h,_,_=>by simp[zY] at h
 | _ :: _,[],_,h,_,_=>by simp[zY] at h
 | f :: fT,k :: qZ,n,h,au,b8=>by
  simp only[zY,Bool.and_eq_true,bne_iff_ne,ne_eq,beq_iff_eq] at h;obtain⟨⟨⟨h1,U⟩,ag⟩,aJ⟩:=h;obtain⟨ri,hu,hk⟩:=Option.bind_eq_some_iff.1 ag;cases Lw:xs.toList.drop n with
  | nil=>rw[Lw] at au;exact au.elim
  | cons x rx =>
   cases Lx:ys.toList.drop n with
   | nil=>rw[Lx] at b8;exact b8.elim
   | cons y X2 =>
    rw[Lw] at au;rw[Lx] at b8;obtain⟨ex,S1⟩:=drop_cons Lw;obtain⟨xP,S2⟩:=drop_cons Lx;obtain⟨r,ba,UA⟩:=SO w d xs ys fT qZ (n+1) aJ (by rw[S1];exact au.2) (by rw[S2];exact b8.2);have bo:rE P f.type=some false:=by
     unfold rE;rw[hu];cases ri<;>simp[iL.of] at hk<;>rfl
    have acp:xs[n]? = some x:=by rw[<-Array.getElem?_toList];exact ex
    have acN:ys[n]? = some y:=by rw[<-Array.getElem?_toList];exact xP
    have ajn:(part f.type xs f.offset).run P w = .ok x w:=by simp[part,wU bo,U,acp]
    have ajo:(part f.type ys f.offset).run P w = .ok y w:=by simp[part,wU bo,U,acN]
    have Nb:∃q:Bool,(Op.equalIn (d+1) f.type x y).run P w = .ok q w/\(q=true↔x=y):=by
     cases k with
     | i =>
      obtain⟨a,rfl⟩:=au.1;obtain⟨b,rfl⟩:=b8.1;have aL:=iL.aiz hk;subst aL;exact⟨_,run_equalIn_int w d f.type .i64 .i64 a b hu,by simp⟩
     | b =>
      obtain⟨a,rfl⟩:=au.1;obtain⟨b,rfl⟩:=b8.1;have aL:=iL.aiy hk;subst aL;exact⟨_,run_equalIn_bool' w d f.type a b hu,by simp⟩
     | s =>
      obtain⟨a,rfl⟩:=au.1;obtain⟨b,rfl⟩:=b8.1;have aL:=iL.aiA hk;subst aL;exact⟨_,run_equalIn_string w d f.type a b hu,by rw[<-beq_toListBytes];simp⟩
    obtain⟨q,aG,L8⟩:=Nb;refine⟨q&&r,?_,?_⟩
    .simp only[Op.eqFields,h1,ne_eq,not_false_eq_true,if_true,Sem.run_bind,ajn,ajo,aG,Result.andThen_ok];cases q
     .simp
     .simpa using ba
    .rw[S1,S2] at UA;simp only[Bool.and_eq_true,L8,UA,List.cons.injEq]
theorem XV{P:Program}{t:TypeId}{sig:List iL}(h:GM P t sig=true)(w:World){xs ys:List Value}(au:qD sig xs)(b8:qD sig ys)(x y:Operand) :
  ∃r:Bool,(r=true↔xs=ys)/\∀w,(do eqGuard .eql t x y (.agg xs.toArray) (.agg ys.toArray);binOp .eql t (.agg xs.toArray) (.agg ys.toArray):Sem Value).run P w = .ok (.bool r) w /\
   (do eqGuard .neq t x y (.agg xs.toArray) (.agg ys.toArray);binOp .neq t (.agg xs.toArray) (.agg ys.toArray):Sem Value).run P w = .ok (.bool (!r)) w:=by
 unfold GM at h;cases hu:P.underlying t with
 | none=>rw[hu] at h;cases h
 | some ri =>
  cases ri<;>simp[hu] at h;rename_i fT;obtain⟨⟨h1,U⟩,ag⟩:=h;have Uw:P.fieldsOf t=fT:=by simp[Program.fieldsOf,hu]
  have key:∀w,∃r:Bool,(Op.equalIn 10000 t (.agg xs.toArray) (.agg ys.toArray)).run P w = .ok r w/\(r=true↔xs=ys):=fun w=>by
   obtain⟨r,ba,ad⟩:=SO (P:=P) w 9998 xs.toArray ys.toArray fT.toList sig 0 ag (by simpa using au) (by simpa using b8);refine⟨r,?_,by simpa using ad⟩;rw[run_equalIn_struct w 9999 t _ _ (by rw[Uw];exact hu) h1,Uw];exact ba
  obtain⟨r,_,ad⟩:=key w;refine⟨r,ad,fun w'=>?_⟩;obtain⟨gw,yj,cO⟩:=key w'
  have:gw=r:=by
   rcases Bool.eq_false_or_eq_true r with e | e
   .rw[e];exact cO.2 (ad.1 e)
   .rw[e];exact Bool.eq_false_iff.2 fun h=>by rw[ad.2 (cO.1 h)] at e;cases e
  subst this;refine⟨?_,?_⟩
  .simp only[Sem.run_bind,run_eqGuard_agg w' .eql t x y _ _ U,Result.andThen_ok,run_eql_struct,yj]
  .simp only[Sem.run_bind,run_eqGuard_agg w' .neq t x y _ _ U,Result.andThen_ok,run_neq_struct,yj]
section
variable{P:Program}{aI:Value->Prop}{c3 c6:Operand}
theorem K.ack{t:TypeId}{sig:List iL}{xs ys:List Value}{rj}(h:GM P t sig=true)(au:qD sig xs)(b8:qD sig ys)(hk:∀r:Bool,(r=true↔xs=ys)->aI (.bool r)):gq P .eql t c3 c6 (.agg xs.toArray) (.agg ys.toArray) aI rj:=by
 obtain⟨r,h1,U⟩:=XV h default au b8 c3 c6;exact K.bin (fun w=>(U w).1) (hk r h1)
theorem K.WK{t:TypeId}{sig:List iL}{xs ys:List Value}{rj}(h:GM P t sig=true)(au:qD sig xs)(b8:qD sig ys)(hk:∀r:Bool,(r=true↔xs≠ys)->aI (.bool r)):gq P .neq t c3 c6 (.agg xs.toArray) (.agg ys.toArray) aI rj:=by
 obtain⟨r,h1,U⟩:=XV h default au b8 c3 c6;exact K.bin (fun w=>(U w).2) (hk (!r) (by rw[ne_eq,<-h1];cases r<;>simp))
theorem K.acj{t e:TypeId}{a:Option Addr}{l c:Nat}{rj}(h:P.underlying t=some (.slice e))(hk:aI (.bool a.isNone)):gq P .eql t c3 c6 (.slice a l c) (.slice none 0 0) aI rj :=
 K.bin (v:=.bool a.isNone) (fun w=>by simp[eqGuard_at_slice,binOp,run_equal_slice_nil w t e a l c h]) hk
end
end bt
end
section
namespace bt
open Go Go.RowKit
section
variable{P:Program}{w0 w:World}{S:Fr}{K:Fr->World->Prop}
def strip:eX->List Step×eX
 | .take s r=>(s :: (strip r).1,(strip r).2)
 | t=>([],t)
theorem Fl:∀(t:eX) (S:Fr),sb P (strip t).1 S w0 (fun bh=>nU P w0 (strip t).2 bh w K)->nU P w0 t S w K
 | .take ⟨d,none,i⟩ r,S,h=>by
  show l5 P i S w0 fun v=>nU P w0 r (put S d v) w K;have bE:l5 P i S w0 fun v=>sb P (strip r).1 (put S d v) w0 (fun bh=>nU P w0 (strip r).2 bh w K):=h;exact l5.mono (fun v aT=>Fl r _ aT) bE
 | .take ⟨d,some (j,b),i⟩ r,S,h=>by
  rcases h with ⟨t,aL,h1,U⟩ | ⟨hu,ag⟩
  .exact .inl ⟨t,aL,fun e=>l5.mono (fun v aT=>Fl r _ aT) (h1 e),fun e=>Fl r _ (U e)⟩
  .exact .inr ⟨hu,Fl r _ ag⟩
 | .done,S,h=>h
 | .nil,S,h=>h
 | .alt _ _ _,S,h=>h
 | .bZ _ _ _,S,h=>h
 | .wide _,S,h=>h
theorem Yn{b n:Nat}{c cs:Array Value}{e:TypeId}{gm:World->Prop}(aC:w.heap[b]? = some (.cells c e))(aw:c.size=n)(aD:cs.size=n)(h1:∀x∈cs.toList,x.oneCell'=true)
  (hk:∀av,dC b w av->av.heap[b]? = some (.cells cs e)->gm av):zj n (.pointer (some ⟨b,0,none⟩)) (.agg cs) w gm :=
 N9 aD (fun j aR=>⟨⟨_,e8 aC (Array.getElem?_eq_getElem (by omega))⟩,by rw[add_eq];simp[World.frozen?,aC]⟩) h1 (hk _ (dC.kG cs.toList w ⟨b,0,none⟩ 0) (X8 aC (by omega)))
structure sq where
 d:Nat
 ty:TypeId
 z:Array Value
 n:Nat
 x:Nat
def sq.new(v:sq):Step:=⟨some v.d,none,.e (.new v.ty (.agg v.z))⟩
def sq.st(v:sq):Step:=⟨none,none,.e (.rh v.n (.tmp v.d) (.tmp v.x))⟩
theorem Z0(v:sq)(k:Fr->World->Prop):B1 P w0 v.st S w k=zj v.n (S v.d) (S v.x) w (fun w'=>Ext w0 w'/\k S w'):=rfl
theorem ac3(v:sq)(k:Fr->World->Prop):om P v.st S w k=zj v.n (S v.d) (S v.x) w (fun w'=>k S w'):=rfl
def YJ(a b:sq):eX :=
 .alt a.new (.alt b.new (.alt a.st (.bZ b.st .done .nil) .nil) .nil) (.alt b.new (.alt a.new (.alt a.st (.bZ b.st .done .nil) .nil) .nil) .nil)
theorem al7(S:Fr){a b:Nat}(h:a≠b)(x y:Value):cq (cq S a x) b y=cq (cq S b y) a x:=by
 funext t;unfold cq;split<;>split<;>simp_all
theorem alZ(a b:sq){nr nZ:List Value}(bw:(a.d != b.d&&a.x != a.d&&a.x != b.d&&b.x != a.d&&b.x != b.d)=true)(Mz:a.z.size=a.n)(MA:b.z.size=b.n)(bo:S a.x = .agg nr.toArray)(aC:S b.x = .agg nZ.toArray)(afl:nr.length=a.n)(UM:nZ.length=b.n)
  (adx:∀u∈nr,u.oneCell'=true)(ady:∀u∈nZ,u.oneCell'=true)
  (hk:∀w' hj hW,Ext w0 w'->w0.heap.size<=hj->w0.heap.size<=hW->hj≠hW->w'.heap[hj]? = some (.cells nr.toArray a.ty)->w'.heap[hW]? = some (.cells nZ.toArray b.ty) ->
   K (cq (cq S a.d (.pointer (some ⟨hj,0,none⟩))) b.d (.pointer (some ⟨hW,0,none⟩))) w'):nU P w0 (YJ a b) S w0 K:=by
 simp only[Bool.and_eq_true,bne_iff_ne,ne_eq] at bw;obtain⟨⟨⟨⟨d1,d2⟩,d3⟩,d4⟩,d5⟩:=bw;have fin:∀(bh:Fr) (aU:World) (hj hW:Nat),bh=cq (cq S a.d (.pointer (some ⟨hj,0,none⟩))) b.d (.pointer (some ⟨hW,0,none⟩))->Ext w0 aU->w0.heap.size<=hj->w0.heap.size<=hW->hj≠hW ->
   aU.heap[hj]? = some (.cells a.z a.ty)->aU.heap[hW]? = some (.cells b.z b.ty)->nU P w0 (.alt a.st (.bZ b.st .done .nil) .nil) bh aU K:=by
  rintro bh aU hj hW rfl he h1 U c5 Dc nJ;refine⟨?_,trivial⟩;have bU:cq (cq S a.d (.pointer (some ⟨hj,0,none⟩))) b.d (.pointer (some ⟨hW,0,none⟩)) a.d = .pointer (some ⟨hj,0,none⟩):=by simp[cq,d1]
  have a6:cq (cq S a.d (.pointer (some ⟨hj,0,none⟩))) b.d (.pointer (some ⟨hW,0,none⟩)) a.x = .agg nr.toArray:=by simp[cq,d2,d3,bo]
  have bK:cq (cq S a.d (.pointer (some ⟨hj,0,none⟩))) b.d (.pointer (some ⟨hW,0,none⟩)) b.d = .pointer (some ⟨hW,0,none⟩):=by simp[cq]
  have b0:cq (cq S a.d (.pointer (some ⟨hj,0,none⟩))) b.d (.pointer (some ⟨hW,0,none⟩)) b.x = .agg nZ.toArray:=by simp[cq,d4,d5,aC]
  rw[Z0,bU,a6];refine Yn Dc Mz (by simpa using afl) (by simpa using adx) fun bb fR bz=>⟨fR.ext he h1,?_⟩;refine⟨?_,trivial⟩;rw[ac3,bK,b0];refine Yn (fR.obj nJ (Ne.symm c5)) MA (by simpa using UM) (by simpa using ady) fun bp ey bA=>?_;exact hk bp hj hW (ey.ext (fR.ext he h1) U) h1 U c5 (ey.obj bz c5) bA
 have m1:∀(al o':Obj),((w0.alloc al).alloc o').heap[w0.heap.size]? = some al:=fun al o'=>((Ext.refl (w0.alloc al)).alloc o').obj (heap_alloc_new w0 al);have m2:∀(al o':Obj),((w0.alloc al).alloc o').heap[w0.heap.size+1]? = some o':=fun al o'=>by
  have:=heap_alloc_new (w0.alloc al) o'
  rwa[World.size_alloc] at this
 refine⟨⟨(Ext.refl _).alloc _,⟨((Ext.refl _).alloc _).alloc _,?_⟩,trivial⟩,⟨(Ext.refl _).alloc _,⟨((Ext.refl _).alloc _).alloc _,?_⟩,trivial⟩,trivial⟩
 .refine fin _ _ w0.heap.size (w0.heap.size+1) ?_ (((Ext.refl _).alloc _).alloc _) (Nat.le_refl _) (by omega) (by omega) (m1 _ _) (m2 _ _);show cq (cq S a.d _) b.d (.pointer (some ⟨(w0.alloc _).heap.size,0,none⟩))=_;rw[World.size_alloc]
 .refine fin _ _ (w0.heap.size+1) w0.heap.size ?_ (((Ext.refl _).alloc _).alloc _) (by omega) (Nat.le_refl _) (by omega) (m2 _ _) (m1 _ _);show cq (cq S b.d _) a.d (.pointer (some ⟨(w0.alloc _).heap.size,0,none⟩))=_;rw[World.size_alloc,al7 S (Ne.symm d1)]
theorem K.two{Q:eb->Fr->World->Prop}{t:eX}{ib:fa}{rj}(l:List Step)(zO:Nat)(Od:TypeId)(Fz:Array Value)(po r8 zP:Nat)(tb:TypeId)(FA:Array Value)(my q8:Nat)(aL:strip t=(l,YJ ⟨zO,Od,Fz,po,r8⟩ ⟨zP,tb,FA,my,q8⟩))(bw:(zO != zP&&r8 != zO&&r8 != zP&&q8 != zO&&q8 != zP)=true)(Mz:Fz.size=po)(MA:FA.size=my)
  (hk:∀av,Ext w av->l1 P l S av (fun bh => ∃nr nZ:List Value,bh r8 = .agg nr.toArray/\bh q8 = .agg nZ.toArray/\nr.length=po/\nZ.length=my/\(∀u∈nr,u.oneCell'=true)/\(∀u∈nZ,u.oneCell'=true) /\
   ∀w' hj hW,Ext av w'->av.heap.size<=hj->av.heap.size<=hW->hj≠hW->w'.heap[hj]? = some (.cells nr.toArray Od)->w'.heap[hW]? = some (.cells nZ.toArray tb) ->
    dZ P ib Q (cq (cq bh zO (.pointer (some ⟨hj,0,none⟩))) zP (.pointer (some ⟨hW,0,none⟩))) w' ⟨⟩) ⟨⟩):dZ P (.seq (.ed t) ib) Q S w rj:=by
 unfold dZ l1 at *;show dT P (.ed t) _ S w;intro av he;refine Fl t S ?_;have h:=hk av he;rw[aL];refine A9 l S av _ _ (fun bh _ bE=>?_) h;obtain⟨nr,nZ,h1,U,ag,aJ,bg,bO,cj⟩:=bE;exact alZ ⟨zO,Od,Fz,po,r8⟩ ⟨zP,tb,FA,my,q8⟩ bw Mz MA h1 U ag aJ bg bO fun w' hj hW bU a6 bK b0 b3 cV=>cj w' hj hW bU a6 bK b0 b3 cV
def hG(w0 w w':World)(p:World->Prop):Prop := ∀b2,Ext w0 b2->w'.heap.size<=b2.heap.size->(∀k,w.heap.size<=k->k<w'.heap.size->b2.heap[k]? = w'.heap[k]?)->p b2
structure amW(w0:World)(a b:sq)(S:Fr)(r8 q8:List Value->World->Prop)(iA tW po my:Bool)(bh:Fr)(w:World)(nr nZ:List Value)(oC bo ha aC uX uY:Nat):Prop where
 ext:Ext w0 w
 kv:∀t,t≠a.d->t≠b.d->t≠a.x->t≠b.x->bh t=S t
 dD:iA=true->bh a.x = .agg nr.toArray/\nr.length=a.n/\(∀u∈nr,u.oneCell'=true)/\bo<=w.heap.size/\∀b2,Ext w0 b2->w.heap.size<=b2.heap.size->(∀k,oC<=k->k<bo->b2.heap[k]? = w.heap[k]?)->r8 nr b2
 bC:tW=true->bh b.x = .agg nZ.toArray/\nZ.length=b.n/\(∀u∈nZ,u.oneCell'=true)/\aC<=w.heap.size/\∀b2,Ext w0 b2->w.heap.size<=b2.heap.size->(∀k,ha<=k->k<aC->b2.heap[k]? = w.heap[k]?)->q8 nZ b2
 a2:po=true->bh a.d = .pointer (some ⟨uX,0,none⟩)/\w0.heap.size<=uX/\uX<w.heap.size/\w.heap[uX]? = some (.cells a.z a.ty)
 cr:my=true->bh b.d = .pointer (some ⟨uY,0,none⟩)/\w0.heap.size<=uY/\uY<w.heap.size/\w.heap[uY]? = some (.cells b.z b.ty)
 kM:iA=true->po=true->uX<oC\/bo<=uX
 mO:iA=true->my=true->uY<oC\/bo<=uY
 hj:tW=true->po=true->uX<ha\/aC<=uX
 hW:tW=true->my=true->uY<ha\/aC<=uY
 aph:po=true->my=true->uX≠uY
structure amS(a b:sq):Prop where
 d12:a.d≠b.d
 d13:a.d≠a.x
 d14:a.d≠b.x
 d23:b.d≠a.x
 d24:b.d≠b.x
 d34:a.x≠b.x
end
end bt
end
section
namespace bt
open Go Go.RowKit
theorem K.wide{P:Program}{av w:World}{S:Fr}{t:eX}{K:Fr->World->Prop}{rj}(h:∃C:World->Prop,C w/\dY P C t S w K):fK P av (.wide t) S w K rj:=by
 unfold fK;exact h
section
variable{P:Program}{C:World->Prop}{S:Fr}{w:World}{K:Fr->World->Prop}
theorem dY.iA{k d x:Nat}{r:eX}{a:Addr}(au:S x = .pointer (some a))(h:dY P C r (cq S d (.pointer (some (a.add k)))) w K):dY P C (.take ⟨some d,none,.p (.iA k (.tmp x))⟩ r) S w K:=⟨a,au,h⟩
theorem dY.ld{d x:Nat}{r:eX}{a:Addr}{v:Value}(au:S x = .pointer (some a))(aT:∀w,C w->w.cell? a=some v)(h:dY P C r (cq S d v) w K):dY P C (.take ⟨some d,none,.r (.ld (.tmp x))⟩ r) S w K :=
 ⟨v,fun w hw=>⟨a,v,au,aT w hw,rfl⟩,h⟩
theorem dY.zp{s:Step}{r:eX}(h:lf P C s S w fun S w=>dY P C r S w K):dY P C (.alt s r .nil) S w K:=⟨h,trivial⟩
theorem dY.xU{s:Step}{r:eX}(h:om P s S w fun S w=>dY P C r S w K):dY P C (.bZ s r .nil) S w K:=⟨h,trivial⟩
end
theorem lf.e{P:Program}{C:World->Prop}{i:rn}{d:Nat}{S:Fr}{w:World}{k:Fr->World->Prop}(h:mD P i S w fun v w'=>C w'/\k (put S (some d) v) w'):lf P C ⟨some d,none,.e i⟩ S w k:=h
theorem om.e{P:Program}{i:rn}{d:Nat}{S:Fr}{w:World}{k:Fr->World->Prop}(h:mD P i S w fun v w'=>k (put S (some d) v) w'):om P ⟨some d,none,.e i⟩ S w k:=h
theorem Z4{P:Program}{ty e:TypeId}{sz b:Nat}{s x:Value}{w:World}{K:Value->World->Prop}(h:∀t,k4 P ty e sz b s x w K t):w4 P ty e sz b s x w K:=by
 have:=h ⟨⟩
 unfold k4 at this;exact this
theorem Oa{x v:Value}{w:World}{K:World->Prop}(h:∀t,qw x v w K t):xo x v w K:=by
 have:=h ⟨⟩
 unfold qw at this;exact this
abbrev cB(s:Option Addr×Nat×Nat):Value:=.slice s.1 s.2.1 s.2.2
def dG{β:Type}(f:Nat->β)(i:Nat)(v:β):Nat->β:=fun j=>if j=i then v else f j
theorem Iw{β:Type}(f:Nat->β)(i:Nat)(v:β):dG f i v i=v:=by simp[dG]
theorem EX{β:Type}(f:Nat->β){i j:Nat}(v:β)(h:j≠i):dG f i v j=f j:=by simp[dG,h]
structure hU{α:Type}(enc:α->List Value)(e:TypeId)(sz base:Nat)(w:World)(n:Nat)(vs:Nat->Option Addr×Nat×Nat)(xs:Nat->List α):Prop where
 own:∀i,i<n->bs enc e sz base w (cB (vs i)) (xs i)
 apart:∀i j k,i<n->j<n->i≠j->(cB (vs i)).ownBlock=some k->(cB (vs j)).ownBlock≠some k
section
variable{α:Type}{enc:α->List Value}{e:TypeId}{sz base n:Nat}{w w':World}{vs:Nat->Option Addr×Nat×Nat}{xs:Nat->List α}
theorem hU.mod{A:Nat->Prop}(h:hU enc e sz base w n vs xs)(m:Mod A w w')(eL:∀i k,i<n->(cB (vs i)).ownBlock=some k->¬A k):hU enc e sz base w' n vs xs :=
 ⟨fun i ad=>(h.own i ad).mod m (eL i · ad),h.apart⟩
theorem hU.ext(h:hU enc e sz base w n vs xs)(m:Ext w w'):hU enc e sz base w' n vs xs:=h.mod (A:=fun _=>False) m.mod fun _ _ _ _ a=>a
theorem hU.not(h:hU enc e sz base w n vs xs){k:Nat}{c:Array Value}{t:TypeId}(hk:w.heap[k]? = some (.cells c t))(aL:t≠e):∀i,i<n->(cB (vs i)).ownBlock≠some k:=fun i ad he=>by
 obtain⟨cur,U⟩:=(h.own i ad).aV k he;rw[hk] at U;injection U with U;injection U with _ U;exact aL U
theorem hU.lt(h:hU enc e sz base w n vs xs):∀i k,i<n->(cB (vs i)).ownBlock=some k->base<=k/\k<w.heap.size:=fun i k ad he=>(h.own i ad).lt k he
theorem hU.app{P:Program}{da:Value->World->Prop}{ty:TypeId}{b:Nat}{a:Addr}{c:Nat}{y:α}(i:Nat)(ad:i<n)(h:hU enc e sz base w n vs xs)(dn:∀x,(enc x).length=sz)(aw:fg w a (enc y))(h1:∀y,∀u∈enc y,u.oneCell'=true)
  (aC:((xs i).length+1)*b<=140737488355328)(kb:(xs i).length+1<=maxLen)(jx:base<=w.heap.size)
  (hk:∀ck w',hU enc e sz base w' n (dG vs i ck) (dG xs i (xs i++[y]))->w.grownBy w' (cB (vs i)).ownBlock->ck.2.1=(xs i).length+1->da (cB ck) w'):w4 P ty e sz b (cB (vs i)) (.slice (some a) 1 c) w da:=by
 refine Z4 fun t=>K.vw (ys:=[y]) (h.own i ad) dn (by simpa using aw) rfl h1 aC kb jx fun ck w' bc aZ kd=>?_;obtain⟨bl,cap,rfl,_⟩:=bc.form;refine hk (bl,(xs i++[y]).length,cap) w' ⟨fun j aR=>?_,fun j ME k aR eP c5 he=>?_⟩ aZ (by simp)
 .by_cases gX:j=i
  .subst gX;rw[Iw,Iw];exact bc
  .rw[EX _ _ gX,EX _ _ gX];exact(h.own j aR).mod (A:=fun k=>(cB (vs i)).ownBlock=some k) (Mod.grown aZ fun k hk=>hk) fun k hk a=>h.apart j i k aR ad gX hk a
 .have key:∀q,q<n->q≠i->∀k,(cB (vs q)).ownBlock=some k->(Value.slice bl (xs i++[y]).length cap).ownBlock≠some k:=fun q aG L8 k hk he=>by
   rcases kd with e | e
   .rw[e] at he;exact h.apart q i k aG ad L8 hk he
   .rw[e] at he;injection he with he;have:=(h.lt q k aG hk).2;omega
  by_cases gX:j=i
  .subst gX;rw[Iw] at he;rw[EX _ _ (Ne.symm c5)];exact fun U=>key ME eP (Ne.symm c5) k U he
  .rw[EX _ _ gX] at he;by_cases UH:ME=i
   .subst UH;rw[Iw];exact key j aR gX k he
   .rw[EX _ _ UH];exact h.apart j ME k aR eP c5 he
end
end bt
end
section
namespace bt
open Go Go.RowKit
theorem bF.sub{α:Type}{sz:Nat}{R:World->Addr->α->Prop}{w:World}{bl:Option Addr}{n c:Nat}{xs:List α}(h:bF sz R w (.slice bl n c) xs)(l u:Nat)(aS:l<=u)(hu:u<=xs.length) :
  bF sz R w (.slice (if c=l then bl else bl.map (·.add (l*sz))) (u - l) (c - l)) ((xs.drop l).take (u - l)) :=
 (h.tail l (by omega)).head (u - l) (by rw[List.length_drop];omega)
section
variable{P:Program}{aI:Value->Prop}{S:Fr}{w:World}
theorem K.IE{α:Type}{sz n cap:Nat}{R:World->Addr->α->Prop}{bl:Option Addr}{x y:Operand}{k k':IntKind}{xs:List α}{t}(l u:Nat)(ay:bF sz R w (.slice bl n cap) xs)(au:bn S x = .int k (l:Int))(b8:bn S y = .int k' (u:Int))(aS:l<=u)(hu:u<=xs.length)
  (hk:∀al c,bF sz R w (.slice al (u - l) c) ((xs.drop l).take (u - l))->aI (.slice al (u - l) c)):tC S sz (.slice bl n cap) (some x) (some y) none aI t:=by
 obtain⟨bU,a6,bK⟩:=ay.len;refine K.hQ l u cap (by simp[fl,au]) (by simp[fl,b8]) (by simp[fl]) ⟨aS,by omega,Nat.le_refl _⟩ (by simp) ?_;exact hk _ _ (ay.sub l u aS hu)
theorem K.ahx{b i j:Nat}{c:List Value}{ty:TypeId}{f:Nat×Nat}{v:Value}{w0:World}{t}(aC:w0.heap[b]? = some (.cells c.toArray ty f))(he:Ext w0 w)(aR:c[i+j]? = some v)(hk:aI v):qp (.pointer (some ((Addr.add ⟨b,0,none⟩ i).add j))) w aI t:=by
 rw[add_add];exact K.ta aC he aR hk
end
theorem ae{A B:Prop}(k:B)(h:vk B->A:=by
 intro q
 (repeat' first
 | assumption
 | exact Ext.refl _
 | refine Ext.trans ?_ (by assumption)
 | simp -dsimp only[c4,cF,Nat.reduceAdd,Nat.reduceEqDiff,reduceIte,reduceCtorEq,db,u5,u4,uI,uH,ud,uc,List.cons_append,List.nil_append]
 | refine K.wrap (by omega) ?_
 | refine K.ta (by assumption) ?_ rfl ?_
 | refine K.q0 (by assumption) ?_ rfl ?_
 | refine K.uD (by omega) ?_
 | refine K.sy (by first | assumption | omega) ?_
 | refine K.tO (by first | assumption | omega) ?_
 | refine K.qC (by assumption) ?_
 | refine K.rI (by assumption) ?_
 | refine K.uM (by assumption) ?_ (by omega) rfl ?_
 | refine K.uN (by assumption) ?_ (by omega) rfl ?_
 | refine K.uL (by assumption) ?_ (by omega) rfl ?_
 | refine K.ahx (by assumption) ?_ rfl ?_
 | refine K.MQ (by assumption) ?_ rfl ?_
 | refine K.MP (by assumption) ?_ rfl ?_
 | refine K.gS (by assumption) ?_ rfl ?_
 | refine K.tf (fun _=>by (simp -dsimp only[c4,Nat.reduceAdd,Nat.reduceEqDiff,reduceIte,reduceCtorEq,db]);rfl) rfl rfl (by first | assumption | (simp[Value.oneCell',o.c8.enc,o.Ref.enc,o.Node.enc,o.Scalar.enc,o.Var.enc,o.dv.enc,o.Act.enc,o.dI.enc,o.dz.enc,o.ks.enc];done)) ?_
 | refine K.new ?_
 | refine K.h6 (by assumption) rfl rfl (by first | assumption | (simp[Value.oneCell',o.c8.enc,o.Ref.enc,o.Node.enc,o.Scalar.enc,o.Var.enc,o.dv.enc,o.Act.enc,o.dI.enc,o.dz.enc,o.ks.enc];done)) ?_
 | refine K.st1 (by assumption) (Nat.le_of_ble_eq_true rfl) rfl ?_
 | refine K.tp (by assumption) (Nat.le_of_ble_eq_true rfl) rfl ?_
 | refine K.lk (by (simp only[eQ,lay,o2,ft,cu,Value.cells,Nat.reduceAdd,Nat.reduceEqDiff,reduceIte,List.range,List.range.loop,List.map_cons,List.map_nil]);rfl) ?_
 | refine K.cY (by (simp only[eQ,lay,o2,ft,cu,Value.cells,Nat.reduceAdd,Nat.reduceEqDiff,reduceIte]);rfl) ?_)
 exact q.out):A:=h ⟨k⟩
end bt
end
section
namespace o
open Go
structure Scope where
 scalars:List Scalar
 vars:List Var
 aM:List dv
 procs:List dz
 locals:List Var
 self:Int
structure Env where
 vars:List (List Int)
 lens:List Int
 locals:List Int
 at_:List (List Int)
 self:Int
def nth{α:Type}(l:List α)(n:Int):Option α:=if 0<=n then l[n.toNat]? else none
theorem iT{α:Type}{l:List α}{n:Int}(h:0<=n)(U:n<l.length):nth l n=some (l[n.toNat]'(by omega)):=by
 unfold nth;rw[if_pos h,List.getElem?_eq_getElem]
theorem hL{α:Type}{l:List α}{n:Int}(h:n<0\/(l.length:Int)<=n):nth l n=none:=by
 unfold nth;split
 .rw[List.getElem?_eq_none (by omega)]
 .rfl
def within(n:Int):Bool:=decide (-1048576<=n/\n<=1048576)
def tell(f:Int->Int->Int)(a b:Int):Int×Bool:=if within a&&within b&&within (f a b) then (f a b,true) else (0,false)
def bit(b:Bool):Int:=if b then 1 else 0
def e0(op:Int):Int:=if op=3 then 1 else if 1<=op/\op<=8 then 0 else if op=9\/op=10 then 1 else if 11<=op/\op<=19 then 2 else -1
def wA(op:Int):Bool:=decide (9<=op/\op<=19)
structure pz where
 parts:Int
 iX:Int
 makes:Int
 Sr:Int->Int->Int×Bool
def yL(iX:Int)(p:Int->Int->Bool):pz:=⟨2,iX,1,fun a b=>(bit (p a b),true)⟩
def gI(x:Int):Option pz :=
 if x=9 then some ⟨1,1,1,fun a _=>(bit (decide (a=0)),true)⟩
 else if x=10 then some ⟨1,0,0,fun a _=>tell (· - ·) 0 a⟩
 else if x=11 then some ⟨2,0,0,tell (· + ·)⟩
 else if x=12 then some ⟨2,0,0,tell (· - ·)⟩
 else if x=13 then some ⟨2,0,0,tell (· * ·)⟩
 else if x=14 then some (yL (-1) fun a b=>decide (a=b))
 else if x=15 then some (yL (-1) fun a b => !decide (a=b))
 else if x=16 then some (yL 0 fun a b=>decide (a<b))
 else if x=17 then some (yL 0 fun a b=>decide (a<=b))
 else if x=18 then some (yL 1 fun a b => !decide (a=0) && !decide (b=0))
 else if x=19 then some (yL 1 fun a b => !decide (a=0) || !decide (b=0))
 else none
theorem M9{x:Int}(h:wA x=false):gI x=none:=by
 have bE:¬(9<=x/\x<=19):=by simpa[wA] using h
 unfold gI
 repeat rw[if_neg (by omega)]
theorem ER{x:Int}{al:pz}(h:gI x=some al):al.parts=e0 x/\wA x=true:=by
 unfold gI at h
 repeat' split at h
 all_goals first | (cases h;subst_vars;decide) | cases h
def stepG(f:Node->List Int->Int×Int)(x:Node)(st:List Int):Int×List Int :=
 if e0 x.op<0 then (3,st) else if (st.length:Int)<e0 x.op then (4,st)
 else if (f x st).2≠0 then ((f x st).2,st)
 else if (st.take (st.length - (e0 x.op).toNat)++[(f x st).1]).length > 12 then (12,st) else (0,st.take (st.length - (e0 x.op).toNat)++[(f x st).1])
def eS(f:Node->List Int->Int×Int):List Node->List Int->Int×List Int
 | [],st=>(0,st)
 | x :: r,st=>if (stepG f x st).1≠0 then stepG f x st else eS f r (stepG f x st).2
def ko(f:Node->List Int->Int×Int)(e:List Node):Int×Int :=
 if e.length > 24 then (0,5) else if e.length=0 then (0,4)
 else if (eS f e []).1≠0 then (0,(eS f e []).1) else if (eS f e []).2.length > 1 then (0,5) else ((eS f e []).2.headD 0,0)
theorem E6(f:Node->List Int->Int×Int):∀(a b:List Node) (st:List Int),eS f (a++b) st=if (eS f a st).1≠0 then eS f a st else eS f b (eS f a st).2
 | [],b,st=>by simp[eS]
 | x :: a,b,st=>by
  simp only[List.cons_append,eS];by_cases h:(stepG f x st).1=0
  .simp only[h,ne_eq,not_true_eq_false,if_false];exact E6 f a b _
  .simp[h]
theorem wT{f:Node->List Int->Int×Int}{e:List Node}{k:Nat}{st:List Int}(hk:k<e.length)(h:eS f (e.take k) []=(0,st)):eS f (e.take (k+1)) []=stepG f e[k] st:=by
 rw[List.take_succ_eq_append_getElem hk,E6,h];simp only[ne_eq,not_true_eq_false,if_false,eS];split
 .rfl
 .rename_i U;simp at U;exact Prod.ext U.symm rfl
theorem NU{f:Node->List Int->Int×Int}{e:List Node}{k:Nat}{q:Int×List Int}(h:eS f (e.take k) []=q)(ak:q.1≠0):eS f e []=q:=by
 have:=E6 f (e.take k) (e.drop k) []
 rw[List.take_append_drop,h,if_pos ak] at this;exact this
theorem NT{f:Node->List Int->Int×Int}{e:List Node}(ub:e.length<=24){k:Nat}(hk:k<e.length){st:List Int}(h:eS f (e.take k) []=(0,st))(ak:(stepG f e[k] st).1≠0):ko f e=(0,(stepG f e[k] st).1):=by
 have U:=wT hk h;have ag:=NU U ak;unfold ko;rw[if_neg (by omega),if_neg (by omega),ag,if_pos ak]
theorem alw{f:Node->List Int->Int×Int}{x:Node}{st:List Int}(h:(stepG f x st).1=0):1<=(stepG f x st).2.length/\(stepG f x st).2.length<=12:=by
 unfold stepG at h ⊢
 repeat' split
 all_goals simp_all
theorem alv{f g:Node->List Int->Int×Int}{x:Node}{st:List Int}(h:0<=e0 x.op->e0 x.op<=st.length->(f x st).2=(g x st).2/\((f x st).2=0->(f x st).1=(g x st).1)):stepG f x st=stepG g x st:=by
 unfold stepG;split
 .rfl
 .split
  .rfl
  .obtain⟨h1,U⟩:=h (by omega) (by omega);rw[<-h1];split
   .rfl
   .rename_i ag;simp at ag;rw[U ag]
def gR(n:Int)(s:Scope):Int×Bool:=if n=0 then (0,true) else if n<0\/(s.scalars.length:Int)<n then (0,false) else (1+n,true)
def fP(l:List Var)(n:Int)(s:Scope):Int×Int×Bool :=
 match nth l n with
 | some v=>((gR v.scalar s).1,(gR v.over s).1,(gR v.scalar s).2&&(gR v.over s).2)
 | none=>(0,0,false)
def jE(n:Int)(s:Scope):Int×Int:=match nth s.aM n with | some c=>if (gR c.scalar s).2 then (0,0) else (0,8) | none=>(0,8)
def AA(n:Int)(s:Scope):Int×Int:=if 0<=n then (match nth s.procs (n.tdiv 16) with | some p=>if n.tmod 16<p.cx then (0,0) else (0,8) | none=>(0,8)) else (0,8)
def lC(x:Node)(s:Scope):Int×Int :=
 if x.op=5 then (if 1<=s.self/\s.self<=s.scalars.length then (1+s.self,0) else (0,8))
 else if x.op=6 then jE x.n s
 else if x.op=7 then AA x.n s
 else if x.op=8 then (if 0<=x.n/\x.n<s.scalars.length then (2+x.n,0) else (0,8))
 else (0,8)
def il(x:Node)(s:Scope)(top:Int):Int×Int :=
 if x.op=1 then (if within x.n then (0,0) else (0,10))
 else if x.op=2\/x.op=3\/x.op=4 then
  (let q:=fP (if x.op=4 then s.locals else s.vars) x.n s
   if q.2.2=false then (0,8) else if (x.op=3/\(q.2.1=0\/top≠q.2.1))\/(x.op≠3/\q.2.1≠0) then (0,9) else (q.1,0))
 else lC x s
def nd(al:pz)(l:List Int):Int×Int:=if l.all (fun k=>(decide (al.iX = -1)||decide (k=al.iX))&&decide (k=l.headD 0)) then (al.makes,0) else (0,9)
def e5(s:Scope)(x:Node)(st:List Int):Int×Int :=
 match gI x.op with
 | some al=>nd al (st.drop (st.length - al.parts.toNat))
 | none=>il x s (st.getLastD 0)
def kind(e:List Node)(s:Scope):Int×Int:=ko (e5 s) e
def jm(l:List Int)(n:Int):Int×Int:=match nth l n with | some x=>(x,0) | none=>(0,8)
def iZ(x:Node)(v:Env)(top:Int):Int×Int :=
 if x.op=1 then (if within x.n then (x.n,0) else (0,10))
 else if x.op=2 then (match nth v.vars x.n with | some l=>jm l 0 | none=>(0,8))
 else if x.op=3 then (match nth v.vars x.n with | some l=>(match nth l (top - 1) with | some y=>(y,0) | none=>(0,10)) | none=>(0,8))
 else if x.op=4 then jm v.locals x.n
 else if x.op=6 then jm v.lens x.n
 else if x.op=5 then (v.self,0)
 else if x.op=7 then (if 0<=x.n then (match nth v.at_ (x.n.tdiv 16) with | some l=>jm l (x.n.tmod 16) | none=>(0,8)) else (0,8))
 else (0,0)
def Ox(al:pz)(l:List Int):Int×Int:=let r:=al.Sr (l.headD 0) (l.getLastD 0);if r.2 then (r.1,0) else (0,10)
def je(v:Env)(x:Node)(st:List Int):Int×Int :=
 match gI x.op with
 | some al=>Ox al (st.drop (st.length - al.parts.toNat))
 | none=>iZ x v (st.getLastD 0)
def eval(e:List Node)(v:Env):Int×Int:=ko (je v) e
def kH(scalar over:Int)(s:Scope):Int×Bool :=
 if scalar<0\/(s.scalars.length:Int)<scalar\/over<0\/(s.scalars.length:Int)<over then (0,false) else if scalar=0 then (0,true) else (1+scalar,true)
theorem alG{a b:Int}{s:Scope}(h:(kH a b s).2=false):(kH a b s).1=0:=by
 unfold kH at h ⊢;by_cases q:a<0\/(s.scalars.length:Int)<a\/b<0\/(s.scalars.length:Int)<b
 .rw[if_pos q]
 .rw[if_neg q] at h;by_cases dM:a=0
  .rw[if_pos dM] at h;cases h
  .rw[if_neg dM] at h;cases h
def declared(l:List Var)(n:Int)(s:Scope):Option (Var×Int) :=
 match nth l n with
 | some v=>if (kH v.scalar v.over s).2 then some (v,(kH v.scalar v.over s).1) else none
 | none=>none
theorem abK{l:List Var}{n:Int}{s:Scope}{q:Var×Int}(h:declared l n s=some q):0<=q.1.over/\q.1.over<=s.scalars.length:=by
 unfold declared at h;cases aD:nth l n with
 | none=>rw[aD] at h;cases h
 | some v =>
  rw[aD] at h;simp only at h;by_cases aL:(kH v.scalar v.over s).2=true
  .rw[if_pos aL] at h;unfold kH at aL;by_cases dH:v.scalar<0\/(s.scalars.length:Int)<v.scalar\/v.over<0\/(s.scalars.length:Int)<v.over
   .rw[if_pos dH] at aL;cases aL
   .injection h with h
    subst h;simp only;omega
  .rw[if_neg aL] at h;cases h
def channel(n:Int)(s:Scope):Option Int :=
 match nth s.aM n with
 | some c=>if (kH c.scalar 0 s).2 then some (kH c.scalar 0 s).1 else none
 | none=>none
def asked(e:List Node)(k:Int)(s:Scope):Int:=if (kind e s).2≠0 then (kind e s).2 else if (kind e s).1≠k then 9 else 0
def gK(a:Act):Bool:=decide (a.kind=4\/a.kind=5)
def E3(a:Act)(k:Int)(s:Scope):Int:=match declared s.locals a.loc s with | some (v,k')=>if v.over≠0\/k'≠k then 9 else 0 | none=>8
def jN(a:Act)(s:Scope):Int :=
 if a.kind=1\/a.kind=2\/a.kind=3 then
  match declared (if a.kind=3 then s.locals else s.vars) a.to s with
  | none=>8
  | some (v,k) =>
   if (v.over≠0)≠(a.kind=2) then 9
   else if a.kind=2/\asked a.index (1+v.over) s≠0 then asked a.index (1+v.over) s
   else asked a.value k s
 else if a.kind=4\/a.kind=5 then
  match channel a.to s with
  | none=>8
  | some k=>if a.kind=5 then E3 a k s else asked a.value k s
 else 3
def head(c:dI)(cx:Int):Int :=
 if isName c.name=false then 6 else if c.from_<0\/cx<=c.from_\/c.to<0\/cx<=c.to then 10 else if c.cb.length > 6 then 11 else 0
def j6(s:Scope):List Act->Nat->Bool->Int×Int
 | [],_,_=>(0,0)
 | a :: r,i,t=>if gK a&&t then (2+i,7) else if jN a s≠0 then (2+i,jN a s) else j6 s r (i+1) (t||gK a)
def ix(c:dI)(cx:Int)(s:Scope):Int×Int :=
 if head c cx≠0 then (0,head c cx) else if c.guard.length > 0/\asked c.guard 1 s≠0 then (1,asked c.guard 1 s) else j6 s c.cb 0 false
def comm:List Act->Int×Int
 | []=>(0,0)
 | a :: r=>if gK a then (a.kind,a.to) else comm r
def ways(c:dI)(l:List dv):Int:=if (comm c.cb).1=4 then (match nth l (comm c.cb).2 with | some x=>if x.Wy then 2 else 1 | none=>1) else 1
def inner(p:dz)(s:Scope):Scope:={ s with locals:=p.vars,self:=p.over }
def whole(p:dz)(s:Scope):Int :=
 if isName p.name=false then 6 else if p.over<0\/(s.scalars.length:Int)<p.over then 8 else if p.cx<1\/12<p.cx then 10 else if p.cI.length > 12 then 11 else 0
def pk(s:Scope):List Var->Nat->Int×Int
 | [],_=>(0,0)
 | v :: r,i=>if v.over≠0 then (i,9) else if s.vars.any (fun x=>decide (x.name=v.name)) then (i,7) else pk s r (i+1)
def kE(p:dz)(s:Scope):Int×Int:=if (vars p.vars s.scalars 4).2≠0 then vars p.vars s.scalars 4 else pk s p.vars 0
def kO(own:Scope)(cx:Int)(all:List dI):List dI->Nat->Int×Int×Int
 | [],_=>(0,0,0)
 | c :: r,i=>if (ix c cx own).2≠0 then (2+(i:Int),(ix c cx own).1,(ix c cx own).2)
  else if (all.take i).any (fun x=>decide (x.name=c.name)) then (2+(i:Int),0,7) else kO own cx all r (i+1)
def ho(p:dz)(s:Scope):Int×Int×Int :=
 if whole p s≠0 then (0,0,whole p s) else if (kE p s).2≠0 then (1,(kE p s).1,(kE p s).2) else kO (inner p s) p.cx p.cI p.cI 0
def eN(m:Model):Scope:=⟨m.scalars,m.vars,m.aM,m.procs,[],0⟩
def gJ(m:Model)(i:Int):Scope:=match nth m.procs i with | some p=>inner p (eN m) | none=>eN m
def elems(m:Model)(p:dz):Nat:=match nth m.scalars (p.over - 1) with | some s=>if s.size<1\/4<s.size then 0 else s.size.toNat | none=>0
theorem Cz(m:Model)(p:dz):elems m p<=4:=by
 unfold elems;split
 .split
  .omega
  .omega
 .omega
def iU(i:Nat)(n:Nat):List c8:=(List.range n).map fun(k:Nat)=>(⟨(i:Int),(k:Int)+1⟩:c8)
def iq(i:Nat)(p:dz):List c8:=if p.over=0 then [(⟨(i:Int),0⟩:c8)] else []
def iR(m:Model):List dz->Nat->List c8
 | [],_=>[]
 | p :: r,i=>iq i p++iU i (elems m p)++iR m r (i+1)
def insts(m:Model):List c8:=iR m m.procs 0
theorem W0(i n:Nat):iU i (n+1)=iU i n++[⟨(i:Int),(n:Int)+1⟩]:=by unfold iU;rw[List.range_succ,List.map_append];rfl
theorem VE{m:Model}{k:Nat}(h:k<m.procs.length):iR m (m.procs.drop k) k=iq k m.procs[k]++iU k (elems m m.procs[k])++iR m (m.procs.drop (k+1)) (k+1):=by
 rw[List.drop_eq_getElem_cons h];rfl
theorem aiV(i:Nat)(p:dz):(iq i p).length<=1:=by unfold iq;split<;>simp
theorem VG(m:Model):∀(l:List dz) (i:Nat),(iR m l i).length<=5*l.length
 | [],_=>by simp[iR]
 | p :: r,i=>by
  have:=VG m r (i+1)
  have:=Cz m p
  have:=aiV i p
  simp only[iR,List.length_append,List.length_cons,iU,List.length_map,List.length_range];omega
theorem uE(m:Model):(insts m).length<=5*m.procs.length:=VG m _ _
structure c8.of(m:Model)(x:c8):Prop where
 bf:0<=x.proc
 ad:x.proc<m.procs.length
 elem:0<=x.elem/\x.elem<=4
theorem aiU{m:Model}{i:Nat}(ad:i<m.procs.length){n:Nat}(aD:n<=4):∀x∈iU i n,x.of m:=fun x au=>by
 unfold iU at au;obtain⟨k,hk,rfl⟩:=List.mem_map.1 au
 have:=List.mem_range.1 hk
 exact⟨by simp,by simpa using ad,by constructor<;>simp<;>omega⟩
theorem aiW{m:Model}{i:Nat}(ad:i<m.procs.length){p:dz}:∀x∈iq i p,x.of m:=fun x au=>by
 unfold iq at au;split at au
 .rw[List.mem_singleton] at au;subst au;exact⟨by simp,by simpa using ad,by simp⟩
 .cases au
theorem VI{m:Model}:∀(l:List dz) (i:Nat),i+l.length<=m.procs.length->∀x∈iR m l i,x.of m
 | [],_,_,x,au=>by simp[iR] at au
 | p :: r,i,h,x,au=>by
  simp only[iR,List.mem_append] at au;simp only[List.length_cons] at h;rcases au with (au | au) | au
  .exact aiW (by omega) x au
  .exact aiU (by omega) (Cz m p) x au
  .exact VI r (i+1) (by omega) x au
theorem rT{m:Model}:∀x∈insts m,x.of m:=VI _ _ (by simp)
def q7(m:Model)(x:c8):Nat:=match nth m.procs x.proc with | some p=>p.cI.length | none=>0
def refsOf(i:Int)(n:Nat):List Ref:=(List.range n).map fun(k:Nat)=>(⟨i,(k:Int)⟩:Ref)
theorem XF(i:Int)(n:Nat):refsOf i (n+1)=refsOf i n++[⟨i,(n:Int)⟩]:=by unfold refsOf;rw[List.range_succ,List.map_append];rfl
def oI(m:Model):List c8->Nat->List Ref
 | [],_=>[]
 | x :: r,i=>refsOf i (q7 m x)++oI m r (i+1)
def refs(m:Model):List Ref:=oI m (insts m) 0
theorem aj3{m:Model}{l:List c8}{k:Nat}(h:k<l.length):oI m (l.drop k) k=refsOf k (q7 m l[k])++oI m (l.drop (k+1)) (k+1):=by
 rw[List.drop_eq_getElem_cons h];rfl
def lF(m:Model)(s:Int×c8×List Ref)(x:c8):Int×c8×List Ref:=((if x≠s.2.1 then s.1+1 else s.1),x,s.2.2++refsOf (if x≠s.2.1 then s.1+1 else s.1) (q7 m x))
structure rq where
 cX:Int
 part:Int
 item:Int
 sub:Int
deriving DecidableEq
def sI:rq:=⟨0,0,0,0⟩
abbrev EO(m:Model):List ByteArray:=m.scalars.map (·.name)
abbrev yH(m:Model)(i:Nat):List ByteArray:=(m.vars.take i).map (·.name)
abbrev yG(m:Model)(i:Nat):List ByteArray:=(m.aM.take i).map (·.name)
abbrev wJ(m:Model)(i:Nat):List ByteArray:=(m.procs.take i).map (·.name)
abbrev MZ(m:Model)(i:Nat):List ByteArray:=(m.props.take i).map (·.name)
abbrev q5(m:Model)(i:Nat):List ByteArray:=EO m++yH m i
abbrev mw(m:Model)(i:Nat):List ByteArray:=q5 m m.vars.length++yG m i
abbrev im(m:Model)(i:Nat):List ByteArray:=mw m m.aM.length++wJ m i
abbrev q4(m:Model)(i:Nat):List ByteArray:=im m m.procs.length++MZ m i
def nm(m:Model):Nat->Int:=err 12 (nameAt (·.name) m.vars) (oL m.vars m.scalars)
def mT(m:Model):Nat->Int:=err 4 (nameAt (·.name) m.aM) (og m.aM m.scalars)
def iN(m:Model)(i:Nat):Int:=if nm m i≠0 then nm m i else if nameAt (·.name) m.vars i∈q5 m i then 7 else 0
def jQ(m:Model)(i:Nat):Int:=if mT m i≠0 then mT m i else if nameAt (·.name) m.aM i∈mw m i then 7 else 0
def pO(m:Model)(p:dz)(k:Nat):Int:=if nameAt (·.name) p.vars k∈im m m.procs.length then 7 else 0
def hX(m:Model)(i:Nat):Int×Int :=
 match m.procs[i]? with
 | none=>(0,0)
 | some p=>if 6<=i then (11,0)
  else if (ho p (gJ m i)).2.2≠0 then ((ho p (gJ m i)).2.2,16*(ho p (gJ m i)).1+(ho p (gJ m i)).2.1)
  else if p.name∈im m i then (7,0)
  else if (first p.vars.length (pO m p)).2≠0 then (7,16+(first p.vars.length (pO m p)).1)
  else (0,0)
def kn(m:Model)(p:dz):Int:=if p.over=0 then 1 else size p.over m.scalars
def h7(l:List Int):Int:=l.foldl (· + ·) 0
def pL(c:dv):Int:=1+min (max c.cap 0) 4
def pieces(m:Model):Int×Int×Int :=
 (h7 (m.procs.map (kn m)),h7 (m.procs.map fun p=>kn m p*p.cI.length),
  h7 (m.vars.map (fun v=>cells v m.scalars))+h7 (m.aM.map pL)+h7 (m.procs.map fun p=>kn m p*(1+p.vars.length)))
def mb(m:Model)(i:Nat):Int :=
 match m.props[i]? with
 | none=>0
 | some p=>if 8<=i then 11 else if isName p.name=false then 6 else if p.name∈q4 m i then 7
  else if (kind p.expr (eN m)).2≠0 then (kind p.expr (eN m)).2 else if (kind p.expr (eN m)).1≠1 then 9 else 0
def data(m:Model):rq :=
 if (scalars m.scalars).2≠0 then ⟨(scalars m.scalars).2,1,(scalars m.scalars).1,0⟩
 else if (first m.vars.length (iN m)).2≠0 then ⟨(first m.vars.length (iN m)).2,2,(first m.vars.length (iN m)).1,0⟩
 else if (first m.aM.length (jQ m)).2≠0 then ⟨(first m.aM.length (jQ m)).2,3,(first m.aM.length (jQ m)).1,0⟩
 else sI
def lE(m:Model):rq :=
 if (first m.procs.length fun i=>(hX m i).1).2≠0 then ⟨(first m.procs.length fun i=>(hX m i).1).2,4,(first m.procs.length fun i=>(hX m i).1).1,(hX m (first m.procs.length fun i=>(hX m i).1).1.toNat).2⟩
 else if 12<(pieces m).1\/64<(pieces m).2.2 then ⟨11,4,m.procs.length,0⟩ else sI
def oF(m:Model):rq:=if (first m.props.length (mb m)).2≠0 then ⟨(first m.props.length (mb m)).2,5,(first m.props.length (mb m)).1,0⟩ else sI
def check(m:Model):rq:=if (data m).cX≠0 then data m else if (lE m).cX≠0 then lE m else oF m
theorem A0{α:Type}{f:α->ByteArray}{l:List α}{i:Nat}(h:i<l.length):nameAt f l i=f l[i]:=by
 unfold nameAt;rw[List.getElem?_eq_getElem h];rfl
theorem ah0{p:Nat->Prop}(h:∃j,p j):∃i,p i/\∀k,p k->i<=k:=by
 obtain⟨j,aR⟩:=h
 induction j using Nat.strongRecOn with
 | _ j eV =>
  by_cases au:∃k,k<j/\p k
  .obtain⟨k,hk,aO⟩:=au;exact eV k hk aO
  .exact⟨j,aR,fun k aO=>Nat.le_of_not_lt fun cw=>au ⟨k,cw,aO⟩⟩
theorem tY{n:Nat}{e:Nat->Int}(h:(first n e).2=0):∀j,j<n->e j=0:=by
 intro j aR;apply Classical.byContradiction;intro aD;obtain⟨i,ad,h1⟩:=ah0 (p:=fun j=>j<n/\e j≠0) ⟨j,aR,aD⟩;rw[iB ad.1 (fun k hk=>by
  apply Classical.byContradiction;intro c5;exact absurd (h1 k ⟨by omega,c5⟩) (by omega)) ad.2] at h
 exact ad.2 h
theorem S8{n:Nat}{e:Nat->Int}(h:(first n e).2≠0):∃i,i<n/\(first n e).1=(i:Int)/\(first n e).2=e i:=by
 unfold first at h ⊢
 split at h
 .rename_i i ad;rw[List.find?_range_eq_some] at ad;exact⟨i,by simpa using ad.2.1,rfl,rfl⟩
 .exact absurd rfl h
theorem SP{α:Type}{f:α->ByteArray}{l:List α}{fr:Int}{mo mo':Nat->Int}{k i:Nat}(ad:i<k)(hm:mo i=mo' i):err fr (nameAt f (l.take k)) mo i=err fr (nameAt f l) mo' i:=by
 have aD:∀j,j<k->nameAt f (l.take k) j=nameAt f l j:=fun j aR=>by unfold nameAt;rw[List.getElem?_take_of_lt aR]
 unfold err;rw[aD i ad,hm];have he:(∃j,j<i/\nameAt f (l.take k) j=nameAt f l i)↔(∃j,j<i/\nameAt f l j=nameAt f l i) :=
  ⟨fun⟨j,h1,U⟩=>⟨j,h1,by rw[<-aD j (by omega)];exact U⟩,fun⟨j,h1,U⟩=>⟨j,h1,by rw[aD j (by omega)];exact U⟩⟩
 by_cases au:∃j,j<i/\nameAt f l j=nameAt f l i
 .rw[if_pos (he.2 au),if_pos au]
 .rw[if_neg (fun h=>au (he.1 h)),if_neg au]
theorem ami{m:Model}{i:Nat}(ad:i<m.vars.length)(bQ:∀j,j<i->nm m j=0):(vars (m.vars.take (i+1)) m.scalars 12).2=nm m i:=by
 unfold vars;have aS:(m.vars.take (i+1)).length=i+1:=by simp;omega
 rw[aS,show(max 12 0:Int)=12 from rfl,S7 (e':=nm m) (fun j aR=>(SP (mo':=oL m.vars m.scalars) aR (by unfold oL;rw[List.getElem?_take_of_lt aR]):_=nm m j))];by_cases ak:nm m i=0
 .rw[oj fun j aR=>by
   by_cases gX:j=i
   .subst gX;exact ak
   .exact bQ j (by omega),ak]
 .rw[iB (by omega) bQ ak]
theorem abi{m:Model}{i:Nat}(ad:i<m.aM.length)(bQ:∀j,j<i->mT m j=0):(aM (m.aM.take (i+1)) m.scalars).2=mT m i:=by
 unfold aM;have aS:(m.aM.take (i+1)).length=i+1:=by simp;omega
 rw[aS,S7 (e':=mT m) (fun j aR=>(SP (mo':=og m.aM m.scalars) aR (by unfold og;rw[List.getElem?_take_of_lt aR]):_=mT m j))];by_cases ak:mT m i=0
 .rw[oj fun j aR=>by
   by_cases gX:j=i
   .subst gX;exact ak
   .exact bQ j (by omega),ak]
 .rw[iB (by omega) bQ ak]
theorem amh(m:Model):vars m.vars m.scalars 12=first m.vars.length (nm m):=rfl
theorem abg(m:Model):aM m.aM m.scalars=first m.aM.length (mT m):=rfl
theorem I0{m:Model}{i:Nat}(h:iN m i=0):nm m i=0:=by
 apply Classical.byContradiction;intro aD;unfold iN at h;rw[if_pos aD] at h;exact aD h
theorem Gu{m:Model}{i:Nat}(h:jQ m i=0):mT m i=0:=by
 apply Classical.byContradiction;intro aD;unfold jQ at h;rw[if_pos aD] at h;exact aD h
theorem SQ{m:Model}{i:Nat}(h:iN m i=0):i<12:=by
 have h:=I0 h;unfold nm err at h;split at h
 .cases h
 .omega
theorem ab2{m:Model}{i:Nat}(h:jQ m i=0):i<4:=by
 have h:=Gu h;unfold mT err at h;split at h
 .cases h
 .omega
theorem GL{m:Model}{i:Nat}(ad:i<m.procs.length)(h:(hX m i).1=0):i<6:=by
 unfold hX at h;rw[List.getElem?_eq_getElem ad] at h;simp only at h;split at h
 .cases h
 .omega
theorem aci{m:Model}{i:Nat}(ad:i<m.props.length)(h:mb m i=0):i<8:=by
 unfold mb at h;rw[List.getElem?_eq_getElem ad] at h;simp only at h;split at h
 .cases h
 .omega
theorem X5{m:Model}(h:(scalars m.scalars).2=0):m.scalars.length<=2:=by
 unfold scalars at h
 have:=tY h
 apply Classical.byContradiction;intro aD;have U:=this 2 (by omega);unfold err at U;rw[if_pos (by omega)] at U;cases U
theorem size_le(k:Int)(s:List Scalar):0<=size k s/\size k s<=4:=by
 unfold size;split
 .split<;>omega
 .omega
theorem tJ(v:Var)(s:List Scalar):0<=cells v s/\cells v s<=4:=by
 have:=size_le v.over s
 unfold cells;split<;>omega
theorem ET(m:Model)(p:dz):0<=kn m p/\kn m p<=4:=by
 have:=size_le p.over m.scalars
 unfold kn;split<;>omega
theorem JX(c:dv):1<=pL c/\pL c<=5:=by unfold pL;omega
theorem alA(l:List Int)(x:Int):h7 (l++[x])=h7 l+x:=by unfold h7;simp
theorem Fk{α:Type}(f:α->Int)(l:List α){k:Nat}(h:k<l.length):h7 ((l.take (k+1)).map f)=h7 ((l.take k).map f)+f l[k]:=by
 rw[List.take_succ_eq_append_getElem h,List.map_append,List.map_cons,List.map_nil,alA]
theorem Fj{α:Type}(f:α->Int)(B:Int)(jh:0<=B):∀(l:List α),(∀x∈l,0<=f x/\f x<=B)->0<=h7 (l.map f)/\h7 (l.map f)<=B*l.length:=by
 have key:∀(l:List α) (a:Int),(∀x∈l,0<=f x/\f x<=B)->a<=(l.map f).foldl (· + ·) a/\(l.map f).foldl (· + ·) a<=a+B*l.length:=by
  intro l
  induction l with
  | nil=>intro a _;simp
  | cons x r eV =>
   intro a h;have au:=h x (by simp);obtain⟨h1,U⟩:=eV (a+f x) fun y b8=>h y (by simp[b8]);simp only[List.map_cons,List.foldl_cons,List.length_cons];rw[Int.natCast_succ,Int.mul_add];omega
 intro l h;obtain⟨h1,U⟩:=key l 0 h;unfold h7;omega
end o
namespace o
theorem Sk{m:Model}(h:(scalars m.scalars).2≠0):data m=⟨(scalars m.scalars).2,1,(scalars m.scalars).1,0⟩:=by unfold data;rw[if_pos h]
theorem GF{m:Model}(ay:(scalars m.scalars).2=0){i:Nat}(ad:i<m.vars.length)(bQ:∀j,j<i->iN m j=0)(h:iN m i≠0):data m=⟨iN m i,2,i,0⟩:=by
 unfold data;rw[if_neg (by simpa using ay),iB ad bQ h,if_pos h]
theorem GC{m:Model}(ay:(scalars m.scalars).2=0)(aT:∀j,j<m.vars.length->iN m j=0){i:Nat}(ad:i<m.aM.length)(bQ:∀j,j<i->jQ m j=0)(h:jQ m i≠0):data m=⟨jQ m i,3,i,0⟩:=by
 unfold data;rw[if_neg (by simpa using ay),oj aT,if_neg (by simp),iB ad bQ h,if_pos h]
theorem Si{m:Model}(ay:(scalars m.scalars).2=0)(aT:∀j,j<m.vars.length->iN m j=0)(aw:∀j,j<m.aM.length->jQ m j=0):data m=sI:=by
 unfold data;rw[if_neg (by simpa using ay),oj aT,if_neg (by simp),oj aw,if_neg (by simp)]
theorem Sj{m:Model}(h:(data m).cX=0):(scalars m.scalars).2=0/\(∀j,j<m.vars.length->iN m j=0)/\(∀j,j<m.aM.length->jQ m j=0):=by
 unfold data at h;by_cases h1:(scalars m.scalars).2=0
 .rw[if_neg (by simpa using h1)] at h;by_cases U:(first m.vars.length (iN m)).2=0
  .rw[if_neg (by simpa using U)] at h;by_cases ag:(first m.aM.length (jQ m)).2=0
   .exact⟨h1,tY U,tY ag⟩
   .rw[if_pos ag] at h;exact absurd h ag
  .rw[if_pos U] at h;exact absurd h U
 .rw[if_pos h1] at h;exact absurd h h1
theorem GD{m:Model}(h:(data m).cX=0):m.scalars.length<=2/\m.vars.length<=12/\m.aM.length<=4:=by
 obtain⟨h1,U,ag⟩:=Sj h;refine⟨X5 h1,?_,?_⟩
 .apply Classical.byContradiction;intro aD
  have:=SQ (U 12 (by omega))
  omega
 .apply Classical.byContradiction;intro aD
  have:=ab2 (ag 4 (by omega))
  omega
theorem EV{m:Model}{i:Nat}(ad:i<m.procs.length)(bQ:∀j,j<i->(hX m j).1=0)(h:(hX m i).1≠0):lE m=⟨(hX m i).1,4,i,(hX m i).2⟩:=by
 unfold lE;rw[iB (e:=fun i=>(hX m i).1) ad bQ h];simp only;rw[if_pos h];simp
theorem Ni{m:Model}(bQ:∀j,j<m.procs.length->(hX m j).1=0):lE m=if 12<(pieces m).1\/64<(pieces m).2.2 then ⟨11,4,m.procs.length,0⟩ else sI:=by
 unfold lE;rw[oj (e:=fun i=>(hX m i).1) bQ,if_neg (by simp)]
theorem Is{m:Model}(h:(lE m).cX=0):(∀j,j<m.procs.length->(hX m j).1=0)/\(pieces m).1<=12/\(pieces m).2.2<=64:=by
 by_cases h1:(first m.procs.length fun i=>(hX m i).1).2=0
 .have bQ:=tY h1;rw[Ni bQ] at h;refine⟨bQ,?_⟩;by_cases U:12<(pieces m).1\/64<(pieces m).2.2
  .rw[if_pos U] at h;cases h
  .omega
 .unfold lE at h;rw[if_pos h1] at h;exact absurd h h1
theorem Xd{m:Model}{i:Nat}(ad:i<m.props.length)(bQ:∀j,j<i->mb m j=0)(h:mb m i≠0):oF m=⟨mb m i,5,i,0⟩:=by
 unfold oF;rw[iB ad bQ h,if_pos h]
theorem Nk{m:Model}(bQ:∀j,j<m.props.length->mb m j=0):oF m=sI:=by
 unfold oF;rw[oj bQ,if_neg (by simp)]
theorem It{m:Model}(h:(oF m).cX=0):∀j,j<m.props.length->mb m j=0:=by
 by_cases h1:(first m.props.length (mb m)).2=0
 .exact tY h1
 .unfold oF at h;rw[if_pos h1] at h;exact absurd h h1
theorem Bq{α:Type}(f:α->ByteArray)(l:List α){k:Nat}(h:k<l.length):(l.take (k+1)).map f=(l.take k).map f++[f l[k]]:=by
 rw[List.take_succ_eq_append_getElem h,List.map_append];rfl
end o
namespace o
theorem Kt{m:Model}{i:Nat}(ad:i<m.procs.length):hX m i=if 6<=i then (11,0)
  else if (ho m.procs[i] (gJ m i)).2.2≠0 then ((ho m.procs[i] (gJ m i)).2.2,16*(ho m.procs[i] (gJ m i)).1+(ho m.procs[i] (gJ m i)).2.1)
  else if m.procs[i].name∈im m i then (7,0)
  else if (first m.procs[i].vars.length (pO m m.procs[i])).2≠0 then (7,16+(first m.procs[i].vars.length (pO m m.procs[i])).1)
  else (0,0):=by
 unfold hX;rw[List.getElem?_eq_getElem ad]
theorem CE{m:Model}{i:Nat}(ad:i<m.props.length):mb m i=if 8<=i then 11 else if isName m.props[i].name=false then 6 else if m.props[i].name∈q4 m i then 7
  else if (kind m.props[i].expr (eN m)).2≠0 then (kind m.props[i].expr (eN m)).2 else if (kind m.props[i].expr (eN m)).1≠1 then 9 else 0:=by
 unfold mb;rw[List.getElem?_eq_getElem ad]
theorem acY(n:Nat)(e:Nat->Int):0<=(first n e).1/\(first n e).1<=n:=by
 unfold first
 split
 .rename_i i ad;rw[List.find?_range_eq_some] at ad
  have:=ad.2.1
  simp at this;constructor<;>simp<;>omega
 .simp
theorem Wx(s:Scope):∀(l:List Var) (i:Nat),0<=(pk s l i).1/\(pk s l i).1<=i+l.length
 | [],i=>by first | (simp[pk];done) | (simp[pk];omega)
 | v :: r,i=>by
  have:=Wx s r (i+1)
  unfold pk;split
  .simp;omega
  .split
   .simp;omega
   .simp only[List.length_cons];omega
theorem ai9(p:dz)(s:Scope):0<=(kE p s).1/\(kE p s).1<=p.vars.length:=by
 unfold kE;split
 .exact acY _ _
 .have:=Wx s p.vars 0;omega
theorem RD(s:Scope):∀(l:List Act) (i:Nat) (t:Bool),0<=(j6 s l i t).1/\(j6 s l i t).1<=2+i+l.length
 | [],i,t=>by first | (simp[j6];done) | (simp[j6];omega)
 | a :: r,i,t=>by
  have:=RD s r (i+1) (t||gK a)
  unfold j6;split
  .simp;omega
  .split
   .simp;omega
   .simp only[List.length_cons];omega
theorem abr(c:dI)(cx:Int)(s:Scope):0<=(ix c cx s).1/\(ix c cx s).1<=2+c.cb.length:=by
 unfold ix;split
 .simp;omega
 .split
  .simp;omega
  .have:=RD s c.cb 0 false;omega
theorem R7(own:Scope)(cx:Int)(all:List dI)(B:Nat):∀(l:List dI) (i:Nat),(∀c∈l,c.cb.length<=B)->0<=(kO own cx all l i).1/\(kO own cx all l i).1<=2+i+l.length/\0<=(kO own cx all l i).2.1/\(kO own cx all l i).2.1<=2+B
 | [],i,_=>by first | (simp[kO];done) | (simp[kO];omega)
 | c :: r,i,h=>by
  have h1:=R7 own cx all B r (i+1) fun x au=>h x (by simp[au]);have U:=abr c cx own;have ag:=h c (by simp);unfold kO;split
  .simp only[List.length_cons];omega
  .split
   .simp only[List.length_cons];omega
   .simp only[List.length_cons];omega
theorem Xa(p:dz)(s:Scope)(B:Nat)(h:∀c∈p.cI,c.cb.length<=B):0<=(ho p s).1/\(ho p s).1<=2+p.cI.length/\0<=(ho p s).2.1/\(ho p s).2.1<=2+B+p.vars.length:=by
 unfold ho;split
 .simp;omega
 .split
  .have:=ai9 p s
   simp only;omega
  .have:=R7 (inner p s) p.cx p.cI B p.cI 0 h
   omega
theorem Ng{p:dz}{s:Scope}(h:(ho p s).2.2=0):p.vars.length<=4/\p.cI.length<=12/\whole p s=0/\(kE p s).2=0/\(kO (inner p s) p.cx p.cI p.cI 0).2.2=0:=by
 unfold ho at h;by_cases h1:whole p s=0
 .rw[if_neg (by simpa using h1)] at h;by_cases U:(kE p s).2=0
  .rw[if_neg (by simpa using U)] at h;refine⟨?_,?_,h1,U,h⟩
   .have ag:(vars p.vars s.scalars 4).2=0:=by
     apply Classical.byContradiction;intro aD;unfold kE at U;rw[if_pos aD] at U;exact aD U
    apply Classical.byContradiction;intro aD;have aJ:=tY ag 4 (by omega);unfold err at aJ;rw[if_pos (by decide)] at aJ;cases aJ
   .apply Classical.byContradiction;intro aD;unfold whole at h1;split at h1
    .cases h1
    .split at h1
     .cases h1
     .split at h1
      .cases h1
      .rw[if_pos (by omega)] at h1;cases h1
  .rw[if_pos U] at h;exact absurd h U
 .rw[if_pos h1] at h;exact absurd h h1
theorem zR{m:Model}{i:Nat}(ad:i<m.procs.length)(h:(hX m i).1=0):i<6/\(ho m.procs[i] (gJ m i)).2.2=0/\¬m.procs[i].name∈im m i/\(first m.procs[i].vars.length (pO m m.procs[i])).2=0:=by
 rw[Kt ad] at h;split at h
 .cases h
 .split at h
  .rename_i h1 U;exact absurd h U
  .split at h
   .cases h
   .split at h
    .cases h
    .rename_i h1 U ag aJ;exact⟨by omega,by simpa using U,ag,by simpa using aJ⟩
end o
end
section
namespace o
open Go
structure dK where
 bf:Int
 ad:Int
 kind:Int
structure Cell where
 sort:Int
 vc:Int
 place:Int
 bf:Int
 ad:Int
 kind:Int
structure vl where
 vars:List Int
 aM:List Int
 insts:List Int
 cells:Int
 bf:List Int
 ad:List Int
def kindOf(k:Int):Int:=if k=0 then 0 else k+1
def fb(sc bf ad:Int)(s:List Scalar):dK:=if sc=0 then ⟨bf,ad,0⟩ else ⟨0,size sc s,sc+1⟩
theorem B8(v:Var)(s:List Scalar):fb v.scalar v.bf v.ad s=⟨(bounds v s).1,(bounds v s).2,kindOf v.scalar⟩:=by
 unfold fb bounds kindOf;by_cases h:v.scalar=0
 .rw[if_pos h,if_pos h,if_pos h]
 .rw[if_neg h,if_neg h,if_neg h]
def yW(s:List Scalar)(v:Var):List dK:=List.replicate (cells v s).toNat (fb v.scalar v.bf v.ad s)
def j9(s:List Scalar)(c:dv):dK:=fb c.scalar (min c.bf 0) (max c.ad 0) s
def l8(s:List Scalar)(c:dv):List dK:=⟨0,c.cap,0⟩ :: List.replicate c.cap.toNat (j9 s c)
def th(s:List Scalar)(p:dz):List dK:=⟨0,p.cx - 1,0⟩ :: p.vars.map fun v=>fb v.scalar v.bf v.ad s
def lz(m:Model)(x:c8):List dK:=match nth m.procs x.proc with | some p=>th m.scalars p | none=>[]
def fi(sort vc:Int):List dK->Nat->List Cell
 | [],_=>[]
 | b :: r,k=>⟨sort,vc,k,b.bf,b.ad,b.kind⟩ :: fi sort vc r (k+1)
def cellsOf(sort:Int):List (List dK)->Nat->List Cell
 | [],_=>[]
 | l :: r,i=>fi sort i l 0++cellsOf sort r (i+1)
def total(ls:List (List dK)):Nat:=(ls.map List.length).sum
def hq(n:Nat):List (List dK)->List Int
 | []=>[]
 | l :: r=>(n:Int) :: hq (n+l.length) r
def cW(m:Model):List (List dK):=m.vars.map (yW m.scalars)
def dA(m:Model):List (List dK):=m.aM.map (l8 m.scalars)
def fc(m:Model):List (List dK):=(insts m).map (lz m)
def cc(m:Model):List Cell:=cellsOf 1 (cW m) 0++cellsOf 2 (dA m) 0++cellsOf 3 (fc m) 0
def AB(V C eu:List Int)(cs:List Cell):vl:=⟨V,C,eu,cs.length,cs.map (·.bf),cs.map (·.ad)⟩
def layout(m:Model):vl:=AB (hq 0 (cW m)) (hq (total (cW m)) (dA m)) (hq (total (cW m)+total (dA m)) (fc m)) (cc m)
def M6:vl:=⟨[],[],[],0,[],[]⟩
def lay(m:Model):vl:=if (check m).cX=0 then layout m else M6
theorem s9(s w:Int):∀(l:List dK) (k:Nat),(fi s w l k).length=l.length
 | [],_=>rfl
 | _ :: r,k=>by simp[fi,s9 s w r]
theorem MM(s w:Int)(b:dK):∀(l:List dK) (k:Nat),fi s w (l++[b]) k=fi s w l k++[⟨s,w,(k+l.length:Nat),b.bf,b.ad,b.kind⟩]
 | [],k=>by simp[fi]
 | x :: r,k=>by
  simp only[List.cons_append,fi,MM s w b r,List.length_cons];rw[show k+1+r.length=k+(r.length+1) from by omega]
theorem ahn{s w:Int}{l:List dK}{k:Nat}(h:k<l.length):fi s w (l.take (k+1)) 0=fi s w (l.take k) 0++[⟨s,w,k,l[k].bf,l[k].ad,l[k].kind⟩]:=by
 rw[List.take_succ_eq_append_getElem h,MM];simp[List.length_take,Nat.min_eq_left (Nat.le_of_lt h)]
theorem j8(s:Int):∀(ls:List (List dK)) (i:Nat),(cellsOf s ls i).length=total ls
 | [],_=>rfl
 | l :: r,i=>by simp[cellsOf,s9,j8 s r,total]
theorem xF(s:Int)(x:List dK):∀(ls:List (List dK)) (i:Nat),cellsOf s (ls++[x]) i=cellsOf s ls i++fi s (i+ls.length:Nat) x 0
 | [],i=>by simp[cellsOf]
 | l :: r,i=>by
  simp only[List.cons_append,cellsOf,xF s x r,List.length_cons,List.append_assoc];rw[show i+1+r.length=i+(r.length+1) from by omega]
theorem alP(ls:List (List dK))(x:List dK):total (ls++[x])=total ls+x.length:=by simp[total]
theorem IN(x:List dK):∀(ls:List (List dK)) (n:Nat),hq n (ls++[x])=hq n ls++[((n+total ls:Nat):Int)]
 | [],n=>by simp[hq,total]
 | l :: r,n=>by
  simp only[List.cons_append,hq,IN x r,total,List.map_cons,List.sum_cons];rw[show n+l.length+(r.map List.length).sum=n+(l.length+(r.map List.length).sum) from by omega]
theorem tq(n:Nat):∀(ls:List (List dK)),(hq n ls).length=ls.length:=by
 intro ls
 induction ls generalizing n with
 | nil=>rfl
 | cons l r eV=>simp[hq,eV]
theorem D3(m:Model):(cc m).length=total (cW m)+total (dA m)+total (fc m):=by simp[cc,j8,Nat.add_assoc]
def ie(s:Int):List Cell->Nat->List Int
 | [],_=>[]
 | x :: r,i=>(if x.place=0/\x.sort=s then [(i:Int)] else [])++ie s r (i+1)
theorem CM(s:Int):∀(a b:List Cell) (i:Nat),ie s (a++b) i=ie s a i++ie s b (i+a.length)
 | [],b,i=>by simp[ie]
 | x :: r,b,i=>by
  simp only[List.cons_append,ie,CM s r b,List.append_assoc,List.length_cons];rw[show i+1+r.length=i+(r.length+1) from by omega]
theorem Ta(s hP w:Int):∀(l:List dK) (k i:Nat),0<k->ie s (fi hP w l k) i=[]
 | [],_,_,_=>rfl
 | b :: r,k,i,h=>by
  simp only[fi,ie];rw[if_neg (by simp;omega),Ta s hP w r (k+1) (i+1) (by omega)];rfl
theorem GO(s:Int):∀(ls:List (List dK)) (i n:Nat),(∀l∈ls,l≠[])->ie s (cellsOf s ls i) n=hq n ls
 | [],_,_,_=>rfl
 | [] :: r,i,n,h=>absurd rfl (h [] (by simp))
 | (b :: l) :: r,i,n,h=>by
  simp only[cellsOf,fi,List.cons_append,ie,CM];rw[if_pos (by simp),Ta s s i l 1 (n+1) (by omega),GO s r (i+1) _ (fun l aS=>h l (by simp[aS]))];simp only[List.nil_append,hq,s9,List.singleton_append,List.length_cons];rw[show n+1+l.length=n+(l.length+1) from by omega]
theorem xS(s hP:Int)(ay:s≠hP):∀(ls:List (List dK)) (i n:Nat),ie s (cellsOf hP ls i) n=[]
 | [],_,_=>rfl
 | l :: r,i,n=>by
  have key:∀(l:List dK) (k n:Nat),ie s (fi hP i l k) n=[]:=by
   intro l
   induction l with
   | nil=>intro k n;rfl
   | cons b r eV =>
    intro k n;simp only[fi,ie];rw[if_neg (by simp;exact fun _=>Ne.symm ay),eV];rfl
  simp only[cellsOf,CM,key,xS s hP ay r,List.append_nil]
end o
end