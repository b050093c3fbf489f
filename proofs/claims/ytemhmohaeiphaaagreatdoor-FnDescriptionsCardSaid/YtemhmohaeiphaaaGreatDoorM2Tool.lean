/-
 THE RULES BY WHICH A WALK IS REWRITTEN.
-/
import Derived.Test.YtemhmohaeiphaaaGreatDoorM2SD
set_option linter.unusedVariables false
set_option linter.defProp false
set_option linter.unusedSimpArgs false
namespace Go.AM
theorem cells_any  : AV.cells AV.any=[AV.any]:=rfl
theorem cells_v (x:Value):AV.cells (AV.v x)=[(AV.v x)]:=rfl
theorem cells_sl (z:Nat) (es:List AV):AV.cells (AV.sl z es)=[(AV.sl z es)]:=rfl
theorem cells_agg (fs:List AV):AV.cells (AV.agg fs)=fs:=rfl
theorem cells_tup (fs:List AV):AV.cells (AV.tup fs)=[(AV.tup fs)]:=rfl
theorem cells_ep (cs:List AV):AV.cells (AV.ep cs)=[(AV.ep cs)]:=rfl
theorem cells_fn (f:FuncId) (caps:List AV):AV.cells (AV.fn f caps)=[(AV.fn f caps)]:=rfl
theorem cells_tr (z:Nat) (es:List AV):AV.cells (AV.tr z es)=[(AV.tr z es)]:=rfl
theorem cells_pt (z:Nat) (x:AV):AV.cells (AV.pt z x)=[(AV.pt z x)]:=rfl
theorem cells_mt (kd:Bool) (m:Value→Option Value):AV.cells (AV.mt kd m)=[(AV.mt kd m)]:=rfl
theorem cells_ref (s:Nat) (p:Path) (z o n:Nat):AV.cells (AV.ref s p z o n)=[(AV.ref s p z o n)]:=rfl
theorem cells_loc (s:Nat) (p:Path) (i j:Nat):AV.cells (AV.loc s p i j)=[(AV.loc s p i j)]:=rfl
theorem cells_mref (s:Nat) (p:Path):AV.cells (AV.mref s p)=[(AV.mref s p)]:=rfl
theorem cells_lst (z:Nat) (es:List AV):AV.cells (AV.lst z es)=[(AV.lst z es)]:=rfl
theorem cells_bx (cs:List AV):AV.cells (AV.bx cs)=[(AV.bx cs)]:=rfl
theorem cells_ifc  : AV.cells AV.ifc=[AV.ifc]:=rfl
theorem isNode_any  : AV.isNode AV.any=false:=rfl
theorem isNode_v (x:Value):AV.isNode (AV.v x)=false:=rfl
theorem isNode_sl (z:Nat) (es:List AV):AV.isNode (AV.sl z es)=false:=rfl
theorem isNode_agg (fs:List AV):AV.isNode (AV.agg fs)=false:=rfl
theorem isNode_tup (fs:List AV):AV.isNode (AV.tup fs)=false:=rfl
theorem isNode_ep (cs:List AV):AV.isNode (AV.ep cs)=false:=rfl
theorem isNode_fn (f:FuncId) (caps:List AV):AV.isNode (AV.fn f caps)=false:=rfl
theorem isNode_tr (z:Nat) (es:List AV):AV.isNode (AV.tr z es)=true:=rfl
theorem isNode_pt (z:Nat) (x:AV):AV.isNode (AV.pt z x)=true:=rfl
theorem isNode_mt (kd:Bool) (m:Value→Option Value):AV.isNode (AV.mt kd m)=true:=rfl
theorem isNode_ref (s:Nat) (p:Path) (z o n:Nat):AV.isNode (AV.ref s p z o n)=false:=rfl
theorem isNode_loc (s:Nat) (p:Path) (i j:Nat):AV.isNode (AV.loc s p i j)=false:=rfl
theorem isNode_mref (s:Nat) (p:Path):AV.isNode (AV.mref s p)=false:=rfl
theorem isNode_lst (z:Nat) (es:List AV):AV.isNode (AV.lst z es)=false:=rfl
theorem isNode_bx (cs:List AV):AV.isNode (AV.bx cs)=false:=rfl
theorem isNode_ifc  : AV.isNode AV.ifc=false:=rfl
theorem cellAt_tr (z:Nat) (es:List AV) (i j:Nat):(AV.tr z es).cellAt i j=(es.getD i .any).cells.getD j .any:=rfl
theorem cellAt_pt (z:Nat) (x:AV) (j:Nat):(AV.pt z x).cellAt 0 j=x.cells.getD j .any:=rfl
theorem cellAt_agg (fs:List AV) (j:Nat):(AV.agg fs).cellAt 0 j=fs.getD j .any:=rfl
theorem cellAt_tup (fs:List AV) (j:Nat):(AV.tup fs).cellAt 0 j=fs.getD j .any:=rfl
theorem cellAt_any  (i j:Nat):AV.any.cellAt i j=.any:=rfl
theorem cellAt_v (x:Value) (i j:Nat):(AV.v x).cellAt i j=.any:=rfl
theorem cellAt_sl (z:Nat) (es:List AV) (i j:Nat):(AV.sl z es).cellAt i j=.any:=rfl
theorem cellAt_ep (cs:List AV) (i j:Nat):(AV.ep cs).cellAt i j=.any:=rfl
theorem cellAt_fn (f:FuncId) (caps:List AV) (i j:Nat):(AV.fn f caps).cellAt i j=.any:=rfl
theorem cellAt_mt (kd:Bool) (m:Value→Option Value) (i j:Nat):(AV.mt kd m).cellAt i j=.any:=rfl
theorem cellAt_ref (s:Nat) (p:Path) (z o n:Nat) (i j:Nat):(AV.ref s p z o n).cellAt i j=.any:=rfl
theorem cellAt_loc (s:Nat) (p:Path) (i0 j0:Nat) (i j:Nat):(AV.loc s p i0 j0).cellAt i j=.any:=rfl
theorem cellAt_mref (s:Nat) (p:Path) (i j:Nat):(AV.mref s p).cellAt i j=.any:=rfl
theorem cellAt_lst (z:Nat) (es:List AV) (i j:Nat):(AV.lst z es).cellAt i j=.any:=rfl
theorem cellAt_bx (cs:List AV) (i j:Nat):(AV.bx cs).cellAt i j=.any:=rfl
theorem cellAt_ifc  (i j:Nat):AV.ifc.cellAt i j=.any:=rfl
theorem at_nil (T:AV):T.at []=T:=rfl
theorem at_cons (T:AV) (i j:Nat) (p:Path):T.at ((i,j) :: p)=(T.cellAt i j).at p:=rfl
theorem setC_any (k:Nat) (y:AV):AV.setC AV.any k y=y:=rfl
theorem setC_v (x:Value) (k:Nat) (y:AV):AV.setC (AV.v x) k y=y:=rfl
theorem setC_sl (z:Nat) (es:List AV) (k:Nat) (y:AV):AV.setC (AV.sl z es) k y=y:=rfl
theorem setC_agg (fs:List AV) (k:Nat) (y:AV):AV.setC (AV.agg fs) k y=.agg (fs.set k y):=rfl
theorem setC_tup (fs:List AV) (k:Nat) (y:AV):AV.setC (AV.tup fs) k y=y:=rfl
theorem setC_ep (cs:List AV) (k:Nat) (y:AV):AV.setC (AV.ep cs) k y=y:=rfl
theorem setC_fn (f:FuncId) (caps:List AV) (k:Nat) (y:AV):AV.setC (AV.fn f caps) k y=y:=rfl
theorem setC_tr (z:Nat) (es:List AV) (k:Nat) (y:AV):AV.setC (AV.tr z es) k y=y:=rfl
theorem setC_pt (z:Nat) (x:AV) (k:Nat) (y:AV):AV.setC (AV.pt z x) k y=y:=rfl
theorem setC_mt (kd:Bool) (m:Value→Option Value) (k:Nat) (y:AV):AV.setC (AV.mt kd m) k y=y:=rfl
theorem setC_ref (s:Nat) (p:Path) (z o n:Nat) (k:Nat) (y:AV):AV.setC (AV.ref s p z o n) k y=y:=rfl
theorem setC_loc (s:Nat) (p:Path) (i j:Nat) (k:Nat) (y:AV):AV.setC (AV.loc s p i j) k y=y:=rfl
theorem setC_mref (s:Nat) (p:Path) (k:Nat) (y:AV):AV.setC (AV.mref s p) k y=y:=rfl
theorem setC_lst (z:Nat) (es:List AV) (k:Nat) (y:AV):AV.setC (AV.lst z es) k y=y:=rfl
theorem setC_bx (cs:List AV) (k:Nat) (y:AV):AV.setC (AV.bx cs) k y=y:=rfl
theorem setC_ifc (k:Nat) (y:AV):AV.setC AV.ifc k y=y:=rfl
theorem setAt_tr (z:Nat) (es:List AV) (i j:Nat) (x:AV):(AV.tr z es).setAt i j x=.tr z (es.set i ((es.getD i .any).setC j x)):=rfl
theorem setAt_pt (z:Nat) (y:AV) (i j:Nat) (x:AV):(AV.pt z y).setAt i j x=.pt z (y.setC j x):=rfl
theorem setAt_agg (fs:List AV) (i j:Nat) (x:AV):(AV.agg fs).setAt i j x=.agg (fs.set j x):=rfl
theorem setAt_tup (fs:List AV) (i j:Nat) (x:AV):(AV.tup fs).setAt i j x=.tup (fs.set j x):=rfl
theorem setP_nil (T x:AV):T.setP [] x=x:=rfl
theorem setP_cons (T:AV) (i j:Nat) (p:Path) (x:AV):T.setP ((i,j) :: p) x=T.setAt i j ((T.cellAt i j).setP p x):=rfl
theorem modP_nil (T:AV) (f:AV→AV):T.modP [] f=f T:=rfl
theorem modP_cons (T:AV) (i j:Nat) (p:Path) (f:AV→AV):T.modP ((i,j) :: p) f=T.setAt i j ((T.cellAt i j).modP p f):=rfl
theorem nodeAt_def (mem:Nat→Option AV) (s:Nat) (p:Path):nodeAt mem s p=(match mem s with | some T=>T.at p | none=>.any):=rfl
theorem fz_any  : AV.fz AV.any=AV.any:=by simp only [AV.fz]
theorem fz_v (x:Value):AV.fz (AV.v x)=(AV.v x):=by simp only [AV.fz]
theorem fz_sl (z:Nat) (es:List AV):AV.fz (AV.sl z es)=(AV.sl z es):=by simp only [AV.fz]
theorem fz_agg (fs:List AV):AV.fz (AV.agg fs)=.agg (AV.fzL fs):=by simp only [AV.fz]
theorem fz_tup (fs:List AV):AV.fz (AV.tup fs)=.tup (AV.fzL fs):=by simp only [AV.fz]
theorem fz_ep (cs:List AV):AV.fz (AV.ep cs)=(AV.ep cs):=by simp only [AV.fz]
theorem fz_fn (f:FuncId) (caps:List AV):AV.fz (AV.fn f caps)=(AV.fn f caps):=by simp only [AV.fz]
theorem fz_tr (z:Nat) (es:List AV):AV.fz (AV.tr z es)=.sl z (AV.fzL es):=by simp only [AV.fz]
theorem fz_pt (z:Nat) (x:AV):AV.fz (AV.pt z x)=.ep (AV.fz x).cells:=by simp only [AV.fz]
theorem fz_mt (kd:Bool) (m:Value→Option Value):AV.fz (AV.mt kd m)=.any:=by simp only [AV.fz]
theorem fz_ref (s:Nat) (p:Path) (z o n:Nat):AV.fz (AV.ref s p z o n)=.any:=by simp only [AV.fz]
theorem fz_loc (s:Nat) (p:Path) (i j:Nat):AV.fz (AV.loc s p i j)=.any:=by simp only [AV.fz]
theorem fz_mref (s:Nat) (p:Path):AV.fz (AV.mref s p)=.any:=by simp only [AV.fz]
theorem fz_lst (z:Nat) (es:List AV):AV.fz (AV.lst z es)=.any:=by simp only [AV.fz]
theorem fz_bx (cs:List AV):AV.fz (AV.bx cs)=.any:=by simp only [AV.fz]
theorem fz_ifc  : AV.fz AV.ifc=AV.ifc:=by simp only [AV.fz]
theorem fzL_nil  : AV.fzL []=[]:=by simp only [AV.fzL]
theorem fzL_cons (a:AV) (r:List AV):AV.fzL (a :: r)=AV.fz a :: AV.fzL r:=by simp only [AV.fzL]
theorem pure_any  : AV.pure AV.any=true:=by simp only [AV.pure]
theorem pure_v (x:Value):AV.pure (AV.v x)=true:=by simp only [AV.pure]
theorem pure_sl (z:Nat) (es:List AV):AV.pure (AV.sl z es)=es.isEmpty:=by simp only [AV.pure]
theorem pure_agg (fs:List AV):AV.pure (AV.agg fs)=AV.pureL fs:=by simp only [AV.pure]
theorem pure_tup (fs:List AV):AV.pure (AV.tup fs)=AV.pureL fs:=by simp only [AV.pure]
theorem pure_ep (cs:List AV):AV.pure (AV.ep cs)=false:=by simp only [AV.pure]
theorem pure_fn (f:FuncId) (caps:List AV):AV.pure (AV.fn f caps)=caps.isEmpty:=by simp only [AV.pure]
theorem pure_tr (z:Nat) (es:List AV):AV.pure (AV.tr z es)=AV.pureL es:=by simp only [AV.pure]
theorem pure_pt (z:Nat) (x:AV):AV.pure (AV.pt z x)=AV.pure x:=by simp only [AV.pure]
theorem pure_mt (kd:Bool) (m:Value→Option Value):AV.pure (AV.mt kd m)=true:=by simp only [AV.pure]
theorem pure_ref (s:Nat) (p:Path) (z o n:Nat):AV.pure (AV.ref s p z o n)=false:=by simp only [AV.pure]
theorem pure_loc (s:Nat) (p:Path) (i j:Nat):AV.pure (AV.loc s p i j)=false:=by simp only [AV.pure]
theorem pure_mref (s:Nat) (p:Path):AV.pure (AV.mref s p)=false:=by simp only [AV.pure]
theorem pure_lst (z:Nat) (es:List AV):AV.pure (AV.lst z es)=false:=by simp only [AV.pure]
theorem pure_bx (cs:List AV):AV.pure (AV.bx cs)=false:=by simp only [AV.pure]
theorem pure_ifc  : AV.pure AV.ifc=true:=by simp only [AV.pure]
theorem pureL_nil  : AV.pureL []=true:=by simp only [AV.pureL]
theorem pureL_cons (a:AV) (r:List AV):AV.pureL (a :: r)=(AV.pure a && AV.pureL r):=by simp only [AV.pureL]
theorem atom_any (t:Nat) (q:Path):AV.atom AV.any t q=AV.any:=rfl
theorem atom_v (x:Value) (t:Nat) (q:Path):AV.atom (AV.v x) t q=(AV.v x):=rfl
theorem atom_sl (z:Nat) (es:List AV) (t:Nat) (q:Path):AV.atom (AV.sl z es) t q=(AV.sl z es):=rfl
theorem atom_agg (fs:List AV) (t:Nat) (q:Path):AV.atom (AV.agg fs) t q=(AV.agg fs):=rfl
theorem atom_tup (fs:List AV) (t:Nat) (q:Path):AV.atom (AV.tup fs) t q=(AV.tup fs):=rfl
theorem atom_ep (cs:List AV) (t:Nat) (q:Path):AV.atom (AV.ep cs) t q=(AV.ep cs):=rfl
theorem atom_fn (f:FuncId) (caps:List AV) (t:Nat) (q:Path):AV.atom (AV.fn f caps) t q=(AV.fn f caps):=rfl
theorem atom_tr (z:Nat) (es:List AV) (t:Nat) (q:Path):AV.atom (AV.tr z es) t q=.ref t q z 0 es.length:=rfl
theorem atom_pt (z:Nat) (x:AV) (t:Nat) (q:Path):AV.atom (AV.pt z x) t q=.loc t q 0 0:=rfl
theorem atom_mt (kd:Bool) (m:Value→Option Value) (t:Nat) (q:Path):AV.atom (AV.mt kd m) t q=.mref t q:=rfl
theorem atom_ref (s:Nat) (p:Path) (z o n:Nat) (t:Nat) (q:Path):AV.atom (AV.ref s p z o n) t q=(AV.ref s p z o n):=rfl
theorem atom_loc (s:Nat) (p:Path) (i j:Nat) (t:Nat) (q:Path):AV.atom (AV.loc s p i j) t q=(AV.loc s p i j):=rfl
theorem atom_mref (s:Nat) (p:Path) (t:Nat) (q:Path):AV.atom (AV.mref s p) t q=(AV.mref s p):=rfl
theorem atom_lst (z:Nat) (es:List AV) (t:Nat) (q:Path):AV.atom (AV.lst z es) t q=(AV.lst z es):=rfl
theorem atom_bx (cs:List AV) (t:Nat) (q:Path):AV.atom (AV.bx cs) t q=(AV.bx cs):=rfl
theorem atom_ifc (t:Nat) (q:Path):AV.atom AV.ifc t q=AV.ifc:=rfl
theorem atomL_nil (s:Nat) (q:Path) (i j:Nat):atomL s q i j []=[]:=rfl
theorem atomL_cons (s:Nat) (q:Path) (i j:Nat) (a:AV) (r:List AV):atomL s q i j (a :: r)=a.atom s (q++[(i,j)]) :: atomL s q i (j+1) r:=rfl
theorem atom1_any (t:Nat) (q:Path):AV.atom1 AV.any t q=AV.any:=rfl
theorem atom1_v (x:Value) (t:Nat) (q:Path):AV.atom1 (AV.v x) t q=(AV.v x):=rfl
theorem atom1_sl (z:Nat) (es:List AV) (t:Nat) (q:Path):AV.atom1 (AV.sl z es) t q=(AV.sl z es):=rfl
theorem atom1_agg (fs:List AV) (t:Nat) (q:Path):AV.atom1 (AV.agg fs) t q=.agg (atomL t q 0 0 fs):=rfl
theorem atom1_tup (fs:List AV) (t:Nat) (q:Path):AV.atom1 (AV.tup fs) t q=(AV.tup fs):=rfl
theorem atom1_ep (cs:List AV) (t:Nat) (q:Path):AV.atom1 (AV.ep cs) t q=(AV.ep cs):=rfl
theorem atom1_fn (f:FuncId) (caps:List AV) (t:Nat) (q:Path):AV.atom1 (AV.fn f caps) t q=(AV.fn f caps):=rfl
theorem atom1_tr (z:Nat) (es:List AV) (t:Nat) (q:Path):AV.atom1 (AV.tr z es) t q=.ref t q z 0 es.length:=rfl
theorem atom1_pt (z:Nat) (x:AV) (t:Nat) (q:Path):AV.atom1 (AV.pt z x) t q=.loc t q 0 0:=rfl
theorem atom1_mt (kd:Bool) (m:Value→Option Value) (t:Nat) (q:Path):AV.atom1 (AV.mt kd m) t q=.mref t q:=rfl
theorem atom1_ref (s:Nat) (p:Path) (z o n:Nat) (t:Nat) (q:Path):AV.atom1 (AV.ref s p z o n) t q=(AV.ref s p z o n):=rfl
theorem atom1_loc (s:Nat) (p:Path) (i j:Nat) (t:Nat) (q:Path):AV.atom1 (AV.loc s p i j) t q=(AV.loc s p i j):=rfl
theorem atom1_mref (s:Nat) (p:Path) (t:Nat) (q:Path):AV.atom1 (AV.mref s p) t q=(AV.mref s p):=rfl
theorem atom1_lst (z:Nat) (es:List AV) (t:Nat) (q:Path):AV.atom1 (AV.lst z es) t q=(AV.lst z es):=rfl
theorem atom1_bx (cs:List AV) (t:Nat) (q:Path):AV.atom1 (AV.bx cs) t q=(AV.bx cs):=rfl
theorem atom1_ifc (t:Nat) (q:Path):AV.atom1 AV.ifc t q=AV.ifc:=rfl
theorem atomT_nil (s:Nat) (q:Path) (j:Nat):atomT s q j []=[]:=rfl
theorem atomT_cons (s:Nat) (q:Path) (j:Nat) (a:AV) (r:List AV):atomT s q j (a :: r)=a.atom1 s (q++[(0,j)]) :: atomT s q (j+1) r:=rfl
theorem atoms_any (t:Nat) (q:Path):AV.atoms AV.any t q=AV.any:=rfl
theorem atoms_v (x:Value) (t:Nat) (q:Path):AV.atoms (AV.v x) t q=(AV.v x):=rfl
theorem atoms_sl (z:Nat) (es:List AV) (t:Nat) (q:Path):AV.atoms (AV.sl z es) t q=(AV.sl z es):=rfl
theorem atoms_agg (fs:List AV) (t:Nat) (q:Path):AV.atoms (AV.agg fs) t q=.agg (atomL t q 0 0 fs):=rfl
theorem atoms_tup (fs:List AV) (t:Nat) (q:Path):AV.atoms (AV.tup fs) t q=.tup (atomT t q 0 fs):=rfl
theorem atoms_ep (cs:List AV) (t:Nat) (q:Path):AV.atoms (AV.ep cs) t q=(AV.ep cs):=rfl
theorem atoms_fn (f:FuncId) (caps:List AV) (t:Nat) (q:Path):AV.atoms (AV.fn f caps) t q=(AV.fn f caps):=rfl
theorem atoms_tr (z:Nat) (es:List AV) (t:Nat) (q:Path):AV.atoms (AV.tr z es) t q=.ref t q z 0 es.length:=rfl
theorem atoms_pt (z:Nat) (x:AV) (t:Nat) (q:Path):AV.atoms (AV.pt z x) t q=.loc t q 0 0:=rfl
theorem atoms_mt (kd:Bool) (m:Value→Option Value) (t:Nat) (q:Path):AV.atoms (AV.mt kd m) t q=.mref t q:=rfl
theorem atoms_ref (s:Nat) (p:Path) (z o n:Nat) (t:Nat) (q:Path):AV.atoms (AV.ref s p z o n) t q=(AV.ref s p z o n):=rfl
theorem atoms_loc (s:Nat) (p:Path) (i j:Nat) (t:Nat) (q:Path):AV.atoms (AV.loc s p i j) t q=(AV.loc s p i j):=rfl
theorem atoms_mref (s:Nat) (p:Path) (t:Nat) (q:Path):AV.atoms (AV.mref s p) t q=(AV.mref s p):=rfl
theorem atoms_lst (z:Nat) (es:List AV) (t:Nat) (q:Path):AV.atoms (AV.lst z es) t q=(AV.lst z es):=rfl
theorem atoms_bx (cs:List AV) (t:Nat) (q:Path):AV.atoms (AV.bx cs) t q=(AV.bx cs):=rfl
theorem atoms_ifc (t:Nat) (q:Path):AV.atoms AV.ifc t q=AV.ifc:=rfl
theorem sig1_any  : AV.sig1 AV.any=.tup [AV.any]:=rfl
theorem sig1_v (x:Value):AV.sig1 (AV.v x)=.tup [(AV.v x)]:=rfl
theorem sig1_sl (z:Nat) (es:List AV):AV.sig1 (AV.sl z es)=.tup [(AV.sl z es)]:=rfl
theorem sig1_agg (fs:List AV):AV.sig1 (AV.agg fs)=.tup [(AV.agg fs)]:=rfl
theorem sig1_tup (fs:List AV):AV.sig1 (AV.tup fs)=.tup [(AV.tup fs)]:=rfl
theorem sig1_ep (cs:List AV):AV.sig1 (AV.ep cs)=.tup [(AV.ep cs)]:=rfl
theorem sig1_fn (f:FuncId) (caps:List AV):AV.sig1 (AV.fn f caps)=.tup [(AV.fn f caps)]:=rfl
theorem sig1_tr (z:Nat) (es:List AV):AV.sig1 (AV.tr z es)=.ref 0 [] z 0 es.length:=rfl
theorem sig1_pt (z:Nat) (x:AV):AV.sig1 (AV.pt z x)=.loc 0 [] z 0:=rfl
theorem sig1_mt (kd:Bool) (m:Value→Option Value):AV.sig1 (AV.mt kd m)=.mref 0 []:=rfl
theorem sig1_ref (s:Nat) (p:Path) (z o n:Nat):AV.sig1 (AV.ref s p z o n)=.tup [(AV.ref s p z o n)]:=rfl
theorem sig1_loc (s:Nat) (p:Path) (i j:Nat):AV.sig1 (AV.loc s p i j)=.tup [(AV.loc s p i j)]:=rfl
theorem sig1_mref (s:Nat) (p:Path):AV.sig1 (AV.mref s p)=.tup [(AV.mref s p)]:=rfl
theorem sig1_lst (z:Nat) (es:List AV):AV.sig1 (AV.lst z es)=.tup [(AV.lst z es)]:=rfl
theorem sig1_bx (cs:List AV):AV.sig1 (AV.bx cs)=.tup [(AV.bx cs)]:=rfl
theorem sig1_ifc  : AV.sig1 AV.ifc=.tup [AV.ifc]:=rfl
theorem sig_any  : AV.sig AV.any=.tup [AV.any]:=rfl
theorem sig_v (x:Value):AV.sig (AV.v x)=.tup [(AV.v x)]:=rfl
theorem sig_sl (z:Nat) (es:List AV):AV.sig (AV.sl z es)=.tup [(AV.sl z es)]:=rfl
theorem sig_agg (fs:List AV):AV.sig (AV.agg fs)=.agg (fs.map AV.sig1):=rfl
theorem sig_tup (fs:List AV):AV.sig (AV.tup fs)=.tup [(AV.tup fs)]:=rfl
theorem sig_ep (cs:List AV):AV.sig (AV.ep cs)=.tup [(AV.ep cs)]:=rfl
theorem sig_fn (f:FuncId) (caps:List AV):AV.sig (AV.fn f caps)=.tup [(AV.fn f caps)]:=rfl
theorem sig_tr (z:Nat) (es:List AV):AV.sig (AV.tr z es)=.ref 0 [] z 0 es.length:=rfl
theorem sig_pt (z:Nat) (x:AV):AV.sig (AV.pt z x)=.loc 0 [] z 0:=rfl
theorem sig_mt (kd:Bool) (m:Value→Option Value):AV.sig (AV.mt kd m)=.mref 0 []:=rfl
theorem sig_ref (s:Nat) (p:Path) (z o n:Nat):AV.sig (AV.ref s p z o n)=.tup [(AV.ref s p z o n)]:=rfl
theorem sig_loc (s:Nat) (p:Path) (i j:Nat):AV.sig (AV.loc s p i j)=.tup [(AV.loc s p i j)]:=rfl
theorem sig_mref (s:Nat) (p:Path):AV.sig (AV.mref s p)=.tup [(AV.mref s p)]:=rfl
theorem sig_lst (z:Nat) (es:List AV):AV.sig (AV.lst z es)=.tup [(AV.lst z es)]:=rfl
theorem sig_bx (cs:List AV):AV.sig (AV.bx cs)=.tup [(AV.bx cs)]:=rfl
theorem sig_ifc  : AV.sig AV.ifc=.tup [AV.ifc]:=rfl
theorem bears_any  : AV.bears AV.any=false:=by simp only [AV.bears]
theorem bears_v (x:Value):AV.bears (AV.v x)=false:=by simp only [AV.bears]
theorem bears_sl (z:Nat) (es:List AV):AV.bears (AV.sl z es)=false:=by simp only [AV.bears]
theorem bears_agg (fs:List AV):AV.bears (AV.agg fs)=AV.bearsL fs:=by simp only [AV.bears]
theorem bears_tup (fs:List AV):AV.bears (AV.tup fs)=AV.bearsL fs:=by simp only [AV.bears]
theorem bears_ep (cs:List AV):AV.bears (AV.ep cs)=false:=by simp only [AV.bears]
theorem bears_fn (f:FuncId) (caps:List AV):AV.bears (AV.fn f caps)=AV.bearsL caps:=by simp only [AV.bears]
theorem bears_tr (z:Nat) (es:List AV):AV.bears (AV.tr z es)=true:=by simp only [AV.bears]
theorem bears_pt (z:Nat) (x:AV):AV.bears (AV.pt z x)=true:=by simp only [AV.bears]
theorem bears_mt (kd:Bool) (m:Value→Option Value):AV.bears (AV.mt kd m)=true:=by simp only [AV.bears]
theorem bears_ref (s:Nat) (p:Path) (z o n:Nat):AV.bears (AV.ref s p z o n)=true:=by simp only [AV.bears]
theorem bears_loc (s:Nat) (p:Path) (i j:Nat):AV.bears (AV.loc s p i j)=true:=by simp only [AV.bears]
theorem bears_mref (s:Nat) (p:Path):AV.bears (AV.mref s p)=true:=by simp only [AV.bears]
theorem bears_lst (z:Nat) (es:List AV):AV.bears (AV.lst z es)=true:=by simp only [AV.bears]
theorem bears_bx (cs:List AV):AV.bears (AV.bx cs)=true:=by simp only [AV.bears]
theorem bears_ifc  : AV.bears AV.ifc=false:=by simp only [AV.bears]
theorem bearsL_nil  : AV.bearsL []=false:=by simp only [AV.bearsL]
theorem bearsL_cons (a:AV) (r:List AV):AV.bearsL (a :: r)=(AV.bears a || AV.bearsL r):=by simp only [AV.bearsL]
theorem node1_any  : AV.node1 AV.any=false:=rfl
theorem node1_v (x:Value):AV.node1 (AV.v x)=false:=rfl
theorem node1_sl (z:Nat) (es:List AV):AV.node1 (AV.sl z es)=false:=rfl
theorem node1_agg (fs:List AV):AV.node1 (AV.agg fs)=fs.any AV.isNode:=rfl
theorem node1_tup (fs:List AV):AV.node1 (AV.tup fs)=false:=rfl
theorem node1_ep (cs:List AV):AV.node1 (AV.ep cs)=false:=rfl
theorem node1_fn (f:FuncId) (caps:List AV):AV.node1 (AV.fn f caps)=false:=rfl
theorem node1_tr (z:Nat) (es:List AV):AV.node1 (AV.tr z es)=true:=rfl
theorem node1_pt (z:Nat) (x:AV):AV.node1 (AV.pt z x)=true:=rfl
theorem node1_mt (kd:Bool) (m:Value→Option Value):AV.node1 (AV.mt kd m)=true:=rfl
theorem node1_ref (s:Nat) (p:Path) (z o n:Nat):AV.node1 (AV.ref s p z o n)=false:=rfl
theorem node1_loc (s:Nat) (p:Path) (i j:Nat):AV.node1 (AV.loc s p i j)=false:=rfl
theorem node1_mref (s:Nat) (p:Path):AV.node1 (AV.mref s p)=false:=rfl
theorem node1_lst (z:Nat) (es:List AV):AV.node1 (AV.lst z es)=false:=rfl
theorem node1_bx (cs:List AV):AV.node1 (AV.bx cs)=false:=rfl
theorem node1_ifc  : AV.node1 AV.ifc=false:=rfl
theorem nodeB_any  : AV.nodeB AV.any=false:=rfl
theorem nodeB_v (x:Value):AV.nodeB (AV.v x)=false:=rfl
theorem nodeB_sl (z:Nat) (es:List AV):AV.nodeB (AV.sl z es)=false:=rfl
theorem nodeB_agg (fs:List AV):AV.nodeB (AV.agg fs)=fs.any AV.isNode:=rfl
theorem nodeB_tup (fs:List AV):AV.nodeB (AV.tup fs)=fs.any AV.node1:=rfl
theorem nodeB_ep (cs:List AV):AV.nodeB (AV.ep cs)=false:=rfl
theorem nodeB_fn (f:FuncId) (caps:List AV):AV.nodeB (AV.fn f caps)=false:=rfl
theorem nodeB_tr (z:Nat) (es:List AV):AV.nodeB (AV.tr z es)=true:=rfl
theorem nodeB_pt (z:Nat) (x:AV):AV.nodeB (AV.pt z x)=true:=rfl
theorem nodeB_mt (kd:Bool) (m:Value→Option Value):AV.nodeB (AV.mt kd m)=true:=rfl
theorem nodeB_ref (s:Nat) (p:Path) (z o n:Nat):AV.nodeB (AV.ref s p z o n)=false:=rfl
theorem nodeB_loc (s:Nat) (p:Path) (i j:Nat):AV.nodeB (AV.loc s p i j)=false:=rfl
theorem nodeB_mref (s:Nat) (p:Path):AV.nodeB (AV.mref s p)=false:=rfl
theorem nodeB_lst (z:Nat) (es:List AV):AV.nodeB (AV.lst z es)=false:=rfl
theorem nodeB_bx (cs:List AV):AV.nodeB (AV.bx cs)=false:=rfl
theorem nodeB_ifc  : AV.nodeB AV.ifc=false:=rfl
theorem view_any (mem:Nat→Option AV):AV.view mem AV.any=AV.any:=by simp only [AV.view]
theorem view_v (x:Value) (mem:Nat→Option AV):AV.view mem (AV.v x)=(AV.v x):=by simp only [AV.view]
theorem view_sl (z:Nat) (es:List AV) (mem:Nat→Option AV):AV.view mem (AV.sl z es)=(AV.sl z es):=by simp only [AV.view]
theorem view_agg (fs:List AV) (mem:Nat→Option AV):AV.view mem (AV.agg fs)=.agg (AV.views mem fs):=by simp only [AV.view]
theorem view_tup (fs:List AV) (mem:Nat→Option AV):AV.view mem (AV.tup fs)=.tup (AV.views mem fs):=by simp only [AV.view]
theorem view_ep (cs:List AV) (mem:Nat→Option AV):AV.view mem (AV.ep cs)=(AV.ep cs):=by simp only [AV.view]
theorem view_fn (f:FuncId) (caps:List AV) (mem:Nat→Option AV):AV.view mem (AV.fn f caps)=.fn f (AV.views mem caps):=by simp only [AV.view]
theorem view_tr (z:Nat) (es:List AV) (mem:Nat→Option AV):AV.view mem (AV.tr z es)=.any:=by simp only [AV.view]
theorem view_pt (z:Nat) (x:AV) (mem:Nat→Option AV):AV.view mem (AV.pt z x)=.any:=by simp only [AV.view]
theorem view_mt (kd:Bool) (m:Value→Option Value) (mem:Nat→Option AV):AV.view mem (AV.mt kd m)=.any:=by simp only [AV.view]
theorem view_ref (s:Nat) (p:Path) (z o n:Nat) (mem:Nat→Option AV):AV.view mem (AV.ref s p z o n)=viewN z o n (nodeAt mem s p):=by simp only [AV.view]
theorem view_loc (s:Nat) (p:Path) (i j:Nat) (mem:Nat→Option AV):AV.view mem (AV.loc s p i j)=viewL i j (nodeAt mem s p):=by simp only [AV.view]
theorem view_mref (s:Nat) (p:Path) (mem:Nat→Option AV):AV.view mem (AV.mref s p)=.any:=by simp only [AV.view]
theorem view_lst (z:Nat) (es:List AV) (mem:Nat→Option AV):AV.view mem (AV.lst z es)=.sl z (AV.views mem es):=by simp only [AV.view]
theorem view_bx (cs:List AV) (mem:Nat→Option AV):AV.view mem (AV.bx cs)=.ep (AV.views mem cs):=by simp only [AV.view]
theorem view_ifc (mem:Nat→Option AV):AV.view mem AV.ifc=AV.ifc:=by simp only [AV.view]
theorem views_nil (mem:Nat→Option AV):AV.views mem []=[]:=by simp only [AV.views]
theorem views_cons (mem:Nat→Option AV) (a:AV) (r:List AV):AV.views mem (a :: r)=AV.view mem a :: AV.views mem r:=by simp only [AV.views]
theorem hRef (s:Nat) (p:Path) (z o n:Nat) (g:Nat→Path→Option (Nat×Path)):AV.mapH g (.ref s p z o n)=(match g s p with | some sp=>.ref sp.1 sp.2 z o n | none=>.any):=by rw [AV.mapH];rfl
theorem hLoc (s:Nat) (p:Path) (i j:Nat) (g:Nat→Path→Option (Nat×Path)):AV.mapH g (.loc s p i j)=(match g s p with | some sp=>.loc sp.1 sp.2 i j | none=>.any):=by rw [AV.mapH];rfl
theorem hMref (s:Nat) (p:Path) (g:Nat→Path→Option (Nat×Path)):AV.mapH g (.mref s p)=(match g s p with | some sp=>.mref sp.1 sp.2 | none=>.any):=by rw [AV.mapH];rfl
theorem mapH_any (g:Nat→Path→Option (Nat×Path)):AV.mapH g AV.any=AV.any:=by simp only [AV.mapH]
theorem mapH_v (x:Value) (g:Nat→Path→Option (Nat×Path)):AV.mapH g (AV.v x)=(AV.v x):=by simp only [AV.mapH]
theorem mapH_sl (z:Nat) (es:List AV) (g:Nat→Path→Option (Nat×Path)):AV.mapH g (AV.sl z es)=(AV.sl z es):=by simp only [AV.mapH]
theorem mapH_agg (fs:List AV) (g:Nat→Path→Option (Nat×Path)):AV.mapH g (AV.agg fs)=.agg (AV.mapHL g fs):=by simp only [AV.mapH]
theorem mapH_tup (fs:List AV) (g:Nat→Path→Option (Nat×Path)):AV.mapH g (AV.tup fs)=.tup (AV.mapHL g fs):=by simp only [AV.mapH]
theorem mapH_ep (cs:List AV) (g:Nat→Path→Option (Nat×Path)):AV.mapH g (AV.ep cs)=(AV.ep cs):=by simp only [AV.mapH]
theorem mapH_fn (f:FuncId) (caps:List AV) (g:Nat→Path→Option (Nat×Path)):AV.mapH g (AV.fn f caps)=.fn f (AV.mapHL g caps):=by simp only [AV.mapH]
theorem mapH_tr (z:Nat) (es:List AV) (g:Nat→Path→Option (Nat×Path)):AV.mapH g (AV.tr z es)=.any:=by simp only [AV.mapH]
theorem mapH_pt (z:Nat) (x:AV) (g:Nat→Path→Option (Nat×Path)):AV.mapH g (AV.pt z x)=.any:=by simp only [AV.mapH]
theorem mapH_mt (kd:Bool) (m:Value→Option Value) (g:Nat→Path→Option (Nat×Path)):AV.mapH g (AV.mt kd m)=.any:=by simp only [AV.mapH]
theorem mapH_lst (z:Nat) (es:List AV) (g:Nat→Path→Option (Nat×Path)):AV.mapH g (AV.lst z es)=.lst z (AV.mapHL g es):=by simp only [AV.mapH]
theorem mapH_bx (cs:List AV) (g:Nat→Path→Option (Nat×Path)):AV.mapH g (AV.bx cs)=.bx (AV.mapHL g cs):=by simp only [AV.mapH]
theorem mapH_ifc (g:Nat→Path→Option (Nat×Path)):AV.mapH g AV.ifc=AV.ifc:=by simp only [AV.mapH]
theorem mapHL_nil (g:Nat→Path→Option (Nat×Path)):AV.mapHL g []=[]:=by simp only [AV.mapHL]
theorem mapHL_cons (a:AV) (r:List AV) (g:Nat→Path→Option (Nat×Path)):AV.mapHL g (a :: r)=AV.mapH g a :: AV.mapHL g r:=by simp only [AV.mapHL]
theorem isPref_nil (q:Path):isPref [] q=true:=by cases q <;> rfl
theorem isPref_cons (a b c d:Nat) (p q:Path):isPref ((a,b) :: p) ((c,d) :: q)=(decide (a=c∧b=d) && isPref p q):=rfl
theorem isPref_cn (a:Nat×Nat) (p:Path):isPref (a :: p) []=false:=rfl
theorem ev_tmp (st:St) (t:Nat):st.ev (.tmp t)=st.fr t:=rfl
theorem ev_const (st:St) (x:Value):st.ev (.const x)=.v x:=rfl
theorem ev_func (st:St) (f:FuncId):st.ev (.func f)=.fn f []:=rfl
theorem ev_global (st:St) (g:Nat):st.ev (.global g)=.any:=rfl
theorem frO_some (st:St) (t:Nat):st.frO (some t)=st.fr t:=rfl
theorem put_fr (st:St) (d i:Nat) (x:AV):(st.put (some d) x).fr i=if i=d then x else st.fr i:=rfl
theorem put_memo (st:St) (d:Option Nat) (x:AV):(st.put d x).mem=st.mem:=by cases d <;> rfl
theorem put_none (st:St) (x:AV):st.put none x=st:=rfl
theorem mapF_fr (st:St) (g:Nat→Path→Option (Nat×Path)) (i:Nat):(st.mapF g).fr i=(st.fr i).mapH g:=rfl
theorem mapF_mem (st:St) (g:Nat→Path→Option (Nat×Path)):(st.mapF g).mem=st.mem:=rfl
theorem setMem_fr (st:St) (s:Nat) (T:AV):(st.setMem s T).fr=st.fr:=rfl
theorem setMem_memo (st:St) (s i:Nat) (T:AV):(st.setMem s T).mem i=if i=s then some T else st.mem i:=rfl
theorem del_fr (st:St) (s:Nat):(st.del s).fr=st.fr:=rfl
theorem del_mem (st:St) (s i:Nat):(st.del s).mem i=if i=s then none else st.mem i:=rfl
theorem kill_fr (st:St) (s i:Nat):(st.kill s).fr i=(st.fr i).mapH (killF s):=rfl
theorem kill_memo (st:St) (s i:Nat):(st.kill s).mem i=if i=s then none else st.mem i:=rfl
theorem rmv_nil (st:St) (t:Nat) (T:AV):st.rmv t [] T=st.del t:=rfl
theorem rmv_cons (st:St) (t:Nat) (a:Nat×Nat) (q:Path) (T:AV):st.rmv t (a :: q) T=st.setMem t (T.setP (a :: q) .any):=rfl
theorem mv_def (st:St) (t:Nat) (q:Path) (T:AV) (s:Nat) (Q:Path):st.mv t q T s Q=(st.mapF (moveF t q s Q)).rmv t q T:=rfl
theorem grow_def (st:St) (s:Nat) (p:Path) (T:AV) (d:Nat):st.grow s p T d=((st.mapF (growF s p d)).rmv s p T).del d:=rfl
theorem init_fr (args:List AV) (i:Nat):(initSt args).fr i=(args.getD i .un).atoms i []:=rfl
theorem init_mem (args:List AV) (i:Nat):(initSt args).mem i=args[i]?:=rfl
theorem grabC_ref (st:St) (t:Nat) (q:Path) (z o m s:Nat) (Q:Path) (K:AV→St→Prop) (l:Lock K):grabC st (.ref t q z o m) s Q K l=vc (o=0) (optP (st.mem t) (fun T=>grabTr st t q z m T s Q K .mk) .mk) .mk:=rfl
theorem grabC_loc (st:St) (t:Nat) (q:Path) (i j s:Nat) (Q:Path) (K:AV→St→Prop) (l:Lock K):grabC st (.loc t q i j) s Q K l=vc (i=0∧j=0) (optP (st.mem t) (fun T=>grabPt st t q T s Q K .mk) .mk) .mk:=rfl
theorem grabC_mref (st:St) (t:Nat) (q:Path) (s:Nat) (Q:Path) (K:AV→St→Prop) (l:Lock K):grabC st (.mref t q) s Q K l=optP (st.mem t) (fun T=>grabMt st t q T s Q K .mk) .mk:=rfl
theorem grabC_any (st:St) (t:Nat) (Q:Path) (K:AV→St→Prop) (l:Lock K):grabC st AV.any t Q K l=vc (AV.bears AV.any=false) (K AV.any st) .mk:=rfl
theorem grabC_v (x:Value) (st:St) (t:Nat) (Q:Path) (K:AV→St→Prop) (l:Lock K):grabC st (AV.v x) t Q K l=vc (AV.bears (AV.v x)=false) (K (AV.v x) st) .mk:=rfl
theorem grabC_sl (z:Nat) (es:List AV) (st:St) (t:Nat) (Q:Path) (K:AV→St→Prop) (l:Lock K):grabC st (AV.sl z es) t Q K l=vc (AV.bears (AV.sl z es)=false) (K (AV.sl z es) st) .mk:=rfl
theorem grabC_agg (fs:List AV) (st:St) (t:Nat) (Q:Path) (K:AV→St→Prop) (l:Lock K):grabC st (AV.agg fs) t Q K l=vc (AV.bears (AV.agg fs)=false) (K (AV.agg fs) st) .mk:=rfl
theorem grabC_tup (fs:List AV) (st:St) (t:Nat) (Q:Path) (K:AV→St→Prop) (l:Lock K):grabC st (AV.tup fs) t Q K l=vc (AV.bears (AV.tup fs)=false) (K (AV.tup fs) st) .mk:=rfl
theorem grabC_ep (cs:List AV) (st:St) (t:Nat) (Q:Path) (K:AV→St→Prop) (l:Lock K):grabC st (AV.ep cs) t Q K l=vc (AV.bears (AV.ep cs)=false) (K (AV.ep cs) st) .mk:=rfl
theorem grabC_fn (f:FuncId) (caps:List AV) (st:St) (t:Nat) (Q:Path) (K:AV→St→Prop) (l:Lock K):grabC st (AV.fn f caps) t Q K l=vc (AV.bears (AV.fn f caps)=false) (K (AV.fn f caps) st) .mk:=rfl
theorem grabC_tr (z:Nat) (es:List AV) (st:St) (t:Nat) (Q:Path) (K:AV→St→Prop) (l:Lock K):grabC st (AV.tr z es) t Q K l=vc (AV.bears (AV.tr z es)=false) (K (AV.tr z es) st) .mk:=rfl
theorem grabC_pt (z:Nat) (x:AV) (st:St) (t:Nat) (Q:Path) (K:AV→St→Prop) (l:Lock K):grabC st (AV.pt z x) t Q K l=vc (AV.bears (AV.pt z x)=false) (K (AV.pt z x) st) .mk:=rfl
theorem grabC_mt (kd:Bool) (m:Value→Option Value) (st:St) (t:Nat) (Q:Path) (K:AV→St→Prop) (l:Lock K):grabC st (AV.mt kd m) t Q K l=vc (AV.bears (AV.mt kd m)=false) (K (AV.mt kd m) st) .mk:=rfl
theorem grabC_lst (z:Nat) (es:List AV) (st:St) (t:Nat) (Q:Path) (K:AV→St→Prop) (l:Lock K):grabC st (AV.lst z es) t Q K l=vc (AV.bears (AV.lst z es)=false) (K (AV.lst z es) st) .mk:=rfl
theorem grabC_bx (cs:List AV) (st:St) (t:Nat) (Q:Path) (K:AV→St→Prop) (l:Lock K):grabC st (AV.bx cs) t Q K l=vc (AV.bears (AV.bx cs)=false) (K (AV.bx cs) st) .mk:=rfl
theorem grabC_ifc (st:St) (t:Nat) (Q:Path) (K:AV→St→Prop) (l:Lock K):grabC st AV.ifc t Q K l=vc (AV.bears AV.ifc=false) (K AV.ifc st) .mk:=rfl
theorem grabCs_nil (s:Nat) (p:Path) (i j:Nat) (st:St) (K:List AV→St→Prop):grabCs s p i j [] st K=K [] st:=rfl
theorem grabCs_cons (s:Nat) (p:Path) (i j:Nat) (x:AV) (r:List AV) (st:St) (K:List AV→St→Prop):grabCs s p i j (x :: r) st K=grabC st x s (p++[(i,j)]) (fun x' st'=>grabCs s p i (j+1) r st' fun l st''=>K (x' :: l) st'') .mk:=rfl
theorem grabE_any (t:Nat) (q:Path) (a b:Nat) (st:St) (K:AV→St→Prop):grabE t q a b AV.any st K=grabC st AV.any t (q++[(a,b)]) K .mk:=rfl
theorem grabE_v (x:Value) (t:Nat) (q:Path) (a b:Nat) (st:St) (K:AV→St→Prop):grabE t q a b (AV.v x) st K=grabC st (AV.v x) t (q++[(a,b)]) K .mk:=rfl
theorem grabE_sl (z:Nat) (es:List AV) (t:Nat) (q:Path) (a b:Nat) (st:St) (K:AV→St→Prop):grabE t q a b (AV.sl z es) st K=grabC st (AV.sl z es) t (q++[(a,b)]) K .mk:=rfl
theorem grabE_agg (fs:List AV) (t:Nat) (q:Path) (a b:Nat) (st:St) (K:AV→St→Prop):grabE t q a b (AV.agg fs) st K=grabCs t q a b fs st fun l st'=>K (.agg l) st':=rfl
theorem grabE_tup (fs:List AV) (t:Nat) (q:Path) (a b:Nat) (st:St) (K:AV→St→Prop):grabE t q a b (AV.tup fs) st K=grabC st (AV.tup fs) t (q++[(a,b)]) K .mk:=rfl
theorem grabE_ep (cs:List AV) (t:Nat) (q:Path) (a b:Nat) (st:St) (K:AV→St→Prop):grabE t q a b (AV.ep cs) st K=grabC st (AV.ep cs) t (q++[(a,b)]) K .mk:=rfl
theorem grabE_fn (f:FuncId) (caps:List AV) (t:Nat) (q:Path) (a b:Nat) (st:St) (K:AV→St→Prop):grabE t q a b (AV.fn f caps) st K=grabC st (AV.fn f caps) t (q++[(a,b)]) K .mk:=rfl
theorem grabE_tr (z:Nat) (es:List AV) (t:Nat) (q:Path) (a b:Nat) (st:St) (K:AV→St→Prop):grabE t q a b (AV.tr z es) st K=grabC st (AV.tr z es) t (q++[(a,b)]) K .mk:=rfl
theorem grabE_pt (z:Nat) (x:AV) (t:Nat) (q:Path) (a b:Nat) (st:St) (K:AV→St→Prop):grabE t q a b (AV.pt z x) st K=grabC st (AV.pt z x) t (q++[(a,b)]) K .mk:=rfl
theorem grabE_mt (kd:Bool) (m:Value→Option Value) (t:Nat) (q:Path) (a b:Nat) (st:St) (K:AV→St→Prop):grabE t q a b (AV.mt kd m) st K=grabC st (AV.mt kd m) t (q++[(a,b)]) K .mk:=rfl
theorem grabE_ref (s:Nat) (p:Path) (z o n:Nat) (t:Nat) (q:Path) (a b:Nat) (st:St) (K:AV→St→Prop):grabE t q a b (AV.ref s p z o n) st K=grabC st (AV.ref s p z o n) t (q++[(a,b)]) K .mk:=rfl
theorem grabE_loc (s:Nat) (p:Path) (i j:Nat) (t:Nat) (q:Path) (a b:Nat) (st:St) (K:AV→St→Prop):grabE t q a b (AV.loc s p i j) st K=grabC st (AV.loc s p i j) t (q++[(a,b)]) K .mk:=rfl
theorem grabE_mref (s:Nat) (p:Path) (t:Nat) (q:Path) (a b:Nat) (st:St) (K:AV→St→Prop):grabE t q a b (AV.mref s p) st K=grabC st (AV.mref s p) t (q++[(a,b)]) K .mk:=rfl
theorem grabE_lst (z:Nat) (es:List AV) (t:Nat) (q:Path) (a b:Nat) (st:St) (K:AV→St→Prop):grabE t q a b (AV.lst z es) st K=grabC st (AV.lst z es) t (q++[(a,b)]) K .mk:=rfl
theorem grabE_bx (cs:List AV) (t:Nat) (q:Path) (a b:Nat) (st:St) (K:AV→St→Prop):grabE t q a b (AV.bx cs) st K=grabC st (AV.bx cs) t (q++[(a,b)]) K .mk:=rfl
theorem grabE_ifc (t:Nat) (q:Path) (a b:Nat) (st:St) (K:AV→St→Prop):grabE t q a b AV.ifc st K=grabC st AV.ifc t (q++[(a,b)]) K .mk:=rfl
theorem grabL_nil (s:Nat) (p:Path) (i:Nat) (st:St) (K:List AV→St→Prop):grabL s p i [] st K=K [] st:=rfl
theorem grabL_cons (s:Nat) (p:Path) (i:Nat) (e:AV) (r:List AV) (st:St) (K:List AV→St→Prop):grabL s p i (e :: r) st K=grabE s p i 0 e st fun e' st'=>grabL s p (i+1) r st' fun l st''=>K (e' :: l) st'':=rfl
theorem setCs_nil (e:AV) (j:Nat):setCs e j []=e:=rfl
theorem setCs_cons (e:AV) (j:Nat) (x:AV) (r:List AV):setCs e j (x :: r)=setCs (e.setC j x) (j+1) r:=rfl
theorem setE_tr (z:Nat) (es:List AV) (i j:Nat) (x:AV):(AV.tr z es).setE i j x=.tr z (es.set i (setEl z (es.getD i .any) j x)):=rfl
theorem setE_pt (z:Nat) (y:AV) (i j:Nat) (x:AV):(AV.pt z y).setE i j x=.pt z (setEl z y j x):=rfl
theorem takeC_ref (mem:Nat→Option AV) (i t:Nat) (q:Path) (z o n:Nat) (r:Path) (K:AV→List Src→Prop) (l:Lock K):takeC mem i (.ref t q z o n) r K l=vc (o=0) (takeTr i t q z n r (nodeAt mem t q) K .mk) .mk:=rfl
theorem takeC_loc (mem:Nat→Option AV) (i t:Nat) (q:Path) (a b:Nat) (r:Path) (K:AV→List Src→Prop) (l:Lock K):takeC mem i (.loc t q a b) r K l=vc (a=0∧b=0) (takePt i t q r (nodeAt mem t q) K .mk) .mk:=rfl
theorem takeC_mref (mem:Nat→Option AV) (i t:Nat) (q:Path) (r:Path) (K:AV→List Src→Prop) (l:Lock K):takeC mem i (.mref t q) r K l=takeMt i t q r (nodeAt mem t q) K .mk:=rfl
theorem takeC_any (mem:Nat→Option AV) (k:Nat) (r:Path) (K:AV→List Src→Prop) (l:Lock K):takeC mem k AV.any r K l=vc (AV.bears AV.any=false) (K AV.any []) .mk:=rfl
theorem takeC_v (x:Value) (mem:Nat→Option AV) (k:Nat) (r:Path) (K:AV→List Src→Prop) (l:Lock K):takeC mem k (AV.v x) r K l=vc (AV.bears (AV.v x)=false) (K (AV.v x) []) .mk:=rfl
theorem takeC_sl (z:Nat) (es:List AV) (mem:Nat→Option AV) (k:Nat) (r:Path) (K:AV→List Src→Prop) (l:Lock K):takeC mem k (AV.sl z es) r K l=vc (AV.bears (AV.sl z es)=false) (K (AV.sl z es) []) .mk:=rfl
theorem takeC_agg (fs:List AV) (mem:Nat→Option AV) (k:Nat) (r:Path) (K:AV→List Src→Prop) (l:Lock K):takeC mem k (AV.agg fs) r K l=vc (AV.bears (AV.agg fs)=false) (K (AV.agg fs) []) .mk:=rfl
theorem takeC_tup (fs:List AV) (mem:Nat→Option AV) (k:Nat) (r:Path) (K:AV→List Src→Prop) (l:Lock K):takeC mem k (AV.tup fs) r K l=vc (AV.bears (AV.tup fs)=false) (K (AV.tup fs) []) .mk:=rfl
theorem takeC_ep (cs:List AV) (mem:Nat→Option AV) (k:Nat) (r:Path) (K:AV→List Src→Prop) (l:Lock K):takeC mem k (AV.ep cs) r K l=vc (AV.bears (AV.ep cs)=false) (K (AV.ep cs) []) .mk:=rfl
theorem takeC_fn (f:FuncId) (caps:List AV) (mem:Nat→Option AV) (k:Nat) (r:Path) (K:AV→List Src→Prop) (l:Lock K):takeC mem k (AV.fn f caps) r K l=vc (AV.bears (AV.fn f caps)=false) (K (AV.fn f caps) []) .mk:=rfl
theorem takeC_tr (z:Nat) (es:List AV) (mem:Nat→Option AV) (k:Nat) (r:Path) (K:AV→List Src→Prop) (l:Lock K):takeC mem k (AV.tr z es) r K l=vc (AV.bears (AV.tr z es)=false) (K (AV.tr z es) []) .mk:=rfl
theorem takeC_pt (z:Nat) (x:AV) (mem:Nat→Option AV) (k:Nat) (r:Path) (K:AV→List Src→Prop) (l:Lock K):takeC mem k (AV.pt z x) r K l=vc (AV.bears (AV.pt z x)=false) (K (AV.pt z x) []) .mk:=rfl
theorem takeC_mt (kd:Bool) (m:Value→Option Value) (mem:Nat→Option AV) (k:Nat) (r:Path) (K:AV→List Src→Prop) (l:Lock K):takeC mem k (AV.mt kd m) r K l=vc (AV.bears (AV.mt kd m)=false) (K (AV.mt kd m) []) .mk:=rfl
theorem takeC_lst (z:Nat) (es:List AV) (mem:Nat→Option AV) (k:Nat) (r:Path) (K:AV→List Src→Prop) (l:Lock K):takeC mem k (AV.lst z es) r K l=vc (AV.bears (AV.lst z es)=false) (K (AV.lst z es) []) .mk:=rfl
theorem takeC_bx (cs:List AV) (mem:Nat→Option AV) (k:Nat) (r:Path) (K:AV→List Src→Prop) (l:Lock K):takeC mem k (AV.bx cs) r K l=vc (AV.bears (AV.bx cs)=false) (K (AV.bx cs) []) .mk:=rfl
theorem takeC_ifc (mem:Nat→Option AV) (k:Nat) (r:Path) (K:AV→List Src→Prop) (l:Lock K):takeC mem k AV.ifc r K l=vc (AV.bears AV.ifc=false) (K AV.ifc []) .mk:=rfl
theorem takeA_any (mem:Nat→Option AV) (k:Nat) (K:AV→List Src→Prop):takeA mem k AV.any K=takeC mem k AV.any [] K .mk:=rfl
theorem takeA_v (x:Value) (mem:Nat→Option AV) (k:Nat) (K:AV→List Src→Prop):takeA mem k (AV.v x) K=takeC mem k (AV.v x) [] K .mk:=rfl
theorem takeA_sl (z:Nat) (es:List AV) (mem:Nat→Option AV) (k:Nat) (K:AV→List Src→Prop):takeA mem k (AV.sl z es) K=takeC mem k (AV.sl z es) [] K .mk:=rfl
theorem takeA_agg (fs:List AV) (mem:Nat→Option AV) (k:Nat) (K:AV→List Src→Prop):takeA mem k (AV.agg fs) K=takeCs mem k 0 fs fun l s=>K (.agg l) s:=rfl
theorem takeA_tup (fs:List AV) (mem:Nat→Option AV) (k:Nat) (K:AV→List Src→Prop):takeA mem k (AV.tup fs) K=takeC mem k (AV.tup fs) [] K .mk:=rfl
theorem takeA_ep (cs:List AV) (mem:Nat→Option AV) (k:Nat) (K:AV→List Src→Prop):takeA mem k (AV.ep cs) K=takeC mem k (AV.ep cs) [] K .mk:=rfl
theorem takeA_fn (f:FuncId) (caps:List AV) (mem:Nat→Option AV) (k:Nat) (K:AV→List Src→Prop):takeA mem k (AV.fn f caps) K=takeC mem k (AV.fn f caps) [] K .mk:=rfl
theorem takeA_tr (z:Nat) (es:List AV) (mem:Nat→Option AV) (k:Nat) (K:AV→List Src→Prop):takeA mem k (AV.tr z es) K=takeC mem k (AV.tr z es) [] K .mk:=rfl
theorem takeA_pt (z:Nat) (x:AV) (mem:Nat→Option AV) (k:Nat) (K:AV→List Src→Prop):takeA mem k (AV.pt z x) K=takeC mem k (AV.pt z x) [] K .mk:=rfl
theorem takeA_mt (kd:Bool) (m:Value→Option Value) (mem:Nat→Option AV) (k:Nat) (K:AV→List Src→Prop):takeA mem k (AV.mt kd m) K=takeC mem k (AV.mt kd m) [] K .mk:=rfl
theorem takeA_ref (s:Nat) (p:Path) (z o n:Nat) (mem:Nat→Option AV) (k:Nat) (K:AV→List Src→Prop):takeA mem k (AV.ref s p z o n) K=takeC mem k (AV.ref s p z o n) [] K .mk:=rfl
theorem takeA_loc (s:Nat) (p:Path) (i j:Nat) (mem:Nat→Option AV) (k:Nat) (K:AV→List Src→Prop):takeA mem k (AV.loc s p i j) K=takeC mem k (AV.loc s p i j) [] K .mk:=rfl
theorem takeA_mref (s:Nat) (p:Path) (mem:Nat→Option AV) (k:Nat) (K:AV→List Src→Prop):takeA mem k (AV.mref s p) K=takeC mem k (AV.mref s p) [] K .mk:=rfl
theorem takeA_lst (z:Nat) (es:List AV) (mem:Nat→Option AV) (k:Nat) (K:AV→List Src→Prop):takeA mem k (AV.lst z es) K=takeC mem k (AV.lst z es) [] K .mk:=rfl
theorem takeA_bx (cs:List AV) (mem:Nat→Option AV) (k:Nat) (K:AV→List Src→Prop):takeA mem k (AV.bx cs) K=takeC mem k (AV.bx cs) [] K .mk:=rfl
theorem takeA_ifc (mem:Nat→Option AV) (k:Nat) (K:AV→List Src→Prop):takeA mem k AV.ifc K=takeC mem k AV.ifc [] K .mk:=rfl
theorem closeC_ref (mem:Nat→Option AV) (t:Nat) (q:Path) (z o n:Nat) (K:AV→List (Nat×Path)→Prop) (l:Lock K):closeC mem (.ref t q z o n) K l=closeTr t q z o n (nodeAt mem t q) K .mk:=rfl
theorem closeC_loc (mem:Nat→Option AV) (t:Nat) (q:Path) (a b:Nat) (K:AV→List (Nat×Path)→Prop) (l:Lock K):closeC mem (.loc t q a b) K l=vc (a=0∧b=0) (closePt t q (nodeAt mem t q) K .mk) .mk:=rfl
theorem closeC_mref (mem:Nat→Option AV) (t:Nat) (q:Path) (K:AV→List (Nat×Path)→Prop) (l:Lock K):closeC mem (.mref t q) K l=closeMt t q (nodeAt mem t q) K .mk:=rfl
theorem closeC_any (mem:Nat→Option AV) (K:AV→List (Nat×Path)→Prop) (l:Lock K):closeC mem AV.any K l=vc (AV.bears AV.any=false) (K AV.any []) .mk:=rfl
theorem closeC_v (x:Value) (mem:Nat→Option AV) (K:AV→List (Nat×Path)→Prop) (l:Lock K):closeC mem (AV.v x) K l=vc (AV.bears (AV.v x)=false) (K (AV.v x) []) .mk:=rfl
theorem closeC_sl (z:Nat) (es:List AV) (mem:Nat→Option AV) (K:AV→List (Nat×Path)→Prop) (l:Lock K):closeC mem (AV.sl z es) K l=vc (AV.bears (AV.sl z es)=false) (K (AV.sl z es) []) .mk:=rfl
theorem closeC_agg (fs:List AV) (mem:Nat→Option AV) (K:AV→List (Nat×Path)→Prop) (l:Lock K):closeC mem (AV.agg fs) K l=vc (AV.bears (AV.agg fs)=false) (K (AV.agg fs) []) .mk:=rfl
theorem closeC_tup (fs:List AV) (mem:Nat→Option AV) (K:AV→List (Nat×Path)→Prop) (l:Lock K):closeC mem (AV.tup fs) K l=vc (AV.bears (AV.tup fs)=false) (K (AV.tup fs) []) .mk:=rfl
theorem closeC_ep (cs:List AV) (mem:Nat→Option AV) (K:AV→List (Nat×Path)→Prop) (l:Lock K):closeC mem (AV.ep cs) K l=vc (AV.bears (AV.ep cs)=false) (K (AV.ep cs) []) .mk:=rfl
theorem closeC_fn (f:FuncId) (caps:List AV) (mem:Nat→Option AV) (K:AV→List (Nat×Path)→Prop) (l:Lock K):closeC mem (AV.fn f caps) K l=vc (AV.bears (AV.fn f caps)=false) (K (AV.fn f caps) []) .mk:=rfl
theorem closeC_tr (z:Nat) (es:List AV) (mem:Nat→Option AV) (K:AV→List (Nat×Path)→Prop) (l:Lock K):closeC mem (AV.tr z es) K l=vc (AV.bears (AV.tr z es)=false) (K (AV.tr z es) []) .mk:=rfl
theorem closeC_pt (z:Nat) (x:AV) (mem:Nat→Option AV) (K:AV→List (Nat×Path)→Prop) (l:Lock K):closeC mem (AV.pt z x) K l=vc (AV.bears (AV.pt z x)=false) (K (AV.pt z x) []) .mk:=rfl
theorem closeC_mt (kd:Bool) (m:Value→Option Value) (mem:Nat→Option AV) (K:AV→List (Nat×Path)→Prop) (l:Lock K):closeC mem (AV.mt kd m) K l=vc (AV.bears (AV.mt kd m)=false) (K (AV.mt kd m) []) .mk:=rfl
theorem closeC_lst (z:Nat) (es:List AV) (mem:Nat→Option AV) (K:AV→List (Nat×Path)→Prop) (l:Lock K):closeC mem (AV.lst z es) K l=vc (AV.bears (AV.lst z es)=false) (K (AV.lst z es) []) .mk:=rfl
theorem closeC_bx (cs:List AV) (mem:Nat→Option AV) (K:AV→List (Nat×Path)→Prop) (l:Lock K):closeC mem (AV.bx cs) K l=vc (AV.bears (AV.bx cs)=false) (K (AV.bx cs) []) .mk:=rfl
theorem closeC_ifc (mem:Nat→Option AV) (K:AV→List (Nat×Path)→Prop) (l:Lock K):closeC mem AV.ifc K l=vc (AV.bears AV.ifc=false) (K AV.ifc []) .mk:=rfl
theorem closeA_any (mem:Nat→Option AV) (K:AV→List (Nat×Path)→Prop):closeA mem AV.any K=closeC mem AV.any K .mk:=rfl
theorem closeA_v (x:Value) (mem:Nat→Option AV) (K:AV→List (Nat×Path)→Prop):closeA mem (AV.v x) K=closeC mem (AV.v x) K .mk:=rfl
theorem closeA_sl (z:Nat) (es:List AV) (mem:Nat→Option AV) (K:AV→List (Nat×Path)→Prop):closeA mem (AV.sl z es) K=closeC mem (AV.sl z es) K .mk:=rfl
theorem closeA_agg (fs:List AV) (mem:Nat→Option AV) (K:AV→List (Nat×Path)→Prop):closeA mem (AV.agg fs) K=closeCs mem fs fun l s=>K (.agg l) s:=rfl
theorem closeA_tup (fs:List AV) (mem:Nat→Option AV) (K:AV→List (Nat×Path)→Prop):closeA mem (AV.tup fs) K=closeC mem (AV.tup fs) K .mk:=rfl
theorem closeA_ep (cs:List AV) (mem:Nat→Option AV) (K:AV→List (Nat×Path)→Prop):closeA mem (AV.ep cs) K=closeC mem (AV.ep cs) K .mk:=rfl
theorem closeA_fn (f:FuncId) (caps:List AV) (mem:Nat→Option AV) (K:AV→List (Nat×Path)→Prop):closeA mem (AV.fn f caps) K=closeC mem (AV.fn f caps) K .mk:=rfl
theorem closeA_tr (z:Nat) (es:List AV) (mem:Nat→Option AV) (K:AV→List (Nat×Path)→Prop):closeA mem (AV.tr z es) K=closeC mem (AV.tr z es) K .mk:=rfl
theorem closeA_pt (z:Nat) (x:AV) (mem:Nat→Option AV) (K:AV→List (Nat×Path)→Prop):closeA mem (AV.pt z x) K=closeC mem (AV.pt z x) K .mk:=rfl
theorem closeA_mt (kd:Bool) (m:Value→Option Value) (mem:Nat→Option AV) (K:AV→List (Nat×Path)→Prop):closeA mem (AV.mt kd m) K=closeC mem (AV.mt kd m) K .mk:=rfl
theorem closeA_ref (s:Nat) (p:Path) (z o n:Nat) (mem:Nat→Option AV) (K:AV→List (Nat×Path)→Prop):closeA mem (AV.ref s p z o n) K=closeC mem (AV.ref s p z o n) K .mk:=rfl
theorem closeA_loc (s:Nat) (p:Path) (i j:Nat) (mem:Nat→Option AV) (K:AV→List (Nat×Path)→Prop):closeA mem (AV.loc s p i j) K=closeC mem (AV.loc s p i j) K .mk:=rfl
theorem closeA_mref (s:Nat) (p:Path) (mem:Nat→Option AV) (K:AV→List (Nat×Path)→Prop):closeA mem (AV.mref s p) K=closeC mem (AV.mref s p) K .mk:=rfl
theorem closeA_lst (z:Nat) (es:List AV) (mem:Nat→Option AV) (K:AV→List (Nat×Path)→Prop):closeA mem (AV.lst z es) K=closeC mem (AV.lst z es) K .mk:=rfl
theorem closeA_bx (cs:List AV) (mem:Nat→Option AV) (K:AV→List (Nat×Path)→Prop):closeA mem (AV.bx cs) K=closeC mem (AV.bx cs) K .mk:=rfl
theorem closeA_ifc (mem:Nat→Option AV) (K:AV→List (Nat×Path)→Prop):closeA mem AV.ifc K=closeC mem AV.ifc K .mk:=rfl
end Go.AM
namespace Go.AM
theorem argsOf_nil (mem:Nat→Option AV):argsOf mem [] []=[]:=rfl
theorem argsOf_some (mem:Nat→Option AV) (c a:AV) (l:List (Option AV)) (r:List AV):argsOf mem (some c :: l) (a :: r)=c :: argsOf mem l r:=rfl
theorem argsOf_none (mem:Nat→Option AV) (a:AV) (l:List (Option AV)) (r:List AV):argsOf mem (none :: l) (a :: r)=a.view mem :: argsOf mem l r:=rfl
theorem lentOf_nil:lentOf [] []=false:=rfl
theorem lentOf_some (c a:AV) (l:List (Option AV)) (r:List AV):lentOf (some c :: l) (a :: r)=lentOf l r:=rfl
theorem lentOf_none (a:AV) (l:List (Option AV)) (r:List AV):lentOf (none :: l) (a :: r)=(a.bears || lentOf l r):=rfl
theorem divB_cons (a b c d:Nat) (p q:Path):divB ((a,b) :: p) ((c,d) :: q)=(!decide (a=c∧b=d) || divB p q):=rfl
theorem divB_nl (q:Path):divB [] q=false:=by cases q <;> rfl
theorem divB_nr (p:Path):divB p []=false:=by cases p <;> rfl
theorem sigsOk_nil (as:List AV):sigsOk as []=True:=by cases as <;> rfl
theorem sigsOk_some (a T:AV) (as:List AV) (r:List (Option AV)):sigsOk (a :: as) (some T :: r)=(T.sig=a.sig∧sigsOk as r):=rfl
theorem sigsOk_none (a:AV) (as:List AV) (r:List (Option AV)):sigsOk (a :: as) (none :: r)=sigsOk as r:=rfl
section
variable (mem:Nat→Option AV) (i:Nat) (a:AV) (r:List AV) (ms:List Bool) (K:List (Option AV)→List Src→Prop)
theorem takeAll_nil:takeAll mem i ms [] K=K [] []:=by cases ms <;> rfl
theorem takeAll_t:takeAll mem i (true :: ms) (a :: r) K=takeA mem i a fun c s=>takeAll mem (i+1) ms r fun l s'=>K (some c :: l) (s++s'):=rfl
theorem takeAll_f:takeAll mem i (false :: ms) (a :: r) K=takeAll mem (i+1) ms r fun l s=>K (none :: l) s:=rfl
theorem takeAll_n:takeAll mem i [] (a :: r) K=takeAll mem (i+1) [] r fun l s=>K (none :: l) s:=rfl
end
theorem takeCs_nil (mem:Nat→Option AV) (i j:Nat) (K:List AV→List Src→Prop):takeCs mem i j [] K=K [] []:=rfl
theorem takeCs_cons (mem:Nat→Option AV) (i j:Nat) (x:AV) (r:List AV) (K:List AV→List Src→Prop):takeCs mem i j (x :: r) K=takeC mem i x [(0,j)] (fun x' s=>takeCs mem i (j+1) r fun l s'=>K (x' :: l) (s++s')) .mk:=rfl
theorem rootsOf_nil:rootsOf []=[]:=rfl
theorem rootsOf_cons (i t:Nat) (r q:Path) (s:List Src):rootsOf ((i,r,t,q) :: s)=t :: rootsOf s:=rfl
theorem placesOf_nil:placesOf []=[]:=rfl
theorem placesOf_cons (i t:Nat) (r q:Path) (s:List Src):placesOf ((i,r,t,q) :: s)=(t,q) :: placesOf s:=rfl
theorem apart1_nil (t:Nat) (q:Path):apart1 t q []=true:=rfl
theorem apart1_cons (t:Nat) (q:Path) (t':Nat) (q':Path) (r:List (Nat×Path)):apart1 t q ((t',q') :: r)=((!decide (t=t') || divB q q') && apart1 t q r):=rfl
theorem apartL_nil:apartL []=true:=rfl
theorem apartL_cons (t:Nat) (q:Path) (r:List (Nat×Path)):apartL ((t,q) :: r)=(apart1 t q r && apartL r):=rfl
theorem giveS_nil (po:Option (Nat→Path→Bool)) (outs:List (Option AV)) (st:St) (K:St→Prop):giveS po outs [] st K=K st:=rfl
theorem giveS_cons (po:Option (Nat→Path→Bool)) (outs:List (Option AV)) (i:Nat) (r:Path) (t:Nat) (q:Path) (s:List Src) (st:St) (K:St→Prop):giveS po outs ((i,r,t,q) :: s) st K=giveO po (outs.getD i none) i r t q st (fun st'=>giveS po outs s st' K) .mk:=rfl
theorem pureO_nil:pureO []=true:=rfl
theorem pureO_some (T:AV) (r:List (Option AV)):pureO (some T :: r)=(T.pure && pureO r):=rfl
theorem pureO_none (r:List (Option AV)):pureO (none :: r)=pureO r:=rfl
theorem closeCs_nil (mem:Nat→Option AV) (K:List AV→List (Nat×Path)→Prop):closeCs mem [] K=K [] []:=rfl
theorem closeCs_cons (mem:Nat→Option AV) (x:AV) (r:List AV) (K:List AV→List (Nat×Path)→Prop):closeCs mem (x :: r) K=closeC mem x (fun x' s=>closeCs mem r fun l s'=>K (x' :: l) (s++s')) .mk:=rfl
theorem closeL_nil (mem:Nat→Option AV) (K:List AV→List (Nat×Path)→Prop):closeL mem [] K=K [] []:=rfl
theorem closeL_cons (mem:Nat→Option AV) (x:AV) (r:List AV) (K:List AV→List (Nat×Path)→Prop):closeL mem (x :: r) K=closeA mem x fun a' s=>closeL mem r fun l s'=>K (a' :: l) (s++s'):=rfl
theorem outRoots_nil (i:Nat):outRoots i []=[]:=rfl
theorem outRoots_some (i:Nat) (T:AV) (r:List (Option AV)):outRoots i (some T :: r)=(i,[]) :: outRoots (i+1) r:=rfl
theorem outRoots_none (i:Nat) (r:List (Option AV)):outRoots i (none :: r)=outRoots (i+1) r:=rfl
theorem outsOk_nil (mem:Nat→Option AV) (i:Nat):outsOk mem i []=True:=rfl
theorem outsOk_some (mem:Nat→Option AV) (i:Nat) (T:AV) (r:List (Option AV)):outsOk mem i (some T :: r)=(mem i=some T∧outsOk mem (i+1) r):=rfl
theorem outsOk_none (mem:Nat→Option AV) (i:Nat) (r:List (Option AV)):outsOk mem i (none :: r)=outsOk mem (i+1) r:=rfl
theorem headOps_nil:headOps []=[]:=rfl
theorem headOps_cons (o:Oper) (r:List Oper):headOps (o :: r)=(match isTail o.op with | true=>[] | false=>o :: headOps r):=rfl
theorem tailOps_nil:tailOps []=[]:=rfl
theorem tailOps_cons (o:Oper) (r:List Oper):tailOps (o :: r)=(match isTail o.op with | true=>o :: r | false=>tailOps r):=rfl
theorem killNew_nil (st:St):killNew [] st=st:=rfl
theorem killNew_some (d:Nat) (o:Op) (t:TypeId) (p:String) (a:Array Edge) (g:Option (Nat×Bool)) (r:List Oper) (st:St):killNew (⟨some d,o,t,p,a,g⟩ :: r) st=(match makesB o with | true=>killNew r (st.kill d) | false=>killNew r st):=by
 rw [killNew];cases makesB o <;> rfl
theorem killNew_none (o:Op) (t:TypeId) (p:String) (a:Array Edge) (g:Option (Nat×Bool)) (r:List Oper) (st:St):killNew (⟨none,o,t,p,a,g⟩ :: r) st=killNew r st:=by
 rw [killNew];cases makesB o <;> rfl
theorem retK_t (args:List AV) (outs:List (Option AV)) (r:AV) (mem:Nat→Option AV) (l:List AV):retK true args outs r mem l=valP (AV.views mem l) (fun l'=>leR l' r) .mk:=rfl
theorem retK_f (args:List AV) (outs:List (Option AV)) (r:AV) (mem:Nat→Option AV) (l:List AV):retK false args outs r mem l=closeL mem l fun l' s=>apartL (outRoots 0 outs++s)=true∧leR l' r∧outsOk mem 0 outs:=rfl
theorem leT_nil:leT [] []=True:=rfl
theorem leT_cons (a b:AV) (r s:List AV):leT (a :: r) (b :: s)=(leA a b∧leT r s):=rfl
theorem leL_nil:leL [] []=True:=rfl
theorem leL_cons (a b:AV) (r s:List AV):leL (a :: r) (b :: s)=(leC a b∧leL r s):=rfl
theorem leA_agg (l l':List AV):leA (.agg l) (.agg l')=leL l l':=rfl
theorem leC_any (a:AV):leC a .any=True:=by cases a <;> rfl
theorem leA_any (a:AV):leA a .any=True:=by cases a <;> rfl
theorem leC_nil_tr (z:Nat) (es:List AV):leC (.v (.slice none 0 0)) (.tr z es)=(es=[]):=rfl
theorem leC_nil_sl (z:Nat) (es:List AV):leC (.v (.slice none 0 0)) (.sl z es)=(es=[]):=rfl
theorem leA_nil_tr (z:Nat) (es:List AV):leA (.v (.slice none 0 0)) (.tr z es)=(es=[]):=rfl
theorem leA_nil_sl (z:Nat) (es:List AV):leA (.v (.slice none 0 0)) (.sl z es)=(es=[]):=rfl
theorem leC_v (x y:Value):leC (.v x) (.v y)=(x=y):=by
 have:leC (.v x) (.v y)=(AV.v x=.v y):=by unfold leC;split <;> first | rfl | simp_all
 rw [this];simp
theorem leA_v (x y:Value):leA (.v x) (.v y)=(x=y):=leC_v x y
theorem leC_sl (z z':Nat) (es es':List AV):leC (.sl z es) (.sl z' es')=(z=z'∧es=es'):=by show (AV.sl z es=.sl z' es')=_;simp
theorem leA_sl (z z':Nat) (es es':List AV):leA (.sl z es) (.sl z' es')=(z=z'∧es=es'):=leC_sl z z' es es'
theorem leC_tr (z z':Nat) (es es':List AV):leC (.tr z es) (.tr z' es')=(z=z'∧es=es'):=by show (AV.tr z es=.tr z' es')=_;simp
theorem leA_tr (z z':Nat) (es es':List AV):leA (.tr z es) (.tr z' es')=(z=z'∧es=es'):=leC_tr z z' es es'
theorem leC_pt (z z':Nat) (x x':AV):leC (.pt z x) (.pt z' x')=(z=z'∧x=x'):=by show (AV.pt z x=.pt z' x')=_;simp
theorem leA_pt (z z':Nat) (x x':AV):leA (.pt z x) (.pt z' x')=(z=z'∧x=x'):=leC_pt z z' x x'
theorem leC_mt (z z':Bool) (x x':Value→Option Value):leC (.mt z x) (.mt z' x')=(z=z'∧x=x'):=by show (AV.mt z x=.mt z' x')=_;simp
theorem leA_mt (z z':Bool) (x x':Value→Option Value):leA (.mt z x) (.mt z' x')=(z=z'∧x=x'):=leC_mt z z' x x'
theorem leA_fn (f f':FuncId) (x x':List AV):leA (.fn f x) (.fn f' x')=(f=f'∧x=x'):=by show (AV.fn f x=.fn f' x')=_;simp
theorem leC_ep (x x':List AV):leC (.ep x) (.ep x')=(x=x'):=by show (AV.ep x=.ep x')=_;simp
theorem leA_ep (x x':List AV):leA (.ep x) (.ep x')=(x=x'):=leC_ep x x'
theorem leC_ifc:leC .ifc .ifc=True:=by show (AV.ifc=.ifc)=_;simp
theorem leA_ifc:leA .ifc .ifc=True:=leC_ifc

theorem wrap64_id {x:Int} (h:-9223372036854775808≤x∧x≤9223372036854775807):IntKind.i64.wrap x=x:=IntWalk.i64_in _ h
theorem lt_true {a b:Int} (h:a<b):decide (a<b)=true:=by simpa using h
theorem lt_false {a b:Int} (h:b≤a):decide (a<b)=false:=by simp;omega
theorem le_true {a b:Int} (h:a≤b):decide (a≤b)=true:=by simpa using h
theorem le_false {a b:Int} (h:b<a):decide (a≤b)=false:=by simp;omega
theorem eq_true {a b:Int} (h:a=b):(a == b)=true:=by simpa using h
theorem eq_false {a b:Int} (h:a≠b):(a == b)=false:=by simpa using h
theorem ne_true {a b:Int} (h:a≠b):(a != b)=true:=by simpa using h
theorem ne_false {a b:Int} (h:a=b):(a != b)=false:=by simpa using h
end Go.AM
set_option maxRecDepth 4000
namespace Go.AM
def amPre:=(ai (ai (ai (ai (ai (@AWP_skip) (ai (@AWP_seq) (@AWP_block))) (ai (@AWP_exit) (ai (@AWP_ret) (@AWP_seqR)))) (ai
 (ai (@AWP_drawR) (ai (@AWP_anyR) (@AWP_sxR))) (ai (ai (@mark_seq) (@mark_cond)) (ai (@mark_block) (@mark_loop))))) (ai (ai
 (ai (@mark_draw) (ai (@mark_seqR) (@mark_skip))) (ai (@mark_exit) (ai (@mark_ret) (@evalT_done)))) (ai (ai (@evalT_stop) (ai
 (@evalT_alt) (@AWP_loop))) (ai (ai (@AWP_cond) (@thenQ_normal)) (ai (@thenQ_exit) (@thenQ_ret)))))) (ai (ai (ai (ai
 (@blockQ_exit_same) (ai (@blockQ_exit_ne) (@blockQ_normal))) (ai (@blockQ_ret) (ai (@seqOps_nil) (@seqOps_none)))) (ai (ai (@seqOps_some)
 (ai (@flowOps_nil) (@flowOps_none))) (ai (ai (@flowOps_some) (@flowC_nil)) (ai (@flowC_none) (@flowC_some))))) (ai (ai (ai
 (@flowM_nil) (ai (@flowM_none) (@flowM_some))) (ai (ai (@aop.eq_def) (@fop.eq_def)) (ai (@callOp.eq_def) (@intBin2.eq_def)))) (ai (ai
 (@intBin.eq_def) (ai (@strBin.eq_def) (@boolBin.eq_def))) (ai (ai (@aggBin.eq_def) (@drawOps.eq_def)) (ai (@retP_ret) (@retP_normal)))))))

def amPost0:=(ai (ai (ai (ai (ai (ai (ai (@ifP_true)
 (ai (@ifP_false) (@optP_some))) (ai (@eqV_int) (ai (@eqV_bool) (@eqV_str)))) (ai (ai (@and2_some) (ai (@eqCs_nil) (@eqCs_cons)))
 (ai (@nilQ_nil) (ai (@nilQ_ptr) (@nilQ_iface))))) (ai (ai (ai (@nilQ_func) (ai (@nilQ_ref) (@nilQ_sl))) (ai (@nilQ_loc) (ai
 (@nilQ_ep) (@nilQ_fn)))) (ai (ai (@nilQ_ifc) (ai (@binP_agg) (@binP_int))) (ai (@binP_str) (ai (@binP_bool) (@binP_ns)))))) (ai
 (ai (ai (ai (@binP_np) (ai (@binP_ni) (@binP_nf))) (ai (@unP_neg) (ai (@unP_not) (@pickP_bool)))) (ai (ai (@loadCs_agg)
 (ai (@loadCs_one) (@loadE_agg))) (ai (@loadE_one) (ai (@loadN_tr) (@loadN_pt))))) (ai (ai (ai (@loadP_loc) (ai (@loadP_ep)
 (@loadP_bx))) (ai (@fieldAP_loc) (ai (@fieldAP_ep) (@fieldAP_bx)))) (ai (ai (@indexAP_sl) (ai (@indexAP_ref) (@lenP_sl))) (ai (@lenP_lst)
 (ai (@lenP_ref) (@lenP_nil))))))) (ai (ai (ai (ai (ai (@lenP_str) (ai (@viewN_tr) (@viewL_tr))) (ai (@viewL_pt) (ai
 (@resP_t) (@resP_f)))) (ai (ai (@resQ_go) (ai (@calleeP_fn) (@sliceP_str))) (ai (@sliceP_sl) (ai (@sliceP_ref) (@sliceP_nil))))) (ai
 (ai (ai (@fieldP_agg) (ai (@strIndexP_str) (@kc_agg))) (ai (@kc_v) (ai (@kc_sl) (@oc_sl)))) (ai (ai (@kc_lst) (ai (@oc_lst)
 (@kc_ref))) (ai (@oc_ref) (ai (@kc_loc) (@oc_loc)))))) (ai (ai (ai (ai (@kc_mref) (ai (@oc_mref) (@kc_ep))) (ai (@oc_ep)
 (ai (@kc_bx) (@oc_bx)))) (ai (ai (@kc_fn) (ai (@oc_fn) (@kc_ifc))) (ai (@oc_ifc) (ai (@oc_int) (@oc_bool))))) (ai (ai
 (ai (@oc_str) (ai (@oc_slice) (@oc_ptr))) (ai (@oc_map) (ai (@oc_nilf) (@oc_nili)))) (ai (ai (@nilP_loc) (ai (@nilP_ep)
 (@nilP_bx))) (ai (ai (@intP_int) (@tupP_tup)) (ai (@oneP_one) (@convP_int)))))))) (ai (ai (ai (ai (ai (ai
 (@convP_ref) (ai (@convN_tr) (@convB_go))) (ai (@isU8_int) (ai (@byteV_int) (@minmaxP_int)))) (ai (ai (@valP_go) (ai (@lookQ_some)
 (@lookQ_none))) (ai (@lookN_mt) (ai (@lookP_mref) (@zeroE_t))))) (ai (ai (ai (@zeroE_f) (ai (@St.addB_some) (@St.addB_none))) (ai
 (@fitsN_tr) (ai (@fitsN_pt) (@storeF_f)))) (ai (ai (@storeF_t) (ai (@copyP_ref) (@copyN.eq_def))) (ai (@storeP_loc) (ai (@storeB_f)
 (@storeB_t)))))) (ai (ai (ai (ai (@pullP_go) (ai (@pullT_tr) (@St.pull_eq))) (ai (@selfA.eq_def) (ai (@srcN_tr) (@srcP_ref))))
 (ai (ai (@srcP_sl) (ai (@srcP_lst) (@srcP_nil))) (ai (@appP_nil) (ai (@appP_ref) (@resX_go))))) (ai (ai (ai (@pinF_none)
 (ai (@pinF_some) (@callM_nil))) (ai (@callM_cons) (ai (@callA_fn) (@mapN_mt)))) (ai (ai (@mapP_mref) (ai (@boxA_f) (@boxA_t))) (ai
 (ai (@boxM_nil) (@boxM_t)) (ai (@boxM_f) (@boxF_go))))))) (ai (ai (ai (ai (ai (@buildL_go) (ai (@buildM_nil) (@buildM_t)))
 (ai (@buildM_f) (ai (@guardQ_t) (@guardQ_f)))) (ai (ai (@guardQ_un) (ai (@dstOf_zero) (@dstOf_succ))) (ai (@St.addN_some) (ai
 (@St.addN_none) (@seqAt_none))))) (ai (ai (ai (@seqAt_some) (ai (@operAt_zero) (@operAt_succ))) (ai (@condQ_bool) (ai (@drawP_go)
 (@seqXP_go)))) (ai (ai (@bxEnd_go) (ai (@notTmp_tmp) (@memA_nil))) (ai (@memA_cons) (@madeP.eq_def))))) (ai
 (ai (ai (ai (@pivP.eq_def) (@pivQ_go)) (ai (@pvP_call) (ai (@pvF_fn) (@pvC_loc)))) (ai (ai
 (@hide1.eq_def) (ai (@resL_nil) (@resL_tmp))) (ai (@resL_cell) (ai (@leR_one) (@leR_nil))))) (ai (ai (ai (@leR_two) (ai (@vc_ok)
 (@vc_true))) (ai (@AV.lenV.eq_def) (ai (@nilBin.eq_def) (@isConstO.eq_def)))) (ai (ai (@buildCs.eq_1) (ai (@buildCs.eq_2)
 (@Value.oneCell'.eq_def))) (ai (ai (@boxP.eq_def) (@nilC.eq_def)) (ai (@cells_any) (@cells_v)))))))))

def amPost1:=(ai (ai
 (ai (ai (ai (ai (ai (@cells_sl) (ai (@cells_agg) (@cells_tup))) (ai (@cells_ep) (ai (@cells_fn) (@cells_tr)))) (ai
 (ai (@cells_pt) (ai (@cells_mt) (@cells_ref))) (ai (@cells_loc) (ai (@cells_mref) (@cells_lst))))) (ai (ai (ai (@cells_bx)
 (ai (@cells_ifc) (@isNode_any))) (ai (@isNode_v) (ai (@isNode_sl) (@isNode_agg)))) (ai (ai (@isNode_tup) (ai (@isNode_ep) (@isNode_fn)))
 (ai (@isNode_tr) (ai (@isNode_pt) (@isNode_mt)))))) (ai (ai (ai (ai (@isNode_ref) (ai (@isNode_loc) (@isNode_mref))) (ai
 (@isNode_lst) (ai (@isNode_bx) (@isNode_ifc)))) (ai (ai (@cellAt_tr) (ai (@cellAt_pt) (@cellAt_agg))) (ai (@cellAt_tup) (ai (@cellAt_any)
 (@cellAt_v))))) (ai (ai (ai (@cellAt_sl) (ai (@cellAt_ep) (@cellAt_fn))) (ai (@cellAt_mt) (ai (@cellAt_ref) (@cellAt_loc)))) (ai
 (ai (@cellAt_mref) (ai (@cellAt_lst) (@cellAt_bx))) (ai (@cellAt_ifc) (ai (@at_nil) (@at_cons))))))) (ai (ai (ai (ai
 (ai (@setC_any) (ai (@setC_v) (@setC_sl))) (ai (@setC_agg) (ai (@setC_tup) (@setC_ep)))) (ai (ai (@setC_fn) (ai (@setC_tr)
 (@setC_pt))) (ai (@setC_mt) (ai (@setC_ref) (@setC_loc))))) (ai (ai (ai (@setC_mref) (ai (@setC_lst) (@setC_bx))) (ai (@setC_ifc)
 (ai (@setAt_tr) (@setAt_pt)))) (ai (ai (@setAt_agg) (ai (@setAt_tup) (@setP_nil))) (ai (@setP_cons) (ai (@modP_nil) (@modP_cons))))))
 (ai (ai (ai (ai (@nodeAt_def) (ai (@fz_any) (@fz_v))) (ai (@fz_sl) (ai (@fz_agg) (@fz_tup)))) (ai (ai (@fz_ep)
 (ai (@fz_fn) (@fz_tr))) (ai (@fz_pt) (ai (@fz_mt) (@fz_ref))))) (ai (ai (ai (@fz_loc) (ai (@fz_mref) (@fz_lst))) (ai
 (@fz_bx) (ai (@fz_ifc) (@fzL_nil)))) (ai (ai (@fzL_cons) (ai (@pure_any) (@pure_v))) (ai (ai (@pure_sl) (@pure_agg)) (ai
 (@pure_tup) (@pure_ep)))))))) (ai (ai (ai (ai (ai (ai (@pure_fn) (ai (@pure_tr) (@pure_pt))) (ai (@pure_mt) (ai
 (@pure_ref) (@pure_loc)))) (ai (ai (@pure_mref) (ai (@pure_lst) (@pure_bx))) (ai (@pure_ifc) (ai (@pureL_nil) (@pureL_cons))))) (ai
 (ai (ai (@atom_any) (ai (@atom_v) (@atom_sl))) (ai (@atom_agg) (ai (@atom_tup) (@atom_ep)))) (ai (ai (@atom_fn) (ai
 (@atom_tr) (@atom_pt))) (ai (@atom_mt) (ai (@atom_ref) (@atom_loc)))))) (ai (ai (ai (ai (@atom_mref) (ai (@atom_lst) (@atom_bx)))
 (ai (@atom_ifc) (ai (@atomL_nil) (@atomL_cons)))) (ai (ai (@atom1_any) (ai (@atom1_v) (@atom1_sl))) (ai (@atom1_agg) (ai
 (@atom1_tup) (@atom1_ep))))) (ai (ai (ai (@atom1_fn) (ai (@atom1_tr) (@atom1_pt))) (ai (@atom1_mt) (ai (@atom1_ref) (@atom1_loc))))
 (ai (ai (@atom1_mref) (ai (@atom1_lst) (@atom1_bx))) (ai (ai (@atom1_ifc) (@atomT_nil)) (ai (@atomT_cons) (@atoms_any))))))) (ai
 (ai (ai (ai (ai (@atoms_v) (ai (@atoms_sl) (@atoms_agg))) (ai (@atoms_tup) (ai (@atoms_ep) (@atoms_fn)))) (ai (ai
 (@atoms_tr) (ai (@atoms_pt) (@atoms_mt))) (ai (@atoms_ref) (ai (@atoms_loc) (@atoms_mref))))) (ai (ai (ai (@atoms_lst) (ai
 (@atoms_bx) (@atoms_ifc))) (ai (@sig1_any) (ai (@sig1_v) (@sig1_sl)))) (ai (ai (@sig1_agg) (ai (@sig1_tup) (@sig1_ep))) (ai (@sig1_fn)
 (ai (@sig1_tr) (@sig1_pt)))))) (ai (ai (ai (ai (@sig1_mt) (ai (@sig1_ref) (@sig1_loc))) (ai (@sig1_mref) (ai (@sig1_lst)
 (@sig1_bx)))) (ai (ai (@sig1_ifc) (ai (@sig_any) (@sig_v))) (ai (@sig_sl) (ai (@sig_agg) (@sig_tup))))) (ai (ai (ai
 (@sig_ep) (ai (@sig_fn) (@sig_tr))) (ai (@sig_pt) (ai (@sig_mt) (@sig_ref)))) (ai (ai (@sig_loc) (ai (@sig_mref) (@sig_lst))) (ai
 (ai (@sig_bx) (@sig_ifc)) (ai (@bears_any) (@bears_v)))))))))

def amPost2:=(ai (ai
 (ai (ai (ai (ai (ai (@bears_sl) (ai (@bears_agg) (@bears_tup))) (ai (@bears_ep) (ai (@bears_fn) (@bears_tr)))) (ai
 (ai (@bears_pt) (ai (@bears_mt) (@bears_ref))) (ai (@bears_loc) (ai (@bears_mref) (@bears_lst))))) (ai (ai (ai (@bears_bx)
 (ai (@bears_ifc) (@bearsL_nil))) (ai (@bearsL_cons) (ai (@node1_any) (@node1_v)))) (ai (ai (@node1_sl) (ai (@node1_agg) (@node1_tup)))
 (ai (@node1_ep) (ai (@node1_fn) (@node1_tr)))))) (ai (ai (ai (ai (@node1_pt) (ai (@node1_mt) (@node1_ref))) (ai
 (@node1_loc) (ai (@node1_mref) (@node1_lst)))) (ai (ai (@node1_bx) (ai (@node1_ifc) (@nodeB_any))) (ai (@nodeB_v) (ai (@nodeB_sl)
 (@nodeB_agg))))) (ai (ai (ai (@nodeB_tup) (ai (@nodeB_ep) (@nodeB_fn))) (ai (@nodeB_tr) (ai (@nodeB_pt) (@nodeB_mt)))) (ai
 (ai (@nodeB_ref) (ai (@nodeB_loc) (@nodeB_mref))) (ai (@nodeB_lst) (ai (@nodeB_bx) (@nodeB_ifc))))))) (ai (ai (ai (ai
 (ai (@view_any) (ai (@view_v) (@view_sl))) (ai (@view_agg) (ai (@view_tup) (@view_ep)))) (ai (ai (@view_fn) (ai (@view_tr)
 (@view_pt))) (ai (@view_mt) (ai (@view_ref) (@view_loc))))) (ai (ai (ai (@view_mref) (ai (@view_lst) (@view_bx))) (ai (@view_ifc)
 (ai (@views_nil) (@views_cons)))) (ai (ai (@hRef) (ai (@hLoc) (@hMref))) (ai (@mapH_any) (ai (@mapH_v) (@mapH_sl)))))) (ai
 (ai (ai (ai (@mapH_agg) (ai (@mapH_tup) (@mapH_ep))) (ai (@mapH_fn) (ai (@mapH_tr) (@mapH_pt)))) (ai (ai (@mapH_mt)
 (ai (@mapH_lst) (@mapH_bx))) (ai (@mapH_ifc) (ai (@mapHL_nil) (@mapHL_cons))))) (ai (ai (ai (@killF.eq_def) (ai (@belowF.eq_def)
 (@belowK.eq_def))) (ai (@fromF.eq_def) (ai (@moveF.eq_def) (@growF.eq_def)))) (ai (ai (@isPref_nil) (ai (@isPref_cons) (@isPref_cn))) (ai
 (ai (@ev_tmp) (@ev_const)) (ai (@ev_func) (@ev_global)))))))) (ai (ai (ai (ai (ai (ai (@frO_some) (ai (@put_fr)
 (@put_memo))) (ai (@put_none) (ai (@mapF_fr) (@mapF_mem)))) (ai (ai (@setMem_fr) (ai (@setMem_memo) (@del_fr))) (ai (@del_mem) (ai
 (@kill_fr) (@kill_memo))))) (ai (ai (ai (@rmv_nil) (ai (@rmv_cons) (@mv_def))) (ai (@grow_def) (ai (@init_fr) (@init_mem)))) (ai
 (ai (@grabTr.eq_def) (ai (@grabPt.eq_def) (@grabMt.eq_def))) (ai (@grabC_ref) (ai (@grabC_loc) (@grabC_mref)))))) (ai (ai (ai
 (ai (@grabC_any) (ai (@grabC_v) (@grabC_sl))) (ai (@grabC_agg) (ai (@grabC_tup) (@grabC_ep)))) (ai (ai (@grabC_fn) (ai (@grabC_tr)
 (@grabC_pt))) (ai (@grabC_mt) (ai (@grabC_lst) (@grabC_bx))))) (ai (ai (ai (@grabC_ifc) (ai (@grabCs_nil) (@grabCs_cons))) (ai
 (@grabE_any) (ai (@grabE_v) (@grabE_sl)))) (ai (ai (@grabE_agg) (ai (@grabE_tup) (@grabE_ep))) (ai (ai (@grabE_fn) (@grabE_tr))
 (ai (@grabE_pt) (@grabE_mt))))))) (ai (ai (ai (ai (ai (@grabE_ref) (ai (@grabE_loc) (@grabE_mref))) (ai (@grabE_lst)
 (ai (@grabE_bx) (@grabE_ifc)))) (ai (ai (@grabL_nil) (ai (@grabL_cons) (@setCs_nil))) (ai (@setCs_cons) (ai (@setE_tr) (@setE_pt)))))
 (ai (ai (ai (@setEl.eq_def) (ai (@appE.eq_def) (@appN.eq_def))) (ai (@takeTr.eq_def) (ai (@takePt.eq_def) (@takeMt.eq_def)))) (ai
 (ai (@closeTr.eq_def) (ai (@closePt.eq_def) (@closeMt.eq_def))) (ai (@hideM.eq_def) (ai (@giveC.eq_def) (@giveN.eq_def)))))) (ai (ai
 (ai (ai (@giveO.eq_def) (ai (@takeC_ref) (@takeC_loc))) (ai (@takeC_mref) (ai (@takeC_any) (@takeC_v)))) (ai (ai (@takeC_sl)
 (ai (@takeC_agg) (@takeC_tup))) (ai (@takeC_ep) (ai (@takeC_fn) (@takeC_tr))))) (ai (ai (ai (@takeC_pt) (ai (@takeC_mt)
 (@takeC_lst))) (ai (@takeC_bx) (ai (@takeC_ifc) (@takeA_any)))) (ai (ai (@takeA_v) (ai (@takeA_sl) (@takeA_agg))) (ai (ai
 (@takeA_tup) (@takeA_ep)) (ai (@takeA_fn) (@takeA_tr)))))))))

def amPost3:=(ai (ai (ai (ai (ai (ai (ai (@takeA_pt) (ai
 (@takeA_mt) (@takeA_ref))) (ai (@takeA_loc) (ai (@takeA_mref) (@takeA_lst)))) (ai (ai (@takeA_bx) (ai (@takeA_ifc) (@closeC_ref))) (ai
 (@closeC_loc) (ai (@closeC_mref) (@closeC_any))))) (ai (ai (ai (@closeC_v) (ai (@closeC_sl) (@closeC_agg))) (ai (@closeC_tup) (ai
 (@closeC_ep) (@closeC_fn)))) (ai (ai (@closeC_tr) (ai (@closeC_pt) (@closeC_mt))) (ai (@closeC_lst) (ai (@closeC_bx) (@closeC_ifc))))))
 (ai (ai (ai (ai (@closeA_any) (ai (@closeA_v) (@closeA_sl))) (ai (@closeA_agg) (ai (@closeA_tup) (@closeA_ep)))) (ai
 (ai (@closeA_fn) (ai (@closeA_tr) (@closeA_pt))) (ai (@closeA_mt) (ai (@closeA_ref) (@closeA_loc))))) (ai (ai (ai (@closeA_mref)
 (ai (@closeA_lst) (@closeA_bx))) (ai (@closeA_ifc) (ai (@isTail.eq_def) (@makesB.eq_def)))) (ai (ai (@srcN.eq_def) (ai (@argsOf_nil)
 (@argsOf_some))) (ai (@argsOf_none) (ai (@lentOf_nil) (@lentOf_some))))))) (ai (ai (ai (ai (ai (@lentOf_none) (ai
 (@divB_cons) (@divB_nl))) (ai (@divB_nr) (ai (@sigsOk_nil) (@sigsOk_some)))) (ai (ai (@sigsOk_none) (ai (@takeAll_nil) (@takeAll_t))) (ai
 (@takeAll_f) (ai (@takeAll_n) (@takeCs_nil))))) (ai (ai (ai (@takeCs_cons) (ai (@rootsOf_nil) (@rootsOf_cons))) (ai (@placesOf_nil)
 (ai (@placesOf_cons) (@apart1_nil)))) (ai (ai (@apart1_cons) (ai (@apartL_nil) (@apartL_cons))) (ai (@giveS_nil) (ai (@giveS_cons)
 (@pureO_nil)))))) (ai (ai (ai (ai (@pureO_some) (ai (@pureO_none) (@closeCs_nil))) (ai (@closeCs_cons) (ai (@closeL_nil)
 (@closeL_cons)))) (ai (ai (@outRoots_nil) (ai (@outRoots_some) (@outRoots_none))) (ai (@outsOk_nil) (ai (@outsOk_some) (@outsOk_none)))))
 (ai (ai (ai (@headOps_nil) (ai (@headOps_cons) (@tailOps_nil))) (ai (@tailOps_cons) (ai (@killNew_nil) (@killNew_some)))) (ai
 (ai (@killNew_none) (ai (@retK_t) (@retK_f))) (ai (ai (@leT_nil) (@leT_cons)) (ai (@leL_nil) (@leL_cons)))))))) (ai (ai (ai
 (ai (ai (ai (@leA_agg) (ai (@leC_any) (@leA_any))) (ai (@leC_nil_tr) (ai (@leC_nil_sl) (@leA_nil_tr)))) (ai (ai
 (@leA_nil_sl) (ai (@leC_v) (@leA_v))) (ai (@leC_sl) (ai (@leA_sl) (@leC_tr))))) (ai (ai (ai (@leA_tr) (ai (@leC_pt) (@leA_pt)))
 (ai (@leC_mt) (ai (@leA_mt) (@leA_fn)))) (ai (ai (@leC_ep) (ai (@leA_ep) (@leC_ifc))) (ai (@leA_ifc) (ai (@wrap64_id)
 (@lt_true)))))) (ai (ai (ai (ai (@lt_false) (ai (@le_true) (@le_false))) (ai (@eq_true) (ai (@eq_false) (@ne_true)))) (ai
 (ai (@ne_false) (ai (@List.range_zero) (@List.range_succ))) (ai (@List.toList_toArray.{0}) (ai (@true_or) (@or_true))))) (ai (ai
 (ai (@false_or) (ai (@or_false) (@not_true_eq_false))) (ai (@not_false_eq_true) (ai (@Option.isSome_some.{0}) (@List.headD_cons.{0} AV)))) (ai
 (ai (@List.map_cons.{0,0}) (ai (@List.map_nil.{0,0}) (@List.length_map.{0,0}))) (ai (ai (@List.length_cons.{0}) (@List.length_nil.{0})) (ai
 (@List.drop_succ_cons.{0}) (@List.drop_zero.{0}))))))) (ai (ai (ai (ai (ai (@List.take_succ_cons.{0}) (ai (@List.take_zero.{0})
 (@List.cons_append.{0}))) (ai (@List.nil_append.{0}) (ai (@List.append_nil.{0}) (@List.getD_cons_zero.{0})))) (ai (ai (@List.getD_cons_succ.{0})
 (ai (@List.getD_nil.{0}) (@List.set_cons_zero.{0}))) (ai (@List.set_cons_succ.{0}) (ai (@Int.toNat_natCast) (@Nat.zero_add))))) (ai (ai
 (ai (@Nat.add_zero) (ai (@Option.getD_some.{0}) (@Option.getD_none.{0}))) (ai (@Bool.not_true) (ai (@Bool.not_false) (@Bool.or_false)))) (ai
 (ai (@Bool.or_true) (ai (@Bool.false_or) (@Bool.true_or))) (ai (@Option.map_some.{0,0}) (ai (@Option.map_none.{0,0}) (@and_self)))))) (ai
 (ai (ai (ai (@and_true) (ai (@true_and) (@false_and))) (ai (@and_false) (ai (@Option.bind_some.{0,0}) (@List.all_cons.{0})))) (ai
 (ai (@List.all_nil.{0}) (ai (@List.any_cons.{0}) (@List.any_nil.{0}))) (ai (@List.length_replicate.{0}) (ai (@List.length_set.{0})
 (@List.length_append.{0}))))) (ai (ai (ai (@Bool.and_true) (ai (@Bool.true_and) (@Bool.false_and))) (ai (@Bool.and_false) (ai
 (@decide_true) (@decide_false)))) (ai (ai (@List.contains_cons.{0}) (ai (@List.contains_nil.{0}) (@List.getElem?_cons_zero.{0}))) (ai (ai
 (@List.getElem?_cons_succ.{0}) (@List.getElem?_nil.{0})) (ai (@List.isEmpty_nil.{0}) (@List.isEmpty_cons.{0})))))))))

def amAll:=(ai (ai amPost0 amPost1) (ai amPost2 amPost3))

end Go.AM
