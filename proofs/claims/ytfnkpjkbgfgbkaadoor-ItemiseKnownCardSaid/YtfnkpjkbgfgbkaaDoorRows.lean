/-
  NARROWER THAN 'FOR EVERY INPUT', by the rows' own cells (each row's printed sentence says how): ItemiseScripts: laid · ItemiseRuns: laid · ItemiseTiles: laid · ItemiseParts: laid · ItemiseKnown: laid · UcdTables: laid · UcdDecodes: laid · UcdBack: laid.
  DERIVED. THE GIVEN ROWS OF THIS SEAT. 8 by the template 'for every input the law returns true; each argument reads behind the call as it read before'; 0 by the template 'total and deterministic' (their statements: YtfnkpjkbgfgbkaaDoorTotals.lean).
  GIVEN WITH THE SEED: the statements are not yours to turn. If you find one false, say at which input.
  Laid BY PROGRAM, IN A SANDBOX (cutbox-rows.mjs): the forced cells as the released guide's own fill.sh prints them over the translation cb984def1ff16d13… (all of the seat's roots in one cut). By AI agents, Wed Nov 11 2026. No macro, syntax, notation, axiom, sorry.
-/
import Derived.Test.YtfnkpjkbgfgbkaaDoorChecked
import GoSem.PinnedTables
import GoSem.Claim
import GoSem.ClaimJoined
import GoSem.ClaimMapViews
import Derived.JoinedTies
import Derived.KernelRfl
namespace Go.Proofs.YtfnkpjkbgfgbkaaDoor
/- THE CELL 'sum', in the pinned program and in every row, IS THE sha256 OF THE DUMP (.gsa) THAT YtfnkpjkbgfgbkaaDoorProg.lean LOADS. Nothing in Lean hashes anything: it is a label: what it is worth is what the hold of that sum in a sandbox is worth. -/
noncomputable def Tryd.pinned : Pinned := { name := "ytfnkpjkbgfgbkaadoor", sum := "cb984def1ff16d13d7fa95e2f2fa1fca25db09308827edfa12d5f9c53659c641", checked := Tryd.checked }
namespace Rows
def none {H : Type} : Left H := { results := [], args := [] }

/- WHAT THE LISTED PACKAGE-LEVEL VARIABLES READ AS WHEN THE CALL BEGINS. Each datum BY PROGRAM (the guide's laid-datum.mjs) off the statement by which the dump's own 'gosem.cut.vars' lays the variable. In a bare row this is a premise. The card (YtfnkpjkbgfgbkaaDoorCards.lean) ties it to the program's text. -/
def laid_calamus_ucd_scripts {H : Type} : DataW H := .agg [.agg [.lit (.int .i32 768), .lit (.int .i32 879), .lit (.int .u8 1)], .agg [.lit (.int .i32 1157), .lit (.int .i32 1158), .lit (.int .u8 1)], .agg [.lit (.int .i32 1611), .lit (.int .i32 1621), .lit (.int .u8 1)], .agg [.lit (.int .i32 1648), .lit (.int .i32 1648), .lit (.int .u8 1)], .agg [.lit (.int .i32 8204), .lit (.int .i32 8205), .lit (.int .u8 1)], .agg [.lit (.int .i32 8400), .lit (.int .i32 8432), .lit (.int .u8 1)], .agg [.lit (.int .i32 65024), .lit (.int .i32 65039), .lit (.int .u8 1)], .agg [.lit (.int .i32 65056), .lit (.int .i32 65071), .lit (.int .u8 1)], .agg [.lit (.int .i32 917760), .lit (.int .i32 917999), .lit (.int .u8 1)], .agg [.lit (.int .i32 65), .lit (.int .i32 90), .lit (.int .u8 2)], .agg [.lit (.int .i32 97), .lit (.int .i32 122), .lit (.int .u8 2)], .agg [.lit (.int .i32 170), .lit (.int .i32 170), .lit (.int .u8 2)], .agg [.lit (.int .i32 186), .lit (.int .i32 186), .lit (.int .u8 2)], .agg [.lit (.int .i32 192), .lit (.int .i32 214), .lit (.int .u8 2)], .agg [.lit (.int .i32 216), .lit (.int .i32 246), .lit (.int .u8 2)], .agg [.lit (.int .i32 248), .lit (.int .i32 696), .lit (.int .u8 2)], .agg [.lit (.int .i32 7680), .lit (.int .i32 7935), .lit (.int .u8 2)], .agg [.lit (.int .i32 880), .lit (.int .i32 883), .lit (.int .u8 5)], .agg [.lit (.int .i32 885), .lit (.int .i32 887), .lit (.int .u8 5)], .agg [.lit (.int .i32 890), .lit (.int .i32 893), .lit (.int .u8 5)], .agg [.lit (.int .i32 902), .lit (.int .i32 902), .lit (.int .u8 5)], .agg [.lit (.int .i32 904), .lit (.int .i32 993), .lit (.int .u8 5)], .agg [.lit (.int .i32 1008), .lit (.int .i32 1023), .lit (.int .u8 5)], .agg [.lit (.int .i32 1425), .lit (.int .i32 1524), .lit (.int .u8 3)], .agg [.lit (.int .i32 64285), .lit (.int .i32 64335), .lit (.int .u8 3)], .agg [.lit (.int .i32 1536), .lit (.int .i32 1540), .lit (.int .u8 4)], .agg [.lit (.int .i32 1542), .lit (.int .i32 1547), .lit (.int .u8 4)], .agg [.lit (.int .i32 1549), .lit (.int .i32 1562), .lit (.int .u8 4)], .agg [.lit (.int .i32 1564), .lit (.int .i32 1566), .lit (.int .u8 4)], .agg [.lit (.int .i32 1568), .lit (.int .i32 1599), .lit (.int .u8 4)], .agg [.lit (.int .i32 1601), .lit (.int .i32 1610), .lit (.int .u8 4)], .agg [.lit (.int .i32 1622), .lit (.int .i32 1647), .lit (.int .u8 4)], .agg [.lit (.int .i32 1649), .lit (.int .i32 1756), .lit (.int .u8 4)], .agg [.lit (.int .i32 1758), .lit (.int .i32 1791), .lit (.int .u8 4)], .agg [.lit (.int .i32 64336), .lit (.int .i32 64829), .lit (.int .u8 4)], .agg [.lit (.int .i32 65136), .lit (.int .i32 65276), .lit (.int .u8 4)], .agg [.lit (.int .i32 4352), .lit (.int .i32 4607), .lit (.int .u8 6)], .agg [.lit (.int .i32 44032), .lit (.int .i32 55203), .lit (.int .u8 6)], .agg [.lit (.int .i32 11904), .lit (.int .i32 12245), .lit (.int .u8 7)], .agg [.lit (.int .i32 12293), .lit (.int .i32 12293), .lit (.int .u8 7)], .agg [.lit (.int .i32 12295), .lit (.int .i32 12295), .lit (.int .u8 7)], .agg [.lit (.int .i32 13312), .lit (.int .i32 19903), .lit (.int .u8 7)], .agg [.lit (.int .i32 19968), .lit (.int .i32 40959), .lit (.int .u8 7)]]
def laid_calamus_ucd_brackets {H : Type} : DataW H := .agg [.agg [.lit (.int .i32 40), .lit (.int .i32 41)], .agg [.lit (.int .i32 91), .lit (.int .i32 93)], .agg [.lit (.int .i32 123), .lit (.int .i32 125)], .agg [.lit (.int .i32 8261), .lit (.int .i32 8262)], .agg [.lit (.int .i32 8317), .lit (.int .i32 8318)], .agg [.lit (.int .i32 8333), .lit (.int .i32 8334)], .agg [.lit (.int .i32 8968), .lit (.int .i32 8969)], .agg [.lit (.int .i32 8970), .lit (.int .i32 8971)], .agg [.lit (.int .i32 9001), .lit (.int .i32 9002)], .agg [.lit (.int .i32 10214), .lit (.int .i32 10215)], .agg [.lit (.int .i32 10216), .lit (.int .i32 10217)], .agg [.lit (.int .i32 10218), .lit (.int .i32 10219)], .agg [.lit (.int .i32 10220), .lit (.int .i32 10221)], .agg [.lit (.int .i32 10222), .lit (.int .i32 10223)], .agg [.lit (.int .i32 12296), .lit (.int .i32 12297)], .agg [.lit (.int .i32 12298), .lit (.int .i32 12299)], .agg [.lit (.int .i32 12300), .lit (.int .i32 12301)], .agg [.lit (.int .i32 12302), .lit (.int .i32 12303)], .agg [.lit (.int .i32 12304), .lit (.int .i32 12305)], .agg [.lit (.int .i32 12308), .lit (.int .i32 12309)], .agg [.lit (.int .i32 12310), .lit (.int .i32 12311)], .agg [.lit (.int .i32 12312), .lit (.int .i32 12313)], .agg [.lit (.int .i32 12314), .lit (.int .i32 12315)]]
def laid_unicode_utf8_acceptRanges {H : Type} : DataW H := .agg [.agg [.lit (.int .u8 128), .lit (.int .u8 191)], .agg [.lit (.int .u8 160), .lit (.int .u8 191)], .agg [.lit (.int .u8 128), .lit (.int .u8 159)], .agg [.lit (.int .u8 144), .lit (.int .u8 191)], .agg [.lit (.int .u8 128), .lit (.int .u8 143)], .agg [.lit (.int .u8 0), .lit (.int .u8 0)], .agg [.lit (.int .u8 0), .lit (.int .u8 0)], .agg [.lit (.int .u8 0), .lit (.int .u8 0)], .agg [.lit (.int .u8 0), .lit (.int .u8 0)], .agg [.lit (.int .u8 0), .lit (.int .u8 0)], .agg [.lit (.int .u8 0), .lit (.int .u8 0)], .agg [.lit (.int .u8 0), .lit (.int .u8 0)], .agg [.lit (.int .u8 0), .lit (.int .u8 0)], .agg [.lit (.int .u8 0), .lit (.int .u8 0)], .agg [.lit (.int .u8 0), .lit (.int .u8 0)], .agg [.lit (.int .u8 0), .lit (.int .u8 0)]]
def laid_calamus_ucd_joinings {H : Type} : DataW H := .agg [.agg [.lit (.int .i32 1570), .lit (.int .i32 1573), .lit (.int .u8 1)], .agg [.lit (.int .i32 1575), .lit (.int .i32 1575), .lit (.int .u8 1)], .agg [.lit (.int .i32 1577), .lit (.int .i32 1577), .lit (.int .u8 1)], .agg [.lit (.int .i32 1583), .lit (.int .i32 1586), .lit (.int .u8 1)], .agg [.lit (.int .i32 1608), .lit (.int .i32 1608), .lit (.int .u8 1)], .agg [.lit (.int .i32 1649), .lit (.int .i32 1651), .lit (.int .u8 1)], .agg [.lit (.int .i32 1653), .lit (.int .i32 1655), .lit (.int .u8 1)], .agg [.lit (.int .i32 1672), .lit (.int .i32 1689), .lit (.int .u8 1)], .agg [.lit (.int .i32 1728), .lit (.int .i32 1728), .lit (.int .u8 1)], .agg [.lit (.int .i32 1731), .lit (.int .i32 1739), .lit (.int .u8 1)], .agg [.lit (.int .i32 1741), .lit (.int .i32 1741), .lit (.int .u8 1)], .agg [.lit (.int .i32 1743), .lit (.int .i32 1743), .lit (.int .u8 1)], .agg [.lit (.int .i32 1746), .lit (.int .i32 1747), .lit (.int .u8 1)], .agg [.lit (.int .i32 1749), .lit (.int .i32 1749), .lit (.int .u8 1)], .agg [.lit (.int .i32 1774), .lit (.int .i32 1775), .lit (.int .u8 1)], .agg [.lit (.int .i32 1568), .lit (.int .i32 1568), .lit (.int .u8 2)], .agg [.lit (.int .i32 1574), .lit (.int .i32 1574), .lit (.int .u8 2)], .agg [.lit (.int .i32 1576), .lit (.int .i32 1576), .lit (.int .u8 2)], .agg [.lit (.int .i32 1578), .lit (.int .i32 1582), .lit (.int .u8 2)], .agg [.lit (.int .i32 1587), .lit (.int .i32 1599), .lit (.int .u8 2)], .agg [.lit (.int .i32 1601), .lit (.int .i32 1607), .lit (.int .u8 2)], .agg [.lit (.int .i32 1609), .lit (.int .i32 1610), .lit (.int .u8 2)], .agg [.lit (.int .i32 1646), .lit (.int .i32 1647), .lit (.int .u8 2)], .agg [.lit (.int .i32 1656), .lit (.int .i32 1671), .lit (.int .u8 2)], .agg [.lit (.int .i32 1690), .lit (.int .i32 1727), .lit (.int .u8 2)], .agg [.lit (.int .i32 1729), .lit (.int .i32 1730), .lit (.int .u8 2)], .agg [.lit (.int .i32 1740), .lit (.int .i32 1740), .lit (.int .u8 2)], .agg [.lit (.int .i32 1742), .lit (.int .i32 1742), .lit (.int .u8 2)], .agg [.lit (.int .i32 1744), .lit (.int .i32 1745), .lit (.int .u8 2)], .agg [.lit (.int .i32 1786), .lit (.int .i32 1788), .lit (.int .u8 2)], .agg [.lit (.int .i32 1791), .lit (.int .i32 1791), .lit (.int .u8 2)], .agg [.lit (.int .i32 1600), .lit (.int .i32 1600), .lit (.int .u8 3)], .agg [.lit (.int .i32 8205), .lit (.int .i32 8205), .lit (.int .u8 3)], .agg [.lit (.int .i32 768), .lit (.int .i32 879), .lit (.int .u8 4)], .agg [.lit (.int .i32 1155), .lit (.int .i32 1161), .lit (.int .u8 4)], .agg [.lit (.int .i32 1425), .lit (.int .i32 1469), .lit (.int .u8 4)], .agg [.lit (.int .i32 1471), .lit (.int .i32 1471), .lit (.int .u8 4)], .agg [.lit (.int .i32 1473), .lit (.int .i32 1474), .lit (.int .u8 4)], .agg [.lit (.int .i32 1476), .lit (.int .i32 1477), .lit (.int .u8 4)], .agg [.lit (.int .i32 1479), .lit (.int .i32 1479), .lit (.int .u8 4)], .agg [.lit (.int .i32 1552), .lit (.int .i32 1562), .lit (.int .u8 4)], .agg [.lit (.int .i32 1611), .lit (.int .i32 1631), .lit (.int .u8 4)], .agg [.lit (.int .i32 1648), .lit (.int .i32 1648), .lit (.int .u8 4)], .agg [.lit (.int .i32 1750), .lit (.int .i32 1756), .lit (.int .u8 4)], .agg [.lit (.int .i32 1759), .lit (.int .i32 1764), .lit (.int .u8 4)], .agg [.lit (.int .i32 1767), .lit (.int .i32 1768), .lit (.int .u8 4)], .agg [.lit (.int .i32 1770), .lit (.int .i32 1773), .lit (.int .u8 4)], .agg [.lit (.int .i32 1809), .lit (.int .i32 1809), .lit (.int .u8 4)], .agg [.lit (.int .i32 1840), .lit (.int .i32 1866), .lit (.int .u8 4)], .agg [.lit (.int .i32 1958), .lit (.int .i32 1968), .lit (.int .u8 4)], .agg [.lit (.int .i32 8400), .lit (.int .i32 8432), .lit (.int .u8 4)], .agg [.lit (.int .i32 64286), .lit (.int .i32 64286), .lit (.int .u8 4)], .agg [.lit (.int .i32 65024), .lit (.int .i32 65039), .lit (.int .u8 4)], .agg [.lit (.int .i32 65056), .lit (.int .i32 65071), .lit (.int .u8 4)], .agg [.lit (.int .i32 125252), .lit (.int .i32 125258), .lit (.int .u8 4)], .agg [.lit (.int .i32 917760), .lit (.int .i32 917999), .lit (.int .u8 4)], .agg [.lit (.int .i32 173), .lit (.int .i32 173), .lit (.int .u8 4)], .agg [.lit (.int .i32 8203), .lit (.int .i32 8203), .lit (.int .u8 4)], .agg [.lit (.int .i32 8206), .lit (.int .i32 8207), .lit (.int .u8 4)], .agg [.lit (.int .i32 8234), .lit (.int .i32 8238), .lit (.int .u8 4)], .agg [.lit (.int .i32 8288), .lit (.int .i32 8292), .lit (.int .u8 4)], .agg [.lit (.int .i32 65279), .lit (.int .i32 65279), .lit (.int .u8 4)]]
def laid_calamus_ucd_clusters {H : Type} : DataW H := .agg [.agg [.lit (.int .i32 13), .lit (.int .i32 13), .lit (.int .u8 1)], .agg [.lit (.int .i32 10), .lit (.int .i32 10), .lit (.int .u8 2)], .agg [.lit (.int .i32 0), .lit (.int .i32 9), .lit (.int .u8 3)], .agg [.lit (.int .i32 11), .lit (.int .i32 12), .lit (.int .u8 3)], .agg [.lit (.int .i32 14), .lit (.int .i32 31), .lit (.int .u8 3)], .agg [.lit (.int .i32 127), .lit (.int .i32 159), .lit (.int .u8 3)], .agg [.lit (.int .i32 173), .lit (.int .i32 173), .lit (.int .u8 3)], .agg [.lit (.int .i32 8203), .lit (.int .i32 8203), .lit (.int .u8 3)], .agg [.lit (.int .i32 8206), .lit (.int .i32 8207), .lit (.int .u8 3)], .agg [.lit (.int .i32 8232), .lit (.int .i32 8238), .lit (.int .u8 3)], .agg [.lit (.int .i32 8288), .lit (.int .i32 8303), .lit (.int .u8 3)], .agg [.lit (.int .i32 65279), .lit (.int .i32 65279), .lit (.int .u8 3)], .agg [.lit (.int .i32 8205), .lit (.int .i32 8205), .lit (.int .u8 5)], .agg [.lit (.int .i32 768), .lit (.int .i32 879), .lit (.int .u8 4)], .agg [.lit (.int .i32 1155), .lit (.int .i32 1161), .lit (.int .u8 4)], .agg [.lit (.int .i32 1425), .lit (.int .i32 1469), .lit (.int .u8 4)], .agg [.lit (.int .i32 1471), .lit (.int .i32 1471), .lit (.int .u8 4)], .agg [.lit (.int .i32 1473), .lit (.int .i32 1474), .lit (.int .u8 4)], .agg [.lit (.int .i32 1476), .lit (.int .i32 1477), .lit (.int .u8 4)], .agg [.lit (.int .i32 1479), .lit (.int .i32 1479), .lit (.int .u8 4)], .agg [.lit (.int .i32 1552), .lit (.int .i32 1562), .lit (.int .u8 4)], .agg [.lit (.int .i32 1611), .lit (.int .i32 1631), .lit (.int .u8 4)], .agg [.lit (.int .i32 1648), .lit (.int .i32 1648), .lit (.int .u8 4)], .agg [.lit (.int .i32 1750), .lit (.int .i32 1756), .lit (.int .u8 4)], .agg [.lit (.int .i32 1759), .lit (.int .i32 1764), .lit (.int .u8 4)], .agg [.lit (.int .i32 1767), .lit (.int .i32 1768), .lit (.int .u8 4)], .agg [.lit (.int .i32 1770), .lit (.int .i32 1773), .lit (.int .u8 4)], .agg [.lit (.int .i32 1809), .lit (.int .i32 1809), .lit (.int .u8 4)], .agg [.lit (.int .i32 1840), .lit (.int .i32 1866), .lit (.int .u8 4)], .agg [.lit (.int .i32 1958), .lit (.int .i32 1968), .lit (.int .u8 4)], .agg [.lit (.int .i32 8400), .lit (.int .i32 8432), .lit (.int .u8 4)], .agg [.lit (.int .i32 64286), .lit (.int .i32 64286), .lit (.int .u8 4)], .agg [.lit (.int .i32 65024), .lit (.int .i32 65039), .lit (.int .u8 4)], .agg [.lit (.int .i32 65056), .lit (.int .i32 65071), .lit (.int .u8 4)], .agg [.lit (.int .i32 125252), .lit (.int .i32 125258), .lit (.int .u8 4)], .agg [.lit (.int .i32 917760), .lit (.int .i32 917999), .lit (.int .u8 4)], .agg [.lit (.int .i32 8204), .lit (.int .i32 8204), .lit (.int .u8 4)], .agg [.lit (.int .i32 127995), .lit (.int .i32 127999), .lit (.int .u8 4)], .agg [.lit (.int .i32 127462), .lit (.int .i32 127487), .lit (.int .u8 6)], .agg [.lit (.int .i32 1536), .lit (.int .i32 1541), .lit (.int .u8 7)], .agg [.lit (.int .i32 1757), .lit (.int .i32 1757), .lit (.int .u8 7)], .agg [.lit (.int .i32 4352), .lit (.int .i32 4447), .lit (.int .u8 8)], .agg [.lit (.int .i32 4448), .lit (.int .i32 4519), .lit (.int .u8 9)], .agg [.lit (.int .i32 4520), .lit (.int .i32 4607), .lit (.int .u8 10)], .agg [.lit (.int .i32 169), .lit (.int .i32 169), .lit (.int .u8 13)], .agg [.lit (.int .i32 174), .lit (.int .i32 174), .lit (.int .u8 13)], .agg [.lit (.int .i32 8252), .lit (.int .i32 8252), .lit (.int .u8 13)], .agg [.lit (.int .i32 8265), .lit (.int .i32 8265), .lit (.int .u8 13)], .agg [.lit (.int .i32 127744), .lit (.int .i32 127994), .lit (.int .u8 13)], .agg [.lit (.int .i32 128000), .lit (.int .i32 128591), .lit (.int .u8 13)]]
def laid_calamus_ucd_wides {H : Type} : DataW H := .agg [.agg [.lit (.int .i32 4352), .lit (.int .i32 4447), .lit (.int .u8 1)], .agg [.lit (.int .i32 11904), .lit (.int .i32 12350), .lit (.int .u8 1)], .agg [.lit (.int .i32 12353), .lit (.int .i32 13311), .lit (.int .u8 1)], .agg [.lit (.int .i32 13312), .lit (.int .i32 19903), .lit (.int .u8 1)], .agg [.lit (.int .i32 19968), .lit (.int .i32 40959), .lit (.int .u8 1)], .agg [.lit (.int .i32 44032), .lit (.int .i32 55203), .lit (.int .u8 1)], .agg [.lit (.int .i32 65281), .lit (.int .i32 65376), .lit (.int .u8 1)], .agg [.lit (.int .i32 127744), .lit (.int .i32 128591), .lit (.int .u8 1)]]
def laid_calamus_ucd_spaces {H : Type} : DataW H := .agg [.agg [.lit (.int .i32 9), .lit (.int .i32 9), .lit (.int .u8 1)], .agg [.lit (.int .i32 32), .lit (.int .i32 32), .lit (.int .u8 1)], .agg [.lit (.int .i32 8192), .lit (.int .i32 8198), .lit (.int .u8 1)], .agg [.lit (.int .i32 8200), .lit (.int .i32 8202), .lit (.int .u8 1)], .agg [.lit (.int .i32 8287), .lit (.int .i32 8287), .lit (.int .u8 1)], .agg [.lit (.int .i32 12288), .lit (.int .i32 12288), .lit (.int .u8 1)]]
/-- One of Go's own tables, pinned by name: the form's constant. -/
def laid_unicode_utf8_first : DataW Unit := Go.Pinned.utf8First

/-- 'calamuslaw14.ItemiseScripts': WHATEVER THE INPUT: true; the input reads as it did. -/
def itemiseScriptsSpec : ChangeSpec := { name := "itemiseScripts", fn := fun _ => fun
  | [d] => { results := [.lit (.bool true)], args := [d] }
  | _ => none }
def itemiseScriptsRow : OpenClaim := { program := "ytfnkpjkbgfgbkaadoor", sum := "cb984def1ff16d13d7fa95e2f2fa1fca25db09308827edfa12d5f9c53659c641", func := "calamus/calamuslaw14.ItemiseScripts", spec := "itemiseScripts", unfollowed := true, recurses := true, named := ["calamus/ucd.scripts", "calamus/ucd.brackets"], apart := false, laid := [("calamus/ucd.scripts", laid_calamus_ucd_scripts), ("calamus/ucd.brackets", laid_calamus_ucd_brackets)] }
def ItemiseScriptsSaid : Prop := itemiseScriptsRow.holds Tryd.pinned (OpenSpec.ofChange itemiseScriptsSpec)

/-- ITS FALSE NEIGHBOUR: 'it returns false'. Refute it at one input. -/
def itemiseScriptsWrong : ChangeSpec := { name := "itemiseScripts", fn := fun _ => fun
  | [d] => { results := [.lit (.bool false)], args := [d] }
  | _ => none }
def ItemiseScriptsWrongFalsely : Prop := itemiseScriptsRow.holds Tryd.pinned (OpenSpec.ofChange itemiseScriptsWrong)

/-- 'calamuslaw14.ItemiseRuns': WHATEVER THE INPUT: true; the input reads as it did. -/
def itemiseRunsSpec : ChangeSpec := { name := "itemiseRuns", fn := fun _ => fun
  | [d1, d2] => { results := [.lit (.bool true)], args := [d1, d2] }
  | _ => none }
def itemiseRunsRow : OpenClaim := { program := "ytfnkpjkbgfgbkaadoor", sum := "cb984def1ff16d13d7fa95e2f2fa1fca25db09308827edfa12d5f9c53659c641", func := "calamus/calamuslaw14.ItemiseRuns", spec := "itemiseRuns", unfollowed := true, recurses := true, named := ["calamus/ucd.scripts", "calamus/ucd.brackets"], apart := false, laid := [("calamus/ucd.scripts", laid_calamus_ucd_scripts), ("calamus/ucd.brackets", laid_calamus_ucd_brackets)] }
def ItemiseRunsSaid : Prop := itemiseRunsRow.holds Tryd.pinned (OpenSpec.ofChange itemiseRunsSpec)

/-- ITS FALSE NEIGHBOUR: 'it returns false'. Refute it at one input. -/
def itemiseRunsWrong : ChangeSpec := { name := "itemiseRuns", fn := fun _ => fun
  | [d1, d2] => { results := [.lit (.bool false)], args := [d1, d2] }
  | _ => none }
def ItemiseRunsWrongFalsely : Prop := itemiseRunsRow.holds Tryd.pinned (OpenSpec.ofChange itemiseRunsWrong)

/-- 'calamuslaw14.ItemiseTiles': WHATEVER THE INPUT: true; the input reads as it did. -/
def itemiseTilesSpec : ChangeSpec := { name := "itemiseTiles", fn := fun _ => fun
  | [d1, d2] => { results := [.lit (.bool true)], args := [d1, d2] }
  | _ => none }
def itemiseTilesRow : OpenClaim := { program := "ytfnkpjkbgfgbkaadoor", sum := "cb984def1ff16d13d7fa95e2f2fa1fca25db09308827edfa12d5f9c53659c641", func := "calamus/calamuslaw14.ItemiseTiles", spec := "itemiseTiles", unfollowed := true, recurses := true, named := ["calamus/ucd.scripts", "calamus/ucd.brackets"], apart := false, laid := [("calamus/ucd.scripts", laid_calamus_ucd_scripts), ("calamus/ucd.brackets", laid_calamus_ucd_brackets)] }
def ItemiseTilesSaid : Prop := itemiseTilesRow.holds Tryd.pinned (OpenSpec.ofChange itemiseTilesSpec)

/-- ITS FALSE NEIGHBOUR: 'it returns false'. Refute it at one input. -/
def itemiseTilesWrong : ChangeSpec := { name := "itemiseTiles", fn := fun _ => fun
  | [d1, d2] => { results := [.lit (.bool false)], args := [d1, d2] }
  | _ => none }
def ItemiseTilesWrongFalsely : Prop := itemiseTilesRow.holds Tryd.pinned (OpenSpec.ofChange itemiseTilesWrong)

/-- 'calamuslaw14.ItemiseParts': WHATEVER THE INPUT: true; the input reads as it did. -/
def itemisePartsSpec : ChangeSpec := { name := "itemiseParts", fn := fun _ => fun
  | [d1, d2, d3] => { results := [.lit (.bool true)], args := [d1, d2, d3] }
  | _ => none }
def itemisePartsRow : OpenClaim := { program := "ytfnkpjkbgfgbkaadoor", sum := "cb984def1ff16d13d7fa95e2f2fa1fca25db09308827edfa12d5f9c53659c641", func := "calamus/calamuslaw14.ItemiseParts", spec := "itemiseParts", unfollowed := true, recurses := true, named := ["calamus/ucd.scripts", "calamus/ucd.brackets"], apart := false, laid := [("calamus/ucd.scripts", laid_calamus_ucd_scripts), ("calamus/ucd.brackets", laid_calamus_ucd_brackets)] }
def ItemisePartsSaid : Prop := itemisePartsRow.holds Tryd.pinned (OpenSpec.ofChange itemisePartsSpec)

/-- ITS FALSE NEIGHBOUR: 'it returns false'. Refute it at one input. -/
def itemisePartsWrong : ChangeSpec := { name := "itemiseParts", fn := fun _ => fun
  | [d1, d2, d3] => { results := [.lit (.bool false)], args := [d1, d2, d3] }
  | _ => none }
def ItemisePartsWrongFalsely : Prop := itemisePartsRow.holds Tryd.pinned (OpenSpec.ofChange itemisePartsWrong)

/-- 'calamuslaw14.ItemiseKnown': WHATEVER THE INPUT: true; the input reads as it did. -/
def itemiseKnownSpec : ChangeSpec := { name := "itemiseKnown", fn := fun _ => fun
  | [] => { results := [.lit (.bool true)], args := [] }
  | _ => none }
def itemiseKnownRow : OpenClaim := { program := "ytfnkpjkbgfgbkaadoor", sum := "cb984def1ff16d13d7fa95e2f2fa1fca25db09308827edfa12d5f9c53659c641", func := "calamus/calamuslaw14.ItemiseKnown", spec := "itemiseKnown", unfollowed := true, recurses := true, named := ["calamus/ucd.scripts", "calamus/ucd.brackets"], apart := false, laid := [("calamus/ucd.scripts", laid_calamus_ucd_scripts), ("calamus/ucd.brackets", laid_calamus_ucd_brackets)] }
def ItemiseKnownSaid : Prop := itemiseKnownRow.holds Tryd.pinned (OpenSpec.ofChange itemiseKnownSpec)

/-- ITS FALSE NEIGHBOUR: 'it returns false'. Refute it at one input. -/
def itemiseKnownWrong : ChangeSpec := { name := "itemiseKnown", fn := fun _ => fun
  | [] => { results := [.lit (.bool false)], args := [] }
  | _ => none }
def ItemiseKnownWrongFalsely : Prop := itemiseKnownRow.holds Tryd.pinned (OpenSpec.ofChange itemiseKnownWrong)

/-- 'calamuslaw02.UcdTables': WHATEVER THE INPUT: true; the input reads as it did. -/
def ucdTablesSpec : ChangeSpec := { name := "ucdTables", fn := fun _ => fun
  | [d1, d2, d3] => { results := [.lit (.bool true)], args := [d1, d2, d3] }
  | _ => none }
def ucdTablesRow : OpenClaim := { program := "ytfnkpjkbgfgbkaadoor", sum := "cb984def1ff16d13d7fa95e2f2fa1fca25db09308827edfa12d5f9c53659c641", func := "calamus/calamuslaw02.UcdTables", spec := "ucdTables", named := ["calamus/ucd.joinings", "calamus/ucd.clusters", "calamus/ucd.scripts", "calamus/ucd.wides", "calamus/ucd.spaces", "unicode/utf8.first", "unicode/utf8.acceptRanges"], apart := false, laid := [("unicode/utf8.acceptRanges", laid_unicode_utf8_acceptRanges), ("calamus/ucd.joinings", laid_calamus_ucd_joinings), ("calamus/ucd.clusters", laid_calamus_ucd_clusters), ("calamus/ucd.scripts", laid_calamus_ucd_scripts), ("calamus/ucd.wides", laid_calamus_ucd_wides), ("calamus/ucd.spaces", laid_calamus_ucd_spaces), ("unicode/utf8.first", laid_unicode_utf8_first)] }
def UcdTablesSaid : Prop := ucdTablesRow.holds Tryd.pinned (OpenSpec.ofChange ucdTablesSpec)

/-- ITS FALSE NEIGHBOUR: 'it returns false'. Refute it at one input. -/
def ucdTablesWrong : ChangeSpec := { name := "ucdTables", fn := fun _ => fun
  | [d1, d2, d3] => { results := [.lit (.bool false)], args := [d1, d2, d3] }
  | _ => none }
def UcdTablesWrongFalsely : Prop := ucdTablesRow.holds Tryd.pinned (OpenSpec.ofChange ucdTablesWrong)

/-- 'calamuslaw02.UcdDecodes': WHATEVER THE INPUT: true; the input reads as it did. -/
def ucdDecodesSpec : ChangeSpec := { name := "ucdDecodes", fn := fun _ => fun
  | [d] => { results := [.lit (.bool true)], args := [d] }
  | _ => none }
def ucdDecodesRow : OpenClaim := { program := "ytfnkpjkbgfgbkaadoor", sum := "cb984def1ff16d13d7fa95e2f2fa1fca25db09308827edfa12d5f9c53659c641", func := "calamus/calamuslaw02.UcdDecodes", spec := "ucdDecodes", named := ["unicode/utf8.first", "unicode/utf8.acceptRanges", "calamus/ucd.joinings", "calamus/ucd.clusters", "calamus/ucd.scripts", "calamus/ucd.wides", "calamus/ucd.spaces"], apart := false, laid := [("unicode/utf8.acceptRanges", laid_unicode_utf8_acceptRanges), ("calamus/ucd.joinings", laid_calamus_ucd_joinings), ("calamus/ucd.clusters", laid_calamus_ucd_clusters), ("calamus/ucd.scripts", laid_calamus_ucd_scripts), ("calamus/ucd.wides", laid_calamus_ucd_wides), ("calamus/ucd.spaces", laid_calamus_ucd_spaces), ("unicode/utf8.first", laid_unicode_utf8_first)] }
def UcdDecodesSaid : Prop := ucdDecodesRow.holds Tryd.pinned (OpenSpec.ofChange ucdDecodesSpec)

/-- ITS FALSE NEIGHBOUR: 'it returns false'. Refute it at one input. -/
def ucdDecodesWrong : ChangeSpec := { name := "ucdDecodes", fn := fun _ => fun
  | [d] => { results := [.lit (.bool false)], args := [d] }
  | _ => none }
def UcdDecodesWrongFalsely : Prop := ucdDecodesRow.holds Tryd.pinned (OpenSpec.ofChange ucdDecodesWrong)

/-- 'calamuslaw02.UcdBack': WHATEVER THE INPUT: true; the input reads as it did. -/
def ucdBackSpec : ChangeSpec := { name := "ucdBack", fn := fun _ => fun
  | [d1, d2] => { results := [.lit (.bool true)], args := [d1, d2] }
  | _ => none }
def ucdBackRow : OpenClaim := { program := "ytfnkpjkbgfgbkaadoor", sum := "cb984def1ff16d13d7fa95e2f2fa1fca25db09308827edfa12d5f9c53659c641", func := "calamus/calamuslaw02.UcdBack", spec := "ucdBack", named := ["unicode/utf8.first", "unicode/utf8.acceptRanges", "calamus/ucd.joinings", "calamus/ucd.clusters", "calamus/ucd.scripts", "calamus/ucd.wides", "calamus/ucd.spaces"], apart := false, laid := [("unicode/utf8.acceptRanges", laid_unicode_utf8_acceptRanges), ("calamus/ucd.joinings", laid_calamus_ucd_joinings), ("calamus/ucd.clusters", laid_calamus_ucd_clusters), ("calamus/ucd.scripts", laid_calamus_ucd_scripts), ("calamus/ucd.wides", laid_calamus_ucd_wides), ("calamus/ucd.spaces", laid_calamus_ucd_spaces), ("unicode/utf8.first", laid_unicode_utf8_first)] }
def UcdBackSaid : Prop := ucdBackRow.holds Tryd.pinned (OpenSpec.ofChange ucdBackSpec)

/-- ITS FALSE NEIGHBOUR: 'it returns false'. Refute it at one input. -/
def ucdBackWrong : ChangeSpec := { name := "ucdBack", fn := fun _ => fun
  | [d1, d2] => { results := [.lit (.bool false)], args := [d1, d2] }
  | _ => none }
def UcdBackWrongFalsely : Prop := ucdBackRow.holds Tryd.pinned (OpenSpec.ofChange ucdBackWrong)

/- THE SECOND FORM. 'bulk': how many values and letters a reading holds, each counted each time it is reached (what is shared counts as often as it is met; a slice's spare places count too). A statement '..UptoSaid' is the law's where the arguments, and the package variables that the reading takes, are together of bulk at most 1048576: NARROWER than '..Said'. Prove '..Said' where nothing that the law and all that it calls make is longer than what came in: it says more and counts as full. Else prove '..UptoSaid'. A law counts once. -/
mutual
def uptoBulk {H : Type} : DataW H → Nat
  | .lit (.string bytes) => bytes.length + 1
  | .lit _ => 1
  | .nil => 1
  | .ptr d => uptoBulk d + 1
  | .slice elems spare => uptoBulkAll elems + uptoBulkAll spare + 1
  | .agg parts => uptoBulkAll parts + 1
  | .iface _ d => uptoBulk d + 1
  | .map entries => uptoBulkEntries entries + 1
  | .held _ => 1
def uptoBulkAll {H : Type} : List (DataW H) → Nat
  | [] => 0
  | d :: r => uptoBulk d + uptoBulkAll r
def uptoBulkEntries {H : Type} : List (Lit × DataW H) → Nat
  | [] => 0
  | x :: r => uptoBulkEntry x + uptoBulkEntries r
def uptoBulkEntry {H : Type} : Lit × DataW H → Nat
  | (.string bytes, d) => bytes.length + uptoBulk d + 1
  | (_, d) => uptoBulk d + 1
 end
def uptoSmall : (H : Type) → List (DataW H) → Bool := fun _ ds => decide (uptoBulkAll ds ≤ 1048576)
def OpenSpec.upto (s : _root_.Go.ChangeSpec) : _root_.Go.OpenSpec := { _root_.Go.OpenSpec.ofChange s with cond := some uptoSmall }

/-- 'calamuslaw14.ItemiseScripts', WHERE WHAT IT READS IS OF BULK AT MOST 1048576: true; the input reads as it did. -/
def itemiseScriptsUptoRow : OpenClaim := { program := "ytfnkpjkbgfgbkaadoor", sum := "cb984def1ff16d13d7fa95e2f2fa1fca25db09308827edfa12d5f9c53659c641", func := "calamus/calamuslaw14.ItemiseScripts", spec := "itemiseScripts", unfollowed := true, recurses := true, named := ["calamus/ucd.scripts", "calamus/ucd.brackets"], apart := false, laid := [("calamus/ucd.scripts", laid_calamus_ucd_scripts), ("calamus/ucd.brackets", laid_calamus_ucd_brackets)], narrowed := true }
def ItemiseScriptsUptoSaid : Prop := itemiseScriptsUptoRow.holds Tryd.pinned (OpenSpec.upto itemiseScriptsSpec)

/-- 'calamuslaw14.ItemiseRuns', WHERE WHAT IT READS IS OF BULK AT MOST 1048576: true; the input reads as it did. -/
def itemiseRunsUptoRow : OpenClaim := { program := "ytfnkpjkbgfgbkaadoor", sum := "cb984def1ff16d13d7fa95e2f2fa1fca25db09308827edfa12d5f9c53659c641", func := "calamus/calamuslaw14.ItemiseRuns", spec := "itemiseRuns", unfollowed := true, recurses := true, named := ["calamus/ucd.scripts", "calamus/ucd.brackets"], apart := false, laid := [("calamus/ucd.scripts", laid_calamus_ucd_scripts), ("calamus/ucd.brackets", laid_calamus_ucd_brackets)], narrowed := true }
def ItemiseRunsUptoSaid : Prop := itemiseRunsUptoRow.holds Tryd.pinned (OpenSpec.upto itemiseRunsSpec)

/-- 'calamuslaw14.ItemiseTiles', WHERE WHAT IT READS IS OF BULK AT MOST 1048576: true; the input reads as it did. -/
def itemiseTilesUptoRow : OpenClaim := { program := "ytfnkpjkbgfgbkaadoor", sum := "cb984def1ff16d13d7fa95e2f2fa1fca25db09308827edfa12d5f9c53659c641", func := "calamus/calamuslaw14.ItemiseTiles", spec := "itemiseTiles", unfollowed := true, recurses := true, named := ["calamus/ucd.scripts", "calamus/ucd.brackets"], apart := false, laid := [("calamus/ucd.scripts", laid_calamus_ucd_scripts), ("calamus/ucd.brackets", laid_calamus_ucd_brackets)], narrowed := true }
def ItemiseTilesUptoSaid : Prop := itemiseTilesUptoRow.holds Tryd.pinned (OpenSpec.upto itemiseTilesSpec)

/-- 'calamuslaw14.ItemiseParts', WHERE WHAT IT READS IS OF BULK AT MOST 1048576: true; the input reads as it did. -/
def itemisePartsUptoRow : OpenClaim := { program := "ytfnkpjkbgfgbkaadoor", sum := "cb984def1ff16d13d7fa95e2f2fa1fca25db09308827edfa12d5f9c53659c641", func := "calamus/calamuslaw14.ItemiseParts", spec := "itemiseParts", unfollowed := true, recurses := true, named := ["calamus/ucd.scripts", "calamus/ucd.brackets"], apart := false, laid := [("calamus/ucd.scripts", laid_calamus_ucd_scripts), ("calamus/ucd.brackets", laid_calamus_ucd_brackets)], narrowed := true }
def ItemisePartsUptoSaid : Prop := itemisePartsUptoRow.holds Tryd.pinned (OpenSpec.upto itemisePartsSpec)

/-- 'calamuslaw14.ItemiseKnown', WHERE WHAT IT READS IS OF BULK AT MOST 1048576: true; the input reads as it did. -/
def itemiseKnownUptoRow : OpenClaim := { program := "ytfnkpjkbgfgbkaadoor", sum := "cb984def1ff16d13d7fa95e2f2fa1fca25db09308827edfa12d5f9c53659c641", func := "calamus/calamuslaw14.ItemiseKnown", spec := "itemiseKnown", unfollowed := true, recurses := true, named := ["calamus/ucd.scripts", "calamus/ucd.brackets"], apart := false, laid := [("calamus/ucd.scripts", laid_calamus_ucd_scripts), ("calamus/ucd.brackets", laid_calamus_ucd_brackets)], narrowed := true }
def ItemiseKnownUptoSaid : Prop := itemiseKnownUptoRow.holds Tryd.pinned (OpenSpec.upto itemiseKnownSpec)

/-- 'calamuslaw02.UcdTables', WHERE WHAT IT READS IS OF BULK AT MOST 1048576: true; the input reads as it did. -/
def ucdTablesUptoRow : OpenClaim := { program := "ytfnkpjkbgfgbkaadoor", sum := "cb984def1ff16d13d7fa95e2f2fa1fca25db09308827edfa12d5f9c53659c641", func := "calamus/calamuslaw02.UcdTables", spec := "ucdTables", named := ["calamus/ucd.joinings", "calamus/ucd.clusters", "calamus/ucd.scripts", "calamus/ucd.wides", "calamus/ucd.spaces", "unicode/utf8.first", "unicode/utf8.acceptRanges"], apart := false, laid := [("unicode/utf8.acceptRanges", laid_unicode_utf8_acceptRanges), ("calamus/ucd.joinings", laid_calamus_ucd_joinings), ("calamus/ucd.clusters", laid_calamus_ucd_clusters), ("calamus/ucd.scripts", laid_calamus_ucd_scripts), ("calamus/ucd.wides", laid_calamus_ucd_wides), ("calamus/ucd.spaces", laid_calamus_ucd_spaces), ("unicode/utf8.first", laid_unicode_utf8_first)], narrowed := true }
def UcdTablesUptoSaid : Prop := ucdTablesUptoRow.holds Tryd.pinned (OpenSpec.upto ucdTablesSpec)

/-- 'calamuslaw02.UcdDecodes', WHERE WHAT IT READS IS OF BULK AT MOST 1048576: true; the input reads as it did. -/
def ucdDecodesUptoRow : OpenClaim := { program := "ytfnkpjkbgfgbkaadoor", sum := "cb984def1ff16d13d7fa95e2f2fa1fca25db09308827edfa12d5f9c53659c641", func := "calamus/calamuslaw02.UcdDecodes", spec := "ucdDecodes", named := ["unicode/utf8.first", "unicode/utf8.acceptRanges", "calamus/ucd.joinings", "calamus/ucd.clusters", "calamus/ucd.scripts", "calamus/ucd.wides", "calamus/ucd.spaces"], apart := false, laid := [("unicode/utf8.acceptRanges", laid_unicode_utf8_acceptRanges), ("calamus/ucd.joinings", laid_calamus_ucd_joinings), ("calamus/ucd.clusters", laid_calamus_ucd_clusters), ("calamus/ucd.scripts", laid_calamus_ucd_scripts), ("calamus/ucd.wides", laid_calamus_ucd_wides), ("calamus/ucd.spaces", laid_calamus_ucd_spaces), ("unicode/utf8.first", laid_unicode_utf8_first)], narrowed := true }
def UcdDecodesUptoSaid : Prop := ucdDecodesUptoRow.holds Tryd.pinned (OpenSpec.upto ucdDecodesSpec)

/-- 'calamuslaw02.UcdBack', WHERE WHAT IT READS IS OF BULK AT MOST 1048576: true; the input reads as it did. -/
def ucdBackUptoRow : OpenClaim := { program := "ytfnkpjkbgfgbkaadoor", sum := "cb984def1ff16d13d7fa95e2f2fa1fca25db09308827edfa12d5f9c53659c641", func := "calamus/calamuslaw02.UcdBack", spec := "ucdBack", named := ["unicode/utf8.first", "unicode/utf8.acceptRanges", "calamus/ucd.joinings", "calamus/ucd.clusters", "calamus/ucd.scripts", "calamus/ucd.wides", "calamus/ucd.spaces"], apart := false, laid := [("unicode/utf8.acceptRanges", laid_unicode_utf8_acceptRanges), ("calamus/ucd.joinings", laid_calamus_ucd_joinings), ("calamus/ucd.clusters", laid_calamus_ucd_clusters), ("calamus/ucd.scripts", laid_calamus_ucd_scripts), ("calamus/ucd.wides", laid_calamus_ucd_wides), ("calamus/ucd.spaces", laid_calamus_ucd_spaces), ("unicode/utf8.first", laid_unicode_utf8_first)], narrowed := true }
def UcdBackUptoSaid : Prop := ucdBackUptoRow.holds Tryd.pinned (OpenSpec.upto ucdBackSpec)

end Rows
end Go.Proofs.YtfnkpjkbgfgbkaaDoor
