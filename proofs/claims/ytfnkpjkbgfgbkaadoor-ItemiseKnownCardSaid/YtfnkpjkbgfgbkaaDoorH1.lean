/-
  What the package variables of ucd hold (Laid), and contracts of ucd's functions over tables, as the printed contracts have them.
-/
import Derived.Test.YtfnkpjkbgfgbkaaDoorPr3
import Derived.Test.YtfnkpjkbgfgbkaaDoorHK
import Derived.Shelf.Unicode.DecodeSlow
namespace Go.Proofs.YtfnkpjkbgfgbkaaDoor.Pr
open Go.RowKit HK Go.Proofs.YtfnkpjkbgfgbkaaDoorW.PrintWords Go.Proofs.YtfnkpjkbgfgbkaaDoorW.PrintLast Go.Proofs.YtfnkpjkbgfgbkaaDoorW.PrintMore
set_option linter.unusedVariables false

abbrev SP := S80
structure Two where
  a : Int
  b : Int
def enc3 (x : SP) : List Value := [.int .i32 x.f0, .int .i32 x.f1, .int .u8 x.f2]
def enc2 (x : Two) : List Value := [.int .i32 x.a, .int .i32 x.b]
def cells3 (l : List SP) : List Value := l.flatMap enc3
def cells2 (l : List Two) : List Value := l.flatMap enc2

def classesT : List SP := [
  ⟨0, 8, 10⟩, ⟨9, 9, 12⟩, ⟨10, 10, 11⟩, ⟨11, 11, 12⟩, ⟨12, 12, 13⟩, ⟨13, 13, 11⟩, ⟨14, 27, 10⟩, ⟨28, 30, 11⟩,
  ⟨31, 31, 12⟩, ⟨32, 32, 13⟩, ⟨33, 34, 14⟩, ⟨35, 37, 6⟩, ⟨38, 42, 14⟩, ⟨43, 43, 5⟩, ⟨44, 44, 8⟩, ⟨45, 45, 5⟩,
  ⟨46, 47, 8⟩, ⟨48, 57, 4⟩, ⟨58, 58, 8⟩, ⟨59, 64, 14⟩, ⟨91, 96, 14⟩, ⟨123, 126, 14⟩, ⟨127, 132, 10⟩, ⟨133, 133, 11⟩,
  ⟨134, 159, 10⟩, ⟨160, 160, 8⟩, ⟨161, 161, 14⟩, ⟨162, 165, 6⟩, ⟨166, 169, 14⟩, ⟨171, 172, 14⟩, ⟨173, 173, 10⟩, ⟨174, 175, 14⟩,
  ⟨176, 177, 6⟩, ⟨178, 179, 4⟩, ⟨180, 180, 14⟩, ⟨182, 184, 14⟩, ⟨185, 185, 4⟩, ⟨187, 191, 14⟩, ⟨215, 215, 14⟩, ⟨247, 247, 14⟩,
  ⟨768, 879, 9⟩, ⟨1155, 1161, 9⟩, ⟨1424, 1424, 2⟩, ⟨1425, 1469, 9⟩, ⟨1470, 1470, 2⟩, ⟨1471, 1471, 9⟩, ⟨1472, 1472, 2⟩, ⟨1473, 1474, 9⟩,
  ⟨1475, 1475, 2⟩, ⟨1476, 1477, 9⟩, ⟨1478, 1478, 2⟩, ⟨1479, 1479, 9⟩, ⟨1480, 1535, 2⟩, ⟨1536, 1541, 7⟩, ⟨1542, 1543, 14⟩, ⟨1544, 1544, 3⟩,
  ⟨1545, 1546, 6⟩, ⟨1547, 1547, 3⟩, ⟨1548, 1548, 8⟩, ⟨1549, 1549, 3⟩, ⟨1550, 1551, 14⟩, ⟨1552, 1562, 9⟩, ⟨1563, 1610, 3⟩, ⟨1611, 1631, 9⟩,
  ⟨1632, 1641, 7⟩, ⟨1642, 1642, 6⟩, ⟨1643, 1644, 7⟩, ⟨1645, 1647, 3⟩, ⟨1648, 1648, 9⟩, ⟨1649, 1749, 3⟩, ⟨1750, 1756, 9⟩, ⟨1757, 1757, 7⟩,
  ⟨1758, 1758, 14⟩, ⟨1759, 1764, 9⟩, ⟨1765, 1766, 3⟩, ⟨1767, 1768, 9⟩, ⟨1769, 1769, 14⟩, ⟨1770, 1773, 9⟩, ⟨1774, 1775, 3⟩, ⟨1776, 1785, 4⟩,
  ⟨1786, 1808, 3⟩, ⟨1809, 1809, 9⟩, ⟨1810, 1839, 3⟩, ⟨1840, 1866, 9⟩, ⟨1867, 1957, 3⟩, ⟨1958, 1968, 9⟩, ⟨1969, 1983, 3⟩, ⟨8192, 8202, 13⟩,
  ⟨8203, 8205, 10⟩, ⟨8207, 8207, 2⟩, ⟨8208, 8231, 14⟩, ⟨8232, 8232, 13⟩, ⟨8233, 8233, 11⟩, ⟨8234, 8234, 15⟩, ⟨8235, 8235, 16⟩, ⟨8236, 8236, 19⟩,
  ⟨8237, 8237, 17⟩, ⟨8238, 8238, 18⟩, ⟨8239, 8239, 8⟩, ⟨8240, 8244, 6⟩, ⟨8245, 8259, 14⟩, ⟨8260, 8260, 8⟩, ⟨8261, 8286, 14⟩, ⟨8287, 8287, 13⟩,
  ⟨8288, 8293, 10⟩, ⟨8294, 8294, 20⟩, ⟨8295, 8295, 21⟩, ⟨8296, 8296, 22⟩, ⟨8297, 8297, 23⟩, ⟨8298, 8303, 10⟩, ⟨8304, 8304, 4⟩, ⟨8308, 8313, 4⟩,
  ⟨8314, 8315, 5⟩, ⟨8316, 8318, 14⟩, ⟨8320, 8329, 4⟩, ⟨8330, 8331, 5⟩, ⟨8332, 8334, 14⟩, ⟨8352, 8399, 6⟩, ⟨8400, 8432, 9⟩, ⟨8592, 8721, 14⟩,
  ⟨8722, 8722, 5⟩, ⟨8723, 8723, 6⟩, ⟨8724, 9013, 14⟩, ⟨9472, 9783, 14⟩, ⟨10214, 10223, 14⟩, ⟨12288, 12288, 13⟩, ⟨12289, 12292, 14⟩, ⟨12296, 12320, 14⟩,
  ⟨64285, 64285, 2⟩, ⟨64286, 64286, 9⟩, ⟨64287, 64296, 2⟩, ⟨64297, 64297, 5⟩, ⟨64298, 64335, 2⟩, ⟨64336, 64829, 3⟩, ⟨64830, 64831, 14⟩, ⟨65024, 65039, 9⟩,
  ⟨65056, 65071, 9⟩, ⟨65136, 65276, 3⟩, ⟨65279, 65279, 10⟩, ⟨65533, 65533, 14⟩, ⟨125184, 125251, 2⟩, ⟨125252, 125258, 9⟩, ⟨125259, 125279, 2⟩, ⟨126464, 126703, 3⟩,
  ⟨127744, 128591, 14⟩, ⟨917760, 917999, 9⟩]
def joiningsT : List SP := [
  ⟨1570, 1573, 1⟩, ⟨1575, 1575, 1⟩, ⟨1577, 1577, 1⟩, ⟨1583, 1586, 1⟩, ⟨1608, 1608, 1⟩, ⟨1649, 1651, 1⟩, ⟨1653, 1655, 1⟩, ⟨1672, 1689, 1⟩,
  ⟨1728, 1728, 1⟩, ⟨1731, 1739, 1⟩, ⟨1741, 1741, 1⟩, ⟨1743, 1743, 1⟩, ⟨1746, 1747, 1⟩, ⟨1749, 1749, 1⟩, ⟨1774, 1775, 1⟩, ⟨1568, 1568, 2⟩,
  ⟨1574, 1574, 2⟩, ⟨1576, 1576, 2⟩, ⟨1578, 1582, 2⟩, ⟨1587, 1599, 2⟩, ⟨1601, 1607, 2⟩, ⟨1609, 1610, 2⟩, ⟨1646, 1647, 2⟩, ⟨1656, 1671, 2⟩,
  ⟨1690, 1727, 2⟩, ⟨1729, 1730, 2⟩, ⟨1740, 1740, 2⟩, ⟨1742, 1742, 2⟩, ⟨1744, 1745, 2⟩, ⟨1786, 1788, 2⟩, ⟨1791, 1791, 2⟩, ⟨1600, 1600, 3⟩,
  ⟨8205, 8205, 3⟩, ⟨768, 879, 4⟩, ⟨1155, 1161, 4⟩, ⟨1425, 1469, 4⟩, ⟨1471, 1471, 4⟩, ⟨1473, 1474, 4⟩, ⟨1476, 1477, 4⟩, ⟨1479, 1479, 4⟩,
  ⟨1552, 1562, 4⟩, ⟨1611, 1631, 4⟩, ⟨1648, 1648, 4⟩, ⟨1750, 1756, 4⟩, ⟨1759, 1764, 4⟩, ⟨1767, 1768, 4⟩, ⟨1770, 1773, 4⟩, ⟨1809, 1809, 4⟩,
  ⟨1840, 1866, 4⟩, ⟨1958, 1968, 4⟩, ⟨8400, 8432, 4⟩, ⟨64286, 64286, 4⟩, ⟨65024, 65039, 4⟩, ⟨65056, 65071, 4⟩, ⟨125252, 125258, 4⟩, ⟨917760, 917999, 4⟩,
  ⟨173, 173, 4⟩, ⟨8203, 8203, 4⟩, ⟨8206, 8207, 4⟩, ⟨8234, 8238, 4⟩, ⟨8288, 8292, 4⟩, ⟨65279, 65279, 4⟩]
def breaksT : List SP := [
  ⟨10, 10, 3⟩, ⟨13, 13, 2⟩, ⟨133, 133, 4⟩, ⟨11, 12, 1⟩, ⟨8232, 8233, 1⟩, ⟨32, 32, 5⟩, ⟨8203, 8203, 6⟩, ⟨8288, 8288, 7⟩,
  ⟨65279, 65279, 7⟩, ⟨160, 160, 8⟩, ⟨847, 847, 8⟩, ⟨860, 866, 8⟩, ⟨8199, 8199, 8⟩, ⟨8209, 8209, 8⟩, ⟨8239, 8239, 8⟩, ⟨8205, 8205, 10⟩,
  ⟨1155, 1161, 9⟩, ⟨1425, 1469, 9⟩, ⟨1471, 1471, 9⟩, ⟨1473, 1474, 9⟩, ⟨1476, 1477, 9⟩, ⟨1479, 1479, 9⟩, ⟨1552, 1562, 9⟩, ⟨1611, 1631, 9⟩,
  ⟨1648, 1648, 9⟩, ⟨1750, 1756, 9⟩, ⟨1759, 1764, 9⟩, ⟨1767, 1768, 9⟩, ⟨1770, 1773, 9⟩, ⟨1809, 1809, 9⟩, ⟨1840, 1866, 9⟩, ⟨1958, 1968, 9⟩,
  ⟨8400, 8432, 9⟩, ⟨64286, 64286, 9⟩, ⟨65024, 65039, 9⟩, ⟨65056, 65071, 9⟩, ⟨125252, 125258, 9⟩, ⟨768, 846, 9⟩, ⟨848, 859, 9⟩, ⟨867, 879, 9⟩,
  ⟨0, 8, 9⟩, ⟨14, 31, 9⟩, ⟨127, 132, 9⟩, ⟨134, 159, 9⟩, ⟨8204, 8204, 9⟩, ⟨8206, 8207, 9⟩, ⟨8234, 8238, 9⟩, ⟨8294, 8303, 9⟩,
  ⟨917760, 917999, 9⟩, ⟨9, 9, 11⟩, ⟨124, 124, 11⟩, ⟨173, 173, 11⟩, ⟨1470, 1470, 11⟩, ⟨8192, 8198, 11⟩, ⟨8200, 8202, 11⟩, ⟨8208, 8208, 11⟩,
  ⟨8210, 8211, 11⟩, ⟨8231, 8231, 11⟩, ⟨8278, 8278, 11⟩, ⟨8280, 8283, 11⟩, ⟨8285, 8287, 11⟩, ⟨12288, 12288, 11⟩, ⟨180, 180, 12⟩, ⟨8212, 8212, 13⟩,
  ⟨45, 45, 14⟩, ⟨65532, 65532, 15⟩, ⟨33, 33, 16⟩, ⟨63, 63, 16⟩, ⟨1478, 1478, 16⟩, ⟨1563, 1563, 16⟩, ⟨1565, 1567, 16⟩, ⟨1748, 1748, 16⟩,
  ⟨65281, 65281, 16⟩, ⟨65311, 65311, 16⟩, ⟨8228, 8230, 17⟩, ⟨8252, 8253, 18⟩, ⟨8263, 8265, 18⟩, ⟨12293, 12293, 18⟩, ⟨12316, 12316, 18⟩, ⟨40, 40, 19⟩,
  ⟨91, 91, 19⟩, ⟨123, 123, 19⟩, ⟨161, 161, 19⟩, ⟨191, 191, 19⟩, ⟨8218, 8218, 19⟩, ⟨8222, 8222, 19⟩, ⟨8261, 8261, 19⟩, ⟨8317, 8317, 19⟩,
  ⟨8333, 8333, 19⟩, ⟨8968, 8968, 19⟩, ⟨8970, 8970, 19⟩, ⟨9001, 9001, 19⟩, ⟨10214, 10214, 19⟩, ⟨10216, 10216, 19⟩, ⟨10218, 10218, 19⟩, ⟨10220, 10220, 19⟩,
  ⟨10222, 10222, 19⟩, ⟨12296, 12296, 19⟩, ⟨12298, 12298, 19⟩, ⟨12300, 12300, 19⟩, ⟨12302, 12302, 19⟩, ⟨12304, 12304, 19⟩, ⟨12308, 12308, 19⟩, ⟨12310, 12310, 19⟩,
  ⟨12312, 12312, 19⟩, ⟨12314, 12314, 19⟩, ⟨41, 41, 20⟩, ⟨93, 93, 20⟩, ⟨125, 125, 21⟩, ⟨8262, 8262, 21⟩, ⟨8318, 8318, 21⟩, ⟨8334, 8334, 21⟩,
  ⟨8969, 8969, 21⟩, ⟨8971, 8971, 21⟩, ⟨9002, 9002, 21⟩, ⟨10215, 10215, 21⟩, ⟨10217, 10217, 21⟩, ⟨10219, 10219, 21⟩, ⟨10221, 10221, 21⟩, ⟨10223, 10223, 21⟩,
  ⟨12289, 12290, 21⟩, ⟨12297, 12297, 21⟩, ⟨12299, 12299, 21⟩, ⟨12301, 12301, 21⟩, ⟨12303, 12303, 21⟩, ⟨12305, 12305, 21⟩, ⟨12309, 12309, 21⟩, ⟨12311, 12311, 21⟩,
  ⟨12313, 12313, 21⟩, ⟨12315, 12315, 21⟩, ⟨34, 34, 22⟩, ⟨39, 39, 22⟩, ⟨171, 171, 22⟩, ⟨187, 187, 22⟩, ⟨8216, 8217, 22⟩, ⟨8219, 8221, 22⟩,
  ⟨8223, 8223, 22⟩, ⟨8249, 8250, 22⟩, ⟨44, 44, 23⟩, ⟨46, 46, 23⟩, ⟨58, 59, 23⟩, ⟨1417, 1417, 23⟩, ⟨1548, 1549, 23⟩, ⟨8260, 8260, 23⟩,
  ⟨47, 47, 24⟩, ⟨37, 37, 25⟩, ⟨162, 162, 25⟩, ⟨176, 176, 25⟩, ⟨1545, 1547, 25⟩, ⟨1642, 1642, 25⟩, ⟨8240, 8247, 25⟩, ⟨8451, 8451, 25⟩,
  ⟨36, 36, 26⟩, ⟨43, 43, 26⟩, ⟨92, 92, 26⟩, ⟨163, 165, 26⟩, ⟨177, 177, 26⟩, ⟨8470, 8470, 26⟩, ⟨8722, 8723, 26⟩, ⟨8352, 8358, 26⟩,
  ⟨8360, 8373, 26⟩, ⟨48, 57, 27⟩, ⟨1632, 1641, 27⟩, ⟨1643, 1644, 27⟩, ⟨1776, 1785, 27⟩, ⟨1488, 1514, 28⟩, ⟨1519, 1522, 28⟩, ⟨64285, 64285, 28⟩,
  ⟨64287, 64296, 28⟩, ⟨64298, 64335, 28⟩, ⟨4352, 4447, 33⟩, ⟨4448, 4519, 34⟩, ⟨4520, 4607, 35⟩, ⟨127462, 127487, 32⟩, ⟨127995, 127999, 31⟩, ⟨128074, 128080, 30⟩,
  ⟨128102, 128105, 30⟩, ⟨128581, 128583, 30⟩, ⟨11904, 12245, 29⟩, ⟨12291, 12292, 29⟩, ⟨12294, 12295, 29⟩, ⟨12353, 12438, 29⟩, ⟨12449, 12538, 29⟩, ⟨13312, 19903, 29⟩,
  ⟨19968, 40959, 29⟩, ⟨127744, 127994, 29⟩, ⟨128000, 128073, 29⟩, ⟨128081, 128101, 29⟩, ⟨128106, 128580, 29⟩, ⟨128584, 128591, 29⟩]
def clustersT : List SP := [
  ⟨13, 13, 1⟩, ⟨10, 10, 2⟩, ⟨0, 9, 3⟩, ⟨11, 12, 3⟩, ⟨14, 31, 3⟩, ⟨127, 159, 3⟩, ⟨173, 173, 3⟩, ⟨8203, 8203, 3⟩,
  ⟨8206, 8207, 3⟩, ⟨8232, 8238, 3⟩, ⟨8288, 8303, 3⟩, ⟨65279, 65279, 3⟩, ⟨8205, 8205, 5⟩, ⟨768, 879, 4⟩, ⟨1155, 1161, 4⟩, ⟨1425, 1469, 4⟩,
  ⟨1471, 1471, 4⟩, ⟨1473, 1474, 4⟩, ⟨1476, 1477, 4⟩, ⟨1479, 1479, 4⟩, ⟨1552, 1562, 4⟩, ⟨1611, 1631, 4⟩, ⟨1648, 1648, 4⟩, ⟨1750, 1756, 4⟩,
  ⟨1759, 1764, 4⟩, ⟨1767, 1768, 4⟩, ⟨1770, 1773, 4⟩, ⟨1809, 1809, 4⟩, ⟨1840, 1866, 4⟩, ⟨1958, 1968, 4⟩, ⟨8400, 8432, 4⟩, ⟨64286, 64286, 4⟩,
  ⟨65024, 65039, 4⟩, ⟨65056, 65071, 4⟩, ⟨125252, 125258, 4⟩, ⟨917760, 917999, 4⟩, ⟨8204, 8204, 4⟩, ⟨127995, 127999, 4⟩, ⟨127462, 127487, 6⟩, ⟨1536, 1541, 7⟩,
  ⟨1757, 1757, 7⟩, ⟨4352, 4447, 8⟩, ⟨4448, 4519, 9⟩, ⟨4520, 4607, 10⟩, ⟨169, 169, 13⟩, ⟨174, 174, 13⟩, ⟨8252, 8252, 13⟩, ⟨8265, 8265, 13⟩,
  ⟨127744, 127994, 13⟩, ⟨128000, 128591, 13⟩]
def scriptsT : List SP := [
  ⟨768, 879, 1⟩, ⟨1157, 1158, 1⟩, ⟨1611, 1621, 1⟩, ⟨1648, 1648, 1⟩, ⟨8204, 8205, 1⟩, ⟨8400, 8432, 1⟩, ⟨65024, 65039, 1⟩, ⟨65056, 65071, 1⟩,
  ⟨917760, 917999, 1⟩, ⟨65, 90, 2⟩, ⟨97, 122, 2⟩, ⟨170, 170, 2⟩, ⟨186, 186, 2⟩, ⟨192, 214, 2⟩, ⟨216, 246, 2⟩, ⟨248, 696, 2⟩,
  ⟨7680, 7935, 2⟩, ⟨880, 883, 5⟩, ⟨885, 887, 5⟩, ⟨890, 893, 5⟩, ⟨902, 902, 5⟩, ⟨904, 993, 5⟩, ⟨1008, 1023, 5⟩, ⟨1425, 1524, 3⟩,
  ⟨64285, 64335, 3⟩, ⟨1536, 1540, 4⟩, ⟨1542, 1547, 4⟩, ⟨1549, 1562, 4⟩, ⟨1564, 1566, 4⟩, ⟨1568, 1599, 4⟩, ⟨1601, 1610, 4⟩, ⟨1622, 1647, 4⟩,
  ⟨1649, 1756, 4⟩, ⟨1758, 1791, 4⟩, ⟨64336, 64829, 4⟩, ⟨65136, 65276, 4⟩, ⟨4352, 4607, 6⟩, ⟨44032, 55203, 6⟩, ⟨11904, 12245, 7⟩, ⟨12293, 12293, 7⟩,
  ⟨12295, 12295, 7⟩, ⟨13312, 19903, 7⟩, ⟨19968, 40959, 7⟩]
def widesT : List SP := [
  ⟨4352, 4447, 1⟩, ⟨11904, 12350, 1⟩, ⟨12353, 13311, 1⟩, ⟨13312, 19903, 1⟩, ⟨19968, 40959, 1⟩, ⟨44032, 55203, 1⟩, ⟨65281, 65376, 1⟩, ⟨127744, 128591, 1⟩]
def spacesT : List SP := [
  ⟨9, 9, 1⟩, ⟨32, 32, 1⟩, ⟨8192, 8198, 1⟩, ⟨8200, 8202, 1⟩, ⟨8287, 8287, 1⟩, ⟨12288, 12288, 1⟩]
def bracketsT : List Two := [
  ⟨40, 41⟩, ⟨91, 93⟩, ⟨123, 125⟩, ⟨8261, 8262⟩, ⟨8317, 8318⟩, ⟨8333, 8334⟩, ⟨8968, 8969⟩, ⟨8970, 8971⟩,
  ⟨9001, 9002⟩, ⟨10214, 10215⟩, ⟨10216, 10217⟩, ⟨10218, 10219⟩, ⟨10220, 10221⟩, ⟨10222, 10223⟩, ⟨12296, 12297⟩, ⟨12298, 12299⟩,
  ⟨12300, 12301⟩, ⟨12302, 12303⟩, ⟨12304, 12305⟩, ⟨12308, 12309⟩, ⟨12310, 12311⟩, ⟨12312, 12313⟩, ⟨12314, 12315⟩]

/-- The cells of a package variable, by its number. -/
def tabCells : Nat → List Value
  | 0 => cells3 joiningsT
  | 1 => cells3 clustersT
  | 2 => cells3 scriptsT
  | 3 => cells3 widesT
  | 4 => cells3 spacesT
  | 5 => cells2 bracketsT
  | 6 => (List.range 256).map fun c => .int .u8 (Go.Lib.firstT c)
  | 7 => (List.range 32).map fun j => .int .u8 (if j % 2 = 0 then Go.Lib.accLo (j / 2) else Go.Lib.accHi (j / 2))
  | _ => []

/-- The listed package variables hold their tables. -/
def Laid (vs : List Nat) (w : World) : Prop := ∀ g ∈ vs, ∀ j v, (tabCells g)[j]? = some v → w.cell? ⟨g, j, none⟩ = some v

theorem Laid.sub {vs us : List Nat} {w : World} (hs : us ⊆ vs) (h : Laid vs w) : Laid us w := fun g hg => h g (hs hg)

theorem Laid.below {vs : List Nat} {w w' : World} (h : Laid vs w) (hb : Below w.heap.size w w') : Laid vs w' := fun g hg j v hv => by
  have hc := h g hg j v hv
  exact (hb.cell (p := ⟨g, j, none⟩) (block_lt_of_cell hc)).trans hc

theorem Laid.below0 {vs : List Nat} {w0 w w' : World} (h : Laid vs w0) (hb : Below w0.heap.size w0 w') : Laid vs w' := h.below hb

theorem cells3_get : ∀ (l : List SP) (j : Nat) (p : SP) (i : Nat) (u : Value), l[j]? = some p → (enc3 p)[i]? = some u → (cells3 l)[j * 3 + i]? = some u
  | [], j, p, i, u, h, _ => by simp at h
  | x :: l, 0, p, i, u, h, hu => by
    simp only [List.getElem?_cons_zero, Option.some.injEq] at h
    subst h
    have hi : i < (enc3 x).length := (List.getElem?_eq_some_iff.1 hu).1
    simp only [cells3, List.flatMap_cons, Nat.zero_mul, Nat.zero_add]
    rw [List.getElem?_append_left hi]
    exact hu
  | x :: l, j + 1, p, i, u, h, hu => by
    have ih := cells3_get l j p i u (by simpa using h) hu
    have hl : (enc3 x).length = 3 := rfl
    simp only [cells3, List.flatMap_cons] at ih ⊢
    rw [List.getElem?_append_right (by rw [hl]; omega), hl, show (j + 1) * 3 + i - 3 = j * 3 + i from by omega]
    exact ih

theorem addr_add0 (g j : Nat) : (⟨g, 0, none⟩ : Addr).add j = ⟨g, j, none⟩ := by
  unfold Addr.add
  split <;> simp_all

/-- A package variable that is a table of spans reads as its list. -/
theorem Laid.reads {g : Nat} {w : World} {l : List SP} (h : Laid [g] w) (hl : tabCells g = cells3 l) (hn : l.length ≤ 9223372036854775807) : Kd.C k80 w (some ⟨g, 0, none⟩) l.length l := by
  refine ⟨rfl, hn, fun _ => ⟨_, rfl, fun j p hj => ⟨enc3 p, rfl, k80_mk w p, fun i u hu => ?_⟩⟩⟩
  rw [addr_add0]
  exact h g (List.mem_singleton.2 rfl) _ u (by rw [hl]; exact cells3_get l j p i u hj hu)

def tabRounds : Nat := 400

def ucd_Script.f (a0 : Int) : Option Int := ucd_of.f tabRounds a0 scriptsT 0
set_option maxHeartbeats 400000 in
theorem ucd_Script.calls (a0 : Int) (r : Int) (w : World) (hLD : Laid [2] w) (h : ucd_Script.f a0 = some r) :
    Calls Tryd.prog 48 #[.int .i32 a0] w fun e w' => e = .returned (.int .u8 r) ∧ Below w.heap.size w w' := by
  have H := Aside0.mk (show ucd_of.f tabRounds a0 scriptsT 0 = some r from h)
  have HR := Aside0.mk (hLD.reads (l := scriptsT) rfl (by decide))
  clear h hLD
  go_enter Tryd.func48, Tryd.ntmps48
  go_wp2_with (fail)
  refine calls_of_args (args' := #[.int .i32 a0, .slice (some ⟨2, 0, none⟩) scriptsT.length 43, .int .u8 0]) (by rfl) ?_
  refine (ucd_of.calls tabRounds a0 _ _ scriptsT 0 r _ HR.out (by decide) H.out).mono ?_
  rintro e w2 ⟨rfl, hb⟩
  go_wp2
  go_ret
  exact ⟨rfl, hb⟩

def ucd_Joining.f (a0 : Int) : Option Int := ucd_of.f tabRounds a0 joiningsT 0
set_option maxHeartbeats 400000 in
theorem ucd_Joining.calls (a0 : Int) (r : Int) (w : World) (hLD : Laid [0] w) (h : ucd_Joining.f a0 = some r) :
    Calls Tryd.prog 42 #[.int .i32 a0] w fun e w' => e = .returned (.int .u8 r) ∧ Below w.heap.size w w' := by
  have H := Aside0.mk (show ucd_of.f tabRounds a0 joiningsT 0 = some r from h)
  have HR := Aside0.mk (hLD.reads (l := joiningsT) rfl (by decide))
  clear h hLD
  go_enter Tryd.func42, Tryd.ntmps42
  go_wp2_with (fail)
  refine calls_of_args (args' := #[.int .i32 a0, .slice (some ⟨0, 0, none⟩) joiningsT.length 62, .int .u8 0]) (by rfl) ?_
  refine (ucd_of.calls tabRounds a0 _ _ joiningsT 0 r _ HR.out (by decide) H.out).mono ?_
  rintro e w2 ⟨rfl, hb⟩
  go_wp2
  go_ret
  exact ⟨rfl, hb⟩

def ucd_Wide.f (a0 : Int) : Option Bool := (ucd_of.f tabRounds a0 widesT 0).bind fun t => some (t == 1)
set_option maxHeartbeats 400000 in
theorem ucd_Wide.calls (a0 : Int) (r : Bool) (w : World) (hLD : Laid [3] w) (h : ucd_Wide.f a0 = some r) :
    Calls Tryd.prog 49 #[.int .i32 a0] w fun e w' => e = .returned (.bool r) ∧ Below w.heap.size w w' := by
  unfold ucd_Wide.f at h
  obtain ⟨t, ht, h⟩ := Option.bind_eq_some_iff.mp h
  obtain rfl := Option.some.inj h
  have H := Aside0.mk ht
  have HR := Aside0.mk (hLD.reads (l := widesT) rfl (by decide))
  clear h ht hLD
  go_enter Tryd.func49, Tryd.ntmps49
  go_wp2_with (fail)
  refine calls_of_args (args' := #[.int .i32 a0, .slice (some ⟨3, 0, none⟩) widesT.length 8, .int .u8 0]) (by rfl) ?_
  refine (ucd_of.calls tabRounds a0 _ _ widesT 0 t _ HR.out (by decide) H.out).mono ?_
  rintro e w2 ⟨rfl, hb⟩
  go_wp2
  go_ret
  exact ⟨rfl, hb⟩

def ucd_Space.f (a0 : Int) : Option Bool := (ucd_of.f tabRounds a0 spacesT 0).bind fun t => some (t == 1)
set_option maxHeartbeats 400000 in
theorem ucd_Space.calls (a0 : Int) (r : Bool) (w : World) (hLD : Laid [4] w) (h : ucd_Space.f a0 = some r) :
    Calls Tryd.prog 51 #[.int .i32 a0] w fun e w' => e = .returned (.bool r) ∧ Below w.heap.size w w' := by
  unfold ucd_Space.f at h
  obtain ⟨t, ht, h⟩ := Option.bind_eq_some_iff.mp h
  obtain rfl := Option.some.inj h
  have H := Aside0.mk ht
  have HR := Aside0.mk (hLD.reads (l := spacesT) rfl (by decide))
  clear h ht hLD
  go_enter Tryd.func51, Tryd.ntmps51
  go_wp2_with (fail)
  refine calls_of_args (args' := #[.int .i32 a0, .slice (some ⟨4, 0, none⟩) spacesT.length 6, .int .u8 0]) (by rfl) ?_
  refine (ucd_of.calls tabRounds a0 _ _ spacesT 0 t _ HR.out (by decide) H.out).mono ?_
  rintro e w2 ⟨rfl, hb⟩
  go_wp2
  go_ret
  exact ⟨rfl, hb⟩

end Go.Proofs.YtfnkpjkbgfgbkaaDoor.Pr
